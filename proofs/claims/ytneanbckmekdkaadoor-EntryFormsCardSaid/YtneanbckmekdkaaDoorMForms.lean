import Derived.Test.YtneanbckmekdkaaDoorMFind
import Derived.Test.YtneanbckmekdkaaDoorMSame
import Derived.Test.YtneanbckmekdkaaDoorNRefK
import Derived.Test.YtneanbckmekdkaaDoorEPut
import Derived.Test.YtneanbckmekdkaaDoorNOrd
import Derived.Test.YtneanbckmekdkaaDoorNRefV
import Derived.Test.YtneanbckmekdkaaDoorPEntryFormsx7
import Derived.Test.YtneanbckmekdkaaDoorMTake
import Derived.Test.YtneanbckmekdkaaDoorMWk
section
/- The document's Find, plain. -/
namespace Go.Proofs.YtneanbckmekdkaaDoor.EN
open Go Go.RowKit Go.Proofs.YtneanbckmekdkaaDoor.NM Go.Proofs.YtneanbckmekdkaaDoorW.PrintWords Go.Proofs.YtneanbckmekdkaaDoor.PEntryForms
open Go.Proofs.YtneanbckmekdkaaDoor.NMK (compare_f)
set_option linter.unusedVariables false
theorem cb_zero : ∀ a b : List UInt8, Lib.compareBytes a b = 0 ↔ a = b
  | [], [] => by simp [Lib.compareBytes]
  | [], _ :: _ => by simp [Lib.compareBytes]
  | _ :: _, [] => by simp [Lib.compareBytes]
  | x :: a, y :: b => by
    have ih := cb_zero a b
    rw [Lib.compareBytes]
    by_cases h1 : x < y
    · rw [if_pos h1]
      refine ⟨fun h => absurd h (by decide), fun h => ?_⟩
      cases h
      rw [UInt8.lt_iff_toNat_lt] at h1
      omega
    · rw [if_neg h1]
      by_cases h2 : y < x
      · rw [if_pos h2]
        refine ⟨fun h => absurd h (by decide), fun h => ?_⟩
        cases h
        rw [UInt8.lt_iff_toNat_lt] at h2
        omega
      · rw [if_neg h2, ih]
        have h3 : x = y := by
          rw [UInt8.lt_iff_toNat_lt] at h1 h2
          exact UInt8.toNat_inj.1 (by omega)
        subst h3
        simp
theorem ahead_zero {a b : List UInt8} : NM.ahead a b = 0 ↔ a = b := by
  unfold NM.ahead
  by_cases h : cmpI (runes a) (runes b) = 0
  · rw [if_neg (by simpa using h)]
    exact cb_zero a b
  · rw [if_pos h]
    exact ⟨fun e => absurd e h, fun e => by subst e; exact absurd (Go.Proofs.YtneanbckmekdkaaDoor.NMK.cmpI_zero.2 rfl) h⟩
theorem nameAt_rd (l : List S42) (i : Nat) : (rd_T42 l (i : Int)).f1 = nameAt l i := rfl
theorem ref_find_l (l : List S42) (nm : ByteArray) (hl : l.length ≤ 9223372036854775806) (hz : ∀ x ∈ l, x.f1.size ≤ 4398046511104) (hn : nm.size ≤ 4398046511104) (kc : Nat) (hkc : 4 * (4398046511104 + 4398046511104) + 13 ≤ kc) :
    ∀ (j k i : Nat), l.length ≤ i + j → i ≤ l.length → (∀ q, q < i → geAt l nm q = false) → hayrickref12_Find.l0 (kc + 1 + k + j) l nm i = some ((atE l nm : Int), isE l nm)
  | 0, k, i, h, h2, hq => by
    obtain rfl : i = l.length := by omega
    have ha : atE l nm = l.length := atE_is (Nat.le_refl _) hq (fun h => absurd h (Nat.lt_irrefl _))
    have hi : isE l nm = false := by unfold isE; rw [ha, decide_eq_false (Nat.lt_irrefl _), Bool.false_and]
    rw [show kc + 1 + k + 0 = (kc + k) + 1 by omega, hayrickref12_Find.l0, if_neg (by omega), ha, hi]
  | j + 1, k, i, h, h2, hq => by
    by_cases hi : i < l.length
    · have hsz : (nameAt l i).size ≤ 4398046511104 := by rw [(show nameAt l i = l[i].f1 from by unfold nameAt rd_T42; rw [Int.toNat_natCast, List.getD_eq_getElem?_getD, List.getElem?_eq_getElem hi]; rfl)]; exact hz _ (List.getElem_mem hi)
      have hw : wrap64 ((i : Int) + 1) = ((i + 1 : Nat) : Int) := by unfold wrap64; omega
      rw [show kc + 1 + k + (j + 1) = (kc + 1 + k + j) + 1 by omega, hayrickref12_Find.l0, if_pos (by omega), if_pos (by omega), nameAt_rd, compare_f (nameAt l i) nm (by omega) (by omega) _ (by omega), Option.bind_some]
      have hg : geAt l nm i = decide (0 ≤ NM.ahead (nameAt l i).data.toList nm.data.toList) := rfl
      by_cases hc : 0 ≤ NM.ahead (nameAt l i).data.toList nm.data.toList
      · have ha : atE l nm = i := atE_is (by omega) hq (fun _ => by rw [hg, decide_eq_true hc])
        have hs : isE l nm = (NM.ahead (nameAt l i).data.toList nm.data.toList == 0) := by
          unfold isE
          rw [ha, decide_eq_true hi, Bool.true_and, Lib.toList_data, Lib.toList_data, Bool.eq_iff_iff, beq_iff_eq, beq_iff_eq, ahead_zero]
        rw [if_pos (by omega), ha, hs]
      · rw [if_neg (by omega), hw]
        exact ref_find_l l nm hl hz hn kc hkc j k (i + 1) (by omega) (by omega) (fun q hq' => by
          by_cases e : q = i
          · rw [e, hg, decide_eq_false hc]
          · exact hq q (by omega))
    · have h3 := ref_find_l l nm hl hz hn kc hkc 0 (k + (j + 1)) i (by omega) h2 hq
      rw [show kc + 1 + k + (j + 1) = kc + 1 + (k + (j + 1)) + 0 by omega]
      exact h3
/-- The document's Find answers alike. -/
theorem refFind_any (A : Option Addr) (c : Nat) (l : List S42) (nm : ByteArray) (w : World) (hr : Row w A l) (hc : l.length ≤ c) (hl : l.length ≤ 9223372036854775806) (hz : ∀ x ∈ l, x.f1.size ≤ 4398046511104) (hn : nm.size ≤ 4398046511104) :
    Calls Tryd.prog 19 #[.slice A l.length c, .string nm] w fun e w' => e = .returned (.tuple #[.int .i64 (atE l nm : Int), .bool (isE l nm)]) ∧ Below w.heap.size w w' := by
  refine (hayrickref12_Find.calls (4 * (4398046511104 + 4398046511104) + 13 + 1 + 0 + l.length) A c l nm _ _ w hr.c hc (ref_find_l l nm hl hz hn _ (Nat.le_refl _) l.length 0 0 (by omega) (Nat.zero_le _) (fun q hq => absurd hq (Nat.not_lt_zero _)))).mono ?_
  rintro e w' h
  exact ⟨h.1, by first | exact h.2 | exact h.2.below⟩
end Go.Proofs.YtneanbckmekdkaaDoor.EN

end

section
/- The document's May and Put, plain. -/
namespace Go.Proofs.YtneanbckmekdkaaDoor.EN
open Go Go.RowKit Go.Proofs.YtneanbckmekdkaaDoor.NM Go.Proofs.YtneanbckmekdkaaDoorW.PrintWords Go.Proofs.YtneanbckmekdkaaDoor.PEntryForms
open Go.Proofs.YtneanbckmekdkaaDoor.NMK (compare_f)
open Go.Proofs.YtneanbckmekdkaaDoor.NMV (valid_f)
set_option linter.unusedVariables false
def allOk (l : List S42) : Bool := (List.range l.length).all fun i => okAt l i
theorem allOk_iff (l : List S42) : allOk l = true ↔ ∀ i, i < l.length → okAt l i = true := by simp [allOk, List.all_eq_true]
theorem allOk_false {l : List S42} {i : Nat} (hi : i < l.length) (h : okAt l i = false) : allOk l = false := by
  rw [Bool.eq_false_iff]
  intro h1
  have := (allOk_iff l).1 h1 i hi
  rw [h] at this
  cases this
theorem inoAt_rd (l : List S42) (i : Nat) : (rd_T42 l (i : Int)).f0 = inoAt l i := rfl
theorem row_size {w : World} {A : Option Addr} {l : List S42} (h : Row w A l) (i : Nat) : (nameAt l i).size ≤ 140737488351232 := h.size i
theorem ref_may_l (l : List S42) (hl : l.length ≤ 9223372036854775806) (hz : ∀ i, (nameAt l i).size ≤ 140737488351232) (kc : Nat) (hkc : 562949953421312 ≤ kc) :
    ∀ (j i : Nat), l.length ≤ i + j → i ≤ l.length → (∀ q, q < i → okAt l q = true) → hayrickref12_May.l0 (kc + 1 + 2 * j) l i = some (allOk l)
  | 0, i, h, h2, hq => by
    obtain rfl : i = l.length := by omega
    have ha : allOk l = true := (allOk_iff l).2 hq
    rw [show kc + 1 + 2 * 0 = kc + 1 by omega, hayrickref12_May.l0, if_neg (by omega), ha]
  | j + 1, i, h, h2, hq => by
    by_cases hi : i < l.length
    · have hw : wrap64 ((i : Int) + 1) = ((i + 1 : Nat) : Int) := by unfold wrap64; omega
      have next : okAt l i = true → hayrickref12_May.l0 (kc + 1 + 2 * j) l ((i + 1 : Nat) : Int) = some (allOk l) := fun ho =>
        ref_may_l l hl hz kc hkc j (i + 1) (by omega) (by omega) (fun q hq' => by
          by_cases e : q = i
          · rw [e]; exact ho
          · exact hq q (by omega))
      have e := okAt_eq (l := l) (i := i) rfl rfl
      rw [show kc + 1 + 2 * (j + 1) = (kc + 1 + 2 * j + 1) + 1 by omega, hayrickref12_May.l0, if_pos (by omega), if_pos (by omega), inoAt_rd, nameAt_rd]
      have jt : hayrickref12_May.j1 (kc + 1 + 2 * j + 1) l i true = some false := by rw [hayrickref12_May.j1, if_pos rfl]
      by_cases h1 : inoAt l i < 1
      · rw [if_pos h1, jt, allOk_false hi]
        rw [e]; unfold okIno; rw [decide_eq_false (by omega : ¬ 1 ≤ inoAt l i)]; rfl
      · rw [if_neg h1]
        by_cases h64 : inoAt l i > 64
        · rw [if_pos h64, jt, allOk_false hi]
          rw [e]; unfold okIno; rw [decide_eq_false (by omega : ¬ inoAt l i ≤ 64), Bool.and_false]; rfl
        · rw [if_neg h64, valid_f (nameAt l i) (by have := hz i; omega) _ (by have := hz i; omega), Option.bind_some]
          have hino : okIno (inoAt l i) = true := by unfold okIno; rw [decide_eq_true (by omega : 1 ≤ inoAt l i), decide_eq_true (by omega : inoAt l i ≤ 64)]; rfl
          rw [hino] at e
          cases hv : valid (nameAt l i).data.toList with
          | false =>
            rw [hv] at e
            rw [show (!false) = true from rfl, jt, allOk_false hi]
            rw [e]; rfl
          | true =>
            rw [hv] at e
            rw [show (!true) = false from rfl, hayrickref12_May.j1, if_neg (by decide)]
            have hsz : (nameAt l i).size ≤ 24 := valid_size hv
            by_cases h0 : i = 0
            · have ho : okAt l i = true := by rw [e, decide_eq_true h0]; rfl
              rw [if_neg (by omega), hw]
              exact next ho
            · have hp := hq (i - 1) (by omega)
              have hps : (nameAt l (i - 1)).size ≤ 24 := by
                have e2 := okAt_eq (l := l) (i := i - 1) rfl rfl
                rw [hp] at e2
                have e3 := e2.symm
                simp only [Bool.and_eq_true] at e3
                exact valid_size e3.1.2
              have hw1 : wrap64 ((i : Int) - 1) = ((i - 1 : Nat) : Int) := by unfold wrap64; omega
              rw [if_pos (by omega), hw1, if_pos (by omega), if_pos (by omega), if_pos (by omega), if_pos (by omega), nameAt_rd, nameAt_rd, compare_f (nameAt l (i - 1)) (nameAt l i) (by omega) (by omega) _ (by omega), Option.bind_some]
              rw [decide_eq_false h0, Bool.false_or, Bool.true_and, Bool.true_and] at e
              rcases ahead_range (nameAt l (i - 1)).data.toList (nameAt l i).data.toList with hc | hc | hc
              · rw [hc] at e
                rw [if_pos hc, hw]
                exact next (by rw [e]; rfl)
              · rw [hc] at e
                rw [if_neg (by rw [hc]; decide), allOk_false hi]
                rw [e]; rfl
              · rw [hc] at e
                rw [if_neg (by rw [hc]; decide), allOk_false hi]
                rw [e]; rfl
    · have hi' : i = l.length := by omega
      subst hi'
      have ha : allOk l = true := (allOk_iff l).2 hq
      rw [show kc + 1 + 2 * (j + 1) = (kc + 1 + 2 * j + 1) + 1 by omega, hayrickref12_May.l0, if_neg (by omega), ha]
theorem ref_may_f (l : List S42) (hz : ∀ i, (nameAt l i).size ≤ 140737488351232) (k : Nat) (hk : 562949953421312 + 1 + 2 * 64 ≤ k) : hayrickref12_May.f k l = some (mayE l) := by
  rw [hayrickref12_May.f]
  unfold mayE
  by_cases h : l.length ≤ 64
  · rw [if_neg (by omega), decide_eq_true h, Bool.true_and]
    have := ref_may_l l (by omega) hz (k - 1 - 2 * l.length) (by omega) l.length 0 (by omega) (Nat.zero_le _) (fun q hq => absurd hq (Nat.not_lt_zero _))
    rw [show k - 1 - 2 * l.length + 1 + 2 * l.length = k by omega] at this
    exact this
  · rw [if_pos (by omega), decide_eq_false h, Bool.false_and]
/-- The document's May answers alike. -/
theorem refMay_any (A : Option Addr) (c : Nat) (l : List S42) (w : World) (hr : Row w A l) (hc : l.length ≤ c) :
    Calls Tryd.prog 16 #[.slice A l.length c] w fun e w' => e = .returned (.bool (mayE l)) ∧ Below w.heap.size w w' :=
  hayrickref12_May.calls _ A c l (mayE l) w hr.c hc (ref_may_f l (fun i => hr.size i) _ (Nat.le_refl _))
end Go.Proofs.YtneanbckmekdkaaDoor.EN

end

section
/- The document's Put, plain. -/
namespace Go.Proofs.YtneanbckmekdkaaDoor.EN
open Go Go.RowKit Go.Proofs.YtneanbckmekdkaaDoor.NM Go.Proofs.YtneanbckmekdkaaDoorW.PrintWords Go.Proofs.YtneanbckmekdkaaDoor.PEntryForms
set_option linter.unusedVariables false
set_option linter.unusedSimpArgs false
def oneQ (a : Int) (s : ByteArray) (q : Nat) : List Int := [0, a, (s.size : Int)] ++ (bytesOf s).take q ++ List.replicate (25 - q) 0
theorem oneQ_length {a : Int} {s : ByteArray} {q : Nat} (h : q ≤ s.size) (hs : s.size ≤ 24) : (oneQ a s q).length = 28 := by
  simp only [oneQ, List.length_append, List.length_cons, List.length_nil, List.length_take, bytesOf_length, List.length_replicate]; omega
theorem oneQ_zero (a : Int) (s : ByteArray) : (((List.replicate 28 (0 : Int)).set 0 0).set 1 a).set 2 (s.size : Int) = oneQ a s 0 := by
  simp [oneQ, List.replicate]
theorem oneQ_end (a : Int) (s : ByteArray) : oneQ a s s.size = encE ⟨a, s⟩ := by
  unfold oneQ encE
  rw [List.take_of_length_le (by rw [bytesOf_length]; exact Nat.le_refl _)]
theorem oneQ_step {a : Int} {s : ByteArray} {q : Nat} (h : q < s.size) (hs : s.size ≤ 24) : (oneQ a s q).set (3 + q) (bt s (q : Int)) = oneQ a s (q + 1) := by
  have hb : (bytesOf s)[q]? = some (bt s (q : Int)) := by
    have := rd_bytesOf s (q : Int)
    unfold rd at this
    rw [Int.toNat_natCast, List.getD_eq_getElem?_getD, List.getElem?_eq_getElem (by rw [bytesOf_length]; exact h)] at this
    rw [List.getElem?_eq_getElem (by rw [bytesOf_length]; exact h)]
    exact congrArg some this
  obtain ⟨hq, hb⟩ := List.getElem?_eq_some_iff.1 hb
  unfold oneQ
  have hl : ([0, a, (s.size : Int)] ++ (bytesOf s).take q).length = 3 + q := by simp only [List.length_append, List.length_cons, List.length_nil, List.length_take]; omega
  rw [List.set_append_right _ _ (by omega), hl, Nat.sub_self, show 25 - q = (25 - (q + 1)) + 1 by omega, List.replicate_succ, List.set_cons_zero, List.take_succ_eq_append_getElem (by rw [bytesOf_length]; exact h), hb]
  simp
theorem putL_app (a b : List S42) : putL (a ++ b) = putL a ++ putL b := by simp [putL]
theorem putL_sing (x : S42) : putL [x] = encE x := by simp [putL]
theorem ref_put1 (l : List S42) (b : List Int) (i : Nat) (a : Int) (s : ByteArray) (R : Option (List Int × Int)) (K : Nat) (hi : i < l.length) (hl : l.length ≤ 64) (hn : nameAt l i = s) (hs : s.size ≤ 24) (hb : b.length ≤ 1792)
    (H : ∀ k, K ≤ k → hayrickref12_Put.l0 k l (b ++ encE ⟨a, s⟩) ((i + 1 : Nat) : Int) = R) :
    ∀ (j q : Nat), q + j = s.size → ∀ k, K + 1 + j ≤ k → hayrickref12_Put.l1 k l b i (oneQ a s q) q = R
  | 0, q, hq, k, hk => by
    obtain rfl : q = s.size := by omega
    obtain ⟨k, rfl⟩ : ∃ k', k = k' + 1 := ⟨k - 1, by omega⟩
    have hw : wrap64 ((i : Int) + 1) = ((i + 1 : Nat) : Int) := by unfold wrap64; omega
    rw [hayrickref12_Put.l1, if_pos (by omega), if_pos (by omega), nameAt_rd, hn, if_neg (by omega), oneQ_length (Nat.le_refl _) hs, if_pos (by omega), oneQ_end, hw]
    exact H k (by omega)
  | j + 1, q, hq, k, hk => by
    obtain ⟨k, rfl⟩ : ∃ k', k = k' + 1 := ⟨k - 1, by omega⟩
    have hw : wrap64 ((q : Int) + 1) = ((q + 1 : Nat) : Int) := by unfold wrap64; omega
    have hw3 : wrap64 (3 + (q : Int)) = ((3 + q : Nat) : Int) := by unfold wrap64; omega
    rw [hayrickref12_Put.l1, if_pos (by omega), if_pos (by omega), nameAt_rd, hn, if_pos (by omega), if_pos (by omega), hw3, if_pos (by omega), oneQ_length (by omega) hs, if_pos (by omega), Int.toNat_natCast, oneQ_step (by omega) hs, hw]
    exact ref_put1 l b i a s R K hi hl hn hs hb H j (q + 1) (by omega) k (by omega)
theorem ref_put0 (l : List S42) (hP : MayP l) : ∀ (m i : Nat), i + m = l.length → ∀ k, 1 + 30 * m ≤ k → hayrickref12_Put.l0 k l (putL (l.take i)) i = some (putL l, 0)
  | 0, i, h, k, hk => by
    obtain rfl : i = l.length := by omega
    obtain ⟨k, rfl⟩ : ∃ k', k = k' + 1 := ⟨k - 1, by omega⟩
    rw [hayrickref12_Put.l0, if_neg (by omega), List.take_length]
  | m + 1, i, h, k, hk => by
    obtain ⟨k, rfl⟩ : ∃ k', k = k' + 1 := ⟨k - 1, by omega⟩
    have hi : i < l.length := by omega
    have he := hP.entry hi
    have hl := hP.1
    have hbl := putL_length (l.take i) (fun x hx => hP.sizes x (List.mem_of_mem_take hx))
    rw [List.length_take] at hbl
    have h0 : wrap64 (Int.tdiv (inoAt l i) 256) % 256 = 0 := by
      have : Int.tdiv (inoAt l i) 256 = 0 := by rw [Int.tdiv_eq_ediv_of_nonneg (by omega)]; omega
      rw [this]; unfold wrap64; omega
    have h1 : Int.tmod (inoAt l i) 256 % 256 = inoAt l i := by rw [Int.tmod_eq_emod_of_nonneg (by omega)]; omega
    have h2 : ((nameAt l i).size : Int) % 256 = ((nameAt l i).size : Int) := by have := he.2.2.2; omega
    rw [hayrickref12_Put.l0, if_pos (by omega), if_pos (by decide), Option.bind_some, if_pos (by omega)]
    simp only [List.length_replicate]
    rw [if_pos (by decide), if_pos (by decide), if_pos (by decide), inoAt_rd, nameAt_rd, h0, h1, h2]
    have hz : (((List.replicate 28 (0 : Int)).set (0 : Int).toNat 0).set (1 : Int).toNat (inoAt l i)).set (2 : Int).toNat ((nameAt l i).size : Int) = oneQ (inoAt l i) (nameAt l i) 0 := oneQ_zero _ _
    rw [hz]
    have hnext : putL (l.take i) ++ encE ⟨inoAt l i, nameAt l i⟩ = putL (l.take (i + 1)) := by
      rw [List.take_succ_eq_append_getElem hi]
      have : (⟨inoAt l i, nameAt l i⟩ : S42) = l[i] := by rw [(at_get hi).1, (at_get hi).2]
      rw [this, putL_app, putL_sing]
    refine ref_put1 l (putL (l.take i)) i (inoAt l i) (nameAt l i) _ (1 + 30 * m) hi hl rfl he.2.2.2 (by omega) (fun k hk => ?_) (nameAt l i).size 0 (by omega) k (by have := he.2.2.2; omega)
    rw [hnext]
    exact ref_put0 l hP m (i + 1) (by omega) k hk
theorem ref_put_f (l : List S42) (hz : ∀ i, (nameAt l i).size ≤ 140737488351232) (k : Nat) (hk : 562949953421312 + 1 + 2 * 64 ≤ k) : hayrickref12_Put.f k l = some (if mayE l = true then (putL l, 0) else ([], 1)) := by
  rw [hayrickref12_Put.f, ref_may_f l hz k hk, Option.bind_some]
  cases hm : mayE l with
  | false => rfl
  | true =>
    rw [if_pos rfl, if_pos rfl]
    have hP := (mayE_iff l).1 hm
    have := ref_put0 l hP l.length 0 (by omega) k (by have := hP.1; omega)
    rw [List.take_zero] at this
    exact this
end Go.Proofs.YtneanbckmekdkaaDoor.EN

end

section
/- The document's Take: the walk. -/
namespace Go.Proofs.YtneanbckmekdkaaDoor.EN
open Go Go.RowKit Go.Proofs.YtneanbckmekdkaaDoorX Go.Proofs.YtneanbckmekdkaaDoor.NM Go.Proofs.YtneanbckmekdkaaDoorW.PrintWords Go.Proofs.YtneanbckmekdkaaDoorW.PrintLast Go.Proofs.YtneanbckmekdkaaDoorW.PrintMore Go.Proofs.YtneanbckmekdkaaDoor.PEntryForms
set_option linter.unusedVariables false
set_option linter.unusedSimpArgs false
/-- Whether 28 bytes are an entry's for the document. -/
def tailZ (b : List Int) (m k : Nat) : Bool := (List.range 28).all fun q => decide (q < k) || decide (b.getD (m + q) 0 = 0)
theorem tailZ_iff {b : List Int} {m k : Nat} : tailZ b m k = true ↔ ∀ q, k ≤ q → q < 28 → b.getD (m + q) 0 = 0 := by
  unfold tailZ
  rw [List.all_eq_true]
  constructor
  · intro h q h1 h2
    have := h q (List.mem_range.2 h2)
    rw [decide_eq_false (by omega), Bool.false_or] at this
    exact of_decide_eq_true this
  · intro h q hq
    by_cases h1 : q < k
    · rw [decide_eq_true h1]; rfl
    · rw [decide_eq_true (h q (by omega) (List.mem_range.1 hq)), Bool.or_true]
def okRef (b : List Int) (m : Nat) : Bool := decide (b.getD (m + 2) 0 ≤ 24) && tailZ b m (3 + (b.getD (m + 2) 0).toNat)
def refL (b : List Int) (N : Nat) : List S42 := (List.range N).map fun i => entAt b (28 * i)
theorem refL_succ (b : List Int) (N : Nat) : refL b (N + 1) = refL b N ++ [entAt b (28 * N)] := by simp [refL, List.range_succ]
theorem refL_length (b : List Int) (N : Nat) : (refL b N).length = N := by simp [refL]
/-- What the document's Take answers. -/
def refTakeE (b : List Int) : Option (List S42) :=
  if b.length % 28 = 0 ∧ (List.range (b.length / 28)).all (fun i => okRef b (28 * i)) = true then (if mayE (refL b (b.length / 28)) = true then some (refL b (b.length / 28)) else none) else none
theorem refTake_bad {b : List Int} {i : Nat} (hi : i < b.length / 28) (h : okRef b (28 * i) = false) : refTakeE b = none := by
  unfold refTakeE
  rw [if_neg]
  rintro ⟨_, h2⟩
  have := List.all_eq_true.1 h2 i (List.mem_range.2 hi)
  rw [h] at this
  cases this
theorem cutm_fact (W : World) (ad : Addr) (n c p z e : Nat) (hp : 0 < p) (he : e = p + z) (hn : e ≤ n) (hc : n ≤ c) (hpc : p < c) : (Instr.slice 23 (.slice (some ad) n c) (some (.int .i64 (p : Int))) (some (.int .i64 (e : Int))) none).run Tryd.prog W = .ok (.slice (some (ad.add p)) z (c - p)) W := by
  obtain ⟨i, hi, hsz⟩ := Option.map_eq_some_iff.1 sizeU8
  have hu : Tryd.prog.underlying 23 = some (.slice (Tryd.prog.elem 23)) := by rw [show Tryd.prog.elem 23 = 5 from by simp [Program.elem, Tryd.underlying23]]; exact Tryd.underlying23
  rw [run_slice_lh W 23 _ n c hu .i64 .i64 (p : Int) (e : Int) (by omega) (by omega) (by omega)]
  rw [show Tryd.prog.elem 23 = 5 from by simp [Program.elem, Tryd.underlying23]]
  have h1 : ¬ c = p := by omega
  have h3 : e - p = z := by omega
  simp [sizeOf, typeInfo, hi, hsz, sliced, Result.andThen, h1, h3]
def RTPost (w : World) (r : Option (List S42)) (e : Ending) (w' : World) : Prop :=
  ∃ v x, e = .returned (.tuple #[v, .int .i64 x]) ∧ (match r with | none => v = .slice none 0 0 ∧ x = 5 | some l => x = 0 ∧ w'.ownsRow w.heap.size 42 2 v l.length (rowsE l)) ∧ Below w.heap.size w w'
set_option maxHeartbeats 4000000 in
set_option maxRecDepth 100000 in
theorem refTake_any (A : Option Addr) (c : Nat) (b : List Int) (w : World) (hc : b.length ≤ c) (hc63 : b.length ≤ 140737488355328) (hr : ReadsInt w .u8 A b.length b) (hby : ∀ x ∈ b, 0 ≤ x ∧ x < 256) :
    Calls Tryd.prog 13 #[.slice A b.length c] w (RTPost w (refTakeE b)) := by
  have HR := Aside0.mk hr
  have HBY := Aside0.mk hby
  have HC := Aside0.mk hc
  have HC63 := Aside0.mk hc63
  obtain ⟨R, hR⟩ : ∃ R, refTakeE b = R := ⟨_, rfl⟩
  rw [hR]
  have HRR := Aside0.mk hR
  have hn0 : (0 : Int) ≤ (b.length : Int) := Int.natCast_nonneg _
  clear hr hby hR hc hc63
  by_cases hmod : b.length % 28 = 0
  rotate_left
  · obtain rfl : R = none := by rw [← HRR.out]; unfold refTakeE; rw [if_neg (fun h => hmod h.1)]
    have h1 : ¬ ((b.length : Int) % 28 = 0) := by omega
    have h2 : ((b.length : Int) % 28 == 0) = false := beq_eq_false_iff_ne.2 h1
    have h3 : ((b.length : Int) % 28 != 0) = true := bne_iff_ne.2 h1
    clear hmod
    go_enter Tryd.func13, Tryd.ntmps13
    go_wp2
    go_ret2
    exact ⟨_, _, rfl, ⟨rfl, rfl⟩, Below.refl _ _⟩
  have h1 : (b.length : Int) % 28 = 0 := by omega
  have h3 : ((b.length : Int) % 28 != 0) = false := by rw [h1]; rfl
  obtain ⟨N, hN⟩ : ∃ N, b.length / 28 = N := ⟨_, rfl⟩
  have HN := Aside0.mk (And.intro hN (show b.length = 28 * N by omega))
  have HMOD := Aside0.mk hmod
  clear hmod hN
  go_enter Tryd.func13, Tryd.ntmps13
  go_wp2
  clear h1 h3
  go_loopw [4, 5] (fun v i wr => ∃ j m : Nat, j ≤ N ∧ Aside0 (m = 28 * j) ∧ i = .int .i64 m ∧ Aside0 (wr.ownsRow w.heap.size 42 2 v j (rowsE (refL b j))) ∧ Aside0 (Below w.heap.size w wr) ∧ Aside0 (∀ q, q < j → okRef b (28 * q) = true)) (fun _ i _ => b.length - (intOf i).toNat)
  case atStart => exact ⟨0, 0, Nat.zero_le _, ⟨rfl⟩, rfl, ⟨own_nil _ _ _ _⟩, ⟨Below.refl _ _⟩, ⟨fun q hq => absurd hq (Nat.not_lt_zero _)⟩⟩
  case round =>
    obtain ⟨i, m, hi, HM, rfl, HO, HW, HK⟩ := hrel
    by_cases hlt : m < b.length
    · have hlt' : (m : Int) < (b.length : Int) := by omega
      have hm0 : (0 : Int) ≤ (m : Int) := Int.natCast_nonneg _
      have hm28 : m + 28 ≤ b.length := by have := HM.out; have := HN.out.2; omega
      have HI := Aside0.mk (show i < N by have := HM.out; have := HN.out.2; omega)
      have hc63 := HC63.out
      have hrng : ∀ j, j < b.length → 0 ≤ b.getD j 0 ∧ b.getD j 0 < 256 := fun j hj => HBY.out _ (by rw [List.getD_eq_getElem?_getD, List.getElem?_eq_getElem hj]; exact List.getElem_mem _)
      obtain ⟨ad, rfl, hcw⟩ := HR.out.2.2 (by omega)
      obtain ⟨P2, hP2⟩ : ∃ P, P = m + 2 := ⟨_, rfl⟩
      have hw2 : IntKind.wrap .i64 ((m : Int) + 2) = (P2 : Int) := (IntWalk.i64_in _ ⟨by omega, by omega⟩).trans (by omega)
      have p20 : (0 : Int) ≤ (P2 : Int) := Int.natCast_nonneg _
      have p21 : (P2 : Int) < (b.length : Int) := by omega
      have r2 := hrng P2 (by omega)
      obtain ⟨z, hz⟩ : ∃ z : Nat, b.getD P2 0 = (z : Int) := ⟨(b.getD P2 0).toNat, by omega⟩
      have k2 := hcw P2 (by omega)
      rw [hz] at k2 r2
      have kw2 := pw_cell_below HW.out k2
      have hwz : IntKind.i64.wrap (z : Int) = (z : Int) := IntWalk.i64_in _ ⟨by omega, by omega⟩
      have hok : okRef b m = (decide ((z : Int) ≤ 24) && tailZ b m (3 + z)) := by unfold okRef; rw [← hP2, hz, Int.toNat_natCast]
      rw [HM.out] at hok
      have HRNG := Aside0.mk hrng
      have HCW := Aside0.mk hcw
      have HP2 := Aside0.mk (And.intro hP2 hz)
      have HM28 := Aside0.mk hm28
      by_cases h24 : z ≤ 24
      rotate_left
      · have hz1 : (24 : Int) < (z : Int) := by omega
        obtain rfl : R = none := by
          rw [← HRR.out]
          refine refTake_bad (i := i) (by rw [HN.out.1]; exact HI.out) ?_
          rw [hok, decide_eq_false (by omega), Bool.false_and]
        clear hlt hi hm28 hP2 hz hrng hcw k2 hok h24 hc63
        go_wp2
        go_ret2
        exact ⟨_, _, rfl, ⟨rfl, rfl⟩, HW.out⟩
      have hz1 : (z : Int) ≤ 24 := by omega
      rw [decide_eq_true hz1, Bool.true_and] at hok
      have hw3z : IntKind.wrap .i64 (3 + (z : Int)) = ((3 + z : Nat) : Int) := (IntWalk.i64_in _ ⟨by omega, by omega⟩).trans (by omega)
      have HOK := Aside0.mk hok
      have HZ := Aside0.mk h24
      obtain ⟨z3, hz3⟩ : ∃ q, q = 3 + z := ⟨_, rfl⟩
      rw [← hz3] at hw3z
      have HZ3 := Aside0.mk hz3
      clear hlt hi hm28 hP2 hz hrng hcw k2 hok h24 hc63 hz3
      go_wp2
      go_loopw [7] (fun kk wr2 => ∃ k : Nat, z3 ≤ k ∧ k ≤ 28 ∧ kk = .int .i64 k ∧ Aside0 (∀ q, z3 ≤ q → q < k → b.getD (m + q) 0 = 0) ∧ Aside0 (Drawn0 wr wr2)) (fun kk _ => 28 - (intOf kk).toNat)
      case atStart => exact ⟨z3, Nat.le_refl _, by have := HZ.out; have := HZ3.out; omega, rfl, ⟨fun q h1 h2 => absurd h2 (by omega)⟩, ⟨Drawn0.refl _⟩⟩
      case round =>
        obtain ⟨k, hk1, hk2, rfl, HQ, HD⟩ := hrel
        have HBW := Aside0.mk (HW.out.trans (HD.out.below.mono (below_size HW.out)))
        by_cases hlk : k < 28
        · have hlk' : (k : Int) < 28 := by omega
          have hk0 : (0 : Int) ≤ (k : Int) := Int.natCast_nonneg _
          have hm28 := HM28.out
          have hc63 := HC63.out
          obtain ⟨mk, hmk⟩ : ∃ q, q = m + k := ⟨_, rfl⟩
          have hwk : IntKind.wrap .i64 ((m : Int) + (k : Int)) = (mk : Int) := (IntWalk.i64_in _ ⟨by omega, by omega⟩).trans (by omega)
          have q0 : (0 : Int) ≤ (mk : Int) := Int.natCast_nonneg _
          have q1 : (mk : Int) < (b.length : Int) := by omega
          have kc := pw_cell_below HBW.out (HCW.out mk (by omega))
          obtain ⟨y, hy⟩ : ∃ y, b.getD mk 0 = y := ⟨_, rfl⟩
          rw [hy] at kc
          by_cases hy0 : y = 0
          · have hyb : (y != 0) = false := by rw [hy0]; rfl
            have HQ2 := Aside0.mk (show ∀ q, z3 ≤ q → q < k + 1 → b.getD (m + q) 0 = 0 from fun q h1 h2 => by
              by_cases e : q = k
              · rw [e, ← hmk, hy, hy0]
              · exact HQ.out q h1 (by omega))
            have HK1 := Aside0.mk (And.intro hk1 hlk)
            clear hlk hm28 hc63 hmk hy hk1 hk2 hy0
            go_wp2
            go_roundw
            case rel => exact ⟨k + 1, by have := HK1.out.1; omega, HK1.out.2, by go_num, HQ2, by first | exact HD | exact ⟨HD.out.step _⟩⟩
            case measure => simp [intOf]; have := HK1.out.2; omega
          · have hyb : (y != 0) = true := bne_iff_ne.2 hy0
            obtain rfl : R = none := by
              rw [← HRR.out]
              refine refTake_bad (i := i) (by rw [HN.out.1]; exact HI.out) ?_
              rw [HOK.out, Bool.eq_false_iff]
              intro hc
              have := tailZ_iff.1 hc k (by have := HZ3.out; omega) (by omega)
              rw [← HM.out, ← hmk, hy] at this
              exact hy0 this
            clear hlk hm28 hc63 hmk hy hk1 hk2 hy0
            go_wp2
            go_ret2
            exact ⟨_, _, rfl, ⟨rfl, rfl⟩, HBW.out⟩
        · obtain rfl : k = 28 := by omega
          have hcapk : N ≤ 5026338869834 := by have := HN.out.2; have := HC63.out; omega
          have HCAP := Aside0.mk (show i ≤ 5026338869834 by have := HI.out; omega)
          have hokt : okRef b (28 * i) = true := by
            rw [HOK.out]
            refine tailZ_iff.2 (fun q h1 h2 => ?_)
            have := HQ.out q (by have := HZ3.out; omega) h2
            rw [HM.out] at this
            exact this
          have HK2 := Aside0.mk (show ∀ q, q < i + 1 → okRef b (28 * q) = true from fun q hq => by
            by_cases e : q = i
            · rw [e]; exact hokt
            · exact HK.out q (by omega))
          have hm28 := HM28.out
          have hc63 := HC63.out
          have hcc := HC.out
          obtain ⟨P1, hP1⟩ : ∃ P, P = m + 1 := ⟨_, rfl⟩
          obtain ⟨P3, hP3⟩ : ∃ P, P = m + 3 := ⟨_, rfl⟩
          obtain ⟨E3, hE3⟩ : ∃ P, P = P3 + z := ⟨_, rfl⟩
          have hw1 : IntKind.wrap .i64 ((m : Int) + 1) = (P1 : Int) := (IntWalk.i64_in _ ⟨by omega, by omega⟩).trans (by omega)
          have hw3 : IntKind.wrap .i64 ((m : Int) + 3) = (P3 : Int) := (IntWalk.i64_in _ ⟨by omega, by omega⟩).trans (by omega)
          have hz24 := HZ.out
          have hwe : IntKind.wrap .i64 ((P3 : Int) + (z : Int)) = (E3 : Int) := (IntWalk.i64_in _ ⟨by omega, by omega⟩).trans (by omega)
          have p10 : (0 : Int) ≤ (P1 : Int) := Int.natCast_nonneg _
          have p11 : (P1 : Int) < (b.length : Int) := by omega
          have k0 := HCW.out m (by omega)
          have k1 := HCW.out P1 (by omega)
          have r0 := HRNG.out m (by omega)
          have r1 := HRNG.out P1 (by omega)
          obtain ⟨y0, hy0⟩ : ∃ y, b.getD m 0 = y := ⟨_, rfl⟩
          obtain ⟨y1, hy1⟩ : ∃ y, b.getD P1 0 = y := ⟨_, rfl⟩
          rw [hy0] at k0 r0
          rw [hy1] at k1 r1
          have kn : ReadsInt w .u8 (some (ad.add P3)) z ((b.drop P3).take z) := by
            have h1 := (HR.out.drop_ (c := b.length) P3 (by omega) (Nat.le_refl _)).take_ z (by omega)
            rw [if_neg (by omega)] at h1
            exact h1
          have hcut := fun W' => cutm_fact W' ad b.length c P3 z E3 (by omega) hE3 (by omega) hcc (by omega)
          have hv0 : IntKind.i64.wrap y0 = y0 := IntWalk.i64_in _ ⟨by omega, by omega⟩
          have hv1 : IntKind.i64.wrap y1 = y1 := IntWalk.i64_in _ ⟨by omega, by omega⟩
          have hvm : IntKind.i64.wrap (256 * y0) = 256 * y0 := IntWalk.i64_in _ ⟨by omega, by omega⟩
          obtain ⟨ino, hino⟩ : ∃ x, 256 * y0 + y1 = x := ⟨_, rfl⟩
          have hva : IntKind.i64.wrap (256 * y0 + y1) = ino := (IntWalk.i64_in _ ⟨by omega, by omega⟩).trans hino
          obtain ⟨nm, hnm⟩ : ∃ s, strOfNums ((b.drop P3).take z) = s := ⟨_, rfl⟩
          have hent : entAt b (28 * i) = ⟨ino, nm⟩ := by
            unfold entAt
            have e2 := HP2.out.2
            rw [HP2.out.1] at e2
            rw [hP1] at hy1
            rw [hP3] at hnm
            rw [← HM.out, hy0, hy1, e2, Int.toNat_natCast, hnm, hino]
          have HNX := Aside0.mk (show refL b i ++ [⟨ino, nm⟩] = refL b (i + 1) by rw [refL_succ, hent])
          have HNMZ := Aside0.mk (show nm.size ≤ 140737488351232 by rw [← hnm, strOfNums_size, List.length_take]; omega)
          obtain ⟨NB, hNB⟩ : ∃ s, (b.drop P3).take z = s := ⟨_, rfl⟩
          rw [hNB] at hnm kn
          have HHS := Aside0.mk hnm
          have K0 := Aside0.mk k0
          have K1 := Aside0.mk k1
          have KN := Aside0.mk kn
          obtain ⟨M28, hM28⟩ : ∃ q, q = m + 28 := ⟨_, rfl⟩
          have hw28 : IntKind.wrap .i64 ((m : Int) + 28) = (M28 : Int) := (IntWalk.i64_in _ ⟨by omega, by omega⟩).trans (by omega)
          have HE28 := Aside0.mk hM28
          have HO2 := Aside0.mk (pw_own_below HO.out HD.out.below)
          clear HO
          have HO := HO2
          clear HO2 hM28 hlk hm28 hc63 hcc hP1 hP3 hE3 hk1 hk2 hokt hcapk hz24 hy0 hy1 hent hnm hNB kn k0 k1 hino kw2
          go_wp2
          have hSW : ∀ k, k < w.heap.size → wr.drew.heap[k]? = w.heap[k]? := fun k hk => HBW.out.block k hk
          refine wp_region_held_drew (S := fun A => ∀ k, k < w.heap.size → A.heap[k]? = w.heap[k]?) (by kernel_rfl) (hSW) (fun hHeld => ?_)
          refine wpAnyH_take (i := 0) (oi := ⟨some 39, _, _, _, _, _⟩) (v := u4) rfl (by kernel_rfl) (by kernel_rfl) (by kernel_rfl) (fun _ _ _ h => h) (Or.inl ⟨by rfl, fun W hS => by go_simp⟩) hHeld ?_
          (try simp only [Act.put, List.setIfInBounds_toArray, List.set_cons_zero, List.set_cons_succ])
          refine wpAnyH_take (i := 1) (oi := ⟨some 40, _, _, _, _, _⟩) (v := (.slice (some ad) b.length c)) rfl (by kernel_rfl) (by kernel_rfl) (by kernel_rfl) (fun _ _ _ h => h) (Or.inl ⟨by rfl, fun W hS => by go_simp⟩) hHeld ?_
          (try simp only [Act.put, List.setIfInBounds_toArray, List.set_cons_zero, List.set_cons_succ])
          refine wpAnyH_take (i := 2) (oi := ⟨some 41, _, _, _, _, _⟩) (v := (.int .i64 (m : Int))) rfl (by kernel_rfl) (by kernel_rfl) (by kernel_rfl) (fun _ _ _ h => h) (Or.inl ⟨by rfl, fun W hS => by go_simp⟩) hHeld ?_
          (try simp only [Act.put, List.setIfInBounds_toArray, List.set_cons_zero, List.set_cons_succ])
          refine wpAnyH_take (i := 3) (oi := ⟨some 42, _, _, _, _, _⟩) (v := (.pointer (some (ad.add m)))) rfl (by kernel_rfl) (by kernel_rfl) (by kernel_rfl) (fun _ _ _ h => h) (Or.inl ⟨by rfl, fun W hS => by go_simp⟩) hHeld ?_
          (try simp only [Act.put, List.setIfInBounds_toArray, List.set_cons_zero, List.set_cons_succ])
          refine wpAnyH_take (i := 4) (oi := ⟨some 43, _, _, _, _, _⟩) (v := (.int .u8 y0)) rfl (by kernel_rfl) (by kernel_rfl) (by kernel_rfl) (fun _ _ _ h => h) (Or.inl ⟨by rfl, fun A hS => by have cc := old_cell hS K0.out; go_simp⟩) hHeld ?_
          (try simp only [Act.put, List.setIfInBounds_toArray, List.set_cons_zero, List.set_cons_succ])
          refine wpAnyH_take (i := 5) (oi := ⟨some 44, _, _, _, _, _⟩) (v := (.int .i64 y0)) rfl (by kernel_rfl) (by kernel_rfl) (by kernel_rfl) (fun _ _ _ h => h) (Or.inl ⟨by rfl, fun W hS => by go_simp⟩) hHeld ?_
          (try simp only [Act.put, List.setIfInBounds_toArray, List.set_cons_zero, List.set_cons_succ])
          refine wpAnyH_take (i := 6) (oi := ⟨some 45, _, _, _, _, _⟩) (v := (.int .i64 (256 * y0))) rfl (by kernel_rfl) (by kernel_rfl) (by kernel_rfl) (fun _ _ _ h => h) (Or.inl ⟨by rfl, fun W hS => by go_simp⟩) hHeld ?_
          (try simp only [Act.put, List.setIfInBounds_toArray, List.set_cons_zero, List.set_cons_succ])
          refine wpAnyH_take (i := 7) (oi := ⟨some 46, _, _, _, _, _⟩) (v := (.slice (some ad) b.length c)) rfl (by kernel_rfl) (by kernel_rfl) (by kernel_rfl) (fun _ _ _ h => h) (Or.inl ⟨by rfl, fun W hS => by go_simp⟩) hHeld ?_
          (try simp only [Act.put, List.setIfInBounds_toArray, List.set_cons_zero, List.set_cons_succ])
          refine wpAnyH_take (i := 8) (oi := ⟨some 47, _, _, _, _, _⟩) (v := (.int .i64 (m : Int))) rfl (by kernel_rfl) (by kernel_rfl) (by kernel_rfl) (fun _ _ _ h => h) (Or.inl ⟨by rfl, fun W hS => by go_simp⟩) hHeld ?_
          (try simp only [Act.put, List.setIfInBounds_toArray, List.set_cons_zero, List.set_cons_succ])
          refine wpAnyH_take (i := 9) (oi := ⟨some 48, _, _, _, _, _⟩) (v := (.int .i64 (P1 : Int))) rfl (by kernel_rfl) (by kernel_rfl) (by kernel_rfl) (fun _ _ _ h => h) (Or.inl ⟨by rfl, fun W hS => by go_simp⟩) hHeld ?_
          (try simp only [Act.put, List.setIfInBounds_toArray, List.set_cons_zero, List.set_cons_succ])
          refine wpAnyH_take (i := 10) (oi := ⟨some 49, _, _, _, _, _⟩) (v := (.pointer (some (ad.add P1)))) rfl (by kernel_rfl) (by kernel_rfl) (by kernel_rfl) (fun _ _ _ h => h) (Or.inl ⟨by rfl, fun W hS => by go_simp⟩) hHeld ?_
          (try simp only [Act.put, List.setIfInBounds_toArray, List.set_cons_zero, List.set_cons_succ])
          refine wpAnyH_take (i := 11) (oi := ⟨some 50, _, _, _, _, _⟩) (v := (.int .u8 y1)) rfl (by kernel_rfl) (by kernel_rfl) (by kernel_rfl) (fun _ _ _ h => h) (Or.inl ⟨by rfl, fun A hS => by have cc := old_cell hS K1.out; go_simp⟩) hHeld ?_
          (try simp only [Act.put, List.setIfInBounds_toArray, List.set_cons_zero, List.set_cons_succ])
          refine wpAnyH_take (i := 12) (oi := ⟨some 51, _, _, _, _, _⟩) (v := (.int .i64 y1)) rfl (by kernel_rfl) (by kernel_rfl) (by kernel_rfl) (fun _ _ _ h => h) (Or.inl ⟨by rfl, fun W hS => by go_simp⟩) hHeld ?_
          (try simp only [Act.put, List.setIfInBounds_toArray, List.set_cons_zero, List.set_cons_succ])
          refine wpAnyH_take (i := 13) (oi := ⟨some 52, _, _, _, _, _⟩) (v := (.int .i64 ino)) rfl (by kernel_rfl) (by kernel_rfl) (by kernel_rfl) (fun _ _ _ h => h) (Or.inl ⟨by rfl, fun W hS => by go_simp⟩) hHeld ?_
          (try simp only [Act.put, List.setIfInBounds_toArray, List.set_cons_zero, List.set_cons_succ])
          refine wpAnyH_take (i := 14) (oi := ⟨some 53, _, _, _, _, _⟩) (v := (.slice (some ad) b.length c)) rfl (by kernel_rfl) (by kernel_rfl) (by kernel_rfl) (fun _ _ _ h => h) (Or.inl ⟨by rfl, fun W hS => by go_simp⟩) hHeld ?_
          (try simp only [Act.put, List.setIfInBounds_toArray, List.set_cons_zero, List.set_cons_succ])
          refine wpAnyH_take (i := 15) (oi := ⟨some 54, _, _, _, _, _⟩) (v := (.int .i64 (m : Int))) rfl (by kernel_rfl) (by kernel_rfl) (by kernel_rfl) (fun _ _ _ h => h) (Or.inl ⟨by rfl, fun W hS => by go_simp⟩) hHeld ?_
          (try simp only [Act.put, List.setIfInBounds_toArray, List.set_cons_zero, List.set_cons_succ])
          refine wpAnyH_take (i := 16) (oi := ⟨some 55, _, _, _, _, _⟩) (v := (.int .i64 (P3 : Int))) rfl (by kernel_rfl) (by kernel_rfl) (by kernel_rfl) (fun _ _ _ h => h) (Or.inl ⟨by rfl, fun W hS => by go_simp⟩) hHeld ?_
          (try simp only [Act.put, List.setIfInBounds_toArray, List.set_cons_zero, List.set_cons_succ])
          refine wpAnyH_take (i := 17) (oi := ⟨some 56, _, _, _, _, _⟩) (v := (.int .i64 (m : Int))) rfl (by kernel_rfl) (by kernel_rfl) (by kernel_rfl) (fun _ _ _ h => h) (Or.inl ⟨by rfl, fun W hS => by go_simp⟩) hHeld ?_
          (try simp only [Act.put, List.setIfInBounds_toArray, List.set_cons_zero, List.set_cons_succ])
          refine wpAnyH_take (i := 18) (oi := ⟨some 57, _, _, _, _, _⟩) (v := (.int .i64 (P3 : Int))) rfl (by kernel_rfl) (by kernel_rfl) (by kernel_rfl) (fun _ _ _ h => h) (Or.inl ⟨by rfl, fun W hS => by go_simp⟩) hHeld ?_
          (try simp only [Act.put, List.setIfInBounds_toArray, List.set_cons_zero, List.set_cons_succ])
          refine wpAnyH_take (i := 19) (oi := ⟨some 58, _, _, _, _, _⟩) (v := (.int .i64 (z : Int))) rfl (by kernel_rfl) (by kernel_rfl) (by kernel_rfl) (fun _ _ _ h => h) (Or.inl ⟨by rfl, fun W hS => by go_simp⟩) hHeld ?_
          (try simp only [Act.put, List.setIfInBounds_toArray, List.set_cons_zero, List.set_cons_succ])
          refine wpAnyH_take (i := 20) (oi := ⟨some 59, _, _, _, _, _⟩) (v := (.int .i64 (E3 : Int))) rfl (by kernel_rfl) (by kernel_rfl) (by kernel_rfl) (fun _ _ _ h => h) (Or.inl ⟨by rfl, fun W hS => by go_simp⟩) hHeld ?_
          (try simp only [Act.put, List.setIfInBounds_toArray, List.set_cons_zero, List.set_cons_succ])
          refine wpAnyH_take (i := 21) (oi := ⟨some 60, _, _, _, _, _⟩) (v := (.slice (some (ad.add P3)) z (c - P3))) rfl (by kernel_rfl) (by kernel_rfl) (by kernel_rfl) (fun _ _ _ h => h) (Or.inl ⟨by rfl, fun W hS => by go_simp⟩) hHeld ?_
          (try simp only [Act.put, List.setIfInBounds_toArray, List.set_cons_zero, List.set_cons_succ])
          refine wpAnyH_take (i := 22) (oi := ⟨some 61, _, _, _, _, _⟩) (v := (.string nm)) rfl (by kernel_rfl) (by kernel_rfl) (by kernel_rfl) (fun _ _ _ h => h) (Or.inl ⟨by rfl, fun A hS => by have ss := string_of_reads (P := Tryd.prog) (src := 23) (dst := 9) Tryd.underlying23 Tryd.underlying5 Tryd.underlying9 (c := c - P3) (old_reads hS KN.out); rw [HHS.out] at ss; go_simp⟩) hHeld ?_
          (try simp only [Act.put, List.setIfInBounds_toArray, List.set_cons_zero, List.set_cons_succ])
          refine wpAnyH_take (i := 23) (oi := ⟨some 62, _, _, _, _, _⟩) (v := (.agg #[.int .i64 ino, .string nm])) rfl (by kernel_rfl) (by kernel_rfl) (by kernel_rfl) (fun _ _ _ h => h) (Or.inl ⟨by rfl, fun W hS => by go_simp⟩) hHeld ?_
          (try simp only [Act.put, List.setIfInBounds_toArray, List.set_cons_zero, List.set_cons_succ])
          obtain ⟨wq, hwq⟩ : ∃ A, wr.drew = A := ⟨_, rfl⟩
          have HOQ := Aside0.mk (show wr.drew.ownsRow w.heap.size 42 2 u4 i (rowsE (refL b i)) from HO.out)
          have HBQ := Aside0.mk (below_drew HBW.out)
          have HSQ := Aside0.mk (show wr.heap.size ≤ wr.drew.heap.size from Nat.le_refl _)
          rw [hwq] at hHeld HOQ HBQ HSQ ⊢
          clear hwq hSW
          refine wpAnyH_ready (rs := [24]) (by kernel_rfl) (by simp) ?_
          refine AllReadyH.cons rfl (fun K hK => ?_) AllReadyH.nil
          go_simp
          refine hK.out _ _ (s_old_alloc hHeld HBQ.out.size _) (fun hH3 => ?_)
          clear hK K
          (try simp only [Act.put, List.setIfInBounds_toArray, List.set_cons_zero, List.set_cons_succ])
          refine wpAnyH_ready (rs := [25]) (by kernel_rfl) (by simp) ?_
          refine AllReadyH.cons rfl (fun K hK => ?_) AllReadyH.nil
          refine wp_append_ents (.tmp 39) (.tmp 63) rfl w.heap.size u4 (refL b i) [⟨ino, nm⟩] (some ⟨wq.heap.size, 0, none⟩) 1 (by kernel_rfl) (by kernel_rfl) (by rw [refL_length]; exact (HOQ.out.alloc _)) (row_new wq [⟨ino, nm⟩] (by simp) (fun x hx => by simp only [List.mem_cons, List.not_mem_nil, or_false] at hx; rw [hx]; exact HNMZ.out)) (by have := HBQ.out.size; simp; omega) (by rw [refL_length]; have := HCAP.out; simp; omega) (fun v1 w1 ho hg => ?_)
          rw [HNX.out, refL_length] at ho
          have hS4 : ∀ k, k < w.heap.size → w1.heap[k]? = w.heap[k]? := fun k hk => (hg.block k (by have := HBQ.out.size; simp; omega) (fun e => by have := own_base HOQ.out k e.symm; omega)).trans (hH3 k hk)
          refine hK.out _ _ hS4 (fun hH4 => ?_)
          have HO1 := Aside0.mk ho
          have HW1 := Aside0.mk ((below_alloc HBQ.out _).grown hg (by have := HBQ.out.size; simp; omega) (own_base HOQ.out))
          clear hK K ho hg hS4
          (try simp only [Act.put, List.setIfInBounds_toArray, List.set_cons_zero, List.set_cons_succ])
          refine wpAnyH_take (i := 26) (oi := ⟨some 4, _, _, _, _, _⟩) (v := v1) rfl (by kernel_rfl) (by kernel_rfl) (by kernel_rfl) (fun _ _ _ h => h) (Or.inl ⟨by rfl, fun W hS => by go_simp⟩) hH4 ?_
          (try simp only [Act.put, List.setIfInBounds_toArray, List.set_cons_zero, List.set_cons_succ])
          refine wpAnyH_done (by kernel_rfl) ?_ _
          (try simp only [Exit.then])
          go_wp2
          go_roundw
          case rel => exact ⟨i + 1, M28, HI.out, ⟨by have := HM.out; have := HE28.out; omega⟩, rfl, HO1, HW1, HK2⟩
          case measure => simp [intOf]; have := HM28.out; have := HE28.out; omega
    · have him : i = N := by have := HM.out; have := HN.out.2; omega
      have hge : (b.length : Int) ≤ (m : Int) := by omega
      have hge2 : ¬ ((m : Int) < (b.length : Int)) := by omega
      subst him
      have hall : (List.range i).all (fun q => okRef b (28 * q)) = true := by rw [List.all_eq_true]; exact fun q hq => HK.out q (List.mem_range.1 hq)
      have hR := HRR.out
      unfold refTakeE at hR
      rw [HN.out.1, if_pos ⟨HMOD.out, hall⟩] at hR
      have hsm : ∀ x ∈ refL b i, x.f1.size ≤ 140737488351232 := by
        intro x hx
        obtain ⟨q, hq, rfl⟩ := List.mem_map.1 hx
        have ho := HK.out q (List.mem_range.1 hq)
        unfold okRef at ho
        simp only [Bool.and_eq_true, decide_eq_true_eq] at ho
        show (strOfNums _).size ≤ _
        rw [strOfNums_size, List.length_take]
        omega
      have hlen := refL_length b i
      obtain ⟨L, hL⟩ : ∃ L, refL b i = L := ⟨_, rfl⟩
      rw [hL] at hR hsm hlen
      have ho := HO.out
      rw [hL] at ho
      obtain ⟨A1, c1, rfl⟩ := own_slice ho
      have ROW := Aside0.mk (own_row (l := L) (by rw [hlen]; exact ho) hsm)
      have CP := Aside0.mk (own_cap ho)
      have HO1 := Aside0.mk ho
      have HLEN := Aside0.mk hlen
      clear hlt hi hall hsm hL ho hlen HO
      cases hm : mayE L with
      | false =>
        obtain rfl : R = none := by rw [← hR, hm]; rfl
        have hcl := refMay_any A1 c1 L wr ROW.out (by rw [HLEN.out]; exact CP.out)
        rw [hm, HLEN.out] at hcl
        have HCL := Aside0.mk hcl
        clear hcl hR hm
        go_wp2_with (go_at_call 16; refine HCL.out.mono ?_; rintro e w1 ⟨rfl, hb⟩; have HB1 := Aside0.mk (HW.out.trans (hb.mono (below_size HW.out))); clear hb)
        go_ret2
        exact ⟨_, _, rfl, ⟨rfl, rfl⟩, HB1.out⟩
      | true =>
        obtain rfl : R = some L := by rw [← hR, hm]; rfl
        have hcl := refMay_any A1 c1 L wr ROW.out (by rw [HLEN.out]; exact CP.out)
        rw [hm, HLEN.out] at hcl
        have HCL := Aside0.mk hcl
        clear hcl hR hm
        go_wp2_with (go_at_call 16; refine HCL.out.mono ?_; rintro e w1 ⟨rfl, hb⟩; have HB1 := Aside0.mk (HW.out.trans (hb.mono (below_size HW.out))); have HO2 := Aside0.mk (pw_own_below HO1.out hb); clear hb)
        go_ret2
        exact ⟨_, _, rfl, ⟨rfl, by rw [HLEN.out]; exact HO2.out⟩, HB1.out⟩
end Go.Proofs.YtneanbckmekdkaaDoor.EN

end

section
/- Plain: the program's Take and the document's answer alike. -/
namespace Go.Proofs.YtneanbckmekdkaaDoor.EN
open Go Go.RowKit Go.Proofs.YtneanbckmekdkaaDoor.NM Go.Proofs.YtneanbckmekdkaaDoorW.PrintWords Go.Proofs.YtneanbckmekdkaaDoor.PEntryForms
set_option linter.unusedVariables false
set_option linter.unusedSimpArgs false
theorem bytes_str {xs : List Int} (h : ∀ x ∈ xs, 0 ≤ x ∧ x < 256) : bytesOf (strOfNums xs) = xs := by
  unfold bytesOf
  rw [strOfNums_data, List.map_map]
  conv => rhs; rw [← List.map_id xs]
  refine List.map_congr_left (fun x hx => ?_)
  have := h x hx
  simp
  omega
theorem getD_at {L : List Int} {j : Nat} (h : j < L.length) : L.getD j 0 = L[j] := by rw [List.getD_eq_getElem?_getD, List.getElem?_eq_getElem h]; rfl
/-- 28 bytes that the document takes are an entry's. -/
theorem enc_chunk {b : List Int} {m : Nat} (hb : ∀ x ∈ b, 0 ≤ x ∧ x < 256) (hm : m + 28 ≤ b.length) (hok : okRef b m = true) (hi : (entAt b m).f0 ≤ 64) : encE (entAt b m) = (b.drop m).take 28 := by
  have hrng : ∀ j, j < b.length → 0 ≤ b.getD j 0 ∧ b.getD j 0 < 256 := fun j hj => hb _ (by rw [getD_at hj]; exact List.getElem_mem _)
  unfold okRef at hok
  rw [Bool.and_eq_true] at hok
  obtain ⟨h24, htl⟩ := hok
  have h24 := of_decide_eq_true h24
  have htl := tailZ_iff.1 htl
  have r0 := hrng m (by omega)
  have r1 := hrng (m + 1) (by omega)
  have r2 := hrng (m + 2) (by omega)
  obtain ⟨z, hz⟩ : ∃ z : Nat, b.getD (m + 2) 0 = (z : Int) := ⟨(b.getD (m + 2) 0).toNat, by omega⟩
  have hino : (entAt b m).f0 = 256 * b.getD m 0 + b.getD (m + 1) 0 := rfl
  rw [hino] at hi
  have e0 : b.getD m 0 = 0 := by omega
  have hnb : (entAt b m).f1 = strOfNums ((b.drop (m + 3)).take z) := by unfold entAt; rw [hz, Int.toNat_natCast]
  have hnl : ((b.drop (m + 3)).take z).length = z := by rw [List.length_take, List.length_drop]; omega
  have hsz : (entAt b m).f1.size = z := by rw [hnb, strOfNums_size, hnl]
  have hbs : bytesOf (entAt b m).f1 = (b.drop (m + 3)).take z := by
    rw [hnb]
    exact bytes_str (fun x hx => hb x (List.mem_of_mem_drop (List.mem_of_mem_take hx)))
  have htail : ((b.drop (m + 3)).drop z).take (25 - z) = List.replicate (25 - z) 0 := by
    apply List.eq_replicate_iff.2
    constructor
    · rw [List.length_take, List.length_drop, List.length_drop]; omega
    · intro x hx
      obtain ⟨i, hi, rfl⟩ := List.getElem_of_mem hx
      rw [List.length_take] at hi
      rw [List.getElem_take, List.getElem_drop, List.getElem_drop]
      have := htl (3 + z + i) (by rw [hz, Int.toNat_natCast]; omega) (by omega)
      rw [getD_at (by omega)] at this
      have e : m + 3 + (z + i) = m + (3 + z + i) := by omega
      simp only [e]
      exact this
  have hcut : (b.drop m).take 28 = b.getD m 0 :: b.getD (m + 1) 0 :: b.getD (m + 2) 0 :: (b.drop (m + 3)).take 25 := by
    rw [List.drop_eq_getElem_cons (show m < b.length by omega), List.drop_eq_getElem_cons (show m + 1 < b.length by omega), List.drop_eq_getElem_cons (show m + 1 + 1 < b.length by omega), getD_at (show m < b.length by omega), getD_at (show m + 1 < b.length by omega), getD_at (show m + 2 < b.length by omega)]
    rfl
  have h25 : (b.drop (m + 3)).take 25 = (b.drop (m + 3)).take z ++ List.replicate (25 - z) 0 := by
    rw [← htail]
    have : (25 : Nat) = z + (25 - z) := by omega
    conv => lhs; rw [this, List.take_add]
  have h1 : 256 * b.getD m 0 + b.getD (m + 1) 0 = b.getD (m + 1) 0 := by rw [e0]; omega
  rw [hcut, h25, encE, hsz, hbs, hino, h1, e0, hz]
  simp
theorem put_refL {b : List Int} (hb : ∀ x ∈ b, 0 ≤ x ∧ x < 256) : ∀ (N : Nat), 28 * N ≤ b.length → (∀ i, i < N → okRef b (28 * i) = true) → (∀ i, i < N → (entAt b (28 * i)).f0 ≤ 64) → putL (refL b N) = b.take (28 * N)
  | 0, _, _, _ => by simp [refL, putL]
  | N + 1, h, h1, h2 => by
    rw [refL_succ, putL_append, put_refL hb N (by omega) (fun i hi => h1 i (by omega)) (fun i hi => h2 i (by omega))]
    have : putL [entAt b (28 * N)] = encE (entAt b (28 * N)) := by simp [putL]
    rw [this, enc_chunk hb (by omega) (h1 N (by omega)) (h2 N (by omega)), show 28 * (N + 1) = 28 * N + 28 by omega, List.take_add]
theorem refL_get {b : List Int} {N i : Nat} (h : i < N) : inoAt (refL b N) i = (entAt b (28 * i)).f0 := by
  have hl : i < (refL b N).length := by rw [refL_length]; exact h
  rw [(at_get hl).1]
  simp [refL]
theorem put_okRef {l : List S42} (h : ∀ x ∈ l, x.f1.size ≤ 24) {i : Nat} (hi : i < l.length) : okRef (putL l) (28 * i) = true := by
  have hd := putL_drop h hi
  have hz := h _ (List.getElem_mem hi)
  obtain ⟨x, hx⟩ : ∃ x, l[i] = x := ⟨_, rfl⟩
  rw [hx] at hd hz
  obtain ⟨rest, hrest⟩ : ∃ r, putL (l.drop (i + 1)) = r := ⟨_, rfl⟩
  rw [hrest] at hd
  have hd' : (putL l).drop (28 * i) = 0 :: x.f0 :: (x.f1.size : Int) :: (bytesOf x.f1 ++ (List.replicate (25 - x.f1.size) 0 ++ rest)) := by
    rw [hd, encE]; simp
  have g2 : (putL l).getD (28 * i + 2) 0 = (x.f1.size : Int) := by rw [getD_drop, hd']; rfl
  unfold okRef
  rw [g2, Int.toNat_natCast, decide_eq_true (by omega), Bool.true_and]
  refine tailZ_iff.2 (fun q h1 h2 => ?_)
  rw [getD_drop, hd']
  obtain ⟨p, rfl⟩ : ∃ p, q = p + 3 := ⟨q - 3, by omega⟩
  rw [List.getD_eq_getElem?_getD]
  simp only [List.getElem?_cons_succ]
  rw [List.getElem?_append_right (by rw [bytesOf_length]; omega), List.getElem?_append_left (by rw [bytesOf_length, List.length_replicate]; omega), bytesOf_length, List.getElem?_replicate]
  rw [if_pos (by omega)]
  rfl
theorem take_same {b : List Int} (hb : ∀ x ∈ b, 0 ≤ x ∧ x < 256) : takeE b = refTakeE b := by
  by_cases hmod : b.length % 28 = 0
  · obtain ⟨N, hN⟩ : ∃ N, b.length / 28 = N := ⟨_, rfl⟩
    have hL : b.length = 28 * N := by omega
    have hp : partsOf b (allE b) = refL b N := parts_range hL
    have hall : (allE b).all (fun x => okPart b x.1) = true ↔ ∀ i, i < N → okPart b (28 * i) = true := by
      rw [List.all_eq_true]
      constructor
      · intro h i hi
        have hm : 28 * i ∈ (allE b).map (·.1) := by rw [all_range hL]; exact List.mem_map.2 ⟨i, List.mem_range.2 hi, rfl⟩
        obtain ⟨x, hx, e⟩ := List.mem_map.1 hm
        rw [← e]; exact h x hx
      · intro h x hx
        have hm : x.1 ∈ (allE b).map (·.1) := List.mem_map.2 ⟨x, hx, rfl⟩
        rw [all_range hL] at hm
        obtain ⟨i, hi, e⟩ := List.mem_map.1 hm
        rw [← e]; exact h i (List.mem_range.1 hi)
    have hpart : ∀ i, i < N → okRef b (28 * i) = true → okPart b (28 * i) = true := by
      intro i hi h
      unfold okRef at h
      rw [Bool.and_eq_true] at h
      unfold okPart
      rw [h.1, decide_eq_true (by omega)]
      rfl
    by_cases hr : ∀ i, i < N → okRef b (28 * i) = true
    · have h1 : (List.range (b.length / 28)).all (fun i => okRef b (28 * i)) = true := by rw [hN, List.all_eq_true]; exact fun i hi => hr i (List.mem_range.1 hi)
      have e1 : takeE b = (if mayE (refL b N) = true ∧ putL (refL b N) = b then some (refL b N) else none) := by
        unfold takeE
        rw [if_pos (hall.2 fun i hi => hpart i hi (hr i hi)), hp]
      have e2 : refTakeE b = (if mayE (refL b N) = true then some (refL b N) else none) := by
        unfold refTakeE
        rw [if_pos ⟨hmod, h1⟩, hN]
      rw [e1, e2]
      cases hm : mayE (refL b N) with
      | false => rw [if_neg (by simp), if_neg (by simp)]
      | true =>
        have hP := (mayE_iff _).1 hm
        have hput : putL (refL b N) = b := by
          have := put_refL hb N (by omega) hr (fun i hi => by
            have he := hP.entry (i := i) (by rw [refL_length]; exact hi)
            rw [refL_get hi] at he
            exact he.2.1)
          rw [this, ← hL, List.take_length]
        rw [if_pos ⟨rfl, hput⟩, if_pos rfl]
    · have h1 : refTakeE b = none := by
        unfold refTakeE
        rw [if_neg]
        rintro ⟨_, h⟩
        rw [hN] at h
        exact hr (fun i hi => List.all_eq_true.1 h i (List.mem_range.2 hi))
      rw [h1]
      cases ht : takeE b with
      | none => rfl
      | some y =>
        exfalso
        obtain ⟨hm, hy⟩ := take_some ht
        have hP := (mayE_iff _).1 hm
        have hyl := putL_length y hP.sizes
        rw [hy] at hyl
        refine hr (fun i hi => ?_)
        have := put_okRef hP.sizes (i := i) (by omega)
        rw [hy] at this
        exact this
  · have h1 : refTakeE b = none := by unfold refTakeE; rw [if_neg (fun h => hmod h.1)]
    rw [h1]
    cases ht : takeE b with
    | none => rfl
    | some y =>
      exfalso
      obtain ⟨hm, hy⟩ := take_some ht
      have hyl := putL_length y ((mayE_iff _).1 hm).sizes
      rw [hy] at hyl
      exact hmod (by omega)
end Go.Proofs.YtneanbckmekdkaaDoor.EN

end

section
/- EntryForms: the law's own walk. -/
namespace Go.Proofs.YtneanbckmekdkaaDoor.EN
open Go Go.RowKit Go.Proofs.YtneanbckmekdkaaDoorX Go.Proofs.YtneanbckmekdkaaDoor.NM Go.Proofs.YtneanbckmekdkaaDoorW.PrintWords Go.Proofs.YtneanbckmekdkaaDoorW.PrintLast Go.Proofs.YtneanbckmekdkaaDoorW.PrintMore Go.Proofs.YtneanbckmekdkaaDoor.PEntryForms
set_option linter.unusedVariables false
set_option linter.unusedSimpArgs false
def putR (l : List S42) : List Int := if mayE l = true then putL l else []
def putX (l : List S42) : Int := if mayE l = true then 0 else 1
def takR (b : List Int) : List S42 := (takeE b).getD []
def takX (b : List Int) : Int := match takeE b with | some _ => 0 | none => 5
theorem reads_nil (W : World) (k : IntKind) : ReadsInt W k none 0 [] := ⟨rfl, by decide, fun h => absurd h (by decide)⟩
theorem ints_of_C {W : World} {k : IntKind} {A : Option Addr} {n : Nat} {xs : List Int} (h : Kd.C (Kd.int k) W A n xs) : ReadsInt W k A n xs :=
  Kd.reads_of_C (enc := Value.int k) (d := (0 : Int)) (h1 := fun _ => rfl) h
theorem put_u (w : World) (A : Option Addr) (c : Nat) (l : List S42) (hr : Row w A l) (hT : Lib.Utf8Tabs 1 2 w) :
    Calls Tryd.prog 10 #[.slice A l.length c] w fun e w' => ∃ B d, e = .returned (.tuple #[.slice B (putR l).length d, .int .i64 (putX l)]) ∧ ReadsInt w' .u8 B (putR l).length (putR l) ∧ Below w.heap.size w w' := by
  unfold putR putX
  cases hm : mayE l with
  | true =>
    rw [if_pos rfl, if_pos rfl]
    refine (put_yes w A c l hr hT hm).mono ?_
    rintro e w' ⟨v, rfl, ho, hb⟩
    obtain ⟨B, d, rfl, hq⟩ := own_reads ho
    exact ⟨B, d, rfl, hq, hb⟩
  | false =>
    rw [if_neg (by simp), if_neg (by simp)]
    refine (put_no w A c l hr hT hm).mono ?_
    rintro e w' ⟨rfl, hb⟩
    exact ⟨none, 0, rfl, reads_nil _ _, hb⟩
theorem rput_u (w : World) (A : Option Addr) (c : Nat) (l : List S42) (hr : Row w A l) (hc : l.length ≤ c) :
    Calls Tryd.prog 11 #[.slice A l.length c] w fun e w' => ∃ B d, e = .returned (.tuple #[.slice B (putR l).length d, .int .i64 (putX l)]) ∧ ReadsInt w' .u8 B (putR l).length (putR l) ∧ Below w.heap.size w w' := by
  have hf := ref_put_f l (fun i => hr.size i) _ (Nat.le_refl _)
  have hf2 : hayrickref12_Put.f (562949953421312 + 1 + 2 * 64) l = some (putR l, putX l) := by
    rw [hf]; unfold putR putX
    cases mayE l <;> rfl
  refine (hayrickref12_Put.calls _ A c l (putR l) (putX l) w hr.c hc hf2).mono ?_
  rintro e w' ⟨v, rfl, hR, hb⟩
  obtain ⟨B, d, rfl, _, hC⟩ := Kd.R_reads hR
  exact ⟨B, d, rfl, ints_of_C hC, hb⟩
theorem takR_small (b : List Int) : ∀ x ∈ takR b, x.f1.size ≤ 140737488351232 := by
  unfold takR
  cases h : takeE b with
  | none => intro x hx; cases hx
  | some y =>
    intro x hx
    have := ((mayE_iff y).1 (take_some h).1).sizes x hx
    omega
theorem takR_len (b : List Int) : (takR b).length ≤ 64 := by
  unfold takR
  cases h : takeE b with
  | none => exact Nat.zero_le _
  | some y => exact ((mayE_iff y).1 (take_some h).1).1
theorem post_u {w : World} {b : List Int} {e : Ending} {w' : World} (h : TakePost w (takeE b) e w') : ∃ B d, e = .returned (.tuple #[.slice B (takR b).length d, .int .i64 (takX b)]) ∧ Row w' B (takR b) ∧ (takR b).length ≤ d ∧ Below w.heap.size w w' := by
  have hs := takR_small b
  obtain ⟨v, x, he, hm, hb⟩ := h
  unfold takR takX at *
  cases ht : takeE b with
  | none =>
    rw [ht] at hm
    obtain ⟨rfl, rfl⟩ := hm
    exact ⟨none, 0, he, row_none _, Nat.zero_le _, hb⟩
  | some y =>
    rw [ht] at hm hs
    obtain ⟨rfl, ho⟩ := hm
    obtain ⟨B, d, rfl⟩ := own_slice ho
    exact ⟨B, d, he, own_row ho hs, own_cap ho, hb⟩
theorem take_u (A : Option Addr) (c : Nat) (b : List Int) (w : World) (hc : b.length ≤ c) (hc63 : b.length ≤ 140737488355328) (hr : ReadsInt w .u8 A b.length b) (hby : ∀ x ∈ b, 0 ≤ x ∧ x < 256) (hT : Lib.Utf8Tabs 1 2 w) :
    Calls Tryd.prog 12 #[.slice A b.length c] w fun e w' => ∃ B d, e = .returned (.tuple #[.slice B (takR b).length d, .int .i64 (takX b)]) ∧ Row w' B (takR b) ∧ (takR b).length ≤ d ∧ Below w.heap.size w w' :=
  Calls.mono (take_any A c b w hc hc63 hr hby hT) fun e w' h => post_u h
theorem rtake_u (A : Option Addr) (c : Nat) (b : List Int) (w : World) (hc : b.length ≤ c) (hc63 : b.length ≤ 140737488355328) (hr : ReadsInt w .u8 A b.length b) (hby : ∀ x ∈ b, 0 ≤ x ∧ x < 256) :
    Calls Tryd.prog 13 #[.slice A b.length c] w fun e w' => ∃ B d, e = .returned (.tuple #[.slice B (takR b).length d, .int .i64 (takX b)]) ∧ Row w' B (takR b) ∧ (takR b).length ≤ d ∧ Below w.heap.size w w' := by
  have h := refTake_any A c b w hc hc63 hr hby
  rw [← take_same hby] at h
  exact Calls.mono h fun e w' h => post_u h
set_option maxHeartbeats 4000000 in
set_option maxRecDepth 100000 in
theorem forms_walk (A : Option Addr) (c : Nat) (l : List S42) (B : Option Addr) (d : Nat) (b : List Int) (w : World) (hr : Row w A l) (hc : l.length ≤ c) (hlo : l.length ≤ 5864062014700) (hb : ReadsInt w .u8 B b.length b) (hd : b.length ≤ d) (h63 : b.length ≤ 140737488355328) (hby : ∀ x ∈ b, 0 ≤ x ∧ x < 256) (hT : Lib.Utf8Tabs 1 2 w) :
    Calls Tryd.prog 3 #[.slice A l.length c, .slice B b.length d] w fun e w' => e = .returned (.bool true) ∧ Below w.heap.size w w' := by
  have HR := Aside0.mk hr
  have HC := Aside0.mk hc
  have HLO := Aside0.mk hlo
  have HL := Aside0.mk (show l.length ≤ 9223372036854775806 by omega)
  have HBR := Aside0.mk hb
  have HD := Aside0.mk hd
  have H63 := Aside0.mk h63
  have HBY := Aside0.mk hby
  have HT := Aside0.mk hT
  obtain ⟨M, HM⟩ : ∃ M, Aside0 (mayE l = M) := ⟨_, ⟨rfl⟩⟩
  obtain ⟨PR, HPR⟩ : ∃ q, Aside0 (putR l = q) := ⟨_, ⟨rfl⟩⟩
  obtain ⟨PX, HPX⟩ : ∃ q, Aside0 (putX l = q) := ⟨_, ⟨rfl⟩⟩
  obtain ⟨Y, HTR⟩ : ∃ q, Aside0 (takR b = q) := ⟨_, ⟨rfl⟩⟩
  obtain ⟨YX, HTX⟩ : ∃ q, Aside0 (takX b = q) := ⟨_, ⟨rfl⟩⟩
  have HYL := Aside0.mk (show Y.length ≤ 9223372036854775806 by have := takR_len b; rw [HTR.out] at this; omega)
  have hmm : (M == M) = true := by simp
  clear hr hc hlo hb hd h63 hby hT
  go_enter Tryd.func3, Tryd.ntmps3
  go_wp2_with (first
    | (have hz := HB10.out; clear hz; go_at_call 17; refine (Calls.mono (wakes_true w10 (Utf8Tabs_below HT.out HB10.out)) ?_); rintro e w11 ⟨rfl, hb⟩; have HB11 := Aside0.mk (below_step HB10.out hb); clear hb)
    | (have hz := HB9.out; clear hz; go_at_call 14; refine (Calls.mono (same_call w9 B1 A d1 c l HL.out (M6.out.below (HBS9.out)) (HR.out.below HB9.out) D1.out HC.out) ?_); rintro e w10 ⟨rfl, hb⟩; have HB10 := Aside0.mk (below_step HB9.out hb); have s3 := string_of_reads (P := Tryd.prog) (src := 23) (dst := 9) Tryd.underlying23 Tryd.underlying5 Tryd.underlying9 (c := d2) ((Q6.out.below HBS9.out).below hb); have s4 := string_of_reads (P := Tryd.prog) (src := 23) (dst := 9) Tryd.underlying23 Tryd.underlying5 Tryd.underlying9 (c := d) (HBR.out.below (below_step HB9.out hb)); clear hb)
    | (have hz := HB8.out; clear hz; go_at_call 16; refine (Calls.mono (refMay_any A c l w8 (HR.out.below HB8.out) HC.out) ?_); rw [HM.out]; rintro e w9 ⟨rfl, hb⟩; have HB9 := Aside0.mk (below_step HB8.out hb); have HBS9 := Aside0.mk (HBS8.out.trans (hb.mono (below_size HBS8.out))); clear hb)
    | (have hz := HB7.out; clear hz; go_at_call 15; refine (Calls.mono (may_any w7 A c l (HR.out.below HB7.out) (Utf8Tabs_below HT.out HB7.out)) ?_); rw [HM.out]; rintro e w8 ⟨rfl, hb⟩; have HB8 := Aside0.mk (below_step HB7.out hb); have HBS8 := Aside0.mk (HBS7.out.trans (hb.mono (below_size HBS7.out))); clear hb)
    | (have hz := HB6.out; clear hz; go_at_call 14; refine (Calls.mono (same_call w6 B5 B6 d5 d6 Y HYL.out X6.out R6.out D5.out D6.out) ?_); rintro e w7 ⟨rfl, hb⟩; have HB7 := Aside0.mk (below_step HB6.out hb); have HBS7 := Aside0.mk hb; clear hb)
    | (have hz := HB5.out; clear hz; go_at_call 13; refine (Calls.mono (rtake_u B d b w5 HD.out H63.out (HBR.out.below HB5.out) HBY.out) ?_); rw [HTR.out, HTX.out]; rintro e w6 ⟨B6, d6, rfl, hx, hd, hb⟩; have HB6 := Aside0.mk (below_step HB5.out hb); have R6 := Aside0.mk hx; have D6 := Aside0.mk hd; have X6 := Aside0.mk (R5.out.below hb); have M6 := Aside0.mk (M5.out.below hb); have Q6 := Aside0.mk (Q5.out.below hb); have s1 := string_of_reads (P := Tryd.prog) (src := 23) (dst := 9) Tryd.underlying23 Tryd.underlying5 Tryd.underlying9 (c := d3) (P5.out.below hb); have s2 := string_of_reads (P := Tryd.prog) (src := 23) (dst := 9) Tryd.underlying23 Tryd.underlying5 Tryd.underlying9 (c := d4) (G5.out.below hb); clear hx hd; clear hb)
    | (have hz := HB4.out; clear hz; go_at_call 12; refine (Calls.mono (take_u B2 d2 b w4 D2.out H63.out Q4.out HBY.out (Utf8Tabs_below HT.out HB4.out)) ?_); rw [HTR.out, HTX.out]; rintro e w5 ⟨B5, d5, rfl, hx, hd, hb⟩; have HB5 := Aside0.mk (below_step HB4.out hb); have R5 := Aside0.mk hx; have D5 := Aside0.mk hd; have P5 := Aside0.mk (P4.out.below hb); have G5 := Aside0.mk (R4.out.below hb); have M5 := Aside0.mk (M4.out.below hb); have Q5 := Aside0.mk (Q4.out.below hb); clear hx hd; clear hb)
    | (have hz := HB3.out; clear hz; go_at_call 11; refine (Calls.mono (rput_u w3 A c l (HR.out.below HB3.out) HC.out) ?_); rw [HPR.out, HPX.out]; rintro e w4 ⟨B4, d4, rfl, hq, hb⟩; have HB4 := Aside0.mk (below_step HB3.out hb); have R4 := Aside0.mk hq; have P4 := Aside0.mk (R3.out.below hb); have M4 := Aside0.mk (M3.out.below hb); have Q4 := Aside0.mk (Q3.out.below hb); clear hq; clear hb)
    | (have hz := HB2.out; clear hz; go_at_call 10; refine (Calls.mono (put_u w2 B1 d1 l M2.out (Utf8Tabs_below HT.out HB2.out)) ?_); rw [HPR.out, HPX.out]; rintro e w3 ⟨B3, d3, rfl, hq, hb⟩; have HB3 := Aside0.mk (below_step HB2.out hb); have R3 := Aside0.mk hq; have M3 := Aside0.mk (M2.out.below hb); have Q3 := Aside0.mk (R2.out.below hb); clear hq; clear hb)
    | (have hz := HB1.out; clear hz; at_builtin; (with_reducible refine gate_dst (N := 18) rfl ?_); refine print_append_row (w0 := w1) w1.heap.size rfl (.const (.slice none 0 0)) (.tmp 17) 23 5 .u8 1 rfl Tryd.underlying23 infoU8 (by omega) (.slice none 0 0) [] b B b.length d (by kernel_rfl) (by kernel_rfl) (own_nil _ _ _ _) (HBR.out.below HB1.out) (Below.refl _ _) (Nat.le_refl _) (by have := H63.out; simp; omega) ?_; intro v2 w2 ho hb _ _; rw [List.nil_append] at ho; obtain ⟨B2, d2, rfl, hq⟩ := own_reads ho; have HB2 := Aside0.mk (below_step HB1.out hb); have R2 := Aside0.mk hq; have D2 := Aside0.mk (own_cap ho); have M2 := Aside0.mk (R1.out.below hb); clear ho hb hq)
    | (go_at_call 9; refine (Calls.mono (own_any A c l w HR.out HLO.out) ?_); rintro e w1 ⟨B1, d1, rfl, ho, hb⟩; have HB1 := Aside0.mk hb; have R1 := Aside0.mk (own_row ho HR.out.z); have D1 := Aside0.mk (own_cap ho); clear ho; clear hb))
  go_ret
  exact ⟨rfl, HB11.out⟩
end Go.Proofs.YtneanbckmekdkaaDoor.EN

end
