import Derived.Test.YtneanbckmekdkaaDoorMFind
import Derived.Test.YtneanbckmekdkaaDoorMSame
import Derived.Test.YtneanbckmekdkaaDoorNRefK
import Derived.Test.YtneanbckmekdkaaDoorEPut
import Derived.Test.YtneanbckmekdkaaDoorMOrd
import Derived.Test.YtneanbckmekdkaaDoorNRefV
import Derived.Test.YtneanbckmekdkaaDoorPEntryFormsx7
section
/- The document's Find, plain. -/
namespace Go.Proofs.YtneanbckmekdkaaDoor.EN
open Go Go.RowKit Go.Proofs.YtneanbckmekdkaaDoor.NM Go.Proofs.YtneanbckmekdkaaDoorW.PrintWords Go.Proofs.YtneanbckmekdkaaDoor.PEntryForms
open Go.Proofs.YtneanbckmekdkaaDoor.NMK (compare_f)
set_option linter.unusedVariables false
theorem cb_zero : ∀ a b : List UInt8, Lib.compareBytes a b = 0 ↔ a = b
  | [], [] => by simp [Lib.compareBytes]
  | [], _ :: _ => by simp [Lib.compareBytes]
  | _ :: _, [] => by simp [Lib.compareBytes]
  | x :: a, y :: b => by
    have ih := cb_zero a b
    rw [Lib.compareBytes]
    by_cases h1 : x < y
    · rw [if_pos h1]
      refine ⟨fun h => absurd h (by decide), fun h => ?_⟩
      cases h
      rw [UInt8.lt_iff_toNat_lt] at h1
      omega
    · rw [if_neg h1]
      by_cases h2 : y < x
      · rw [if_pos h2]
        refine ⟨fun h => absurd h (by decide), fun h => ?_⟩
        cases h
        rw [UInt8.lt_iff_toNat_lt] at h2
        omega
      · rw [if_neg h2, ih]
        have h3 : x = y := by
          rw [UInt8.lt_iff_toNat_lt] at h1 h2
          exact UInt8.toNat_inj.1 (by omega)
        subst h3
        simp
theorem ahead_zero {a b : List UInt8} : NM.ahead a b = 0 ↔ a = b := by
  unfold NM.ahead
  by_cases h : cmpI (runes a) (runes b) = 0
  · rw [if_neg (by simpa using h)]
    exact cb_zero a b
  · rw [if_pos h]
    exact ⟨fun e => absurd e h, fun e => by subst e; exact absurd (Go.Proofs.YtneanbckmekdkaaDoor.NMK.cmpI_zero.2 rfl) h⟩
theorem nameAt_rd (l : List S42) (i : Nat) : (rd_T42 l (i : Int)).f1 = nameAt l i := rfl
theorem ref_find_l (l : List S42) (nm : ByteArray) (hl : l.length ≤ 9223372036854775806) (hz : ∀ x ∈ l, x.f1.size ≤ 4398046511104) (hn : nm.size ≤ 4398046511104) (kc : Nat) (hkc : 4 * (4398046511104 + 4398046511104) + 13 ≤ kc) :
    ∀ (j k i : Nat), l.length ≤ i + j → i ≤ l.length → (∀ q, q < i → geAt l nm q = false) → hayrickref12_Find.l0 (kc + 1 + k + j) l nm i = some ((atE l nm : Int), isE l nm)
  | 0, k, i, h, h2, hq => by
    obtain rfl : i = l.length := by omega
    have ha : atE l nm = l.length := atE_is (Nat.le_refl _) hq (fun h => absurd h (Nat.lt_irrefl _))
    have hi : isE l nm = false := by unfold isE; rw [ha, decide_eq_false (Nat.lt_irrefl _), Bool.false_and]
    rw [show kc + 1 + k + 0 = (kc + k) + 1 by omega, hayrickref12_Find.l0, if_neg (by omega), ha, hi]
  | j + 1, k, i, h, h2, hq => by
    by_cases hi : i < l.length
    · have hsz : (nameAt l i).size ≤ 4398046511104 := by rw [(show nameAt l i = l[i].f1 from by unfold nameAt rd_T42; rw [Int.toNat_natCast, List.getD_eq_getElem?_getD, List.getElem?_eq_getElem hi]; rfl)]; exact hz _ (List.getElem_mem hi)
      have hw : wrap64 ((i : Int) + 1) = ((i + 1 : Nat) : Int) := by unfold wrap64; omega
      rw [show kc + 1 + k + (j + 1) = (kc + 1 + k + j) + 1 by omega, hayrickref12_Find.l0, if_pos (by omega), if_pos (by omega), nameAt_rd, compare_f (nameAt l i) nm (by omega) (by omega) _ (by omega), Option.bind_some]
      have hg : geAt l nm i = decide (0 ≤ NM.ahead (nameAt l i).data.toList nm.data.toList) := rfl
      by_cases hc : 0 ≤ NM.ahead (nameAt l i).data.toList nm.data.toList
      · have ha : atE l nm = i := atE_is (by omega) hq (fun _ => by rw [hg, decide_eq_true hc])
        have hs : isE l nm = (NM.ahead (nameAt l i).data.toList nm.data.toList == 0) := by
          unfold isE
          rw [ha, decide_eq_true hi, Bool.true_and, Lib.toList_data, Lib.toList_data, Bool.eq_iff_iff, beq_iff_eq, beq_iff_eq, ahead_zero]
        rw [if_pos (by omega), ha, hs]
      · rw [if_neg (by omega), hw]
        exact ref_find_l l nm hl hz hn kc hkc j k (i + 1) (by omega) (by omega) (fun q hq' => by
          by_cases e : q = i
          · rw [e, hg, decide_eq_false hc]
          · exact hq q (by omega))
    · have h3 := ref_find_l l nm hl hz hn kc hkc 0 (k + (j + 1)) i (by omega) h2 hq
      rw [show kc + 1 + k + (j + 1) = kc + 1 + (k + (j + 1)) + 0 by omega]
      exact h3
/-- The document's Find answers alike. -/
theorem refFind_any (A : Option Addr) (c : Nat) (l : List S42) (nm : ByteArray) (w : World) (hr : Row w A l) (hc : l.length ≤ c) (hl : l.length ≤ 9223372036854775806) (hz : ∀ x ∈ l, x.f1.size ≤ 4398046511104) (hn : nm.size ≤ 4398046511104) :
    Calls Tryd.prog 19 #[.slice A l.length c, .string nm] w fun e w' => e = .returned (.tuple #[.int .i64 (atE l nm : Int), .bool (isE l nm)]) ∧ Below w.heap.size w w' := by
  refine (hayrickref12_Find.calls (4 * (4398046511104 + 4398046511104) + 13 + 1 + 0 + l.length) A c l nm _ _ w hr.c hc (ref_find_l l nm hl hz hn _ (Nat.le_refl _) l.length 0 0 (by omega) (Nat.zero_le _) (fun q hq => absurd hq (Nat.not_lt_zero _)))).mono ?_
  rintro e w' h
  exact ⟨h.1, by first | exact h.2 | exact h.2.below⟩
end Go.Proofs.YtneanbckmekdkaaDoor.EN

end

section
/- The document's May and Put, plain. -/
namespace Go.Proofs.YtneanbckmekdkaaDoor.EN
open Go Go.RowKit Go.Proofs.YtneanbckmekdkaaDoor.NM Go.Proofs.YtneanbckmekdkaaDoorW.PrintWords Go.Proofs.YtneanbckmekdkaaDoor.PEntryForms
open Go.Proofs.YtneanbckmekdkaaDoor.NMK (compare_f)
open Go.Proofs.YtneanbckmekdkaaDoor.NMV (valid_f)
set_option linter.unusedVariables false
def allOk (l : List S42) : Bool := (List.range l.length).all fun i => okAt l i
theorem allOk_iff (l : List S42) : allOk l = true ↔ ∀ i, i < l.length → okAt l i = true := by simp [allOk, List.all_eq_true]
theorem allOk_false {l : List S42} {i : Nat} (hi : i < l.length) (h : okAt l i = false) : allOk l = false := by
  rw [Bool.eq_false_iff]
  intro h1
  have := (allOk_iff l).1 h1 i hi
  rw [h] at this
  cases this
theorem inoAt_rd (l : List S42) (i : Nat) : (rd_T42 l (i : Int)).f0 = inoAt l i := rfl
theorem row_size {w : World} {A : Option Addr} {l : List S42} (h : Row w A l) (i : Nat) : (nameAt l i).size ≤ 140737488351232 := h.size i
theorem ref_may_l (l : List S42) (hl : l.length ≤ 9223372036854775806) (hz : ∀ i, (nameAt l i).size ≤ 140737488351232) (kc : Nat) (hkc : 562949953421312 ≤ kc) :
    ∀ (j i : Nat), l.length ≤ i + j → i ≤ l.length → (∀ q, q < i → okAt l q = true) → hayrickref12_May.l0 (kc + 1 + 2 * j) l i = some (allOk l)
  | 0, i, h, h2, hq => by
    obtain rfl : i = l.length := by omega
    have ha : allOk l = true := (allOk_iff l).2 hq
    rw [show kc + 1 + 2 * 0 = kc + 1 by omega, hayrickref12_May.l0, if_neg (by omega), ha]
  | j + 1, i, h, h2, hq => by
    by_cases hi : i < l.length
    · have hw : wrap64 ((i : Int) + 1) = ((i + 1 : Nat) : Int) := by unfold wrap64; omega
      have next : okAt l i = true → hayrickref12_May.l0 (kc + 1 + 2 * j) l ((i + 1 : Nat) : Int) = some (allOk l) := fun ho =>
        ref_may_l l hl hz kc hkc j (i + 1) (by omega) (by omega) (fun q hq' => by
          by_cases e : q = i
          · rw [e]; exact ho
          · exact hq q (by omega))
      have e := okAt_eq (l := l) (i := i) rfl rfl
      rw [show kc + 1 + 2 * (j + 1) = (kc + 1 + 2 * j + 1) + 1 by omega, hayrickref12_May.l0, if_pos (by omega), if_pos (by omega), inoAt_rd, nameAt_rd]
      have jt : hayrickref12_May.j1 (kc + 1 + 2 * j + 1) l i true = some false := by rw [hayrickref12_May.j1, if_pos rfl]
      by_cases h1 : inoAt l i < 1
      · rw [if_pos h1, jt, allOk_false hi]
        rw [e]; unfold okIno; rw [decide_eq_false (by omega : ¬ 1 ≤ inoAt l i)]; rfl
      · rw [if_neg h1]
        by_cases h64 : inoAt l i > 64
        · rw [if_pos h64, jt, allOk_false hi]
          rw [e]; unfold okIno; rw [decide_eq_false (by omega : ¬ inoAt l i ≤ 64), Bool.and_false]; rfl
        · rw [if_neg h64, valid_f (nameAt l i) (by have := hz i; omega) _ (by have := hz i; omega), Option.bind_some]
          have hino : okIno (inoAt l i) = true := by unfold okIno; rw [decide_eq_true (by omega : 1 ≤ inoAt l i), decide_eq_true (by omega : inoAt l i ≤ 64)]; rfl
          rw [hino] at e
          cases hv : valid (nameAt l i).data.toList with
          | false =>
            rw [hv] at e
            rw [show (!false) = true from rfl, jt, allOk_false hi]
            rw [e]; rfl
          | true =>
            rw [hv] at e
            rw [show (!true) = false from rfl, hayrickref12_May.j1, if_neg (by decide)]
            have hsz : (nameAt l i).size ≤ 24 := valid_size hv
            by_cases h0 : i = 0
            · have ho : okAt l i = true := by rw [e, decide_eq_true h0]; rfl
              rw [if_neg (by omega), hw]
              exact next ho
            · have hp := hq (i - 1) (by omega)
              have hps : (nameAt l (i - 1)).size ≤ 24 := by
                have e2 := okAt_eq (l := l) (i := i - 1) rfl rfl
                rw [hp] at e2
                have e3 := e2.symm
                simp only [Bool.and_eq_true] at e3
                exact valid_size e3.1.2
              have hw1 : wrap64 ((i : Int) - 1) = ((i - 1 : Nat) : Int) := by unfold wrap64; omega
              rw [if_pos (by omega), hw1, if_pos (by omega), if_pos (by omega), if_pos (by omega), if_pos (by omega), nameAt_rd, nameAt_rd, compare_f (nameAt l (i - 1)) (nameAt l i) (by omega) (by omega) _ (by omega), Option.bind_some]
              rw [decide_eq_false h0, Bool.false_or, Bool.true_and, Bool.true_and] at e
              rcases ahead_range (nameAt l (i - 1)).data.toList (nameAt l i).data.toList with hc | hc | hc
              · rw [hc] at e
                rw [if_pos hc, hw]
                exact next (by rw [e]; rfl)
              · rw [hc] at e
                rw [if_neg (by rw [hc]; decide), allOk_false hi]
                rw [e]; rfl
              · rw [hc] at e
                rw [if_neg (by rw [hc]; decide), allOk_false hi]
                rw [e]; rfl
    · have hi' : i = l.length := by omega
      subst hi'
      have ha : allOk l = true := (allOk_iff l).2 hq
      rw [show kc + 1 + 2 * (j + 1) = (kc + 1 + 2 * j + 1) + 1 by omega, hayrickref12_May.l0, if_neg (by omega), ha]
theorem ref_may_f (l : List S42) (hz : ∀ i, (nameAt l i).size ≤ 140737488351232) (k : Nat) (hk : 562949953421312 + 1 + 2 * 64 ≤ k) : hayrickref12_May.f k l = some (mayE l) := by
  rw [hayrickref12_May.f]
  unfold mayE
  by_cases h : l.length ≤ 64
  · rw [if_neg (by omega), decide_eq_true h, Bool.true_and]
    have := ref_may_l l (by omega) hz (k - 1 - 2 * l.length) (by omega) l.length 0 (by omega) (Nat.zero_le _) (fun q hq => absurd hq (Nat.not_lt_zero _))
    rw [show k - 1 - 2 * l.length + 1 + 2 * l.length = k by omega] at this
    exact this
  · rw [if_pos (by omega), decide_eq_false h, Bool.false_and]
/-- The document's May answers alike. -/
theorem refMay_any (A : Option Addr) (c : Nat) (l : List S42) (w : World) (hr : Row w A l) (hc : l.length ≤ c) :
    Calls Tryd.prog 16 #[.slice A l.length c] w fun e w' => e = .returned (.bool (mayE l)) ∧ Below w.heap.size w w' :=
  hayrickref12_May.calls _ A c l (mayE l) w hr.c hc (ref_may_f l (fun i => hr.size i) _ (Nat.le_refl _))
end Go.Proofs.YtneanbckmekdkaaDoor.EN

end
