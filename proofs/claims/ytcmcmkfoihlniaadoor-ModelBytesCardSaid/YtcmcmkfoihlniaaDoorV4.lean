/- What this claim uses of the texts that were printed for it. -/
import Derived.LoopTactic
import Derived.Maps.RangeWalk
import Derived.Ground.SlbCloneProg
import Derived.Shelf.Bytes.SlClone
import Derived.Shelf.Bytes.SlEqualAll
import Derived.Shelf.SlMaps.Clone
import Derived.Shelf.SlMaps.Equal
import Derived.Test.YtcmcmkfoihlniaaDoorProg
import Derived.Test.YtcmcmkfoihlniaaDoorV3
section
namespace Go.Proofs.YtcmcmkfoihlniaaDoor.MM
open Go Go.RowKit Go.Proofs.YtcmcmkfoihlniaaDoor.NM Go.Proofs.YtcmcmkfoihlniaaDoor.EN Go.Proofs.YtcmcmkfoihlniaaDoorX Go.Proofs.YtcmcmkfoihlniaaDoorW.PrintWords Go.Proofs.YtcmcmkfoihlniaaDoorW.PrintLast Go.Proofs.YtcmcmkfoihlniaaDoorW.PrintMore Go.Proofs.YtcmcmkfoihlniaaDoor.PModelUndoes
set_option linter.unusedVariables false
set_option linter.unusedSimpArgs false
set_option maxRecDepth 100000
set_option maxHeartbeats 1000000
def slashed (s : ByteArray) : Bool := decide (1 ≤ s.size) && (s.extract 0 1).toList == [47]
theorem hasPrefix_f (s : ByteArray) : strings_HasPrefix.f s ⟨#[47]⟩ = some (slashed s) := by
  unfold strings_HasPrefix.f stringslite_HasPrefix.f slashed
  have e : (⟨#[47]⟩ : ByteArray).size = 1 := rfl
  have e2 : (⟨#[47]⟩ : ByteArray).toList = [47] := by rw [Lib.toList_data]
  rw [e, e2]
  by_cases h : 1 ≤ s.size
  · rw [if_pos (by omega), if_pos (by omega), if_pos (by omega), decide_eq_true h, Bool.true_and]; rfl
  · rw [if_neg (by omega), decide_eq_false h, Bool.false_and]; rfl
theorem drawn_below {w w' : World} (h : Drawn0 w w') : Below w.heap.size w w' := by
  obtain ⟨m, rfl⟩ := h
  exact pw_below_drewN (Below.refl _ _) m
theorem index_s (l : List ByteArray) (x : ByteArray) (hl : l.length ≤ 9223372036854775806) : ∀ (j k i : Nat), l.length ≤ i + j → i ≤ l.length →
    ∃ r : Int, slices_Index_string_string.l0 (k + 1 + j) l x (l.length : Int) (i : Int) = some r ∧ decide (r ≥ 0) = (l.drop i).any fun n => x.toList == n.toList
  | 0, k, i, h1, h2 => by
    have : i = l.length := by omega
    subst this
    refine ⟨-1, ?_, by rw [List.drop_length]; rfl⟩
    rw [slices_Index_string_string.l0, if_neg (by omega)]
  | j + 1, k, i, h1, h2 => by
    by_cases hi : i = l.length
    · subst hi
      refine ⟨-1, ?_, by rw [List.drop_length]; rfl⟩
      rw [show k + 1 + (j + 1) = (k + 1 + j) + 1 by omega, slices_Index_string_string.l0, if_neg (by omega)]
    · have hlt : i < l.length := by omega
      have hr : rdOf ByteArray.empty l (i : Int) = l[i] := by unfold rdOf; simp [hlt]
      rw [List.drop_eq_getElem_cons hlt, List.any_cons, show k + 1 + (j + 1) = (k + 1 + j) + 1 by omega, slices_Index_string_string.l0, if_pos (by omega), if_pos (by omega), if_pos (by omega), hr]
      by_cases hx : x.toList = l[i].toList
      · rw [if_pos hx]
        exact ⟨(i : Int), rfl, by rw [beq_iff_eq.2 hx, Bool.true_or]; simp⟩
      · rw [if_neg hx, beq_eq_false_iff_ne.2 hx, Bool.false_or, show wrap64 ((i : Int) + 1) = ((i + 1 : Nat) : Int) from (IntWalk.wrap64_in _ ⟨by omega, by omega⟩).trans (by omega)]
        exact index_s l x hl j k (i + 1) (by omega) (by omega)
theorem contains_f (l : List ByteArray) (x : ByteArray) (hl : l.length ≤ 9223372036854775806) : slices_Contains_string_string.f (l.length + 1) l x = some (l.any fun n => x.toList == n.toList) := by
  obtain ⟨r, h1, h2⟩ := index_s l x hl l.length 0 0 (by omega) (Nat.zero_le _)
  unfold slices_Contains_string_string.f slices_Index_string_string.f
  rw [show l.length + 1 = 0 + 1 + l.length by omega, show (0 : Int) = ((0 : Nat) : Int) from rfl, h1]
  show some (decide (r ≥ 0)) = _
  rw [h2, List.drop_zero]
def splitR (p : ByteArray) : List ByteArray × Int :=
  if 256 < p.size then ([], 30) else if slashed p = false then ([], 30) else if p.toList = [47] then ([], 0) else
  if ((cutR (p.extract 1 p.size)).any fun n => (⟨#[]⟩ : ByteArray).toList == n.toList) = true then ([], 30) else
  if ((cutR (p.extract 1 p.size)).all fun n => valid n.data.toList) = true then (cutR (p.extract 1 p.size), 0) else ([], 31)
theorem cutL_len (s : ByteArray) : ∀ (f pos fr : Nat), s.size < pos + f → (cutL s f pos fr).length ≤ s.size + 1 - pos + 1
  | 0, pos, fr, h => by simp [cutL]
  | f + 1, pos, fr, h => by
    rw [cutL]
    split
    · next hp =>
      have hk := decL_pos (s.data.toList.drop pos)
      split
      · have := cutL_len s f (pos + (decL (s.data.toList.drop pos)).2) (pos + 1) (by omega)
        simp only [List.length_cons]; omega
      · have := cutL_len s f (pos + (decL (s.data.toList.drop pos)).2) fr (by omega)
        omega
    · simp
theorem cutR_len (s : ByteArray) : (cutR s).length ≤ s.size + 2 := by
  have := cutL_len s (s.size + 1) 0 0 (by omega)
  unfold cutR; omega
theorem cutL_sizes (s : ByteArray) : ∀ (f pos fr : Nat), ∀ n ∈ cutL s f pos fr, n.size ≤ s.size
  | 0, pos, fr, n, h => by simp [cutL] at h
  | f + 1, pos, fr, n, h => by
    have hx : ∀ i j, (s.extract i j).size ≤ s.size := fun i j => by rw [ByteArray.size_extract]; omega
    rw [cutL] at h
    split at h
    · split at h
      · rcases List.mem_cons.1 h with rfl | h
        · exact hx _ _
        · exact cutL_sizes s f _ _ n h
      · exact cutL_sizes s f _ _ n h
    · rw [List.mem_singleton.1 h]; exact hx _ _
theorem cutR_sizes (s : ByteArray) : ∀ n ∈ cutR s, n.size ≤ s.size := cutL_sizes s _ _ _
theorem splitR_good {p : ByteArray} (h : (splitR p).2 = 0) : (splitR p).1.length ≤ 300 ∧ ∀ n ∈ (splitR p).1, valid n.data.toList = true := by
  revert h
  unfold splitR
  repeat' split
  all_goals intro h
  all_goals first | cases h | skip
  · exact ⟨by decide, fun n hn => by cases hn⟩
  · next h1 _ _ _ h5 =>
    refine ⟨?_, fun n hn => List.all_eq_true.1 h5 n hn⟩
    have h2 := cutR_len (p.extract 1 p.size)
    have h3 : (p.extract 1 p.size).size ≤ p.size := by rw [ByteArray.size_extract]; omega
    show (cutR _).length ≤ 300
    omega
theorem splitR_err {p : ByteArray} (h : (splitR p).2 ≠ 0) : (splitR p).1 = [] := by
  revert h
  unfold splitR
  repeat' split
  all_goals intro h
  all_goals first | rfl | exact absurd rfl h
theorem nilS (w : World) : St w none [] := ⟨rfl, by decide, fun h => absurd h (by decide)⟩
theorem split_any (p : ByteArray) (w : World) (hT : Lib.Utf8Tabs 2 3 w) :
    Calls Tryd.prog 52 #[.string p] w fun e w' => ∃ A c, e = .returned (.tuple #[.slice A (splitR p).1.length c, .int .i64 (splitR p).2]) ∧ St w' A (splitR p).1 ∧ (splitR p).1.length ≤ c ∧ Below w.heap.size w w' := by
  have HT := Aside0.mk hT
  clear hT
  obtain ⟨F, hF⟩ : ∃ F, splitR p = F := ⟨_, rfl⟩
  rw [hF]
  unfold splitR at hF
  by_cases h1 : 256 < p.size
  · rw [if_pos h1] at hF
    subst hF
    have c1 : decide ((256 : Int) < (p.size : Int)) = true := decide_eq_true (by omega)
    clear h1
    go_enter Tryd.func52, Tryd.ntmps52
    go_wp2
    go_ret2
    exact ⟨none, 0, rfl, nilS _, Nat.le_refl _, Below.refl _ _⟩
  · rw [if_neg h1] at hF
    have c1 : decide ((256 : Int) < (p.size : Int)) = false := decide_eq_false (by omega)
    have HPR := Aside0.mk (strings_HasPrefix.calls p ⟨#[47]⟩ (slashed p) w (hasPrefix_f p))
    have H1 := Aside0.mk h1
    clear h1
    cases hs : slashed p with
    | false =>
      rw [if_pos hs] at hF
      subst hF
      rw [hs] at HPR
      clear hs
      go_enter Tryd.func52, Tryd.ntmps52
      go_wp2_with (go_at_call 65; refine Calls.mono HPR.out ?_; rintro e w1 ⟨rfl, hb⟩; have HB1 := Aside0.mk (drawn_below hb); clear hb)
      go_ret2
      exact ⟨none, 0, rfl, nilS _, Nat.le_refl _, HB1.out⟩
    | true =>
      rw [if_neg (by rw [hs]; decide)] at hF
      rw [hs] at HPR
      have p1 : (1 : Int) ≤ (p.size : Int) := by
        unfold slashed at hs
        rw [Bool.and_eq_true] at hs
        have := of_decide_eq_true hs.1
        omega
      clear hs
      by_cases h2 : p.toList = [47]
      · rw [if_pos h2] at hF
        subst hF
        have c2 : (p.toList == [47]) = true := by rw [h2]; rfl
        clear h2
        go_enter Tryd.func52, Tryd.ntmps52
        go_wp2_with (go_at_call 65; refine Calls.mono HPR.out ?_; rintro e w1 ⟨rfl, hb⟩; have HB1 := Aside0.mk (drawn_below hb); clear hb)
        go_ret2
        exact ⟨none, 0, rfl, nilS _, Nat.le_refl _, HB1.out⟩
      · rw [if_neg h2] at hF
        have c2 : (p.toList == [47]) = false := beq_eq_false_iff_ne.2 h2
        clear h2
        obtain ⟨s, hs⟩ : ∃ s, p.extract 1 p.size = s := ⟨_, rfl⟩
        rw [hs] at hF
        have HS := Aside0.mk (show s.size ≤ 17592186044 by rw [← hs, ByteArray.size_extract]; have := H1.out; omega)
        have HCL := Aside0.mk (show (cutR s).length ≤ 9223372036854775806 by have := cutR_len s; have := HS.out; omega)
        obtain ⟨L, hL⟩ : ∃ L, cutR s = L := ⟨_, rfl⟩
        rw [hL] at hF HCL
        have HLL := Aside0.mk hL
        clear hL
        obtain ⟨B, hB⟩ : ∃ B, (L.any fun n => (⟨#[]⟩ : ByteArray).toList == n.toList) = B := ⟨_, rfl⟩
        have HCO := Aside0.mk (show slices_Contains_string_string.f (L.length + 1) L ⟨#[]⟩ = some B by rw [contains_f L _ HCL.out, hB])
        rw [hB] at hF
        clear hB
        cases B with
        | true =>
          rw [if_pos rfl] at hF
          subst hF
          go_enter Tryd.func52, Tryd.ntmps52
          go_wp2_with (first
            | (have hz := HR2.out; clear hz; go_at_call 67; refine Calls.mono (slices_Contains_string_string.calls (L.length + 1) A2 c2' L ⟨#[]⟩ true w2 HR2.out HC2.out HCO.out) ?_; rintro e w3 ⟨rfl, hb⟩; have HB3 := Aside0.mk (below_step HB2.out (drawn_below hb)); clear hb)
            | (have hz := HB1.out; clear hz; go_at_call 66; refine Calls.mono (cut_any s w1 HS.out) ?_; rw [HLL.out]; rintro e w2 ⟨v, rfl, hr, hb⟩; obtain ⟨A2, c2', rfl, hc, hr⟩ := Kd.R_reads hr; have HR2 := Aside0.mk hr; have HC2 := Aside0.mk hc; have HB2 := Aside0.mk (below_step HB1.out hb); clear hb hr hc)
            | (go_at_call 65; refine Calls.mono HPR.out ?_; rintro e w1 ⟨rfl, hb⟩; have HB1 := Aside0.mk (drawn_below hb); clear hb))
          go_ret2
          exact ⟨none, 0, rfl, nilS _, Nat.le_refl _, HB3.out⟩
        | false =>
          rw [if_neg (by decide)] at hF
          have HF := Aside0.mk hF
          clear hF
          have HL3 := Aside0.mk (show L.length ≤ 300 by
            have h2 := cutR_len s
            have h3 : s.size ≤ p.size := by rw [← hs, ByteArray.size_extract]; omega
            have h4 := H1.out
            rw [HLL.out] at h2; omega)
          have HSZ := Aside0.mk (show ∀ n ∈ L, n.size ≤ 17592186044 by
            rw [← HLL.out]
            intro n hn
            have := cutR_sizes s n hn
            have := HS.out
            omega)
          go_enter Tryd.func52, Tryd.ntmps52
          go_wp2_with (first
            | (have hz := HR2.out; clear hz; go_at_call 67; refine Calls.mono (slices_Contains_string_string.calls (L.length + 1) A2 c2' L ⟨#[]⟩ false w2 HR2.out HC2.out HCO.out) ?_; rintro e w3 ⟨rfl, hb⟩; have HB3 := Aside0.mk (below_step HB2.out (drawn_below hb)); have HR3 := Aside0.mk (Kd.C_below HR2.out (drawn_below hb)); clear hb)
            | (have hz := HB1.out; clear hz; go_at_call 66; refine Calls.mono (cut_any s w1 HS.out) ?_; rw [HLL.out]; rintro e w2 ⟨v, rfl, hr, hb⟩; obtain ⟨A2, c2', rfl, hc, hr⟩ := Kd.R_reads hr; have HR2 := Aside0.mk hr; have HC2 := Aside0.mk hc; have HB2 := Aside0.mk (below_step HB1.out hb); clear hb hr hc)
            | (go_at_call 65; refine Calls.mono HPR.out ?_; rintro e w1 ⟨rfl, hb⟩; have HB1 := Aside0.mk (drawn_below hb); clear hb))
          have hl3 := HL3.out
          go_loopw [24] (fun v24 wr => ∃ k : Nat, v24 = .int .i64 k ∧ Aside0 (k ≤ L.length) ∧ Aside0 (∀ n ∈ L.take k, valid n.data.toList = true) ∧ Aside0 (Below w3.heap.size w3 wr)) (fun v24 _ => L.length - (intOf v24).toNat)
          case atStart => exact ⟨0, rfl, ⟨Nat.zero_le _⟩, ⟨fun n hn => by simp at hn⟩, ⟨Below.refl _ _⟩⟩
          case round =>
            obtain ⟨k, rfl, HK, HV, HB⟩ := hrel
            by_cases hk : k < L.length
            · have k0 : (0 : Int) ≤ (k : Int) := Int.natCast_nonneg _
              have k1 : (k : Int) < (L.length : Int) := by omega
              obtain ⟨ad, rfl, hc1⟩ := Kd.at_string (Kd.C_below HR3.out HB.out) (k : Int) k0 k1
              obtain ⟨nm, hnm⟩ : ∃ nm, rdOf ByteArray.empty L (k : Int) = nm := ⟨_, rfl⟩
              have hget : L[k] = nm := by rw [← hnm]; unfold rdOf; simp [hk]
              rw [hnm, Int.toNat_natCast] at hc1
              have HNS := Aside0.mk (show nm.size ≤ 9223372036854775807 by have := HSZ.out nm (by rw [← hget]; exact List.getElem_mem hk); omega)
              have HT1 := Aside0.mk (Utf8Tabs_below (Utf8Tabs_below HT.out HB3.out) HB.out)
              have HKL := Aside0.mk hk
              have HGE := Aside0.mk (show L[k]? = some nm by rw [List.getElem?_eq_getElem hk, hget])
              clear hnm hget hk
              cases hv : valid nm.data.toList with
              | true =>
                have HVN := Aside0.mk hv
                clear hv
                go_wp2_with (go_at_call 68; refine Calls.mono (valid_any nm _ HNS.out HT1.out) ?_; rw [HVN.out]; rintro e w4 ⟨rfl, hb⟩; have HB4 := Aside0.mk (below_step HB.out hb); clear hb)
                go_roundw
                case rel =>
                  have hk := HKL.out
                  refine ⟨k + 1, ?_, ⟨hk⟩, ⟨?_⟩, HB4⟩
                  · first | rfl | (simp; done) | (congr 1; omega)
                  · intro n hn
                    rw [List.take_add_one, HGE.out, List.mem_append] at hn
                    rcases hn with hn | hn
                    · exact HV.out n hn
                    · have : n = nm := by simpa using hn
                      rw [this]; exact HVN.out
                case measure => have hk := HKL.out; simp [intOf]; omega
              | false =>
                have HVN := Aside0.mk hv
                clear hv
                have HF2 := Aside0.mk (show F = ([], 31) by
                  rw [← HF.out, if_neg]
                  intro ha
                  have := List.all_eq_true.1 ha nm (List.mem_of_getElem? HGE.out)
                  rw [HVN.out] at this; cases this)
                go_wp2_with (go_at_call 68; refine Calls.mono (valid_any nm _ HNS.out HT1.out) ?_; rw [HVN.out]; rintro e w4 ⟨rfl, hb⟩; have HB4 := Aside0.mk (below_step HB.out hb); clear hb)
                go_ret2
                rw [HF2.out]
                exact ⟨none, 0, rfl, nilS _, Nat.le_refl _, below_step HB3.out HB4.out⟩
            · have k1 : ¬ (k : Int) < (L.length : Int) := by omega
              have HF2 := Aside0.mk (show F = (L, 0) by
                rw [← HF.out, if_pos]
                refine List.all_eq_true.2 (fun n hn => HV.out n ?_)
                rw [List.take_of_length_le (by omega)]; exact hn)
              clear hk
              go_wp2
              go_ret2
              rw [HF2.out]
              exact ⟨A2, c2', rfl, Kd.C_below HR3.out HB.out, HC2.out, below_step HB3.out HB.out⟩
end Go.Proofs.YtcmcmkfoihlniaaDoor.MM
end

section
namespace Go.Proofs.YtcmcmkfoihlniaaDoor.MM
open Go Go.RowKit Go.Maps Go.Proofs.YtcmcmkfoihlniaaDoorX Go.Proofs.YtcmcmkfoihlniaaDoor.NM Go.Proofs.YtcmcmkfoihlniaaDoor.EN Go.Proofs.YtcmcmkfoihlniaaDoorW.PrintWords Go.Proofs.YtcmcmkfoihlniaaDoorW.PrintLast Go.Proofs.YtcmcmkfoihlniaaDoorW.PrintMore Go.Proofs.YtcmcmkfoihlniaaDoor.PModelUndoes
set_option linter.unusedVariables false
set_option linter.unusedSimpArgs false
set_option maxRecDepth 100000
set_option maxHeartbeats 1000000
theorem msplit_any {w : World} {pb mb : Nat} {q : Int} {T : Tree} (h : Mdl w pb mb q T) (p : ByteArray) (hT : Lib.Utf8Tabs 2 3 w) :
    Calls Tryd.prog 23 #[mp pb, .string p] w fun e w' => ∃ A c, e = .returned (.tuple #[.slice A (splitR p).1.length c, .int .i64 (splitR p).2]) ∧ St w' A (splitR p).1 ∧ (splitR p).1.length ≤ c ∧ Below w.heap.size w w' := by
  have HN := Aside0.mk (none_any h)
  have HT := Aside0.mk hT
  obtain ⟨F, hF⟩ : ∃ F, Aside0 (splitR p = F) := ⟨_, ⟨rfl⟩⟩
  rw [hF.out]
  clear h hT
  go_enter Tryd.func23, Tryd.ntmps23
  go_wp2_with (first
    | (have hz := HB1.out; clear hz; go_at_call 52; refine Calls.mono (split_any p w1 (Utf8Tabs_below HT.out HB1.out)) ?_; rw [hF.out]; rintro e w2 ⟨A, c, rfl, hs, hc, hb⟩; have HS := Aside0.mk hs; have HC := Aside0.mk hc; have HB2 := Aside0.mk (below_step HB1.out hb); clear hb hs hc)
    | (go_at_call 28; refine Calls.mono HN.out ?_; rintro e w1 ⟨rfl, hb⟩; have HB1 := Aside0.mk hb; clear hb))
  go_ret2
  exact ⟨A, c, rfl, HS.out, HC.out, HB2.out⟩
def lastI (l : List Int) : Int := rd l ((l.length : Int) - 1)
def findR (T : Tree) (l : List ByteArray) : Int × Int := if (wayR T 1 l).2 = 0 then (lastI (wayR T 1 l).1, 0) else (0, (wayR T 1 l).2)
theorem wayR_ne {T : Tree} : ∀ {l : List ByteArray} {a : Int}, (wayR T a l).2 = 0 → (wayR T a l).1.length = l.length + 1
  | [], a, h => rfl
  | n :: l, a, h => by
    rw [wayR] at h ⊢
    split at h
    · next h1 =>
      split at h
      · next h2 =>
        rw [if_pos h1, if_pos h2]
        simp only [List.length_cons, wayR_ne h2]
      · next h2 => exact absurd h h2
    · next h1 => exact absurd h h1
theorem find_in {w : World} {pb mb : Nat} {q : Int} {T : Tree} (h : Mdl w pb mb q T) (hO : Ok T) (A : Option Addr) (c : Nat) (l : List ByteArray) (hl : St w A l) (hc : l.length ≤ c) (hn : ∀ n ∈ l, n.size ≤ 1048576) (hlen : l.length ≤ 1048576) :
    Calls Tryd.prog 24 #[mp pb, .slice A l.length c] w fun e w' => e = .returned (.tuple #[.int .i64 (findR T l).1, .int .i64 (findR T l).2]) ∧ Below w.heap.size w w' := by
  have HW := way_any h hO A c l hl hc hn hlen
  obtain ⟨F, hF⟩ : ∃ F, findR T l = F := ⟨_, rfl⟩
  rw [hF]
  unfold findR at hF
  have hne := @wayR_ne T l 1
  obtain ⟨y, hy⟩ : ∃ y, (wayR T 1 l).2 = y := ⟨_, rfl⟩
  obtain ⟨G, hG⟩ : ∃ G, (wayR T 1 l).1 = G := ⟨_, rfl⟩
  rw [hy, hG] at HW hF hne
  have HW := Aside0.mk HW
  clear h hO hl hc hn hy hG
  by_cases h0 : y = 0
  · subst h0
    have HG := Aside0.mk (show G.length = l.length + 1 from hne rfl)
    rw [if_pos rfl] at hF
    obtain ⟨z, hz⟩ : ∃ z, lastI G = z := ⟨_, rfl⟩
    rw [hz] at hF
    subst hF
    obtain ⟨J, hJ⟩ : ∃ J : Nat, (G.length : Int) - 1 = (J : Int) := ⟨l.length, by have := HG.out; omega⟩
    have hgl : G.length ≤ 1048577 := by have := HG.out; omega
    have g0 : (0 : Int) ≤ (J : Int) := Int.natCast_nonneg _
    have g1 : (J : Int) < (G.length : Int) := by omega
    unfold lastI at hz
    rw [hJ] at hz
    have HZ := Aside0.mk hz
    clear hz hne
    go_enter Tryd.func24, Tryd.ntmps24
    go_wp2_with (go_at_call 31; refine Calls.mono HW.out ?_; rintro e w1 ⟨A1, c1, rfl, hr, hc1, hb⟩; have HB1 := Aside0.mk hb; obtain ⟨ad, rfl, hx⟩ := Kd.at_int hr (J : Int) g0 g1; rw [HZ.out, Int.toNat_natCast] at hx; clear hb hr hc1)
    go_ret2
    exact ⟨rfl, HB1.out⟩
  · rw [if_neg h0] at hF
    subst hF
    have y1 : (y == 0) = false := beq_eq_false_iff_ne.2 h0
    have y2 : (y != 0) = true := by simp [h0]
    clear h0 hne
    go_enter Tryd.func24, Tryd.ntmps24
    go_wp2_with (go_at_call 31; refine Calls.mono HW.out ?_; rintro e w1 ⟨A1, c1, rfl, hr, hc1, hb⟩; have HB1 := Aside0.mk hb; clear hb hr hc1)
    go_ret2
    exact ⟨rfl, HB1.out⟩
end Go.Proofs.YtcmcmkfoihlniaaDoor.MM
end

section
namespace Go.Proofs.YtcmcmkfoihlniaaDoor.MM
open Go Go.RowKit Go.Maps Go.Proofs.YtcmcmkfoihlniaaDoorX Go.Proofs.YtcmcmkfoihlniaaDoor.NM Go.Proofs.YtcmcmkfoihlniaaDoor.EN Go.Proofs.YtcmcmkfoihlniaaDoorW.PrintWords Go.Proofs.YtcmcmkfoihlniaaDoorW.PrintLast Go.Proofs.YtcmcmkfoihlniaaDoorW.PrintMore Go.Proofs.YtcmcmkfoihlniaaDoor.PModelUndoes
set_option linter.unusedVariables false
set_option linter.unusedSimpArgs false
set_option maxRecDepth 100000
set_option maxHeartbeats 1000000
theorem wayR_in {T : Tree} (hO : Ok T) : ∀ {l : List ByteArray} {a : Int}, inR a → ∀ x ∈ (wayR T a l).1, inR x
  | [], a, ha, x, hx => by
    have : x = a := by simpa [wayR] using hx
    rw [this]; exact ha
  | n :: l, a, ha, x, hx => by
    rw [wayR] at hx
    split at hx
    · next h1 =>
      split at hx
      · rcases List.mem_cons.1 hx with rfl | hx
        · exact ha
        · exact wayR_in hO (inR_of (step_in hO h1)) x hx
      · cases hx
    · cases hx
theorem lastI_get {G : List Int} {J : Nat} (h : G.length = J + 1) : lastI G = rd G (J : Int) := by unfold lastI; rw [h]; congr 1; omega
theorem lastI_mem {G : List Int} (h : G ≠ []) : lastI G ∈ G := by
  have h1 : 0 < G.length := List.length_pos_iff.2 h
  obtain ⟨J, hJ⟩ : ∃ J, G.length = J + 1 := ⟨G.length - 1, by omega⟩
  rw [lastI_get hJ]
  unfold rd
  rw [Int.toNat_natCast, List.getD_eq_getElem?_getD, List.getElem?_eq_getElem (by omega)]
  exact List.getElem_mem _
theorem St_take {w : World} {A : Option Addr} {l : List ByteArray} (h : St w A l) (n : Nat) : St w A (l.take n) := by
  refine ⟨rfl, Nat.le_trans (by rw [List.length_take]; omega) h.2.1, fun h0 => ?_⟩
  obtain ⟨ad, e, hc⟩ := h.2.2 (by rw [List.length_take] at h0; omega)
  refine ⟨ad, e, fun j p hj => hc j p ?_⟩
  rw [List.getElem?_take] at hj
  split at hj
  · exact hj
  · cases hj
def upR (T : Tree) (l : List ByteArray) : List Int × Int := if (wayR T 1 l.dropLast).2 = 0 then ((wayR T 1 l.dropLast).1, (dirR (T (lastI (wayR T 1 l.dropLast).1))).2) else ([], (wayR T 1 l.dropLast).2)
theorem up_any {w : World} {pb mb : Nat} {q : Int} {T : Tree} (h : Mdl w pb mb q T) (hO : Ok T) (A : Option Addr) (c : Nat) (l : List ByteArray) (hl : St w A l) (hc : l.length ≤ c) (hn : ∀ n ∈ l, n.size ≤ 1048576) (hlen : l.length ≤ 1048576) (h0 : 0 < l.length) :
    Calls Tryd.prog 40 #[mp pb, .slice A l.length c] w fun e w' => ∃ A' c', e = .returned (.tuple #[.slice A' (upR T l).1.length c', .int .i64 (upR T l).2]) ∧ Kd.C (Kd.int .i64) w' A' (upR T l).1.length (upR T l).1 ∧ (upR T l).1.length ≤ c' ∧ Below w.heap.size w w' := by
  obtain ⟨J, hJ⟩ : ∃ J, l.length = J + 1 := ⟨l.length - 1, by omega⟩
  have hd : l.dropLast = l.take J := by rw [List.dropLast_eq_take, hJ]; rfl
  obtain ⟨l2, hl2⟩ : ∃ l2, l.take J = l2 := ⟨_, rfl⟩
  have hlen2 : l2.length = J := by rw [← hl2, List.length_take]; omega
  have HW := way_any h hO A c l2 (hl2 ▸ St_take hl J) (by omega) (fun n hn' => hn n (by rw [← hl2] at hn'; exact List.mem_of_mem_take hn')) (by omega)
  have hin := @wayR_in T hO l2 1 ⟨by decide, by decide⟩
  have hne := @wayR_ne T l2 1
  have herr := @wayR_err T l2 1
  obtain ⟨F, hF⟩ : ∃ F, upR T l = F := ⟨_, rfl⟩
  rw [hF]
  unfold upR at hF
  rw [hd, hl2] at hF
  obtain ⟨y, hy⟩ : ∃ y, (wayR T 1 l2).2 = y := ⟨_, rfl⟩
  obtain ⟨G, hG⟩ : ∃ G, (wayR T 1 l2).1 = G := ⟨_, rfl⟩
  rw [hy, hG] at HW hF hne herr
  rw [hG] at hin
  rw [hlen2] at HW hne
  have HW := Aside0.mk HW
  have HM := Aside0.mk h
  have j0 : (0 : Int) ≤ (J : Int) := Int.natCast_nonneg _
  have j1 : (l.length : Int) - 1 = (J : Int) := by omega
  have j2 : (J : Int) ≤ (c : Int) := by omega
  clear h hO hl hn hy hG hd hl2 hJ h0
  by_cases h0 : y = 0
  · subst h0
    have hg := hne rfl
    rw [if_pos rfl] at hF
    have hzi : inR (lastI G) := hin _ (lastI_mem (fun e => by rw [e] at hg; cases hg))
    have hlz := lastI_get hg
    obtain ⟨z, hz⟩ : ∃ z, lastI G = z := ⟨_, rfl⟩
    rw [hz] at hF hzi hlz
    have HZI := Aside0.mk hzi
    have HLZ := Aside0.mk hlz
    have g1 : (J : Int) < (G.length : Int) := by omega
    have hgl : G.length ≤ 1048577 := by omega
    have g2 : (G.length : Int) - 1 = (J : Int) := by omega
    obtain ⟨D, hD⟩ : ∃ D, (dirR (T z)).2 = D := ⟨_, rfl⟩
    rw [hD] at hF
    have HD := Aside0.mk hD
    have HF := Aside0.mk hF
    clear hz hlz hzi hin hne hlen2 hlen hg hD hF herr
    go_enter Tryd.func40, Tryd.ntmps40
    go_wp2_with (first
      | (have hz := HR1.out; clear hz; go_at_call 38; refine Calls.mono (dir_any (HM.out.below HB1.out) HZI.out) ?_; rw [HD.out]; rintro e w2 ⟨A2, c2, rfl, _, _, hb⟩; have HB2 := Aside0.mk (below_step HB1.out hb); have HR2 := Aside0.mk (Kd.C_below HR1.out hb); clear hb)
      | (go_at_call 31; refine Calls.mono HW.out ?_; rintro e w1 ⟨A1, c1, rfl, hr, hc1, hb⟩; have HB1 := Aside0.mk hb; have HR1 := Aside0.mk hr; have HC1 := Aside0.mk hc1; obtain ⟨ad, rfl, hx⟩ := Kd.at_int hr (J : Int) j0 g1; rw [← HLZ.out, Int.toNat_natCast] at hx; clear hb hr hc1))
    go_ret2
    rw [← HF.out]
    exact ⟨some ad, c1, rfl, HR2.out, HC1.out, HB2.out⟩
  · rw [if_neg h0] at hF
    have HF := Aside0.mk hF
    have y1 : (y == 0) = false := beq_eq_false_iff_ne.2 h0
    have y2 : (y != 0) = true := by simp [h0]
    have HC0 := Aside0.mk (herr h0)
    clear h0 hne hF hin herr
    go_enter Tryd.func40, Tryd.ntmps40
    go_wp2_with (go_at_call 31; refine Calls.mono HW.out ?_; rintro e w1 ⟨A1, c1, rfl, hr, hc1, hb⟩; have HB1 := Aside0.mk hb; rw [HC0.out] at hr hc1 ⊢; have HR1 := Aside0.mk hr; clear hb hr hc1)
    go_ret2
    rw [← HF.out]
    exact ⟨A1, c1, rfl, HR1.out, Nat.zero_le _, HB1.out⟩
theorem both_any {w : World} {pb mb : Nat} {q : Int} {T : Tree} (h : Mdl w pb mb q T) (p s : ByteArray) (hT : Lib.Utf8Tabs 2 3 w) :
    Calls Tryd.prog 39 #[mp pb, .string p, .string s] w fun e w' => ∃ A c A' c', e = .returned (.tuple #[.slice A (splitR p).1.length c, .slice A' (if (splitR p).2 = 0 then (splitR s).1 else []).length c', .int .i64 (if (splitR p).2 = 0 then (splitR s).2 else (splitR p).2)]) ∧
      St w' A (splitR p).1 ∧ (splitR p).1.length ≤ c ∧ St w' A' (if (splitR p).2 = 0 then (splitR s).1 else []) ∧ (if (splitR p).2 = 0 then (splitR s).1 else []).length ≤ c' ∧ Below w.heap.size w w' := by
  have HM := Aside0.mk h
  have HP := Aside0.mk (msplit_any h p hT)
  have HT := Aside0.mk hT
  have hpe := @splitR_err p
  obtain ⟨y, hy⟩ : ∃ y, (splitR p).2 = y := ⟨_, rfl⟩
  obtain ⟨G, hG⟩ : ∃ G, (splitR p).1 = G := ⟨_, rfl⟩
  rw [hy, hG] at HP hpe ⊢
  clear h hT hy hG
  by_cases h0 : y = 0
  · subst h0
    simp only [if_true]
    obtain ⟨F, hF⟩ : ∃ F, Aside0 (splitR s = F) := ⟨_, ⟨rfl⟩⟩
    rw [hF.out]
    clear hpe
    go_enter Tryd.func39, Tryd.ntmps39
    go_wp2_with (first
      | (have hz := HS1.out; clear hz; go_at_call 23; refine Calls.mono (msplit_any (HM.out.below HB1.out) s (Utf8Tabs_below HT.out HB1.out)) ?_; rw [hF.out]; rintro e w2 ⟨A2, c2, rfl, hs, hc, hb⟩; have HS2 := Aside0.mk hs; have HC2 := Aside0.mk hc; have HB2 := Aside0.mk (below_step HB1.out hb); have HS3 := Aside0.mk (Kd.C_below HS1.out hb); clear hb hs hc)
      | (go_at_call 23; refine Calls.mono HP.out ?_; rintro e w1 ⟨A1, c1, rfl, hs, hc, hb⟩; have HS1 := Aside0.mk hs; have HC1 := Aside0.mk hc; have HB1 := Aside0.mk hb; clear hb hs hc))
    go_ret3
    exact ⟨A1, c1, A2, c2, rfl, HS3.out, HC1.out, HS2.out, HC2.out, HB2.out⟩
  · obtain rfl := hpe h0
    simp only [if_neg h0]
    have y1 : (y == 0) = false := beq_eq_false_iff_ne.2 h0
    have y2 : (y != 0) = true := by simp [h0]
    clear h0 hpe
    go_enter Tryd.func39, Tryd.ntmps39
    go_wp2_with (go_at_call 23; refine Calls.mono HP.out ?_; rintro e w1 ⟨A1, c1, rfl, hs, hc, hb⟩; have HS1 := Aside0.mk hs; have HC1 := Aside0.mk hc; have HB1 := Aside0.mk hb; clear hb hs hc)
    go_ret3
    exact ⟨none, 0, none, 0, rfl, nilS _, Nat.le_refl _, nilS _, Nat.le_refl _, HB1.out⟩
end Go.Proofs.YtcmcmkfoihlniaaDoor.MM
end

section
namespace Go.Proofs.YtcmcmkfoihlniaaDoor.MM
open Go Go.RowKit Go.Maps Go.Proofs.YtcmcmkfoihlniaaDoorX Go.Proofs.YtcmcmkfoihlniaaDoor.NM Go.Proofs.YtcmcmkfoihlniaaDoor.EN Go.Proofs.YtcmcmkfoihlniaaDoorW.PrintWords Go.Proofs.YtcmcmkfoihlniaaDoorW.PrintLast Go.Proofs.YtcmcmkfoihlniaaDoorW.PrintMore Go.Proofs.YtcmcmkfoihlniaaDoor.PModelUndoes
set_option linter.unusedVariables false
set_option linter.unusedSimpArgs false
set_option maxRecDepth 100000
set_option maxHeartbeats 1000000
abbrev Turn1 (mb : Nat) (w w' : World) : Prop := Turn (fun k => k = mb) w w'
theorem Turn1.of_store {mb : Nat} {w w1 w2 : World} (hb : Below w.heap.size w w1) (hg : w1.grownBy w2 (some mb)) : Turn1 mb w w2 :=
  (Turn.of_below hb : Turn1 mb w w1).trans (Turn.of_grown (S := fun k => k = mb) hg (fun k e => (Option.some.inj e).symm)) (fun _ _ e => e)
theorem Mdl.stored {w w' : World} {pb mb : Nat} {q : Int} {T T' : Tree} (h : Mdl w pb mb q T) (ht : Turn1 mb w w') (hM : MapT w' mb T') : Mdl w' pb mb q T' :=
  ⟨(ht.block pb h.lt h.ne).trans h.1, hM⟩
theorem own_holds {w : World} {base : Nat} {v : Value} {l : List S90} (ho : w.ownsRow base 90 2 v l.length (rowsE l)) (hz : ∀ x ∈ l, x.f1.size ≤ 1048576) : ∃ A c, v = .slice A l.length c ∧ Holds w (.iface 81 v) (some (.dir l)) := by
  obtain ⟨A, c, rfl⟩ := own_slice ho
  exact ⟨A, c, rfl, A, c, rfl, own_row ho (fun x hx => Nat.le_trans (hz x hx) (by decide)), own_le ho⟩
theorem drop_any {w : World} {pb mb : Nat} {q : Int} {T : Tree} (h : Mdl w pb mb q T) (hO : Ok T) {k : Int} {l : List S90} (hT : T k = some (.dir l)) (nm : ByteArray) (hn : nm.size ≤ 1048576) (hU : Lib.Utf8Tabs 2 3 w) :
    Calls Tryd.prog 33 #[mp pb, .int .i64 k, .string nm] w fun e w' => e = .returned (.tuple #[]) ∧ Mdl w' pb mb q (upd T k (some (.dir (remR l nm).1))) ∧ Turn1 mb w w' := by
  have hk := h.2.1 k (by rw [hT]; simp)
  have hm := hO.dirs k l hT
  have hz := may_sizes hm
  obtain ⟨v, hl, hv⟩ := h.2.look (inR_of hk)
  rw [hT] at hv
  obtain ⟨A, c, rfl, hr, hc⟩ := hv
  have HR := Aside0.mk (rem_all A c l w hr (by have := may_len hm; omega) (fun x hx => by have := hz x hx; omega) hU nm hn)
  have HZ := Aside0.mk (show ∀ x ∈ (remR l nm).1, x.f1.size ≤ 1048576 from fun x hx => by have := hz x (remR_mem hx); omega)
  obtain ⟨L, i, y, hL⟩ : ∃ L i y, remR l nm = (L, i, y) := ⟨_, _, _, rfl⟩
  rw [hL] at HR HZ ⊢
  simp only at HR HZ ⊢
  have HM := Aside0.mk h
  have HK := Aside0.mk hk
  have h1 := h.at_
  clear hT hm hz hr hc hL hn hO hk h
  go_enter Tryd.func33, Tryd.ntmps33
  go_wp2_with (go_at_call 57; refine Calls.mono HR.out ?_; rintro e w1 ⟨v, rfl, ho, hb⟩; have hM1 := HM.out.below hb; obtain ⟨A1, c1, rfl, hh⟩ := own_holds ho HZ.out; obtain ⟨w2, hrun, hM2, hg⟩ := hM1.2.store HK.out hh; have h2 := hM1.at_; have HT1 := Aside0.mk (Turn1.of_store hb hg); have HM2 := Aside0.mk hM2; clear hM1 hb ho hh hM2 hg)
  go_end0
  exact ⟨rfl, HM.out.stored HT1.out HM2.out, HT1.out⟩
end Go.Proofs.YtcmcmkfoihlniaaDoor.MM
end

section
namespace Go.Proofs.YtcmcmkfoihlniaaDoor.MM
open Go Go.RowKit Go.Maps Go.Proofs.YtcmcmkfoihlniaaDoorX Go.Proofs.YtcmcmkfoihlniaaDoor.NM Go.Proofs.YtcmcmkfoihlniaaDoor.EN Go.Proofs.YtcmcmkfoihlniaaDoorW.PrintWords Go.Proofs.YtcmcmkfoihlniaaDoorW.PrintLast Go.Proofs.YtcmcmkfoihlniaaDoorW.PrintMore Go.Proofs.YtcmcmkfoihlniaaDoor.PModelUndoes
set_option linter.unusedVariables false
set_option linter.unusedSimpArgs false
set_option maxRecDepth 100000
set_option maxHeartbeats 1000000
theorem add_any {w : World} {pb mb : Nat} {q : Int} {T : Tree} (h : Mdl w pb mb q T) (hO : Ok T) {k : Int} {l : List S90} (hT : T k = some (.dir l)) (a : Int) (s : ByteArray) (hn : s.size ≤ 1048576) (hU : Lib.Utf8Tabs 2 3 w) :
    Calls Tryd.prog 44 #[mp pb, .int .i64 k, .agg (cellsE a s)] w fun e w' => e = .returned (.tuple #[]) ∧ Mdl w' pb mb q (upd T k (some (.dir (insR l ⟨a, s⟩).1))) ∧ Turn1 mb w w' := by
  have hk := h.2.1 k (by rw [hT]; simp)
  have hm := hO.dirs k l hT
  have hz := may_sizes hm
  obtain ⟨W1, hW1⟩ : ∃ W1, W1 = w.alloc (.cells (cellsE a s) 90) := ⟨_, rfl⟩
  have HB1 := Aside0.mk (show Below w.heap.size w W1 by rw [hW1]; exact below_alloc (Below.refl _ _) _)
  have HBd := Aside0.mk (show Below w.heap.size w W1.drew from below_drew HB1.out)
  have hd := h.below HBd.out
  obtain ⟨v, hv, hl⟩ := hd.2.looks (inR_of hk)
  rw [hT] at hv
  obtain ⟨A, c, rfl, hr, hc⟩ := hv
  have HR := Aside0.mk (ins_all A c l W1.drew hr (by have := may_len hm; omega) (fun x hx => by have := hz x hx; omega) (Utf8Tabs_below hU HBd.out) a s hn)
  have HZ := Aside0.mk (show ∀ x ∈ (insR l ⟨a, s⟩).1, x.f1.size ≤ 1048576 from fun x hx => by
    rcases insR_mem hx with hx | rfl
    · have := hz x hx; omega
    · exact hn)
  have HG := Aside0.mk (show W1.heap[w.heap.size]? = some (.cells (cellsE a s) 90 (0, 0)) by rw [hW1]; exact heap_alloc_new w _)
  have C0 := Aside0.mk (show W1.cell? ⟨w.heap.size, 0, none⟩ = some (.int .i64 a) by simp [World.cell?, HG.out, cellsE])
  have C1 := Aside0.mk (show W1.cell? ⟨w.heap.size, 1, none⟩ = some (.string s) by simp [World.cell?, HG.out, cellsE])
  obtain ⟨L, y, hL⟩ : ∃ L y, insR l ⟨a, s⟩ = (L, y) := ⟨_, _, rfl⟩
  rw [hL] at HR HZ ⊢
  simp only at HR HZ ⊢
  have HM := Aside0.mk h
  have HK := Aside0.mk hk
  have HL := Aside0.mk (show ∀ W, Below W1.heap.size W1 W → (Instr.lookup 58 (.map (some mb)) (.int .i64 k) false).run Tryd.prog W = .ok (.iface 81 (.slice A l.length c)) W from fun W hS => hl W (hS.block mb (h.below HB1.out).2.lt))
  have P1 := Aside0.mk (h.below HB1.out).at_
  clear hT hm hz hr hc hL hn hO hk h hd hl
  go_enter Tryd.func44, Tryd.ntmps44
  go_wp2
  rw [← hW1]
  have HX := Aside0.mk hW1
  clear hW1
  refine wp_region_held_drew (S := fun W => Below W1.heap.size W1 W) (by kernel_rfl) (below_drew (Below.refl _ _)) (fun hHeld => ?_)
  refine wpAnyH_take (i := 0) (oi := ⟨some 9, _, _, _, _, _⟩) (v := (mp pb)) rfl (by kernel_rfl) (by kernel_rfl) (by kernel_rfl) (fun _ _ _ h => h) (Or.inl ⟨by rfl, fun W hS => by go_simp⟩) hHeld ?_
  (try simp only [Act.put, List.setIfInBounds_toArray, List.set_cons_zero, List.set_cons_succ])
  refine wpAnyH_take (i := 1) (oi := ⟨some 10, _, _, _, _, _⟩) (v := (mp pb)) rfl (by kernel_rfl) (by kernel_rfl) (by kernel_rfl) (fun _ _ _ h => h) (Or.inl ⟨by rfl, fun W hS => by go_simp⟩) hHeld ?_
  (try simp only [Act.put, List.setIfInBounds_toArray, List.set_cons_zero, List.set_cons_succ])
  refine wpAnyH_take (i := 2) (oi := ⟨some 11, _, _, _, _, _⟩) (v := (.pointer (some ⟨pb, 1, none⟩))) rfl (by kernel_rfl) (by kernel_rfl) (by kernel_rfl) (fun _ _ _ h => h) (Or.inl ⟨by rfl, fun W hS => by go_simp⟩) hHeld ?_
  (try simp only [Act.put, List.setIfInBounds_toArray, List.set_cons_zero, List.set_cons_succ])
  refine wpAnyH_take (i := 3) (oi := ⟨some 12, _, _, _, _, _⟩) (v := (.map (some mb))) rfl (by kernel_rfl) (by kernel_rfl) (by kernel_rfl) (fun _ _ _ h => h) (Or.inl ⟨by rfl, fun W hS => by have cc := pw_cell_below hS P1.out; go_simp⟩) hHeld ?_
  (try simp only [Act.put, List.setIfInBounds_toArray, List.set_cons_zero, List.set_cons_succ])
  refine wpAnyH_take (i := 4) (oi := ⟨some 13, _, _, _, _, _⟩) (v := (.int .i64 k)) rfl (by kernel_rfl) (by kernel_rfl) (by kernel_rfl) (fun _ _ _ h => h) (Or.inl ⟨by rfl, fun W hS => by go_simp⟩) hHeld ?_
  (try simp only [Act.put, List.setIfInBounds_toArray, List.set_cons_zero, List.set_cons_succ])
  refine wpAnyH_take (i := 5) (oi := ⟨some 14, _, _, _, _, _⟩) (v := (.iface 81 (.slice A l.length c))) rfl (by kernel_rfl) (by kernel_rfl) (by kernel_rfl) (fun _ _ _ h => h) (Or.inl ⟨by rfl, fun W hS => by have hl := HL.out W hS; go_simp⟩) hHeld ?_
  (try simp only [Act.put, List.setIfInBounds_toArray, List.set_cons_zero, List.set_cons_succ])
  refine wpAnyH_take (i := 6) (oi := ⟨some 15, _, _, _, _, _⟩) (v := (.slice A l.length c)) rfl (by kernel_rfl) (by kernel_rfl) (by kernel_rfl) (fun _ _ _ h => h) (Or.inl ⟨by rfl, fun W hS => by go_simp⟩) hHeld ?_
  (try simp only [Act.put, List.setIfInBounds_toArray, List.set_cons_zero, List.set_cons_succ])
  refine wpAnyH_take (i := 7) (oi := ⟨some 16, _, _, _, _, _⟩) (v := (.agg (cellsE a s))) rfl (by kernel_rfl) (by kernel_rfl) (by kernel_rfl) (fun _ _ _ h => h) (Or.inl ⟨by rfl, fun W hS => by have cc := pw_cell_below hS C0.out; have cd := pw_cell_below hS C1.out; go_simp; rfl⟩) hHeld ?_
  (try simp only [Act.put, List.setIfInBounds_toArray, List.set_cons_zero, List.set_cons_succ])
  refine wpAnyH_ready (rs := [8]) (by kernel_rfl) (by simp) ?_
  refine AllReadyH.cons rfl (fun K hK => ?_) AllReadyH.nil
  go_simp
  refine (HR.out).mono ?_
  rintro e w2 ⟨v, rfl, ho, hb⟩
  dsimp only
  refine hK.out _ _ (below_step hHeld hb) (fun hH => ?_)
  obtain ⟨A1, c1, rfl, hh⟩ := own_holds ho HZ.out
  have HM2 := Aside0.mk ((HM.out.below HBd.out).below hb)
  have P2 := HM2.out.at_
  obtain ⟨w3, hrun, hM3, hg⟩ := HM2.out.2.store HK.out hh
  have HT3 := Aside0.mk (Turn1.of_store (below_step HBd.out hb) hg)
  have HM3 := Aside0.mk hM3
  clear ho hh hM3 hg
  clear hK K hHeld hb
  have hHeld := hH
  clear hH
  (try simp only [Act.put, List.setIfInBounds_toArray, List.set_cons_zero, List.set_cons_succ])
  refine wpAnyH_take (i := 9) (oi := ⟨some 8, _, _, _, _, _⟩) (v := (.tuple #[.slice A1 L.length c1, .int .i64 y])) rfl (by kernel_rfl) (by kernel_rfl) (by kernel_rfl) (fun _ _ _ h => h) (Or.inl ⟨by rfl, fun W hS => by go_simp⟩) hHeld ?_
  (try simp only [Act.put, List.setIfInBounds_toArray, List.set_cons_zero, List.set_cons_succ])
  refine wpAnyH_take (i := 10) (oi := ⟨some 18, _, _, _, _, _⟩) (v := (.slice A1 L.length c1)) rfl (by kernel_rfl) (by kernel_rfl) (by kernel_rfl) (fun _ _ _ h => h) (Or.inl ⟨by rfl, fun W hS => by go_simp⟩) hHeld ?_
  (try simp only [Act.put, List.setIfInBounds_toArray, List.set_cons_zero, List.set_cons_succ])
  refine wpAnyH_take (i := 11) (oi := ⟨some 19, _, _, _, _, _⟩) (v := (.int .i64 y)) rfl (by kernel_rfl) (by kernel_rfl) (by kernel_rfl) (fun _ _ _ h => h) (Or.inl ⟨by rfl, fun W hS => by go_simp⟩) hHeld ?_
  (try simp only [Act.put, List.setIfInBounds_toArray, List.set_cons_zero, List.set_cons_succ])
  refine wpAnyH_take (i := 12) (oi := ⟨some 6, _, _, _, _, _⟩) (v := (.slice A1 L.length c1)) rfl (by kernel_rfl) (by kernel_rfl) (by kernel_rfl) (fun _ _ _ h => h) (Or.inl ⟨by rfl, fun W hS => by go_simp⟩) hHeld ?_
  (try simp only [Act.put, List.setIfInBounds_toArray, List.set_cons_zero, List.set_cons_succ])
  refine wpAnyH_take (i := 13) (oi := ⟨some 7, _, _, _, _, _⟩) (v := (.int .i64 y)) rfl (by kernel_rfl) (by kernel_rfl) (by kernel_rfl) (fun _ _ _ h => h) (Or.inl ⟨by rfl, fun W hS => by go_simp⟩) hHeld ?_
  (try simp only [Act.put, List.setIfInBounds_toArray, List.set_cons_zero, List.set_cons_succ])
  refine wpAnyH_done (by kernel_rfl) ?_ _
  clear hHeld
  (try simp only [Exit.then])
  go_wp2
  go_end0
  exact ⟨rfl, HM.out.stored HT3.out HM3.out, HT3.out⟩
end Go.Proofs.YtcmcmkfoihlniaaDoor.MM
end

section
namespace Go.Proofs.YtcmcmkfoihlniaaDoor.MM
open Go Go.RowKit Go.Maps Go.Proofs.YtcmcmkfoihlniaaDoorX Go.Proofs.YtcmcmkfoihlniaaDoor.NM Go.Proofs.YtcmcmkfoihlniaaDoor.EN Go.Proofs.YtcmcmkfoihlniaaDoorW.PrintWords Go.Proofs.YtcmcmkfoihlniaaDoorW.PrintLast Go.Proofs.YtcmcmkfoihlniaaDoorW.PrintMore Go.Proofs.YtcmcmkfoihlniaaDoor.PModelUndoes
set_option linter.unusedVariables false
set_option linter.unusedSimpArgs false
set_option maxRecDepth 100000
set_option maxHeartbeats 1000000
def lessR (T : Tree) (k : Int) : Tree := match T k with | some (.file b n) => if n = 1 then upd T k none else upd T k (some (.file b (n - 1))) | _ => upd T k none
theorem upd_upd (T : Tree) (k : Int) (x y : Option Nd) : upd (upd T k x) k y = upd T k y := by
  funext j; unfold upd; split <;> rfl
theorem less_file {w : World} {pb mb : Nat} {q : Int} {T : Tree} (h : Mdl w pb mb q T) {k : Int} {b : List Int} {n : Int} (hT : T k = some (.file b n)) (hn : 1 ≤ n ∧ n ≤ 64) :
    Calls Tryd.prog 35 #[mp pb, .int .i64 k] w fun e w' => e = .returned (.tuple #[]) ∧ Mdl w' pb mb q (if n = 1 then upd T k none else upd T k (some (.file b (n - 1)))) ∧ Turn1 mb w w' := by
  have hk := h.2.1 k (by rw [hT]; simp)
  obtain ⟨v, hl, hv⟩ := h.2.look (inR_of hk)
  rw [hT] at hv
  obtain ⟨A, c, rfl, hr, hc⟩ := hv
  have HM := Aside0.mk h
  have HK := Aside0.mk hk
  have h1 := h.at_
  have HR := Aside0.mk hr
  have HC := Aside0.mk hc
  obtain ⟨TT, hTT⟩ : ∃ TT, (if n = 1 then upd T k none else upd T k (some (.file b (n - 1)))) = TT := ⟨_, rfl⟩
  rw [hTT]
  clear hT hr hc hk h
  by_cases h1n : n = 1
  · subst h1n
    rw [if_pos rfl] at hTT
    have HTT := Aside0.mk hTT
    clear hTT
    go_enter Tryd.func35, Tryd.ntmps35
    go_wp2
    obtain ⟨W1, hW1⟩ : ∃ W1, W1 = w.alloc (Obj.cells #[.slice A b.length c, .int .i64 0] 62) := ⟨_, rfl⟩
    have HB1 := Aside0.mk (show Below w.heap.size w W1 by rw [hW1]; exact below_alloc (Below.refl _ _) _)
    have HG := Aside0.mk (show W1.heap[w.heap.size]? = some (.cells #[.slice A b.length c, .int .i64 0] 62 (0, 0)) by rw [hW1]; exact heap_alloc_new w _)
    have C0 := Aside0.mk (show W1.cell? ⟨w.heap.size, 0, none⟩ = some (.slice A b.length c) by simp [World.cell?, HG.out])
    have C1 := Aside0.mk (show W1.cell? ⟨w.heap.size, 1, none⟩ = some (.int .i64 0) by simp [World.cell?, HG.out])
    have NB := Aside0.mk (show ¬ (fun k => k = mb) w.heap.size from fun e => by have := HM.out.2.lt; have e : w.heap.size = mb := e; omega)
    have NP := Aside0.mk (show ¬ (fun k => k = mb) pb from HM.out.ne)
    have HM1 := Aside0.mk (HM.out.below HB1.out)
    have P1 := Aside0.mk HM1.out.at_
    have HMd := Aside0.mk (HM1.out.2.below (w' := W1.drew) (below_drew (Below.refl _ _)))
    obtain ⟨w2, hrun, hM2, hg⟩ := HMd.out.store HK.out (v := .iface 62 (.agg #[.slice A b.length c, .int .i64 0])) (show Holds W1.drew _ (some (.file b 0)) from ⟨A, c, rfl, (HR.out.below HB1.out).below (below_drew (Below.refl _ _)), HC.out⟩)
    have HT := Aside0.mk (show Turn1 mb W1 w2 from Turn1.of_store (below_drew (Below.refl _ _)) hg)
    have HM2 := Aside0.mk hM2
    have HMM := Aside0.mk (HM1.out.stored HT.out hM2)
    have P2 := HMM.out.at_
    rw [← hW1]
    have HX := Aside0.mk hW1
    clear hM2 hg hW1
    refine wp_region_held_drew (S := fun W => Turn1 mb W1 W) (by kernel_rfl) (Turn.of_below (below_drew (Below.refl _ _))) (fun hHeld => ?_)
    refine wpAnyH_take (i := 0) (oi := ⟨some 20, _, _, _, _, _⟩) (v := (mp pb)) rfl (by kernel_rfl) (by kernel_rfl) (by kernel_rfl) (fun _ _ _ h => h) (Or.inl ⟨by rfl, fun W hS => by go_simp⟩) hHeld ?_
    (try simp only [Act.put, List.setIfInBounds_toArray, List.set_cons_zero, List.set_cons_succ])
    refine wpAnyH_take (i := 1) (oi := ⟨some 21, _, _, _, _, _⟩) (v := (mp pb)) rfl (by kernel_rfl) (by kernel_rfl) (by kernel_rfl) (fun _ _ _ h => h) (Or.inl ⟨by rfl, fun W hS => by go_simp⟩) hHeld ?_
    (try simp only [Act.put, List.setIfInBounds_toArray, List.set_cons_zero, List.set_cons_succ])
    refine wpAnyH_take (i := 2) (oi := ⟨some 22, _, _, _, _, _⟩) (v := (.pointer (some ⟨pb, 1, none⟩))) rfl (by kernel_rfl) (by kernel_rfl) (by kernel_rfl) (fun _ _ _ h => h) (Or.inl ⟨by rfl, fun W hS => by go_simp⟩) hHeld ?_
    (try simp only [Act.put, List.setIfInBounds_toArray, List.set_cons_zero, List.set_cons_succ])
    refine wpAnyH_take (i := 3) (oi := ⟨some 23, _, _, _, _, _⟩) (v := (.map (some mb))) rfl (by kernel_rfl) (by kernel_rfl) (by kernel_rfl) (fun _ _ _ h => h) (Or.inl ⟨by rfl, fun W hS => by have cc := (show Turn1 mb W1 W from hS).cell P1.out NP.out; go_simp⟩) hHeld ?_
    (try simp only [Act.put, List.setIfInBounds_toArray, List.set_cons_zero, List.set_cons_succ])
    refine wpAnyH_take (i := 4) (oi := ⟨some 24, _, _, _, _, _⟩) (v := (.int .i64 k)) rfl (by kernel_rfl) (by kernel_rfl) (by kernel_rfl) (fun _ _ _ h => h) (Or.inl ⟨by rfl, fun W hS => by go_simp⟩) hHeld ?_
    (try simp only [Act.put, List.setIfInBounds_toArray, List.set_cons_zero, List.set_cons_succ])
    refine wpAnyH_take (i := 5) (oi := ⟨some 25, _, _, _, _, _⟩) (v := (.agg #[.slice A b.length c, .int .i64 0])) rfl (by kernel_rfl) (by kernel_rfl) (by kernel_rfl) (fun _ _ _ h => h) (Or.inl ⟨by rfl, fun W hS => by have cc := (show Turn1 mb W1 W from hS).cell C0.out NB.out; have cd := (show Turn1 mb W1 W from hS).cell C1.out NB.out; go_simp⟩) hHeld ?_
    (try simp only [Act.put, List.setIfInBounds_toArray, List.set_cons_zero, List.set_cons_succ])
    refine wpAnyH_take (i := 6) (oi := ⟨some 26, _, _, _, _, _⟩) (v := (.iface 62 (.agg #[.slice A b.length c, .int .i64 0]))) rfl (by kernel_rfl) (by kernel_rfl) (by kernel_rfl) (fun _ _ _ h => h) (Or.inl ⟨by rfl, fun W hS => by go_simp⟩) hHeld ?_
    (try simp only [Act.put, List.setIfInBounds_toArray, List.set_cons_zero, List.set_cons_succ])
    refine wpAnyH_ready (rs := [7]) (by kernel_rfl) (by simp) ?_
    refine AllReadyH.cons rfl (fun K hK => ?_) AllReadyH.nil
    go_simp
    refine hK.out _ _ ((show Turn1 mb W1 w2 from HT.out)) (fun hH => ?_)
    clear hK K hHeld
    have hHeld := hH
    clear hH
    (try simp only [Act.put, List.setIfInBounds_toArray, List.set_cons_zero, List.set_cons_succ])
    refine wpAnyH_done (by kernel_rfl) ?_ _
    have hc2 := hHeld.cell C1.out NB.out
    obtain ⟨w3, hdel, hM3, hg3⟩ := HMM.out.2.drop (inR_of HK.out) 0
    have HT3 := Aside0.mk ((Turn.of_below HB1.out : Turn1 mb w W1).trans (hHeld.trans (Turn.of_grown (S := fun k => k = mb) hg3 (fun k e => (Option.some.inj e).symm)) (fun _ _ e => e)) (fun _ _ e => e))
    have HM3 := Aside0.mk hM3
    clear hM3 hg3 hHeld
    (try simp only [Exit.then])
    go_wp2
    go_end0
    rw [← HTT.out]; exact ⟨rfl, HM.out.stored HT3.out (by have h := HM3.out; rw [upd_upd] at h; exact h), HT3.out⟩
  · have hne : ((n - 1 : Int) == 0) = false := beq_eq_false_iff_ne.2 (by omega)
    rw [if_neg h1n] at hTT
    have HTT := Aside0.mk hTT
    clear h1n hTT
    go_enter Tryd.func35, Tryd.ntmps35
    go_wp2
    obtain ⟨W1, hW1⟩ : ∃ W1, W1 = w.alloc (Obj.cells #[.slice A b.length c, .int .i64 (n - 1)] 62) := ⟨_, rfl⟩
    have HB1 := Aside0.mk (show Below w.heap.size w W1 by rw [hW1]; exact below_alloc (Below.refl _ _) _)
    have HG := Aside0.mk (show W1.heap[w.heap.size]? = some (.cells #[.slice A b.length c, .int .i64 (n - 1)] 62 (0, 0)) by rw [hW1]; exact heap_alloc_new w _)
    have C0 := Aside0.mk (show W1.cell? ⟨w.heap.size, 0, none⟩ = some (.slice A b.length c) by simp [World.cell?, HG.out])
    have C1 := Aside0.mk (show W1.cell? ⟨w.heap.size, 1, none⟩ = some (.int .i64 (n - 1)) by simp [World.cell?, HG.out])
    have NB := Aside0.mk (show ¬ (fun k => k = mb) w.heap.size from fun e => by have := HM.out.2.lt; have e : w.heap.size = mb := e; omega)
    have NP := Aside0.mk (show ¬ (fun k => k = mb) pb from HM.out.ne)
    have HM1 := Aside0.mk (HM.out.below HB1.out)
    have P1 := Aside0.mk HM1.out.at_
    have HMd := Aside0.mk (HM1.out.2.below (w' := W1.drew) (below_drew (Below.refl _ _)))
    obtain ⟨w2, hrun, hM2, hg⟩ := HMd.out.store HK.out (v := .iface 62 (.agg #[.slice A b.length c, .int .i64 (n - 1)])) (show Holds W1.drew _ (some (.file b (n - 1))) from ⟨A, c, rfl, (HR.out.below HB1.out).below (below_drew (Below.refl _ _)), HC.out⟩)
    have HT := Aside0.mk (show Turn1 mb W1 w2 from Turn1.of_store (below_drew (Below.refl _ _)) hg)
    have HM2 := Aside0.mk hM2
    have HMM := Aside0.mk (HM1.out.stored HT.out hM2)
    have P2 := HMM.out.at_
    rw [← hW1]
    have HX := Aside0.mk hW1
    clear hM2 hg hW1
    refine wp_region_held_drew (S := fun W => Turn1 mb W1 W) (by kernel_rfl) (Turn.of_below (below_drew (Below.refl _ _))) (fun hHeld => ?_)
    refine wpAnyH_take (i := 0) (oi := ⟨some 20, _, _, _, _, _⟩) (v := (mp pb)) rfl (by kernel_rfl) (by kernel_rfl) (by kernel_rfl) (fun _ _ _ h => h) (Or.inl ⟨by rfl, fun W hS => by go_simp⟩) hHeld ?_
    (try simp only [Act.put, List.setIfInBounds_toArray, List.set_cons_zero, List.set_cons_succ])
    refine wpAnyH_take (i := 1) (oi := ⟨some 21, _, _, _, _, _⟩) (v := (mp pb)) rfl (by kernel_rfl) (by kernel_rfl) (by kernel_rfl) (fun _ _ _ h => h) (Or.inl ⟨by rfl, fun W hS => by go_simp⟩) hHeld ?_
    (try simp only [Act.put, List.setIfInBounds_toArray, List.set_cons_zero, List.set_cons_succ])
    refine wpAnyH_take (i := 2) (oi := ⟨some 22, _, _, _, _, _⟩) (v := (.pointer (some ⟨pb, 1, none⟩))) rfl (by kernel_rfl) (by kernel_rfl) (by kernel_rfl) (fun _ _ _ h => h) (Or.inl ⟨by rfl, fun W hS => by go_simp⟩) hHeld ?_
    (try simp only [Act.put, List.setIfInBounds_toArray, List.set_cons_zero, List.set_cons_succ])
    refine wpAnyH_take (i := 3) (oi := ⟨some 23, _, _, _, _, _⟩) (v := (.map (some mb))) rfl (by kernel_rfl) (by kernel_rfl) (by kernel_rfl) (fun _ _ _ h => h) (Or.inl ⟨by rfl, fun W hS => by have cc := (show Turn1 mb W1 W from hS).cell P1.out NP.out; go_simp⟩) hHeld ?_
    (try simp only [Act.put, List.setIfInBounds_toArray, List.set_cons_zero, List.set_cons_succ])
    refine wpAnyH_take (i := 4) (oi := ⟨some 24, _, _, _, _, _⟩) (v := (.int .i64 k)) rfl (by kernel_rfl) (by kernel_rfl) (by kernel_rfl) (fun _ _ _ h => h) (Or.inl ⟨by rfl, fun W hS => by go_simp⟩) hHeld ?_
    (try simp only [Act.put, List.setIfInBounds_toArray, List.set_cons_zero, List.set_cons_succ])
    refine wpAnyH_take (i := 5) (oi := ⟨some 25, _, _, _, _, _⟩) (v := (.agg #[.slice A b.length c, .int .i64 (n - 1)])) rfl (by kernel_rfl) (by kernel_rfl) (by kernel_rfl) (fun _ _ _ h => h) (Or.inl ⟨by rfl, fun W hS => by have cc := (show Turn1 mb W1 W from hS).cell C0.out NB.out; have cd := (show Turn1 mb W1 W from hS).cell C1.out NB.out; go_simp⟩) hHeld ?_
    (try simp only [Act.put, List.setIfInBounds_toArray, List.set_cons_zero, List.set_cons_succ])
    refine wpAnyH_take (i := 6) (oi := ⟨some 26, _, _, _, _, _⟩) (v := (.iface 62 (.agg #[.slice A b.length c, .int .i64 (n - 1)]))) rfl (by kernel_rfl) (by kernel_rfl) (by kernel_rfl) (fun _ _ _ h => h) (Or.inl ⟨by rfl, fun W hS => by go_simp⟩) hHeld ?_
    (try simp only [Act.put, List.setIfInBounds_toArray, List.set_cons_zero, List.set_cons_succ])
    refine wpAnyH_ready (rs := [7]) (by kernel_rfl) (by simp) ?_
    refine AllReadyH.cons rfl (fun K hK => ?_) AllReadyH.nil
    go_simp
    refine hK.out _ _ ((show Turn1 mb W1 w2 from HT.out)) (fun hH => ?_)
    clear hK K hHeld
    have hHeld := hH
    clear hH
    (try simp only [Act.put, List.setIfInBounds_toArray, List.set_cons_zero, List.set_cons_succ])
    refine wpAnyH_done (by kernel_rfl) ?_ _
    have hc2 := hHeld.cell C1.out NB.out
    have HT3 := Aside0.mk ((Turn.of_below HB1.out : Turn1 mb w W1).trans hHeld (fun _ _ e => e))
    clear hHeld
    (try simp only [Exit.then])
    go_wp2
    go_end0
    rw [← HTT.out]; exact ⟨rfl, HMM.out, HT3.out⟩
theorem less_dir {w : World} {pb mb : Nat} {q : Int} {T : Tree} (h : Mdl w pb mb q T) {k : Int} {l : List S90} (hT : T k = some (.dir l)) :
    Calls Tryd.prog 35 #[mp pb, .int .i64 k] w fun e w' => e = .returned (.tuple #[]) ∧ Mdl w' pb mb q (upd T k none) ∧ Turn1 mb w w' := by
  have hk := h.2.1 k (by rw [hT]; simp)
  obtain ⟨v, hl, hv⟩ := h.2.look (inR_of hk)
  rw [hT] at hv
  obtain ⟨A, c, rfl, hr, hc⟩ := hv
  have HM := Aside0.mk h
  have HK := Aside0.mk hk
  have h1 := h.at_
  clear hT hr hc hk h
  go_enter Tryd.func35, Tryd.ntmps35
  go_wp2
  obtain ⟨W1, hW1⟩ : ∃ W1, W1 = w.alloc (Obj.cells #[.slice none 0 0, .int .i64 (-1)] 62) := ⟨_, rfl⟩
  have HB1 := Aside0.mk (show Below w.heap.size w W1 by rw [hW1]; exact below_alloc (Below.refl _ _) _)
  have HG := Aside0.mk (show W1.heap[w.heap.size]? = some (.cells #[.slice none 0 0, .int .i64 (-1)] 62 (0, 0)) by rw [hW1]; exact heap_alloc_new w _)
  have C0 := Aside0.mk (show W1.cell? ⟨w.heap.size, 0, none⟩ = some (.slice none 0 0) by simp [World.cell?, HG.out])
  have C1 := Aside0.mk (show W1.cell? ⟨w.heap.size, 1, none⟩ = some (.int .i64 (-1)) by simp [World.cell?, HG.out])
  have NB := Aside0.mk (show ¬ (fun k => k = mb) w.heap.size from fun e => by have := HM.out.2.lt; have e : w.heap.size = mb := e; omega)
  have NP := Aside0.mk (show ¬ (fun k => k = mb) pb from HM.out.ne)
  have HM1 := Aside0.mk (HM.out.below HB1.out)
  have P1 := Aside0.mk HM1.out.at_
  have HMd := Aside0.mk (HM1.out.2.below (w' := W1.drew) (below_drew (Below.refl _ _)))
  obtain ⟨w2, hrun, hM2, hg⟩ := HMd.out.store HK.out (v := .iface 62 (.agg #[.slice none 0 0, .int .i64 (-1)])) (show Holds W1.drew _ (some (.file [] (-1))) from ⟨none, 0, rfl, ⟨rfl, by decide, fun h => absurd h (by decide)⟩, Nat.le_refl _⟩)
  have HT := Aside0.mk (show Turn1 mb W1 w2 from Turn1.of_store (below_drew (Below.refl _ _)) hg)
  have HM2 := Aside0.mk hM2
  have HMM := Aside0.mk (HM1.out.stored HT.out hM2)
  have P2 := HMM.out.at_
  rw [← hW1]
  have HX := Aside0.mk hW1
  clear hM2 hg hW1
  refine wp_region_held_drew (S := fun W => Turn1 mb W1 W) (by kernel_rfl) (Turn.of_below (below_drew (Below.refl _ _))) (fun hHeld => ?_)
  refine wpAnyH_take (i := 0) (oi := ⟨some 20, _, _, _, _, _⟩) (v := (mp pb)) rfl (by kernel_rfl) (by kernel_rfl) (by kernel_rfl) (fun _ _ _ h => h) (Or.inl ⟨by rfl, fun W hS => by go_simp⟩) hHeld ?_
  (try simp only [Act.put, List.setIfInBounds_toArray, List.set_cons_zero, List.set_cons_succ])
  refine wpAnyH_take (i := 1) (oi := ⟨some 21, _, _, _, _, _⟩) (v := (mp pb)) rfl (by kernel_rfl) (by kernel_rfl) (by kernel_rfl) (fun _ _ _ h => h) (Or.inl ⟨by rfl, fun W hS => by go_simp⟩) hHeld ?_
  (try simp only [Act.put, List.setIfInBounds_toArray, List.set_cons_zero, List.set_cons_succ])
  refine wpAnyH_take (i := 2) (oi := ⟨some 22, _, _, _, _, _⟩) (v := (.pointer (some ⟨pb, 1, none⟩))) rfl (by kernel_rfl) (by kernel_rfl) (by kernel_rfl) (fun _ _ _ h => h) (Or.inl ⟨by rfl, fun W hS => by go_simp⟩) hHeld ?_
  (try simp only [Act.put, List.setIfInBounds_toArray, List.set_cons_zero, List.set_cons_succ])
  refine wpAnyH_take (i := 3) (oi := ⟨some 23, _, _, _, _, _⟩) (v := (.map (some mb))) rfl (by kernel_rfl) (by kernel_rfl) (by kernel_rfl) (fun _ _ _ h => h) (Or.inl ⟨by rfl, fun W hS => by have cc := (show Turn1 mb W1 W from hS).cell P1.out NP.out; go_simp⟩) hHeld ?_
  (try simp only [Act.put, List.setIfInBounds_toArray, List.set_cons_zero, List.set_cons_succ])
  refine wpAnyH_take (i := 4) (oi := ⟨some 24, _, _, _, _, _⟩) (v := (.int .i64 k)) rfl (by kernel_rfl) (by kernel_rfl) (by kernel_rfl) (fun _ _ _ h => h) (Or.inl ⟨by rfl, fun W hS => by go_simp⟩) hHeld ?_
  (try simp only [Act.put, List.setIfInBounds_toArray, List.set_cons_zero, List.set_cons_succ])
  refine wpAnyH_take (i := 5) (oi := ⟨some 25, _, _, _, _, _⟩) (v := (.agg #[.slice none 0 0, .int .i64 (-1)])) rfl (by kernel_rfl) (by kernel_rfl) (by kernel_rfl) (fun _ _ _ h => h) (Or.inl ⟨by rfl, fun W hS => by have cc := (show Turn1 mb W1 W from hS).cell C0.out NB.out; have cd := (show Turn1 mb W1 W from hS).cell C1.out NB.out; go_simp⟩) hHeld ?_
  (try simp only [Act.put, List.setIfInBounds_toArray, List.set_cons_zero, List.set_cons_succ])
  refine wpAnyH_take (i := 6) (oi := ⟨some 26, _, _, _, _, _⟩) (v := (.iface 62 (.agg #[.slice none 0 0, .int .i64 (-1)]))) rfl (by kernel_rfl) (by kernel_rfl) (by kernel_rfl) (fun _ _ _ h => h) (Or.inl ⟨by rfl, fun W hS => by go_simp⟩) hHeld ?_
  (try simp only [Act.put, List.setIfInBounds_toArray, List.set_cons_zero, List.set_cons_succ])
  refine wpAnyH_ready (rs := [7]) (by kernel_rfl) (by simp) ?_
  refine AllReadyH.cons rfl (fun K hK => ?_) AllReadyH.nil
  go_simp
  refine hK.out _ _ ((show Turn1 mb W1 w2 from HT.out)) (fun hH => ?_)
  clear hK K hHeld
  have hHeld := hH
  clear hH
  (try simp only [Act.put, List.setIfInBounds_toArray, List.set_cons_zero, List.set_cons_succ])
  refine wpAnyH_done (by kernel_rfl) ?_ _
  have hc2 := hHeld.cell C1.out NB.out
  obtain ⟨w3, hdel, hM3, hg3⟩ := HMM.out.2.drop (inR_of HK.out) 0
  have HT3 := Aside0.mk ((Turn.of_below HB1.out : Turn1 mb w W1).trans (hHeld.trans (Turn.of_grown (S := fun k => k = mb) hg3 (fun k e => (Option.some.inj e).symm)) (fun _ _ e => e)) (fun _ _ e => e))
  have HM3 := Aside0.mk hM3
  clear hM3 hg3 hHeld
  (try simp only [Exit.then])
  go_wp2
  go_end0
  exact ⟨rfl, HM.out.stored HT3.out (by have h := HM3.out; rw [upd_upd] at h; exact h), HT3.out⟩
end Go.Proofs.YtcmcmkfoihlniaaDoor.MM
end

section
namespace Go.Proofs.YtcmcmkfoihlniaaDoor.MM
open Go Go.RowKit Go.Maps Go.Proofs.YtcmcmkfoihlniaaDoorX Go.Proofs.YtcmcmkfoihlniaaDoor.NM Go.Proofs.YtcmcmkfoihlniaaDoor.EN Go.Proofs.YtcmcmkfoihlniaaDoorW.PrintWords Go.Proofs.YtcmcmkfoihlniaaDoorW.PrintLast Go.Proofs.YtcmcmkfoihlniaaDoorW.PrintMore Go.Proofs.YtcmcmkfoihlniaaDoor.PModelUndoes
set_option linter.unusedVariables false
set_option linter.unusedSimpArgs false
set_option maxRecDepth 100000
set_option maxHeartbeats 1000000
def lastS (l : List ByteArray) : ByteArray := rdOf ByteArray.empty l ((l.length : Int) - 1)
theorem lastS_mem {l : List ByteArray} (h : 0 < l.length) : lastS l ∈ l := by
  unfold lastS rdOf
  rw [show ((l.length : Int) - 1).toNat = l.length - 1 by omega, List.getD_eq_getElem?_getD, List.getElem?_eq_getElem (by omega)]
  exact List.getElem_mem _
theorem lastS_any (A : Option Addr) (c : Nat) (l : List ByteArray) (w : World) (hl : St w A l) (hc : l.length ≤ c) (h0 : 0 < l.length) (h1 : l.length ≤ 1048576) :
    Calls Tryd.prog 34 #[.slice A l.length c] w fun e w' => e = .returned (.string (lastS l)) ∧ Below w.heap.size w w' := by
  have hf : model_last_string.f l = some (lastS l) := by
    unfold model_last_string.f lastS
    rw [IntWalk.wrap64_in _ (by omega), if_pos (by omega), if_pos (by omega)]
  refine (model_last_string.calls A c l (lastS l) w hl hc hf).mono ?_
  rintro e w' ⟨rfl, hb⟩
  exact ⟨rfl, drawn_below hb⟩
theorem lastI_any (A : Option Addr) (c : Nat) (l : List Int) (w : World) (hl : Kd.C (Kd.int .i64) w A l.length l) (hc : l.length ≤ c) (h0 : 0 < l.length) (h1 : l.length ≤ 1048577) :
    Calls Tryd.prog 32 #[.slice A l.length c] w fun e w' => e = .returned (.int .i64 (lastI l)) ∧ Below w.heap.size w w' := by
  have hf : model_last_int.f l = some (lastI l) := by
    unfold model_last_int.f lastI
    rw [IntWalk.wrap64_in _ (by omega), if_pos (by omega), if_pos (by omega)]
  refine (model_last_int.calls A c l (lastI l) w hl hc hf).mono ?_
  rintro e w' ⟨rfl, hb⟩
  exact ⟨rfl, drawn_below hb⟩
theorem cell_ne {w : World} {ad : Addr} {u : Value} {mb : Nat} {T : Tree} (hc : w.cell? ad = some u) (h : MapT w mb T) : ¬ (fun k => k = mb) ad.block := by
  intro e
  have e : ad.block = mb := e
  obtain ⟨es, c, hb⟩ := h.obj
  rw [← e] at hb
  simp [World.cell?, hb] at hc
theorem below_turn1 {mb : Nat} {w w' : World} (h : Below w.heap.size w w') : Turn1 mb w w' := Turn.of_below h
theorem turn1_step {mb : Nat} {a b c : World} (h : Turn1 mb a b) (k : Turn1 mb b c) : Turn1 mb a c := h.trans k (fun _ _ e => e)
theorem Ok.upd {T : Tree} (h : Ok T) {k : Int} {o : Option Nd} (hd : ∀ l, o = some (.dir l) → mayE l = true) (hf : ∀ b n, o = some (.file b n) → b.length ≤ 3808 ∧ 1 ≤ n ∧ n ≤ 64) : Ok (upd T k o) := by
  refine ⟨fun j l hj => ?_, fun j b n hj => ?_⟩
  · by_cases e : j = k
    · rw [e, upd_same] at hj; exact hd l hj
    · rw [upd_other _ _ e] at hj; exact h.dirs j l hj
  · by_cases e : j = k
    · rw [e, upd_same] at hj; exact hf b n hj
    · rw [upd_other _ _ e] at hj; exact h.files j b n hj
end Go.Proofs.YtcmcmkfoihlniaaDoor.MM
end

section
namespace Go.Proofs.YtcmcmkfoihlniaaDoor.MM
open Go Go.RowKit Go.Maps Go.Proofs.YtcmcmkfoihlniaaDoorX Go.Proofs.YtcmcmkfoihlniaaDoor.NM Go.Proofs.YtcmcmkfoihlniaaDoor.EN Go.Proofs.YtcmcmkfoihlniaaDoorW.PrintWords Go.Proofs.YtcmcmkfoihlniaaDoorW.PrintLast Go.Proofs.YtcmcmkfoihlniaaDoorW.PrintMore Go.Proofs.YtcmcmkfoihlniaaDoor.PModelUndoes
set_option linter.unusedVariables false
set_option linter.unusedSimpArgs false
set_option maxRecDepth 100000
set_option maxHeartbeats 1000000
theorem cell_not_map {w : World} {ad : Addr} {u : Value} {es : Array MapEntry} {c : Nat} (hc : w.cell? ad = some u) (hb : w.heap[ad.block]? = some (.map es c)) : False := by simp [World.cell?, hb] at hc
theorem St_turn {mb : Nat} {w w' : World} {A : Option Addr} {l : List ByteArray} (h : St w A l) (ht : Turn1 mb w w') (hi : ∃ es c, w.heap[mb]? = some (.map es c)) : St w' A l := by
  rcases Nat.eq_zero_or_pos l.length with h0 | h0
  · refine ⟨h.1, h.2.1, fun hp => absurd hp (by omega)⟩
  · refine ⟨h.1, h.2.1, fun hp => ?_⟩
    obtain ⟨ad, e, hc⟩ := h.2.2 hp
    refine ⟨ad, e, fun j p hj => ?_⟩
    obtain ⟨c, h1, h2, h3⟩ := hc j p hj
    refine ⟨c, h1, h2, fun i u hu => ht.cell (h3 i u hu) (fun e => ?_)⟩
    have hc3 := h3 i u hu
    obtain ⟨es, cl, hb⟩ := hi
    exact cell_not_map hc3 (es := es) (c := cl) (by rw [show (ad.add (j * Kd.string.sz + i)).block = mb from e]; exact hb)
theorem make_clo {w : World} {pb mb : Nat} {q : Int} {T : Tree} (h : Mdl w pb mb q T) (p1 p2 p3 p4 : Addr) (v : Value) (x : Nd) (ino at_ : Int) (A : Option Addr) (c : Nat) (l : List ByteArray) (d : List S90)
    (c1 : w.cell? p1 = some v) (c2 : w.cell? p2 = some (.int .i64 ino)) (c3 : w.cell? p3 = some (.int .i64 at_)) (c4 : w.cell? p4 = some (.slice A l.length c))
    (hv : Holds w v (some x)) (hino : 1 ≤ ino ∧ ino ≤ 64) (hO : Ok (upd T ino (some x))) (hd : upd T ino (some x) at_ = some (.dir d)) (hs : St w A l) (hc : l.length ≤ c) (h0 : 0 < l.length) (h1 : l.length ≤ 1048576) (hn : (lastS l).size ≤ 1048576) (hT : Lib.Utf8Tabs 2 3 w) :
    Calls Tryd.prog 56 #[mp pb, .pointer (some p1), .pointer (some p2), .pointer (some p3), .pointer (some p4)] w fun e w' => e = .returned (.int .i64 0) ∧ Mdl w' pb mb q (upd (upd T ino (some x)) at_ (some (.dir (insR d ⟨ino, lastS l⟩).1))) ∧ Turn1 mb w w' := by
  have C1 := Aside0.mk c1
  have N1 := Aside0.mk (cell_ne c1 h.2)
  have C2 := Aside0.mk c2
  have N2 := Aside0.mk (cell_ne c2 h.2)
  have C3 := Aside0.mk c3
  have N3 := Aside0.mk (cell_ne c3 h.2)
  have C4 := Aside0.mk c4
  have N4 := Aside0.mk (cell_ne c4 h.2)
  have HM := Aside0.mk h
  have HI := Aside0.mk h.2.obj
  have P1 := Aside0.mk h.at_
  have NP := Aside0.mk (show ¬ (fun k => k = mb) pb from h.ne)
  have HS := Aside0.mk hs
  have HC := Aside0.mk hc
  have HL0 := Aside0.mk h0
  have HL1 := Aside0.mk h1
  have HNM := Aside0.mk hn
  have HO2 := Aside0.mk hO
  have HD2 := Aside0.mk hd
  have hMd := h.below (below_drew (Below.refl w.heap.size w))
  obtain ⟨w2, hrun, hM2, hg⟩ := hMd.2.store hino (hv.below (below_drew (Below.refl w.heap.size w)))
  have HT2 := Aside0.mk (show Turn1 mb w w2 from Turn1.of_store (below_drew (Below.refl _ _)) hg)
  have HM2 := Aside0.mk (h.stored HT2.out hM2)
  have HU2 := Aside0.mk (tabs_turn hT HT2.out (fun k e => (show k = mb from e) ▸ h.2.inner))
  clear hM2 hg hMd h c1 c2 c3 c4 hv hO hd hs hc h0 h1 hn hT
  go_enter Tryd.func56, Tryd.ntmps56
  go_wp2
  refine wp_region_held_drew (S := fun W => Turn1 mb w W) (by kernel_rfl) (below_turn1 (below_drew (Below.refl _ _))) (fun hHeld => ?_)
  refine wpAnyH_take (i := 0) (oi := ⟨some 7, _, _, _, _, _⟩) (v := (mp pb)) rfl (by kernel_rfl) (by kernel_rfl) (by kernel_rfl) (fun _ _ _ h => h) (Or.inl ⟨by rfl, fun W hS => by go_simp⟩) hHeld ?_
  (try simp only [Act.put, List.setIfInBounds_toArray, List.set_cons_zero, List.set_cons_succ])
  refine wpAnyH_take (i := 1) (oi := ⟨some 8, _, _, _, _, _⟩) (v := (mp pb)) rfl (by kernel_rfl) (by kernel_rfl) (by kernel_rfl) (fun _ _ _ h => h) (Or.inl ⟨by rfl, fun W hS => by go_simp⟩) hHeld ?_
  (try simp only [Act.put, List.setIfInBounds_toArray, List.set_cons_zero, List.set_cons_succ])
  refine wpAnyH_take (i := 2) (oi := ⟨some 9, _, _, _, _, _⟩) (v := (.pointer (some ⟨pb, 1, none⟩))) rfl (by kernel_rfl) (by kernel_rfl) (by kernel_rfl) (fun _ _ _ h => h) (Or.inl ⟨by rfl, fun W hS => by go_simp⟩) hHeld ?_
  (try simp only [Act.put, List.setIfInBounds_toArray, List.set_cons_zero, List.set_cons_succ])
  refine wpAnyH_take (i := 3) (oi := ⟨some 10, _, _, _, _, _⟩) (v := (.map (some mb))) rfl (by kernel_rfl) (by kernel_rfl) (by kernel_rfl) (fun _ _ _ h => h) (Or.inl ⟨by rfl, fun W hS => by have cc := (show Turn1 mb w W from hS).cell P1.out NP.out; go_simp⟩) hHeld ?_
  (try simp only [Act.put, List.setIfInBounds_toArray, List.set_cons_zero, List.set_cons_succ])
  refine wpAnyH_take (i := 4) (oi := ⟨some 11, _, _, _, _, _⟩) (v := (.int .i64 ino)) rfl (by kernel_rfl) (by kernel_rfl) (by kernel_rfl) (fun _ _ _ h => h) (Or.inl ⟨by rfl, fun W hS => by have cc := (show Turn1 mb w W from hS).cell C2.out N2.out; go_simp⟩) hHeld ?_
  (try simp only [Act.put, List.setIfInBounds_toArray, List.set_cons_zero, List.set_cons_succ])
  refine wpAnyH_take (i := 5) (oi := ⟨some 12, _, _, _, _, _⟩) (v := v) rfl (by kernel_rfl) (by kernel_rfl) (by kernel_rfl) (fun _ _ _ h => h) (Or.inl ⟨by rfl, fun W hS => by have cc := (show Turn1 mb w W from hS).cell C1.out N1.out; go_simp⟩) hHeld ?_
  (try simp only [Act.put, List.setIfInBounds_toArray, List.set_cons_zero, List.set_cons_succ])
  refine wpAnyH_ready (rs := [6]) (by kernel_rfl) (by simp) ?_
  refine AllReadyH.cons rfl (fun K hK => ?_) AllReadyH.nil
  go_simp
  refine hK.out _ _ (show Turn1 mb w w2 from HT2.out) (fun hH => ?_)
  clear hK K hHeld
  have hHeld := hH
  clear hH
  (try simp only [Act.put, List.setIfInBounds_toArray, List.set_cons_zero, List.set_cons_succ])
  refine wpAnyH_done (by kernel_rfl) ?_ _
  clear hHeld
  (try simp only [Exit.then])
  go_wp2
  have HMd2 := Aside0.mk (HM2.out.below (below_drew (Below.refl _ _)))
  have HUd2 := Aside0.mk (Utf8Tabs_below HU2.out (below_drew (Below.refl w2.heap.size w2)))
  have HLS2 := Aside0.mk (lastS_any A c l w2.drew (Kd.C_below (St_turn HS.out HT2.out HI.out) (below_drew (Below.refl w2.heap.size w2))) HC.out HL0.out HL1.out)
  refine wp_region_held_drew (S := fun W => Turn1 mb w2 W) (by kernel_rfl) (below_turn1 (below_drew (Below.refl _ _))) (fun hHeld => ?_)
  refine wpAnyH_take (i := 0) (oi := ⟨some 13, _, _, _, _, _⟩) (v := (mp pb)) rfl (by kernel_rfl) (by kernel_rfl) (by kernel_rfl) (fun _ _ _ h => h) (Or.inl ⟨by rfl, fun W hS => by go_simp⟩) hHeld ?_
  (try simp only [Act.put, List.setIfInBounds_toArray, List.set_cons_zero, List.set_cons_succ])
  refine wpAnyH_take (i := 1) (oi := ⟨some 14, _, _, _, _, _⟩) (v := (.int .i64 at_)) rfl (by kernel_rfl) (by kernel_rfl) (by kernel_rfl) (fun _ _ _ h => h) (Or.inl ⟨by rfl, fun W hS => by have cc := (turn1_step HT2.out (show Turn1 mb w2 W from hS)).cell C3.out N3.out; go_simp⟩) hHeld ?_
  (try simp only [Act.put, List.setIfInBounds_toArray, List.set_cons_zero, List.set_cons_succ])
  refine wpAnyH_take (i := 2) (oi := ⟨some 15, _, _, _, _, _⟩) (v := (.int .i64 ino)) rfl (by kernel_rfl) (by kernel_rfl) (by kernel_rfl) (fun _ _ _ h => h) (Or.inl ⟨by rfl, fun W hS => by have cc := (turn1_step HT2.out (show Turn1 mb w2 W from hS)).cell C2.out N2.out; go_simp⟩) hHeld ?_
  (try simp only [Act.put, List.setIfInBounds_toArray, List.set_cons_zero, List.set_cons_succ])
  refine wpAnyH_take (i := 3) (oi := ⟨some 16, _, _, _, _, _⟩) (v := (.slice A l.length c)) rfl (by kernel_rfl) (by kernel_rfl) (by kernel_rfl) (fun _ _ _ h => h) (Or.inl ⟨by rfl, fun W hS => by have cc := (turn1_step HT2.out (show Turn1 mb w2 W from hS)).cell C4.out N4.out; go_simp⟩) hHeld ?_
  (try simp only [Act.put, List.setIfInBounds_toArray, List.set_cons_zero, List.set_cons_succ])
  refine wpAnyH_ready (rs := [4]) (by kernel_rfl) (by simp) ?_
  refine AllReadyH.cons rfl (fun K hK => ?_) AllReadyH.nil
  go_simp
  refine (HLS2.out).mono ?_
  rintro e wl2 ⟨rfl, hb⟩
  dsimp only
  refine hK.out _ _ (turn1_step hHeld (below_turn1 hb)) (fun hH => ?_)
  have HMl := Aside0.mk (HMd2.out.below hb)
  have HTl := Aside0.mk (Utf8Tabs_below HUd2.out hb)
  clear hK K hHeld hb
  have hHeld := hH
  clear hH
  (try simp only [Act.put, List.setIfInBounds_toArray, List.set_cons_zero, List.set_cons_succ])
  refine wpAnyH_take (i := 5) (oi := ⟨some 18, _, _, _, _, _⟩) (v := (.agg (cellsE ino (lastS l)))) rfl (by kernel_rfl) (by kernel_rfl) (by kernel_rfl) (fun _ _ _ h => h) (Or.inl ⟨by rfl, fun W hS => by go_simp; rfl⟩) hHeld ?_
  (try simp only [Act.put, List.setIfInBounds_toArray, List.set_cons_zero, List.set_cons_succ])
  refine wpAnyH_ready (rs := [6]) (by kernel_rfl) (by simp) ?_
  refine AllReadyH.cons rfl (fun K hK => ?_) AllReadyH.nil
  go_simp
  refine (add_any HMl.out HO2.out HD2.out ino (lastS l) HNM.out HTl.out).mono ?_
  rintro e wa2 ⟨rfl, hm, ht⟩
  dsimp only
  refine hK.out _ _ (turn1_step hHeld ht) (fun hH => ?_)
  have HMa := Aside0.mk hm
  have hb := trivial
  clear hm ht
  clear hK K hHeld hb
  have hHeld := hH
  clear hH
  (try simp only [Act.put, List.setIfInBounds_toArray, List.set_cons_zero, List.set_cons_succ])
  refine wpAnyH_done (by kernel_rfl) ?_ _
  have HF := Aside0.mk hHeld
  clear hHeld
  (try simp only [Exit.then])
  go_wp2
  go_ret
  exact ⟨rfl, HMa.out, turn1_step HT2.out HF.out⟩
theorem link_clo {w : World} {pb mb : Nat} {q : Int} {T : Tree} (h : Mdl w pb mb q T) (g : Nat) (p2 p3 p4 : Addr) (B : Option Addr) (cb : Nat) (b : List Int) (n ino at_ : Int) (A : Option Addr) (c : Nat) (l : List ByteArray) (d : List S90)
    (c1 : w.cell? ⟨g, 0, none⟩ = some (.slice B b.length cb)) (c5 : w.cell? ⟨g, 1, none⟩ = some (.int .i64 n)) (c2 : w.cell? p2 = some (.int .i64 ino)) (c3 : w.cell? p3 = some (.int .i64 at_)) (c4 : w.cell? p4 = some (.slice A l.length c))
    (hr : ReadsInt w .u8 B b.length b) (hcb : b.length ≤ cb) (hnn : 1 ≤ n ∧ n ≤ 64) (hino : 1 ≤ ino ∧ ino ≤ 64) (hO : Ok (upd T ino (some (.file b (n + 1))))) (hd : upd T ino (some (.file b (n + 1))) at_ = some (.dir d)) (hs : St w A l) (hc : l.length ≤ c) (h0 : 0 < l.length) (h1 : l.length ≤ 1048576) (hn : (lastS l).size ≤ 1048576) (hT : Lib.Utf8Tabs 2 3 w) :
    Calls Tryd.prog 43 #[mp pb, .pointer (some ⟨g, 0, none⟩), .pointer (some p2), .pointer (some p3), .pointer (some p4)] w fun e w' => e = .returned (.int .i64 0) ∧ Mdl w' pb mb q (upd (upd T ino (some (.file b (n + 1)))) at_ (some (.dir (insR d ⟨ino, lastS l⟩).1))) ∧ Turn1 mb w w' := by
  have hv : Holds w (.iface 62 (.agg #[.slice B b.length cb, .int .i64 (n + 1)])) (some (.file b (n + 1))) := ⟨B, cb, rfl, hr, hcb⟩
  have C1 := Aside0.mk c1
  have N1 := Aside0.mk (cell_ne c1 h.2)
  have C2 := Aside0.mk c2
  have N2 := Aside0.mk (cell_ne c2 h.2)
  have C3 := Aside0.mk c3
  have N3 := Aside0.mk (cell_ne c3 h.2)
  have C4 := Aside0.mk c4
  have N4 := Aside0.mk (cell_ne c4 h.2)
  have C5 := Aside0.mk c5
  have N5 := Aside0.mk (cell_ne c5 h.2)
  have HM := Aside0.mk h
  have HI := Aside0.mk h.2.obj
  have P1 := Aside0.mk h.at_
  have NP := Aside0.mk (show ¬ (fun k => k = mb) pb from h.ne)
  have HS := Aside0.mk hs
  have HC := Aside0.mk hc
  have HL0 := Aside0.mk h0
  have HL1 := Aside0.mk h1
  have HNM := Aside0.mk hn
  have HO2 := Aside0.mk hO
  have HD2 := Aside0.mk hd
  have hMd := h.below (below_drew (Below.refl w.heap.size w))
  obtain ⟨w2, hrun, hM2, hg⟩ := hMd.2.store hino (hv.below (below_drew (Below.refl w.heap.size w)))
  have HT2 := Aside0.mk (show Turn1 mb w w2 from Turn1.of_store (below_drew (Below.refl _ _)) hg)
  have HM2 := Aside0.mk (h.stored HT2.out hM2)
  have HU2 := Aside0.mk (tabs_turn hT HT2.out (fun k e => (show k = mb from e) ▸ h.2.inner))
  clear hM2 hg hMd h c1 c2 c3 c4 c5 hv hO hd hs hc h0 h1 hn hT hr hcb
  go_enter Tryd.func43, Tryd.ntmps43
  go_wp2
  refine wp_region_held_drew (S := fun W => Turn1 mb w W) (by kernel_rfl) (below_turn1 (below_drew (Below.refl _ _))) (fun hHeld => ?_)
  refine wpAnyH_take (i := 0) (oi := ⟨some 7, _, _, _, _, _⟩) (v := (mp pb)) rfl (by kernel_rfl) (by kernel_rfl) (by kernel_rfl) (fun _ _ _ h => h) (Or.inl ⟨by rfl, fun W hS => by go_simp⟩) hHeld ?_
  (try simp only [Act.put, List.setIfInBounds_toArray, List.set_cons_zero, List.set_cons_succ])
  refine wpAnyH_take (i := 1) (oi := ⟨some 8, _, _, _, _, _⟩) (v := (mp pb)) rfl (by kernel_rfl) (by kernel_rfl) (by kernel_rfl) (fun _ _ _ h => h) (Or.inl ⟨by rfl, fun W hS => by go_simp⟩) hHeld ?_
  (try simp only [Act.put, List.setIfInBounds_toArray, List.set_cons_zero, List.set_cons_succ])
  refine wpAnyH_take (i := 2) (oi := ⟨some 9, _, _, _, _, _⟩) (v := (.pointer (some ⟨pb, 1, none⟩))) rfl (by kernel_rfl) (by kernel_rfl) (by kernel_rfl) (fun _ _ _ h => h) (Or.inl ⟨by rfl, fun W hS => by go_simp⟩) hHeld ?_
  (try simp only [Act.put, List.setIfInBounds_toArray, List.set_cons_zero, List.set_cons_succ])
  refine wpAnyH_take (i := 3) (oi := ⟨some 10, _, _, _, _, _⟩) (v := (.map (some mb))) rfl (by kernel_rfl) (by kernel_rfl) (by kernel_rfl) (fun _ _ _ h => h) (Or.inl ⟨by rfl, fun W hS => by have cc := (show Turn1 mb w W from hS).cell P1.out NP.out; go_simp⟩) hHeld ?_
  (try simp only [Act.put, List.setIfInBounds_toArray, List.set_cons_zero, List.set_cons_succ])
  refine wpAnyH_take (i := 4) (oi := ⟨some 11, _, _, _, _, _⟩) (v := (.int .i64 ino)) rfl (by kernel_rfl) (by kernel_rfl) (by kernel_rfl) (fun _ _ _ h => h) (Or.inl ⟨by rfl, fun W hS => by have cc := (show Turn1 mb w W from hS).cell C2.out N2.out; go_simp⟩) hHeld ?_
  (try simp only [Act.put, List.setIfInBounds_toArray, List.set_cons_zero, List.set_cons_succ])
  refine wpAnyH_take (i := 5) (oi := ⟨some 12, _, _, _, _, _⟩) (v := (.pointer (some ⟨g, 0, none⟩))) rfl (by kernel_rfl) (by kernel_rfl) (by kernel_rfl) (fun _ _ _ h => h) (Or.inl ⟨by rfl, fun W hS => by go_simp⟩) hHeld ?_
  (try simp only [Act.put, List.setIfInBounds_toArray, List.set_cons_zero, List.set_cons_succ])
  refine wpAnyH_take (i := 6) (oi := ⟨some 13, _, _, _, _, _⟩) (v := (.slice B b.length cb)) rfl (by kernel_rfl) (by kernel_rfl) (by kernel_rfl) (fun _ _ _ h => h) (Or.inl ⟨by rfl, fun W hS => by have cc := (show Turn1 mb w W from hS).cell C1.out N1.out; go_simp⟩) hHeld ?_
  (try simp only [Act.put, List.setIfInBounds_toArray, List.set_cons_zero, List.set_cons_succ])
  refine wpAnyH_take (i := 7) (oi := ⟨some 14, _, _, _, _, _⟩) (v := (.pointer (some ⟨g, 1, none⟩))) rfl (by kernel_rfl) (by kernel_rfl) (by kernel_rfl) (fun _ _ _ h => h) (Or.inl ⟨by rfl, fun W hS => by go_simp⟩) hHeld ?_
  (try simp only [Act.put, List.setIfInBounds_toArray, List.set_cons_zero, List.set_cons_succ])
  refine wpAnyH_take (i := 8) (oi := ⟨some 15, _, _, _, _, _⟩) (v := (.int .i64 n)) rfl (by kernel_rfl) (by kernel_rfl) (by kernel_rfl) (fun _ _ _ h => h) (Or.inl ⟨by rfl, fun W hS => by have cc := (show Turn1 mb w W from hS).cell C5.out N5.out; go_simp⟩) hHeld ?_
  (try simp only [Act.put, List.setIfInBounds_toArray, List.set_cons_zero, List.set_cons_succ])
  refine wpAnyH_take (i := 9) (oi := ⟨some 16, _, _, _, _, _⟩) (v := (.int .i64 (n + 1))) rfl (by kernel_rfl) (by kernel_rfl) (by kernel_rfl) (fun _ _ _ h => h) (Or.inl ⟨by rfl, fun W hS => by go_simp; exact IntWalk.i64_in _ ⟨by omega, by omega⟩⟩) hHeld ?_
  (try simp only [Act.put, List.setIfInBounds_toArray, List.set_cons_zero, List.set_cons_succ])
  refine wpAnyH_take (i := 10) (oi := ⟨some 17, _, _, _, _, _⟩) (v := (.agg #[.slice B b.length cb, .int .i64 (n + 1)])) rfl (by kernel_rfl) (by kernel_rfl) (by kernel_rfl) (fun _ _ _ h => h) (Or.inl ⟨by rfl, fun W hS => by go_simp⟩) hHeld ?_
  (try simp only [Act.put, List.setIfInBounds_toArray, List.set_cons_zero, List.set_cons_succ])
  refine wpAnyH_take (i := 11) (oi := ⟨some 18, _, _, _, _, _⟩) (v := (.iface 62 (.agg #[.slice B b.length cb, .int .i64 (n + 1)]))) rfl (by kernel_rfl) (by kernel_rfl) (by kernel_rfl) (fun _ _ _ h => h) (Or.inl ⟨by rfl, fun W hS => by go_simp⟩) hHeld ?_
  (try simp only [Act.put, List.setIfInBounds_toArray, List.set_cons_zero, List.set_cons_succ])
  refine wpAnyH_ready (rs := [12]) (by kernel_rfl) (by simp) ?_
  refine AllReadyH.cons rfl (fun K hK => ?_) AllReadyH.nil
  go_simp
  refine hK.out _ _ (show Turn1 mb w w2 from HT2.out) (fun hH => ?_)
  clear hK K hHeld
  have hHeld := hH
  clear hH
  (try simp only [Act.put, List.setIfInBounds_toArray, List.set_cons_zero, List.set_cons_succ])
  refine wpAnyH_done (by kernel_rfl) ?_ _
  clear hHeld
  (try simp only [Exit.then])
  go_wp2
  have HMd2 := Aside0.mk (HM2.out.below (below_drew (Below.refl _ _)))
  have HUd2 := Aside0.mk (Utf8Tabs_below HU2.out (below_drew (Below.refl w2.heap.size w2)))
  have HLS2 := Aside0.mk (lastS_any A c l w2.drew (Kd.C_below (St_turn HS.out HT2.out HI.out) (below_drew (Below.refl w2.heap.size w2))) HC.out HL0.out HL1.out)
  refine wp_region_held_drew (S := fun W => Turn1 mb w2 W) (by kernel_rfl) (below_turn1 (below_drew (Below.refl _ _))) (fun hHeld => ?_)
  refine wpAnyH_take (i := 0) (oi := ⟨some 19, _, _, _, _, _⟩) (v := (mp pb)) rfl (by kernel_rfl) (by kernel_rfl) (by kernel_rfl) (fun _ _ _ h => h) (Or.inl ⟨by rfl, fun W hS => by go_simp⟩) hHeld ?_
  (try simp only [Act.put, List.setIfInBounds_toArray, List.set_cons_zero, List.set_cons_succ])
  refine wpAnyH_take (i := 1) (oi := ⟨some 20, _, _, _, _, _⟩) (v := (.int .i64 at_)) rfl (by kernel_rfl) (by kernel_rfl) (by kernel_rfl) (fun _ _ _ h => h) (Or.inl ⟨by rfl, fun W hS => by have cc := (turn1_step HT2.out (show Turn1 mb w2 W from hS)).cell C3.out N3.out; go_simp⟩) hHeld ?_
  (try simp only [Act.put, List.setIfInBounds_toArray, List.set_cons_zero, List.set_cons_succ])
  refine wpAnyH_take (i := 2) (oi := ⟨some 21, _, _, _, _, _⟩) (v := (.int .i64 ino)) rfl (by kernel_rfl) (by kernel_rfl) (by kernel_rfl) (fun _ _ _ h => h) (Or.inl ⟨by rfl, fun W hS => by have cc := (turn1_step HT2.out (show Turn1 mb w2 W from hS)).cell C2.out N2.out; go_simp⟩) hHeld ?_
  (try simp only [Act.put, List.setIfInBounds_toArray, List.set_cons_zero, List.set_cons_succ])
  refine wpAnyH_take (i := 3) (oi := ⟨some 22, _, _, _, _, _⟩) (v := (.slice A l.length c)) rfl (by kernel_rfl) (by kernel_rfl) (by kernel_rfl) (fun _ _ _ h => h) (Or.inl ⟨by rfl, fun W hS => by have cc := (turn1_step HT2.out (show Turn1 mb w2 W from hS)).cell C4.out N4.out; go_simp⟩) hHeld ?_
  (try simp only [Act.put, List.setIfInBounds_toArray, List.set_cons_zero, List.set_cons_succ])
  refine wpAnyH_ready (rs := [4]) (by kernel_rfl) (by simp) ?_
  refine AllReadyH.cons rfl (fun K hK => ?_) AllReadyH.nil
  go_simp
  refine (HLS2.out).mono ?_
  rintro e wl2 ⟨rfl, hb⟩
  dsimp only
  refine hK.out _ _ (turn1_step hHeld (below_turn1 hb)) (fun hH => ?_)
  have HMl := Aside0.mk (HMd2.out.below hb)
  have HTl := Aside0.mk (Utf8Tabs_below HUd2.out hb)
  clear hK K hHeld hb
  have hHeld := hH
  clear hH
  (try simp only [Act.put, List.setIfInBounds_toArray, List.set_cons_zero, List.set_cons_succ])
  refine wpAnyH_take (i := 5) (oi := ⟨some 24, _, _, _, _, _⟩) (v := (.agg (cellsE ino (lastS l)))) rfl (by kernel_rfl) (by kernel_rfl) (by kernel_rfl) (fun _ _ _ h => h) (Or.inl ⟨by rfl, fun W hS => by go_simp; rfl⟩) hHeld ?_
  (try simp only [Act.put, List.setIfInBounds_toArray, List.set_cons_zero, List.set_cons_succ])
  refine wpAnyH_ready (rs := [6]) (by kernel_rfl) (by simp) ?_
  refine AllReadyH.cons rfl (fun K hK => ?_) AllReadyH.nil
  go_simp
  refine (add_any HMl.out HO2.out HD2.out ino (lastS l) HNM.out HTl.out).mono ?_
  rintro e wa2 ⟨rfl, hm, ht⟩
  dsimp only
  refine hK.out _ _ (turn1_step hHeld ht) (fun hH => ?_)
  have HMa := Aside0.mk hm
  have hb := trivial
  clear hm ht
  clear hK K hHeld hb
  have hHeld := hH
  clear hH
  (try simp only [Act.put, List.setIfInBounds_toArray, List.set_cons_zero, List.set_cons_succ])
  refine wpAnyH_done (by kernel_rfl) ?_ _
  have HF := Aside0.mk hHeld
  clear hHeld
  (try simp only [Exit.then])
  go_wp2
  go_ret
  exact ⟨rfl, HMa.out, turn1_step HT2.out HF.out⟩
theorem put_clo {w : World} {pb mb : Nat} {q : Int} {T : Tree} (h : Mdl w pb mb q T) (p1 p3 : Addr) (g : Nat) (B : Option Addr) (cb : Nat) (b : List Int) (n ino : Int)
    (c1 : w.cell? p1 = some (.slice B b.length cb)) (c2 : w.cell? ⟨g, 1, none⟩ = some (.int .i64 n)) (c3 : w.cell? p3 = some (.int .i64 ino))
    (hr : ReadsInt w .u8 B b.length b) (hcb : b.length ≤ cb) (hino : 1 ≤ ino ∧ ino ≤ 64) :
    Calls Tryd.prog 53 #[mp pb, .pointer (some p1), .pointer (some ⟨g, 0, none⟩), .pointer (some p3)] w fun e w' => e = .returned (.int .i64 0) ∧ Mdl w' pb mb q (upd T ino (some (.file b n))) ∧ Turn1 mb w w' := by
  have hv : Holds w (.iface 62 (.agg #[.slice B b.length cb, .int .i64 n])) (some (.file b n)) := ⟨B, cb, rfl, hr, hcb⟩
  have C1 := Aside0.mk c1
  have N1 := Aside0.mk (cell_ne c1 h.2)
  have C2 := Aside0.mk c2
  have N2 := Aside0.mk (cell_ne c2 h.2)
  have C3 := Aside0.mk c3
  have N3 := Aside0.mk (cell_ne c3 h.2)
  have HM := Aside0.mk h
  have HI := Aside0.mk h.2.obj
  have P1 := Aside0.mk h.at_
  have NP := Aside0.mk (show ¬ (fun k => k = mb) pb from h.ne)
  have hMd := h.below (below_drew (Below.refl w.heap.size w))
  obtain ⟨w2, hrun, hM2, hg⟩ := hMd.2.store hino (hv.below (below_drew (Below.refl w.heap.size w)))
  have HT2 := Aside0.mk (show Turn1 mb w w2 from Turn1.of_store (below_drew (Below.refl _ _)) hg)
  have HM2 := Aside0.mk (h.stored HT2.out hM2)
  clear hM2 hg hMd h c1 c2 c3 hv hr hcb
  go_enter Tryd.func53, Tryd.ntmps53
  go_wp2
  refine wp_region_held_drew (S := fun W => Turn1 mb w W) (by kernel_rfl) (below_turn1 (below_drew (Below.refl _ _))) (fun hHeld => ?_)
  refine wpAnyH_take (i := 0) (oi := ⟨some 6, _, _, _, _, _⟩) (v := (mp pb)) rfl (by kernel_rfl) (by kernel_rfl) (by kernel_rfl) (fun _ _ _ h => h) (Or.inl ⟨by rfl, fun W hS => by go_simp⟩) hHeld ?_
  (try simp only [Act.put, List.setIfInBounds_toArray, List.set_cons_zero, List.set_cons_succ])
  refine wpAnyH_take (i := 1) (oi := ⟨some 7, _, _, _, _, _⟩) (v := (mp pb)) rfl (by kernel_rfl) (by kernel_rfl) (by kernel_rfl) (fun _ _ _ h => h) (Or.inl ⟨by rfl, fun W hS => by go_simp⟩) hHeld ?_
  (try simp only [Act.put, List.setIfInBounds_toArray, List.set_cons_zero, List.set_cons_succ])
  refine wpAnyH_take (i := 2) (oi := ⟨some 8, _, _, _, _, _⟩) (v := (.pointer (some ⟨pb, 1, none⟩))) rfl (by kernel_rfl) (by kernel_rfl) (by kernel_rfl) (fun _ _ _ h => h) (Or.inl ⟨by rfl, fun W hS => by go_simp⟩) hHeld ?_
  (try simp only [Act.put, List.setIfInBounds_toArray, List.set_cons_zero, List.set_cons_succ])
  refine wpAnyH_take (i := 3) (oi := ⟨some 9, _, _, _, _, _⟩) (v := (.map (some mb))) rfl (by kernel_rfl) (by kernel_rfl) (by kernel_rfl) (fun _ _ _ h => h) (Or.inl ⟨by rfl, fun W hS => by have cc := (show Turn1 mb w W from hS).cell P1.out NP.out; go_simp⟩) hHeld ?_
  (try simp only [Act.put, List.setIfInBounds_toArray, List.set_cons_zero, List.set_cons_succ])
  refine wpAnyH_take (i := 4) (oi := ⟨some 10, _, _, _, _, _⟩) (v := (.int .i64 ino)) rfl (by kernel_rfl) (by kernel_rfl) (by kernel_rfl) (fun _ _ _ h => h) (Or.inl ⟨by rfl, fun W hS => by have cc := (show Turn1 mb w W from hS).cell C3.out N3.out; go_simp⟩) hHeld ?_
  (try simp only [Act.put, List.setIfInBounds_toArray, List.set_cons_zero, List.set_cons_succ])
  refine wpAnyH_take (i := 5) (oi := ⟨some 11, _, _, _, _, _⟩) (v := (.slice B b.length cb)) rfl (by kernel_rfl) (by kernel_rfl) (by kernel_rfl) (fun _ _ _ h => h) (Or.inl ⟨by rfl, fun W hS => by have cc := (show Turn1 mb w W from hS).cell C1.out N1.out; go_simp⟩) hHeld ?_
  (try simp only [Act.put, List.setIfInBounds_toArray, List.set_cons_zero, List.set_cons_succ])
  refine wpAnyH_take (i := 6) (oi := ⟨some 12, _, _, _, _, _⟩) (v := (.pointer (some ⟨g, 1, none⟩))) rfl (by kernel_rfl) (by kernel_rfl) (by kernel_rfl) (fun _ _ _ h => h) (Or.inl ⟨by rfl, fun W hS => by go_simp⟩) hHeld ?_
  (try simp only [Act.put, List.setIfInBounds_toArray, List.set_cons_zero, List.set_cons_succ])
  refine wpAnyH_take (i := 7) (oi := ⟨some 13, _, _, _, _, _⟩) (v := (.int .i64 n)) rfl (by kernel_rfl) (by kernel_rfl) (by kernel_rfl) (fun _ _ _ h => h) (Or.inl ⟨by rfl, fun W hS => by have cc := (show Turn1 mb w W from hS).cell C2.out N2.out; go_simp⟩) hHeld ?_
  (try simp only [Act.put, List.setIfInBounds_toArray, List.set_cons_zero, List.set_cons_succ])
  refine wpAnyH_take (i := 8) (oi := ⟨some 14, _, _, _, _, _⟩) (v := (.agg #[.slice B b.length cb, .int .i64 n])) rfl (by kernel_rfl) (by kernel_rfl) (by kernel_rfl) (fun _ _ _ h => h) (Or.inl ⟨by rfl, fun W hS => by go_simp⟩) hHeld ?_
  (try simp only [Act.put, List.setIfInBounds_toArray, List.set_cons_zero, List.set_cons_succ])
  refine wpAnyH_take (i := 9) (oi := ⟨some 15, _, _, _, _, _⟩) (v := (.iface 62 (.agg #[.slice B b.length cb, .int .i64 n]))) rfl (by kernel_rfl) (by kernel_rfl) (by kernel_rfl) (fun _ _ _ h => h) (Or.inl ⟨by rfl, fun W hS => by go_simp⟩) hHeld ?_
  (try simp only [Act.put, List.setIfInBounds_toArray, List.set_cons_zero, List.set_cons_succ])
  refine wpAnyH_ready (rs := [10]) (by kernel_rfl) (by simp) ?_
  refine AllReadyH.cons rfl (fun K hK => ?_) AllReadyH.nil
  go_simp
  refine hK.out _ _ (show Turn1 mb w w2 from HT2.out) (fun hH => ?_)
  clear hK K hHeld
  have hHeld := hH
  clear hH
  (try simp only [Act.put, List.setIfInBounds_toArray, List.set_cons_zero, List.set_cons_succ])
  refine wpAnyH_done (by kernel_rfl) ?_ _
  clear hHeld
  (try simp only [Exit.then])
  go_wp2
  go_ret
  exact ⟨rfl, HM2.out, HT2.out⟩
theorem rename_clo {w : World} {pb mb : Nat} {q : Int} {T : Tree} (h : Mdl w pb mb q T) (p1 p2 p3 p4 p5 : Addr) (a at_ ino : Int) (A' : Option Addr) (c' : Nat) (l' : List ByteArray) (A : Option Addr) (c : Nat) (l : List ByteArray) (da d : List S90)
    (c1 : w.cell? p1 = some (.int .i64 a)) (c2 : w.cell? p2 = some (.slice A' l'.length c')) (c3 : w.cell? p3 = some (.int .i64 at_)) (c4 : w.cell? p4 = some (.int .i64 ino)) (c5 : w.cell? p5 = some (.slice A l.length c))
    (hO1 : Ok T) (ha : T a = some (.dir da)) (hO : Ok (upd T a (some (.dir (remR da (lastS l')).1)))) (hd : upd T a (some (.dir (remR da (lastS l')).1)) at_ = some (.dir d))
    (hs' : St w A' l') (hc' : l'.length ≤ c') (h0' : 0 < l'.length) (h1' : l'.length ≤ 1048576) (hn' : (lastS l').size ≤ 1048576)
    (hs : St w A l) (hc : l.length ≤ c) (h0 : 0 < l.length) (h1 : l.length ≤ 1048576) (hn : (lastS l).size ≤ 1048576) (hT : Lib.Utf8Tabs 2 3 w) :
    Calls Tryd.prog 47 #[mp pb, .pointer (some p1), .pointer (some p2), .pointer (some p3), .pointer (some p4), .pointer (some p5)] w fun e w' => e = .returned (.int .i64 0) ∧ Mdl w' pb mb q (upd (upd T a (some (.dir (remR da (lastS l')).1))) at_ (some (.dir (insR d ⟨ino, lastS l⟩).1))) ∧ Turn1 mb w w' := by
  have C1 := Aside0.mk c1
  have N1 := Aside0.mk (cell_ne c1 h.2)
  have C2 := Aside0.mk c2
  have N2 := Aside0.mk (cell_ne c2 h.2)
  have C3 := Aside0.mk c3
  have N3 := Aside0.mk (cell_ne c3 h.2)
  have C4 := Aside0.mk c4
  have N4 := Aside0.mk (cell_ne c4 h.2)
  have C5 := Aside0.mk c5
  have N5 := Aside0.mk (cell_ne c5 h.2)
  have HM := Aside0.mk h
  have HI := Aside0.mk h.2.obj
  have P1 := Aside0.mk h.at_
  have NP := Aside0.mk (show ¬ (fun k => k = mb) pb from h.ne)
  have HS := Aside0.mk hs
  have HC := Aside0.mk hc
  have HL0 := Aside0.mk h0
  have HL1 := Aside0.mk h1
  have HNM := Aside0.mk hn
  have HO2 := Aside0.mk hO
  have HD2 := Aside0.mk hd
  have HNM' := Aside0.mk hn'
  have HO1 := Aside0.mk hO1
  have HDA := Aside0.mk ha
  have HMd := Aside0.mk (h.below (below_drew (Below.refl w.heap.size w)))
  have HUd := Aside0.mk (Utf8Tabs_below hT (below_drew (Below.refl w.heap.size w)))
  have HU := Aside0.mk hT
  have HIN := Aside0.mk h.2.inner
  have HLS := Aside0.mk (lastS_any A' c' l' w.drew (Kd.C_below hs' (below_drew (Below.refl w.heap.size w))) hc' h0' h1')
  clear h c1 c2 c3 c4 c5 hO hd hs hc h0 h1 hn hT hs' hc' h0' h1' hn' hO1 ha
  go_enter Tryd.func47, Tryd.ntmps47
  go_wp2
  refine wp_region_held_drew (S := fun W => Turn1 mb w W) (by kernel_rfl) (below_turn1 (below_drew (Below.refl _ _))) (fun hHeld => ?_)
  refine wpAnyH_take (i := 0) (oi := ⟨some 8, _, _, _, _, _⟩) (v := (mp pb)) rfl (by kernel_rfl) (by kernel_rfl) (by kernel_rfl) (fun _ _ _ h => h) (Or.inl ⟨by rfl, fun W hS => by go_simp⟩) hHeld ?_
  (try simp only [Act.put, List.setIfInBounds_toArray, List.set_cons_zero, List.set_cons_succ])
  refine wpAnyH_take (i := 1) (oi := ⟨some 9, _, _, _, _, _⟩) (v := (.int .i64 a)) rfl (by kernel_rfl) (by kernel_rfl) (by kernel_rfl) (fun _ _ _ h => h) (Or.inl ⟨by rfl, fun W hS => by have cc := (show Turn1 mb w W from hS).cell C1.out N1.out; go_simp⟩) hHeld ?_
  (try simp only [Act.put, List.setIfInBounds_toArray, List.set_cons_zero, List.set_cons_succ])
  refine wpAnyH_take (i := 2) (oi := ⟨some 10, _, _, _, _, _⟩) (v := (.slice A' l'.length c')) rfl (by kernel_rfl) (by kernel_rfl) (by kernel_rfl) (fun _ _ _ h => h) (Or.inl ⟨by rfl, fun W hS => by have cc := (show Turn1 mb w W from hS).cell C2.out N2.out; go_simp⟩) hHeld ?_
  (try simp only [Act.put, List.setIfInBounds_toArray, List.set_cons_zero, List.set_cons_succ])
  refine wpAnyH_ready (rs := [3]) (by kernel_rfl) (by simp) ?_
  refine AllReadyH.cons rfl (fun K hK => ?_) AllReadyH.nil
  go_simp
  refine (HLS.out).mono ?_
  rintro e wl ⟨rfl, hb⟩
  dsimp only
  refine hK.out _ _ (turn1_step hHeld (below_turn1 hb)) (fun hH => ?_)
  have HMl := Aside0.mk (HMd.out.below hb)
  have HTl := Aside0.mk (Utf8Tabs_below HUd.out hb)
  clear hK K hHeld hb
  have hHeld := hH
  clear hH
  (try simp only [Act.put, List.setIfInBounds_toArray, List.set_cons_zero, List.set_cons_succ])
  refine wpAnyH_ready (rs := [4]) (by kernel_rfl) (by simp) ?_
  refine AllReadyH.cons rfl (fun K hK => ?_) AllReadyH.nil
  go_simp
  refine (drop_any HMl.out HO1.out HDA.out (lastS l') HNM'.out HTl.out).mono ?_
  rintro e w2 ⟨rfl, hm, ht⟩
  dsimp only
  refine hK.out _ _ (turn1_step hHeld ht) (fun hH => ?_)
  have HM2 := Aside0.mk hm
  have hb := trivial
  clear hm ht
  clear hK K hHeld hb
  have hHeld := hH
  clear hH
  (try simp only [Act.put, List.setIfInBounds_toArray, List.set_cons_zero, List.set_cons_succ])
  refine wpAnyH_done (by kernel_rfl) ?_ _
  have HT2 := Aside0.mk (show Turn1 mb w w2 from hHeld)
  have HU2 := Aside0.mk (tabs_turn HU.out HT2.out (fun k e => (show k = mb from e) ▸ HIN.out))
  clear hHeld HMl HTl
  (try simp only [Exit.then])
  go_wp2
  have HMd2 := Aside0.mk (HM2.out.below (below_drew (Below.refl _ _)))
  have HUd2 := Aside0.mk (Utf8Tabs_below HU2.out (below_drew (Below.refl w2.heap.size w2)))
  have HLS2 := Aside0.mk (lastS_any A c l w2.drew (Kd.C_below (St_turn HS.out HT2.out HI.out) (below_drew (Below.refl w2.heap.size w2))) HC.out HL0.out HL1.out)
  refine wp_region_held_drew (S := fun W => Turn1 mb w2 W) (by kernel_rfl) (below_turn1 (below_drew (Below.refl _ _))) (fun hHeld => ?_)
  refine wpAnyH_take (i := 0) (oi := ⟨some 13, _, _, _, _, _⟩) (v := (mp pb)) rfl (by kernel_rfl) (by kernel_rfl) (by kernel_rfl) (fun _ _ _ h => h) (Or.inl ⟨by rfl, fun W hS => by go_simp⟩) hHeld ?_
  (try simp only [Act.put, List.setIfInBounds_toArray, List.set_cons_zero, List.set_cons_succ])
  refine wpAnyH_take (i := 1) (oi := ⟨some 14, _, _, _, _, _⟩) (v := (.int .i64 at_)) rfl (by kernel_rfl) (by kernel_rfl) (by kernel_rfl) (fun _ _ _ h => h) (Or.inl ⟨by rfl, fun W hS => by have cc := (turn1_step HT2.out (show Turn1 mb w2 W from hS)).cell C3.out N3.out; go_simp⟩) hHeld ?_
  (try simp only [Act.put, List.setIfInBounds_toArray, List.set_cons_zero, List.set_cons_succ])
  refine wpAnyH_take (i := 2) (oi := ⟨some 15, _, _, _, _, _⟩) (v := (.int .i64 ino)) rfl (by kernel_rfl) (by kernel_rfl) (by kernel_rfl) (fun _ _ _ h => h) (Or.inl ⟨by rfl, fun W hS => by have cc := (turn1_step HT2.out (show Turn1 mb w2 W from hS)).cell C4.out N4.out; go_simp⟩) hHeld ?_
  (try simp only [Act.put, List.setIfInBounds_toArray, List.set_cons_zero, List.set_cons_succ])
  refine wpAnyH_take (i := 3) (oi := ⟨some 16, _, _, _, _, _⟩) (v := (.slice A l.length c)) rfl (by kernel_rfl) (by kernel_rfl) (by kernel_rfl) (fun _ _ _ h => h) (Or.inl ⟨by rfl, fun W hS => by have cc := (turn1_step HT2.out (show Turn1 mb w2 W from hS)).cell C5.out N5.out; go_simp⟩) hHeld ?_
  (try simp only [Act.put, List.setIfInBounds_toArray, List.set_cons_zero, List.set_cons_succ])
  refine wpAnyH_ready (rs := [4]) (by kernel_rfl) (by simp) ?_
  refine AllReadyH.cons rfl (fun K hK => ?_) AllReadyH.nil
  go_simp
  refine (HLS2.out).mono ?_
  rintro e wl2 ⟨rfl, hb⟩
  dsimp only
  refine hK.out _ _ (turn1_step hHeld (below_turn1 hb)) (fun hH => ?_)
  have HMl := Aside0.mk (HMd2.out.below hb)
  have HTl := Aside0.mk (Utf8Tabs_below HUd2.out hb)
  clear hK K hHeld hb
  have hHeld := hH
  clear hH
  (try simp only [Act.put, List.setIfInBounds_toArray, List.set_cons_zero, List.set_cons_succ])
  refine wpAnyH_take (i := 5) (oi := ⟨some 18, _, _, _, _, _⟩) (v := (.agg (cellsE ino (lastS l)))) rfl (by kernel_rfl) (by kernel_rfl) (by kernel_rfl) (fun _ _ _ h => h) (Or.inl ⟨by rfl, fun W hS => by go_simp; rfl⟩) hHeld ?_
  (try simp only [Act.put, List.setIfInBounds_toArray, List.set_cons_zero, List.set_cons_succ])
  refine wpAnyH_ready (rs := [6]) (by kernel_rfl) (by simp) ?_
  refine AllReadyH.cons rfl (fun K hK => ?_) AllReadyH.nil
  go_simp
  refine (add_any HMl.out HO2.out HD2.out ino (lastS l) HNM.out HTl.out).mono ?_
  rintro e wa2 ⟨rfl, hm, ht⟩
  dsimp only
  refine hK.out _ _ (turn1_step hHeld ht) (fun hH => ?_)
  have HMa := Aside0.mk hm
  have hb := trivial
  clear hm ht
  clear hK K hHeld hb
  have hHeld := hH
  clear hH
  (try simp only [Act.put, List.setIfInBounds_toArray, List.set_cons_zero, List.set_cons_succ])
  refine wpAnyH_done (by kernel_rfl) ?_ _
  have HF := Aside0.mk hHeld
  clear hHeld
  (try simp only [Exit.then])
  go_wp2
  go_ret
  exact ⟨rfl, HMa.out, turn1_step HT2.out HF.out⟩
end Go.Proofs.YtcmcmkfoihlniaaDoor.MM
end

section
namespace Go.Proofs.YtcmcmkfoihlniaaDoor.MM
open Go Go.RowKit Go.Maps Go.Proofs.YtcmcmkfoihlniaaDoorX Go.Proofs.YtcmcmkfoihlniaaDoor.NM Go.Proofs.YtcmcmkfoihlniaaDoor.EN Go.Proofs.YtcmcmkfoihlniaaDoorW.PrintWords Go.Proofs.YtcmcmkfoihlniaaDoorW.PrintLast Go.Proofs.YtcmcmkfoihlniaaDoorW.PrintMore Go.Proofs.YtcmcmkfoihlniaaDoor.PModelUndoes
set_option linter.unusedVariables false
set_option linter.unusedSimpArgs false
set_option maxRecDepth 100000
set_option maxHeartbeats 1000000
@[go_sem] theorem eq_nil (w : World) : (binOp .eql 57 .nilIface .nilIface).run Tryd.prog w = .ok (.bool true) w := by kernel_rfl
@[go_sem] theorem eq_62 (v : Value) (w : World) : (binOp .eql 57 (.iface 62 v) .nilIface).run Tryd.prog w = .ok (.bool false) w := by kernel_rfl
@[go_sem] theorem eq_81 (v : Value) (w : World) : (binOp .eql 57 (.iface 81 v) .nilIface).run Tryd.prog w = .ok (.bool false) w := by kernel_rfl
def leastL (T : Tree) : Nat → Nat → Int
  | 0, _ => 0
  | f + 1, n => if (T (n : Int)).isNone then (n : Int) else leastL T f (n + 1)
def leastR (T : Tree) : Int := leastL T 64 1
theorem leastL_is {T : Tree} : ∀ {f n : Nat} {k : Int}, leastL T f n = k → k ≠ 0 → n ≤ k ∧ k < n + f ∧ T k = none
  | 0, n, k, h, h0 => absurd h.symm h0
  | f + 1, n, k, h, h0 => by
    rw [leastL] at h
    split at h
    · next h1 =>
      subst h
      refine ⟨by omega, by omega, by simpa using h1⟩
    · obtain ⟨a, b, c⟩ := leastL_is h h0
      exact ⟨by omega, by omega, c⟩
theorem leastR_is {T : Tree} {k : Int} (h : leastR T = k) (h0 : k ≠ 0) : 1 ≤ k ∧ k ≤ 64 ∧ T k = none := by
  obtain ⟨a, b, c⟩ := leastL_is h h0
  exact ⟨by omega, by omega, c⟩
theorem holds_iface {w : World} {v : Value} {x : Nd} (h : Holds w v (some x)) : (∃ u, v = .iface 62 u) ∨ ∃ u, v = .iface 81 u := by
  cases x with
  | file b k => obtain ⟨A, c, e, _⟩ := h; exact .inl ⟨_, e⟩
  | dir l => obtain ⟨A, c, e, _⟩ := h; exact .inr ⟨_, e⟩
theorem least_any {w : World} {pb mb : Nat} {q : Int} {T : Tree} (h : Mdl w pb mb q T) : Calls Tryd.prog 55 #[mp pb] w fun e w' => e = .returned (.int .i64 (leastR T)) ∧ Below w.heap.size w w' := by
  obtain ⟨F, hF⟩ : ∃ F, leastR T = F := ⟨_, rfl⟩
  rw [hF]
  have HF := Aside0.mk hF
  have HM := Aside0.mk h
  clear h hF
  go_enter Tryd.func55, Tryd.ntmps55
  go_wp2
  go_loopw [3] (fun v3 wr => ∃ n : Nat, v3 = .int .i64 n ∧ Aside0 (1 ≤ n ∧ n ≤ 65) ∧ Aside0 (leastL T (65 - n) n = F) ∧ Aside0 (Below w.heap.size w wr)) (fun v3 _ => 65 - (intOf v3).toNat)
  case atStart => exact ⟨1, rfl, ⟨by omega⟩, HF, ⟨Below.refl _ _⟩⟩
  case round =>
    obtain ⟨n, rfl, HN, HL, HB⟩ := hrel
    have hM := HM.out.below HB.out
    have h1 := hM.at_
    by_cases hn : n ≤ 64
    · have n1 : (n : Int) ≤ 64 := by omega
      have hl := HL.out
      rw [show 65 - n = (64 - n) + 1 by omega, leastL] at hl
      obtain ⟨v, hlk, hv⟩ := hM.2.look (k := (n : Int)) ⟨by omega, by omega⟩
      have HN1 := Aside0.mk hn
      cases hT : T (n : Int) with
      | none =>
        rw [hT] at hv hl
        obtain rfl : v = .nilIface := hv
        rw [if_pos (by decide)] at hl
        have HF2 := Aside0.mk hl
        clear hT hl hM hn
        go_wp2
        go_ret
        rw [← HF2.out]
        exact ⟨rfl, HB.out⟩
      | some x =>
        rw [hT] at hv hl
        rw [if_neg (by simp)] at hl
        have HL2 := Aside0.mk hl
        clear hT hl hM hn
        rcases holds_iface hv with ⟨u, rfl⟩ | ⟨u, rfl⟩
        · clear hv
          go_wp2
          go_roundw
          case rel =>
            have hn := HN1.out
            refine ⟨n + 1, ?_, ⟨by omega⟩, ⟨?_⟩, HB⟩
            · first | rfl | (simp; done) | (congr 1; omega)
            · rw [show 65 - (n + 1) = 64 - n by omega]; exact HL2.out
          case measure => have hn := HN1.out; simp [intOf]; omega
        · clear hv
          go_wp2
          go_roundw
          case rel =>
            have hn := HN1.out
            refine ⟨n + 1, ?_, ⟨by omega⟩, ⟨?_⟩, HB⟩
            · first | rfl | (simp; done) | (congr 1; omega)
            · rw [show 65 - (n + 1) = 64 - n by omega]; exact HL2.out
          case measure => have hn := HN1.out; simp [intOf]; omega
    · have n1 : ¬ (n : Int) ≤ 64 := by omega
      have HF2 := Aside0.mk (show F = 0 by
        rw [← HL.out, show 65 - n = 0 by omega]; rfl)
      clear hM hn
      go_wp2
      go_ret
      rw [HF2.out]
      exact ⟨rfl, HB.out⟩
end Go.Proofs.YtcmcmkfoihlniaaDoor.MM
end

section
namespace Go.Proofs.YtcmcmkfoihlniaaDoor.MM
open Go Go.RowKit Go.Maps Go.Proofs.YtcmcmkfoihlniaaDoorX Go.Proofs.YtcmcmkfoihlniaaDoor.NM Go.Proofs.YtcmcmkfoihlniaaDoor.EN Go.Proofs.YtcmcmkfoihlniaaDoorW.PrintWords Go.Proofs.YtcmcmkfoihlniaaDoorW.PrintLast Go.Proofs.YtcmcmkfoihlniaaDoorW.PrintMore Go.Proofs.YtcmcmkfoihlniaaDoor.PModelUndoes
set_option linter.unusedVariables false
set_option linter.unusedSimpArgs false
set_option maxRecDepth 100000
set_option maxHeartbeats 1000000
def blkI (n : Int) : Int := if n ≤ 0 then 0 else (n - 1) / 112 + 1
def useI (n : Int) : Int := if 6 < blkI (min n 3808) then blkI (min n 3808) + 2 else blkI (min n 3808) + 1
theorem blkI_le {n : Int} (h : n ≤ 3808) : 0 ≤ blkI n ∧ blkI n ≤ 34 := by
  unfold blkI; split <;> omega
theorem useI_le (n : Int) : 1 ≤ useI n ∧ useI n ≤ 36 := by
  have := blkI_le (n := min n 3808) (by omega)
  unfold useI; split <;> omega
theorem useI_mono {n m : Int} (h : n ≤ m) : useI n ≤ useI m := by
  have hb : blkI (min n 3808) ≤ blkI (min m 3808) := by
    unfold blkI; split <;> split <;> omega
  unfold useI; split <;> split <;> omega
theorem use_f {n : Int} (h0 : 0 ≤ n) : room_Use.f n = some (useI n) := by
  have e : mn n 3808 = min n 3808 := by unfold mn; omega
  have hb : inode_Blocks.f (min n 3808) = some (blkI (min n 3808)) := by
    unfold inode_Blocks.f blkI
    by_cases h : min n 3808 ≤ 0
    · rw [if_pos h, if_pos h]
    · rw [if_neg h, if_neg h]
      congr 1
      rw [IntWalk.wrap64_in (min n 3808 - 1) (by omega), Int.tdiv_eq_ediv_of_nonneg (by omega), IntWalk.wrap64_in ((min n 3808 - 1) / 112) (by omega), IntWalk.wrap64_in _ (by omega)]
  have hl := blkI_le (n := min n 3808) (by omega)
  unfold room_Use.f
  rw [e, hb]
  show (if blkI (min n 3808) > 6 then _ else _) = _
  unfold useI
  by_cases h : 6 < blkI (min n 3808)
  · rw [if_pos h, if_pos h, IntWalk.wrap64_in (blkI (min n 3808) + 1) (by omega), IntWalk.wrap64_in _ (by omega)]
    congr 1; omega
  · rw [if_neg h, if_neg h, IntWalk.wrap64_in _ (by omega)]
def sizeN : Nd → Int
  | .file b _ => (b.length : Int)
  | .dir l => (l.length : Int) * 28
def costT (T : Tree) (k : Int) : Int := match T k with | none => 0 | some x => useI (sizeN x)
def sumT (f : Int → Int) : Nat → Int
  | 0 => 0
  | n + 1 => sumT f n + f ((n : Int) + 1)
def usedT (T : Tree) : Int := sumT (costT T) 64
theorem sumT_same {f g : Int → Int} : ∀ (n : Nat), (∀ k, 1 ≤ k → k ≤ (n : Int) → f k = g k) → sumT f n = sumT g n
  | 0, _ => rfl
  | n + 1, h => by rw [sumT, sumT, sumT_same n (fun k h1 h2 => h k h1 (by omega)), h _ (by omega) (by omega)]
theorem sumT_at {f g : Int → Int} {j c : Int} : ∀ (n : Nat), 1 ≤ j → j ≤ (n : Int) → (∀ k, k ≠ j → f k = g k) → f j = g j + c → sumT f n = sumT g n + c
  | 0, h1, h2, _, _ => by omega
  | n + 1, h1, h2, h3, h4 => by
    rw [sumT, sumT]
    by_cases e : j = (n : Int) + 1
    · rw [sumT_same n (fun k k1 k2 => h3 k (by omega)), ← e, h4]; omega
    · rw [sumT_at n h1 (by omega) h3 h4, h3 _ (Ne.symm e)]; omega
theorem sumT_zero {f : Int → Int} : ∀ (n : Nat), (∀ k, 1 ≤ k → k ≤ (n : Int) → f k = 0) → sumT f n = 0
  | 0, _ => rfl
  | n + 1, h => by rw [sumT, sumT_zero n (fun k h1 h2 => h k h1 (by omega)), h _ (by omega) (by omega)]; rfl
theorem sumT_le {f : Int → Int} {c : Int} : ∀ (n : Nat), (∀ k, 0 ≤ f k ∧ f k ≤ c) → 0 ≤ sumT f n ∧ sumT f n ≤ n * c
  | 0, _ => ⟨Int.le_refl _, by simp [sumT]⟩
  | n + 1, h => by
    have h1 := sumT_le n h
    have h2 := h ((n : Int) + 1)
    rw [sumT, show ((n + 1 : Nat) : Int) * c = (n : Int) * c + c by rw [Int.natCast_add, Int.add_mul]; simp]
    omega
theorem costT_le (T : Tree) (k : Int) : 0 ≤ costT T k ∧ costT T k ≤ 36 := by
  unfold costT
  split
  · omega
  · have := useI_le (sizeN ‹_›); omega
def leftT (left : Lit → Bool) (T : Tree) (k : Int) : Int := if left (key k) = true then 0 else costT T k
theorem leftT_le (left : Lit → Bool) (T : Tree) (k : Int) : 0 ≤ leftT left T k ∧ leftT left T k ≤ 36 := by
  unfold leftT
  split
  · omega
  · exact costT_le T k
theorem file_size (b : List Int) (A : Option Addr) (c : Nat) (n : Int) (w : World) : Calls Tryd.prog 113 #[.agg #[.slice A b.length c, .int .i64 n]] w fun e w' => e = .returned (.int .i64 (sizeN (.file b n))) ∧ Below w.heap.size w w' := by
  go_enter Tryd.func113, Tryd.ntmps113
  go_wp2
  go_ret
  exact ⟨rfl, below_alloc (Below.refl _ _) _⟩
theorem dir_size (l : List S90) (A : Option Addr) (c : Nat) (w : World) (hl : l.length ≤ 1048576) : Calls Tryd.prog 117 #[.slice A l.length c] w fun e w' => e = .returned (.int .i64 (sizeN (.dir l))) ∧ Below w.heap.size w w' := by
  go_enter Tryd.func117, Tryd.ntmps117
  go_wp2
  go_ret
  exact ⟨rfl, Below.refl _ _⟩
@[go_sem] theorem meth_size62 (v : Value) (w : World) : (method 254 62 v "hayrick/model.size").run Tryd.prog w = .ok (113, v) w := by kernel_rfl
@[go_sem] theorem meth_size81 (v : Value) (w : World) : (method 254 81 v "hayrick/model.size").run Tryd.prog w = .ok (117, v) w := by kernel_rfl
theorem used_any {w : World} {pb mb : Nat} {q : Int} {T : Tree} (h : Mdl w pb mb q T) (hO : Ok T) : Calls Tryd.prog 21 #[mp pb] w fun e w' => e = .returned (.int .i64 (usedT T)) ∧ Below w.heap.size w w' := by
  have HN := Aside0.mk (none_any h)
  have HM := Aside0.mk h
  have HO := Aside0.mk hO
  obtain ⟨F, hF⟩ : ∃ F, usedT T = F := ⟨_, rfl⟩
  rw [hF]
  have HF := Aside0.mk hF
  have h58 := Aside0.mk Tryd.underlying58
  clear h hO hF
  go_enter Tryd.func21, Tryd.ntmps21
  go_wp2_with (go_at_call 28; refine Calls.mono HN.out ?_; rintro e w1 ⟨rfl, hb⟩; have HB1 := Aside0.mk hb; have HM1 := Aside0.mk (HM.out.below hb); have P1 := HM1.out.at_; obtain ⟨hd, D, V, ho, hV⟩ := HM1.out.2; obtain ⟨w2, hrg, hr2, hg2, hs2⟩ := ho.range law3 h58.out; have HB2 := Aside0.mk (show Below w1.heap.size w1 w2 from ⟨hg2.os, hg2.tape, hg2.output, hg2.size, fun k hk => hg2.block k hk (by simp)⟩); have HV := Aside0.mk hV; have HD := Aside0.mk hd; have HR2 := Aside0.mk hr2; have HS2 := Aside0.mk hs2; have HLT := Aside0.mk HM1.out.2.lt; clear hb hd ho hV hr2 hg2 hs2)
  go_loopw [3] (fun v3 wr => ∃ (left : Lit → Bool) (cnt : Nat), v3 = .int .i64 (sumT (leftT left T) 64) ∧ Aside0 (wr.ranges Tryd.prog 3 RV mb w1.heap.size 64 D left cnt) ∧ Aside0 (Below w1.heap.size w1 wr)) (fun _ wr => wr.rangeLeft mb w1.heap.size)
  case atStart =>
    refine ⟨Maps.has D, Maps.size D, ?_, HR2, HB2⟩
    rw [sumT_zero 64 (fun k h1 h2 => ?_)]
    unfold leftT costT
    obtain ⟨_, _, h3⟩ := HV.out k ⟨by omega, by omega⟩
    split
    · rfl
    · next h =>
      have : T k = none := by
        cases hT : T k with
        | none => rfl
        | some x => exact absurd (h3.2 (by rw [hT]; simp)) h
      rw [this]
  case round =>
    obtain ⟨left, cnt, rfl, HR, HB⟩ := hrel
    rcases HR.out.next law3 0 with ⟨h0, hl, hnx⟩ | ⟨k', v, kl, y, w3, cnt', hkey, hlk, hv, hat, hnx, hr3, hlt, hg3, hs3, hen⟩
    · have HF2 := Aside0.mk (show sumT (leftT left T) 64 = F by
        rw [← HF.out]
        exact sumT_same 64 (fun k _ _ => by unfold leftT; rw [if_neg (by rw [hl]; decide)]))
      clear h0 hl
      go_wp2
      go_ret
      rw [← HF2.out]
      exact ⟨rfl, below_step HB1.out HB.out⟩
    · obtain ⟨k, rfl, hkr⟩ := key_int hkey
      obtain ⟨_, rfl, e2, _⟩ := Maps.keyOf_int_inv Tryd.underlying3 hkey
      cases e2
      have hy : y = (.held v, []) := (Option.some.inj hv).symm
      subst hy
      obtain ⟨h1, h2, h3⟩ := HV.out k hkr
      have hvv : V k = v := by
        have := h1.symm.trans (hat _)
        injection this
      have hne : T k ≠ none := h3.1 (has_true_of_atKey hat)
      have hk := HD.out k hne
      have HIN := Aside0.mk (show leftT left T k = 0 by unfold leftT; rw [if_pos hlk])
      obtain ⟨x, hx⟩ : ∃ x, T k = some x := by
        cases hT : T k with
        | none => exact absurd hT hne
        | some x => exact ⟨x, rfl⟩
      rw [hvv, hx] at h2
      have hsum : sumT (leftT (fun z => left z && !z.sameKey (key k)) T) 64 = sumT (leftT left T) 64 + useI (sizeN x) := by
        refine sumT_at (j := k) 64 hk.1 hk.2 (fun j hj => ?_) ?_
        · unfold leftT
          have : (key j).sameKey (key k) = false := sameKey_ne (fun e => hj (by injection e))
          simp only [this, Bool.not_false, Bool.and_true]
        · have hs : (key k).sameKey (key k) = true := WideAt.sameKey_self trivial
          rw [HIN.out]
          unfold leftT costT
          simp only [hs, hx]
          simp
      obtain ⟨S, hS⟩ : ∃ S, sumT (leftT left T) 64 = S := ⟨_, rfl⟩
      have hS0 := sumT_le 64 (leftT_le left T)
      rw [hS] at hS0 hsum
      have hu := useI_le (sizeN x)
      obtain ⟨U, hU⟩ : ∃ U, useI (sizeN x) = U := ⟨_, rfl⟩
      rw [hU] at hu hsum
      have HSU := Aside0.mk hsum
      have HR3 := Aside0.mk hr3
      have HB3 := Aside0.mk (show Below w1.heap.size w1 w3 from HB.out.trans ⟨hg3.os, hg3.tape, hg3.output, hg3.size, fun i hi => hg3.block i (Nat.lt_of_lt_of_le hi HB.out.size) (fun e => by have := Option.some.inj e; omega)⟩)
      have HLT3 := Aside0.mk hlt
      have HSS := Aside0.mk hS
      rw [hS]
      clear hsum hr3 hg3 hlt hs3 hkey hat hlk hv h1 h3 hne hS hvv
      cases x with
      | file b n =>
        obtain ⟨A, c, rfl, _, _⟩ := h2
        have HSZ := Aside0.mk (file_size b A c n w3)
        obtain ⟨z, hz⟩ : ∃ z, sizeN (.file b n) = z := ⟨_, rfl⟩
        have hz0 : 0 ≤ z := by rw [← hz]; exact Int.natCast_nonneg _
        rw [hz] at hU HSZ
        have HUF := Aside0.mk (show room_Use.f z = some U by rw [use_f hz0, hU])
        clear hz hU hx hz0
        go_wp2_with (first
          | (have hz := HB4.out; clear hz; go_at_call 50; refine Calls.mono (room_Use.calls z U w4 HUF.out) ?_; rintro e w5 ⟨rfl, hb⟩; have HB5 := Aside0.mk (below_step HB4.out hb); clear hb)
          | (go_at_call 113; refine Calls.mono HSZ.out ?_; rintro e w4 ⟨rfl, hb⟩; have HB4 := Aside0.mk hb; clear hb))
        go_roundw
        case rel =>
          refine ⟨_, cnt', congrArg (Value.int .i64) HSU.out.symm, ⟨HR3.out.kept (grown_of_below HB5.out none) (by simp) (by simp)⟩, ⟨HB3.out.trans (HB5.out.mono HB3.out.size)⟩⟩
        case measure =>
          have h1 := (HR3.out.kept (grown_of_below HB5.out none) (by simp) (by simp)).left_eq
          have h2 := HR.out.left_eq
          have h3 := HLT3.out
          rw [h1, h2]; exact h3
      | dir l =>
        obtain ⟨A, c, rfl, _, _⟩ := h2
        have HSZ := Aside0.mk (dir_size l A c w3 (by have := may_len (HO.out.dirs k l hx); omega))
        obtain ⟨z, hz⟩ : ∃ z, sizeN (.dir l) = z := ⟨_, rfl⟩
        have hz0 : 0 ≤ z := by rw [← hz]; show 0 ≤ (l.length : Int) * 28; omega
        rw [hz] at hU HSZ
        have HUF := Aside0.mk (show room_Use.f z = some U by rw [use_f hz0, hU])
        clear hz hU hx hz0
        go_wp2_with (first
          | (have hz := HB4.out; clear hz; go_at_call 50; refine Calls.mono (room_Use.calls z U w4 HUF.out) ?_; rintro e w5 ⟨rfl, hb⟩; have HB5 := Aside0.mk (below_step HB4.out hb); clear hb)
          | (go_at_call 117; refine Calls.mono HSZ.out ?_; rintro e w4 ⟨rfl, hb⟩; have HB4 := Aside0.mk hb; clear hb))
        go_roundw
        case rel =>
          refine ⟨_, cnt', congrArg (Value.int .i64) HSU.out.symm, ⟨HR3.out.kept (grown_of_below HB5.out none) (by simp) (by simp)⟩, ⟨HB3.out.trans (HB5.out.mono HB3.out.size)⟩⟩
        case measure =>
          have h1 := (HR3.out.kept (grown_of_below HB5.out none) (by simp) (by simp)).left_eq
          have h2 := HR.out.left_eq
          have h3 := HLT3.out
          rw [h1, h2]; exact h3
end Go.Proofs.YtcmcmkfoihlniaaDoor.MM
end

section
namespace Go.Proofs
open Go.Shelf
def Tryd.laysSlK4_ren : Go.Shelf.Ren := ⟨fun | 4 => 26 | n => n, fun | 22 => 23 | 4 => 4 | 5 => 5 | n => n, fun | n => n⟩
theorem Tryd.laysSlK4 : Go.Proofs.SlLaysK.n4 Tryd.prog Tryd.laysSlK4_ren := {
  mixed := by kernel_rfl
  f4 := Tryd.func26.trans (congrArg some (by kernel_rfl))
  t4 := Tryd.underlying4
  a4 := Tryd.isAgg4
  z4 := Tryd.sizeOf4
  v4 := Tryd.zeroValue4
  t22 := Tryd.underlying23
  a22 := Tryd.isAgg23
  z22 := Tryd.sizeOf23
  v22 := Tryd.zeroValue23
  t5 := Tryd.underlying5
  i5 := by kernel_rfl }
open Go.RowKit Go.Lib in
theorem Tryd.bytes_Clone_at (a : Addr) (n c : Nat) (xs : List Int) (w : World) (hx : xs.length = n) (hbig : n ≤ 140737488355328) (hc : ∀ i, i < n → w.cell? (a.add i) = some (.int .u8 (xs.getD i 0))) :
    Calls Tryd.prog 26 #[.slice (some a) n c] w fun e w' => ∃ v', e = .returned v' ∧ w'.ownsRow w.heap.size 5 1 v' n (xs.map (Value.int .u8)) ∧ v' ≠ .slice none 0 0 ∧ Below w.heap.size w w' := Any.bytes_Clone_at Tryd.laysSlK4 a n c xs w hx hbig hc
open Go.RowKit Go.Lib in
theorem Tryd.bytes_Clone_nil (n c : Nat) (w : World) :
    Calls Tryd.prog 26 #[.slice none n c] w fun e w' => e = .returned (.slice none 0 0) ∧ w' = w := Any.bytes_Clone_nil Tryd.laysSlK4 n c w
def Tryd.mclone_ren : Go.Shelf.Ren := ⟨fun | 5 => 29 | 7 => 54 | n => n, fun | 23 => 58 | 25 => 3 | 3 => 57 | 4 => 4 | 20 => 20 | n => n, fun | n => n⟩
theorem Tryd.mclone : Go.Proofs.SlLaysW.n5 Tryd.prog Tryd.mclone_ren := {
  mixed := by kernel_rfl
  f5 := ⟨Tryd.f29.name, by decide, Tryd.func29.trans (congrArg some (by kernel_rfl))⟩
  f7 := Tryd.func54.trans (congrArg some (by kernel_rfl))
  t4 := Tryd.underlying4
  a4 := Tryd.isAgg4
  z4 := Tryd.sizeOf4
  v4 := Tryd.zeroValue4
  t20 := Tryd.underlying20
  a20 := Tryd.isAgg20
  z20 := Tryd.sizeOf20
  v20 := Tryd.zeroValue20
  t23 := Tryd.underlying58
  a23 := Tryd.isAgg58
  z23 := Tryd.sizeOf58
  v23 := Tryd.zeroValue58 }
end Go.Proofs
end

section
namespace Go.Proofs.YtcmcmkfoihlniaaDoor.MM
open Go Go.RowKit Go.Maps Go.Proofs.YtcmcmkfoihlniaaDoorX Go.Proofs.YtcmcmkfoihlniaaDoor.NM Go.Proofs.YtcmcmkfoihlniaaDoor.EN Go.Proofs.YtcmcmkfoihlniaaDoorW.PrintWords Go.Proofs.YtcmcmkfoihlniaaDoorW.PrintLast Go.Proofs.YtcmcmkfoihlniaaDoorW.PrintMore Go.Proofs.YtcmcmkfoihlniaaDoor.PModelUndoes
set_option linter.unusedVariables false
set_option linter.unusedSimpArgs false
set_option maxRecDepth 100000
set_option maxHeartbeats 1000000
theorem heap_new (w : World) (o : Obj) : (w.alloc o).heap[w.heap.size]? = some o := (MapKept.heap_alloc w o).1
theorem clone_call {w : World} {mb : Nat} {T : Tree} (h : MapT w mb T) : Calls Tryd.prog 29 #[.map (some mb)] w fun e w' => e = .returned (.map (some w.heap.size)) ∧ MapT w' w.heap.size T ∧ Below w.heap.size w w' := by
  have hlt := h.lt
  have hb : ∀ W, Below w.heap.size w W → ∀ v o, Holds w v o → Holds W v o := fun W hW v o hv => hv.below hW
  obtain ⟨hd, D, V, ⟨es, c, he, F, hs, hD⟩, hv⟩ := h
  have hcon : Calls Tryd.prog 29 #[.map (some mb)] w fun e w' => e = .returned (.map (some w.heap.size)) ∧ w' = w.alloc (.map es c) := Go.Proofs.AnyW.maps_Clone Tryd.mclone mb es c w he
  refine hcon.mono ?_
  rintro e w' ⟨rfl, rfl⟩
  have hB : Below w.heap.size w (w.alloc (.map es c)) := (Below.refl _ w).alloc (Nat.le_refl _) _
  refine ⟨rfl, ⟨hd, D, V, ⟨es, c, heap_new w _, F, hs, hD⟩, fun k hk => ?_⟩, hB⟩
  obtain ⟨h1, h2, h3⟩ := hv k hk
  exact ⟨h1, hb _ hB _ _ h2, h3⟩
theorem copy_any {w : World} {pb mb : Nat} {q : Int} {T : Tree} (h : Mdl w pb mb q T) : Calls Tryd.prog 11 #[mp pb] w fun e w' =>
    ∃ pb' mb', e = .returned (mp pb') ∧ w.heap.size ≤ pb' ∧ w.heap.size ≤ mb' ∧ Mdl w' pb' mb' q T ∧ Below w.heap.size w w' := by
  have HN := Aside0.mk (none_any h)
  have HM := Aside0.mk h
  clear h
  go_enter Tryd.func11, Tryd.ntmps11
  go_wp2_with (go_at_call 28; refine Calls.mono HN.out ?_; rintro e w1 ⟨rfl, hb⟩; have HB1 := Aside0.mk hb; clear hb)
  have HM1 := Aside0.mk (HM.out.below HB1.out)
  have P0 := Aside0.mk HM1.out.quota
  have P1 := Aside0.mk HM1.out.at_
  have HCL := Aside0.mk (clone_call (HM1.out.below (below_drew (Below.refl _ _))).2)
  refine wp_region_held_drew (S := fun W => Below w1.heap.size w1 W) (by kernel_rfl) (below_drew (Below.refl _ _)) (fun hHeld => ?_)
  refine wpAnyH_take (i := 0) (oi := ⟨some 5, _, _, _, _, _⟩) (v := (mp pb)) rfl (by kernel_rfl) (by kernel_rfl) (by kernel_rfl) (fun _ _ _ h => h) (Or.inl ⟨by rfl, fun W hS => by go_simp⟩) hHeld ?_
  (try simp only [Act.put, List.setIfInBounds_toArray, List.set_cons_zero, List.set_cons_succ])
  refine wpAnyH_take (i := 1) (oi := ⟨some 6, _, _, _, _, _⟩) (v := (mp pb)) rfl (by kernel_rfl) (by kernel_rfl) (by kernel_rfl) (fun _ _ _ h => h) (Or.inl ⟨by rfl, fun W hS => by go_simp⟩) hHeld ?_
  (try simp only [Act.put, List.setIfInBounds_toArray, List.set_cons_zero, List.set_cons_succ])
  refine wpAnyH_take (i := 2) (oi := ⟨some 7, _, _, _, _, _⟩) (v := (mp pb)) rfl (by kernel_rfl) (by kernel_rfl) (by kernel_rfl) (fun _ _ _ h => h) (Or.inl ⟨by rfl, fun W hS => by go_simp⟩) hHeld ?_
  (try simp only [Act.put, List.setIfInBounds_toArray, List.set_cons_zero, List.set_cons_succ])
  refine wpAnyH_take (i := 3) (oi := ⟨some 8, _, _, _, _, _⟩) (v := (.int .i64 q)) rfl (by kernel_rfl) (by kernel_rfl) (by kernel_rfl) (fun _ _ _ h => h) (Or.inl ⟨by rfl, fun W hS => by have cc := pw_cell_below hS P0.out; go_simp⟩) hHeld ?_
  (try simp only [Act.put, List.setIfInBounds_toArray, List.set_cons_zero, List.set_cons_succ])
  refine wpAnyH_take (i := 4) (oi := ⟨some 9, _, _, _, _, _⟩) (v := (mp pb)) rfl (by kernel_rfl) (by kernel_rfl) (by kernel_rfl) (fun _ _ _ h => h) (Or.inl ⟨by rfl, fun W hS => by go_simp⟩) hHeld ?_
  (try simp only [Act.put, List.setIfInBounds_toArray, List.set_cons_zero, List.set_cons_succ])
  refine wpAnyH_take (i := 5) (oi := ⟨some 10, _, _, _, _, _⟩) (v := (mp pb)) rfl (by kernel_rfl) (by kernel_rfl) (by kernel_rfl) (fun _ _ _ h => h) (Or.inl ⟨by rfl, fun W hS => by go_simp⟩) hHeld ?_
  (try simp only [Act.put, List.setIfInBounds_toArray, List.set_cons_zero, List.set_cons_succ])
  refine wpAnyH_take (i := 6) (oi := ⟨some 11, _, _, _, _, _⟩) (v := (.pointer (some ⟨pb, 1, none⟩))) rfl (by kernel_rfl) (by kernel_rfl) (by kernel_rfl) (fun _ _ _ h => h) (Or.inl ⟨by rfl, fun W hS => by go_simp⟩) hHeld ?_
  (try simp only [Act.put, List.setIfInBounds_toArray, List.set_cons_zero, List.set_cons_succ])
  refine wpAnyH_take (i := 7) (oi := ⟨some 12, _, _, _, _, _⟩) (v := (.map (some mb))) rfl (by kernel_rfl) (by kernel_rfl) (by kernel_rfl) (fun _ _ _ h => h) (Or.inl ⟨by rfl, fun W hS => by have cc := pw_cell_below hS P1.out; go_simp⟩) hHeld ?_
  (try simp only [Act.put, List.setIfInBounds_toArray, List.set_cons_zero, List.set_cons_succ])
  refine wpAnyH_ready (rs := [8]) (by kernel_rfl) (by simp) ?_
  refine AllReadyH.cons rfl (fun K hK => ?_) AllReadyH.nil
  go_simp
  refine (HCL.out).mono ?_
  rintro e w2 ⟨rfl, hm, hb⟩
  dsimp only
  refine hK.out _ _ (below_step hHeld hb) (fun hH => ?_)
  have HM2 := Aside0.mk hm
  have HB2 := Aside0.mk hb
  clear hm
  clear hK K hHeld hb
  have hHeld := hH
  clear hH
  (try simp only [Act.put, List.setIfInBounds_toArray, List.set_cons_zero, List.set_cons_succ])
  refine wpAnyH_take (i := 9) (oi := ⟨some 14, _, _, _, _, _⟩) (v := (.agg #[.int .i64 q, .map (some w1.drew.heap.size)])) rfl (by kernel_rfl) (by kernel_rfl) (by kernel_rfl) (fun _ _ _ h => h) (Or.inl ⟨by rfl, fun W hS => by go_simp⟩) hHeld ?_
  (try simp only [Act.put, List.setIfInBounds_toArray, List.set_cons_zero, List.set_cons_succ])
  refine wpAnyH_ready (rs := [10]) (by kernel_rfl) (by simp) ?_
  refine AllReadyH.cons rfl (fun K hK => ?_) AllReadyH.nil
  go_simp
  refine hK.out _ _ (below_step hHeld (below_alloc (Below.refl _ _) _)) (fun hH => ?_)
  clear hK K hHeld
  have hHeld := hH
  clear hH
  (try simp only [Act.put, List.setIfInBounds_toArray, List.set_cons_zero, List.set_cons_succ])
  refine wpAnyH_take (i := 11) (oi := ⟨some 2, _, _, _, _, _⟩) (v := (mp w2.heap.size)) rfl (by kernel_rfl) (by kernel_rfl) (by kernel_rfl) (fun _ _ _ h => h) (Or.inl ⟨by rfl, fun W hS => by go_simp⟩) hHeld ?_
  (try simp only [Act.put, List.setIfInBounds_toArray, List.set_cons_zero, List.set_cons_succ])
  refine wpAnyH_done (by kernel_rfl) ?_ _
  have HF := Aside0.mk hHeld
  clear hHeld
  (try simp only [Exit.then])
  go_wp2
  go_ret
  refine ⟨w2.heap.size, w1.drew.heap.size, rfl, ?_, ?_, ⟨heap_new _ _, ?_⟩, below_step HB1.out HF.out⟩
  · have h1 := HB1.out.size
    have h2 := HB2.out.size
    exact Nat.le_trans h1 h2
  · exact HB1.out.size
  · exact HM2.out.below (below_alloc (Below.refl _ _) _)
end Go.Proofs.YtcmcmkfoihlniaaDoor.MM
end

section
namespace Go.Proofs.YtcmcmkfoihlniaaDoor.MM
open Go Go.RowKit Go.Maps Go.Proofs.YtcmcmkfoihlniaaDoorX Go.Proofs.YtcmcmkfoihlniaaDoor.NM Go.Proofs.YtcmcmkfoihlniaaDoor.EN Go.Proofs.YtcmcmkfoihlniaaDoorW.PrintWords Go.Proofs.YtcmcmkfoihlniaaDoorW.PrintLast Go.Proofs.YtcmcmkfoihlniaaDoorW.PrintMore Go.Proofs.YtcmcmkfoihlniaaDoor.PModelUndoes
set_option linter.unusedVariables false
set_option linter.unusedSimpArgs false
set_option maxRecDepth 100000
set_option maxHeartbeats 1000000
def tryR (q : Int) (T F : Tree) : Tree × Int := if q < usedT F then (T, 41) else (F, 0)
theorem Mdl.setMap {w : World} {pb mb mb' : Nat} {q : Int} {T F : Tree} (h : Mdl w pb mb q T) (h' : MapT w mb' F) : Mdl (w.setCell ⟨pb, 1, none⟩ (.map (some mb'))) pb mb' q F := by
  have hi := h.inner
  have hne : mb' ≠ pb := by
    rintro rfl
    obtain ⟨es, c, e⟩ := h'.obj
    rw [h.1] at e; cases e
  have ht : Turn (fun k => k = pb) w (w.setCell ⟨pb, 1, none⟩ (.map (some mb'))) := ⟨rfl, rfl, rfl, by simp [World.setCell], fun k _ hk => Below.heap_setCell _ _ _ _ hk⟩
  refine ⟨?_, h'.turn ht (fun k e => e ▸ hi) hne⟩
  have := h.1
  simp only [World.setCell, Array.getElem?_modify, if_pos rfl, this]
  rfl
theorem setCell_turn (w : World) (pb : Nat) (v : Value) : Turn (fun k => k = pb) w (w.setCell ⟨pb, 1, none⟩ v) := ⟨rfl, rfl, rfl, by simp [World.setCell], fun k _ hk => Below.heap_setCell _ _ _ _ hk⟩
theorem Mdl.froz {w : World} {pb mb : Nat} {q : Int} {T : Tree} (h : Mdl w pb mb q T) : w.frozen? ⟨pb, 1, none⟩ = false := by simp [World.frozen?, h.1]
theorem try_make (p1 p2 p3 p4 : Value) {w : World} {pb mb : Nat} {q : Int} {T F : Tree} (h : Mdl w pb mb q T) (hF : Ok F)
    (hf : ∀ (W : World) (pb' mb' : Nat), Below w.heap.size w W → Mdl W pb' mb' q T → w.heap.size ≤ pb' → w.heap.size ≤ mb' → Calls Tryd.prog 56 #[mp pb', p1, p2, p3, p4] W fun e W' => e = .returned (.int .i64 0) ∧ Mdl W' pb' mb' q F ∧ Turn1 mb' W W') :
    Calls Tryd.prog 42 #[mp pb, .func (.func 56) #[] #[p1, p2, p3, p4]] w fun e w' => ∃ mb', (mb' = mb ∨ w.heap.size ≤ mb') ∧ e = .returned (.int .i64 (tryR q T F).2) ∧ Mdl w' pb mb' q (tryR q T F).1 ∧ Turn (fun k => k = pb) w w' := by
  have HC := Aside0.mk (copy_any h)
  have HM := Aside0.mk h
  have HF := Aside0.mk hF
  have HH := Aside0.mk hf
  obtain ⟨R, hR⟩ : ∃ R, tryR q T F = R := ⟨_, rfl⟩
  rw [hR]
  unfold tryR at hR
  obtain ⟨U, hU⟩ : ∃ U, usedT F = U := ⟨_, rfl⟩
  have HU := Aside0.mk hU
  rw [hU] at hR
  clear hF hf hU h
  go_enter Tryd.func42, Tryd.ntmps42
  go_wp2_with (first
    | (have hz := HB1.out; clear hz; go_at_call 56; refine Calls.mono (HH.out w1 pb' mb' HB1.out HM1.out HP.out HQ.out) ?_; rintro e w2 ⟨rfl, hm, ht⟩; have HM2 := Aside0.mk hm; have HB2 := Aside0.mk (show Below w.heap.size w w2 from HB1.out.trans (ht.below HB1.out.size (fun k e => by have := HQ.out; have e : k = mb' := e; omega))); clear hm ht)
    | (go_at_call 11; refine Calls.mono HC.out ?_; rintro e w1 ⟨pb', mb', rfl, hp, hq, hm, hb⟩; have HP := Aside0.mk hp; have HQ := Aside0.mk hq; have HM1 := Aside0.mk hm; have HB1 := Aside0.mk hb; clear hp hq hm hb))
  have HMW := Aside0.mk (HM.out.below HB2.out)
  have P0 := Aside0.mk HMW.out.quota
  have HUS := Aside0.mk (used_any (HM2.out.below (below_drew (Below.refl w2.heap.size w2))) HF.out)
  by_cases hq : q < U
  · rw [if_pos hq] at hR
    have HR := Aside0.mk hR
    have HCO := Aside0.mk (show decide (q < U) = true from decide_eq_true hq)
    clear hR hq
    refine wp_region_held_drew (S := fun W => Below w2.heap.size w2 W) (by kernel_rfl) (below_drew (Below.refl _ _)) (fun hHeld => ?_)
    refine wpAnyH_take (i := 0) (oi := ⟨some 12, _, _, _, _, _⟩) (v := (.int .i64 0)) rfl (by kernel_rfl) (by kernel_rfl) (by kernel_rfl) (fun _ _ _ h => h) (Or.inl ⟨by rfl, fun W hS => by go_simp⟩) hHeld ?_
    (try simp only [Act.put, List.setIfInBounds_toArray, List.set_cons_zero, List.set_cons_succ])
    refine wpAnyH_take (i := 1) (oi := ⟨some 13, _, _, _, _, _⟩) (v := (.bool true)) rfl (by kernel_rfl) (by kernel_rfl) (by kernel_rfl) (fun _ _ _ h => h) (Or.inl ⟨by rfl, fun W hS => by go_simp⟩) hHeld ?_
    (try simp only [Act.put, List.setIfInBounds_toArray, List.set_cons_zero, List.set_cons_succ])
    refine wpAnyH_take (i := 2) (oi := ⟨some 14, _, _, _, _, _⟩) (v := (.bool true)) rfl (by kernel_rfl) (by kernel_rfl) (by kernel_rfl) (fun _ _ _ h => h) (Or.inl ⟨by rfl, fun W hS => by go_simp⟩) hHeld ?_
    (try simp only [Act.put, List.setIfInBounds_toArray, List.set_cons_zero, List.set_cons_succ])
    refine wpAnyH_take (i := 3) (oi := ⟨some 15, _, _, _, _, _⟩) (v := (mp pb')) rfl (by kernel_rfl) (by kernel_rfl) (by kernel_rfl) (fun _ _ _ h => h) (Or.inl ⟨by rfl, fun W hS => by go_simp⟩) hHeld ?_
    (try simp only [Act.put, List.setIfInBounds_toArray, List.set_cons_zero, List.set_cons_succ])
    refine wpAnyH_take (i := 5) (oi := ⟨some 17, _, _, _, _, _⟩) (v := (mp pb)) rfl (by kernel_rfl) (by kernel_rfl) (by kernel_rfl) (fun _ _ _ h => h) (Or.inl ⟨by rfl, fun W hS => by go_simp⟩) hHeld ?_
    (try simp only [Act.put, List.setIfInBounds_toArray, List.set_cons_zero, List.set_cons_succ])
    refine wpAnyH_take (i := 6) (oi := ⟨some 18, _, _, _, _, _⟩) (v := (mp pb)) rfl (by kernel_rfl) (by kernel_rfl) (by kernel_rfl) (fun _ _ _ h => h) (Or.inl ⟨by rfl, fun W hS => by go_simp⟩) hHeld ?_
    (try simp only [Act.put, List.setIfInBounds_toArray, List.set_cons_zero, List.set_cons_succ])
    refine wpAnyH_take (i := 7) (oi := ⟨some 19, _, _, _, _, _⟩) (v := (mp pb)) rfl (by kernel_rfl) (by kernel_rfl) (by kernel_rfl) (fun _ _ _ h => h) (Or.inl ⟨by rfl, fun W hS => by go_simp⟩) hHeld ?_
    (try simp only [Act.put, List.setIfInBounds_toArray, List.set_cons_zero, List.set_cons_succ])
    refine wpAnyH_take (i := 8) (oi := ⟨some 20, _, _, _, _, _⟩) (v := (.int .i64 q)) rfl (by kernel_rfl) (by kernel_rfl) (by kernel_rfl) (fun _ _ _ h => h) (Or.inl ⟨by rfl, fun W hS => by have cc := pw_cell_below hS P0.out; go_simp⟩) hHeld ?_
    (try simp only [Act.put, List.setIfInBounds_toArray, List.set_cons_zero, List.set_cons_succ])
    refine wpAnyH_ready (rs := [4]) (by kernel_rfl) (by simp) ?_
    refine AllReadyH.cons rfl (fun K hK => ?_) AllReadyH.nil
    rw [if_pos (by rfl)]
    go_simp
    refine (HUS.out).mono ?_
    rw [HU.out]
    rintro e w3 ⟨rfl, hb⟩
    dsimp only
    refine hK.out _ _ (below_step hHeld hb) (fun hH => ?_)
    have HB3 := Aside0.mk hb
    clear hK K hHeld hb
    have hHeld := hH
    clear hH
    (try simp only [Act.put, List.setIfInBounds_toArray, List.set_cons_zero, List.set_cons_succ])
    refine wpAnyH_take (i := 9) (oi := ⟨some 21, _, _, _, _, _⟩) (v := (.bool true)) rfl (by kernel_rfl) (by kernel_rfl) (by kernel_rfl) (fun _ _ _ h => h) (Or.inl ⟨by rfl, fun W hS => by have hc := HCO.out; go_simp⟩) hHeld ?_
    (try simp only [Act.put, List.setIfInBounds_toArray, List.set_cons_zero, List.set_cons_succ])
    refine wpAnyH_take (i := 10) (oi := ⟨some 22, _, _, _, _, _⟩) (v := (.bool true)) rfl (by kernel_rfl) (by kernel_rfl) (by kernel_rfl) (fun _ _ _ h => h) (Or.inl ⟨by rfl, fun W hS => by go_simp⟩) hHeld ?_
    (try simp only [Act.put, List.setIfInBounds_toArray, List.set_cons_zero, List.set_cons_succ])
    refine wpAnyH_done (by kernel_rfl) ?_ _
    have HB4 := Aside0.mk (below_step HB2.out hHeld)
    clear hHeld
    (try simp only [Exit.then])
    go_wp2
    go_ret
    rw [← HR.out]
    exact ⟨mb, .inl rfl, rfl, HM.out.below HB4.out, Turn.of_below HB4.out⟩
  · rw [if_neg hq] at hR
    have HR := Aside0.mk hR
    have HCO := Aside0.mk (show decide (q < U) = false from decide_eq_false hq)
    clear hR hq
    refine wp_region_held_drew (S := fun W => Below w2.heap.size w2 W) (by kernel_rfl) (below_drew (Below.refl _ _)) (fun hHeld => ?_)
    refine wpAnyH_take (i := 0) (oi := ⟨some 12, _, _, _, _, _⟩) (v := (.int .i64 0)) rfl (by kernel_rfl) (by kernel_rfl) (by kernel_rfl) (fun _ _ _ h => h) (Or.inl ⟨by rfl, fun W hS => by go_simp⟩) hHeld ?_
    (try simp only [Act.put, List.setIfInBounds_toArray, List.set_cons_zero, List.set_cons_succ])
    refine wpAnyH_take (i := 1) (oi := ⟨some 13, _, _, _, _, _⟩) (v := (.bool true)) rfl (by kernel_rfl) (by kernel_rfl) (by kernel_rfl) (fun _ _ _ h => h) (Or.inl ⟨by rfl, fun W hS => by go_simp⟩) hHeld ?_
    (try simp only [Act.put, List.setIfInBounds_toArray, List.set_cons_zero, List.set_cons_succ])
    refine wpAnyH_take (i := 2) (oi := ⟨some 14, _, _, _, _, _⟩) (v := (.bool true)) rfl (by kernel_rfl) (by kernel_rfl) (by kernel_rfl) (fun _ _ _ h => h) (Or.inl ⟨by rfl, fun W hS => by go_simp⟩) hHeld ?_
    (try simp only [Act.put, List.setIfInBounds_toArray, List.set_cons_zero, List.set_cons_succ])
    refine wpAnyH_take (i := 3) (oi := ⟨some 15, _, _, _, _, _⟩) (v := (mp pb')) rfl (by kernel_rfl) (by kernel_rfl) (by kernel_rfl) (fun _ _ _ h => h) (Or.inl ⟨by rfl, fun W hS => by go_simp⟩) hHeld ?_
    (try simp only [Act.put, List.setIfInBounds_toArray, List.set_cons_zero, List.set_cons_succ])
    refine wpAnyH_take (i := 5) (oi := ⟨some 17, _, _, _, _, _⟩) (v := (mp pb)) rfl (by kernel_rfl) (by kernel_rfl) (by kernel_rfl) (fun _ _ _ h => h) (Or.inl ⟨by rfl, fun W hS => by go_simp⟩) hHeld ?_
    (try simp only [Act.put, List.setIfInBounds_toArray, List.set_cons_zero, List.set_cons_succ])
    refine wpAnyH_take (i := 6) (oi := ⟨some 18, _, _, _, _, _⟩) (v := (mp pb)) rfl (by kernel_rfl) (by kernel_rfl) (by kernel_rfl) (fun _ _ _ h => h) (Or.inl ⟨by rfl, fun W hS => by go_simp⟩) hHeld ?_
    (try simp only [Act.put, List.setIfInBounds_toArray, List.set_cons_zero, List.set_cons_succ])
    refine wpAnyH_take (i := 7) (oi := ⟨some 19, _, _, _, _, _⟩) (v := (mp pb)) rfl (by kernel_rfl) (by kernel_rfl) (by kernel_rfl) (fun _ _ _ h => h) (Or.inl ⟨by rfl, fun W hS => by go_simp⟩) hHeld ?_
    (try simp only [Act.put, List.setIfInBounds_toArray, List.set_cons_zero, List.set_cons_succ])
    refine wpAnyH_take (i := 8) (oi := ⟨some 20, _, _, _, _, _⟩) (v := (.int .i64 q)) rfl (by kernel_rfl) (by kernel_rfl) (by kernel_rfl) (fun _ _ _ h => h) (Or.inl ⟨by rfl, fun W hS => by have cc := pw_cell_below hS P0.out; go_simp⟩) hHeld ?_
    (try simp only [Act.put, List.setIfInBounds_toArray, List.set_cons_zero, List.set_cons_succ])
    refine wpAnyH_ready (rs := [4]) (by kernel_rfl) (by simp) ?_
    refine AllReadyH.cons rfl (fun K hK => ?_) AllReadyH.nil
    rw [if_pos (by rfl)]
    go_simp
    refine (HUS.out).mono ?_
    rw [HU.out]
    rintro e w3 ⟨rfl, hb⟩
    dsimp only
    refine hK.out _ _ (below_step hHeld hb) (fun hH => ?_)
    have HB3 := Aside0.mk hb
    clear hK K hHeld hb
    have hHeld := hH
    clear hH
    (try simp only [Act.put, List.setIfInBounds_toArray, List.set_cons_zero, List.set_cons_succ])
    refine wpAnyH_take (i := 9) (oi := ⟨some 21, _, _, _, _, _⟩) (v := (.bool false)) rfl (by kernel_rfl) (by kernel_rfl) (by kernel_rfl) (fun _ _ _ h => h) (Or.inl ⟨by rfl, fun W hS => by have hc := HCO.out; go_simp⟩) hHeld ?_
    (try simp only [Act.put, List.setIfInBounds_toArray, List.set_cons_zero, List.set_cons_succ])
    refine wpAnyH_take (i := 10) (oi := ⟨some 22, _, _, _, _, _⟩) (v := (.bool false)) rfl (by kernel_rfl) (by kernel_rfl) (by kernel_rfl) (fun _ _ _ h => h) (Or.inl ⟨by rfl, fun W hS => by go_simp⟩) hHeld ?_
    (try simp only [Act.put, List.setIfInBounds_toArray, List.set_cons_zero, List.set_cons_succ])
    refine wpAnyH_done (by kernel_rfl) ?_ _
    have HB4 := Aside0.mk (below_step HB2.out hHeld)
    have HM4 := Aside0.mk (HM2.out.below hHeld)
    have HW4 := Aside0.mk (HM.out.below HB4.out)
    have a1 := HM4.out.at_
    have a2 := HW4.out.at_
    have a3 := HW4.out.froz
    clear hHeld
    (try simp only [Exit.then])
    go_wp2
    go_ret
    rw [← HR.out]
    exact ⟨mb', .inr HQ.out, rfl, HW4.out.setMap HM4.out.2, (Turn.of_below HB4.out : Turn (fun k => k = pb) w w3).trans (setCell_turn _ _ _) (fun _ _ e => e)⟩
theorem try_link (p1 p2 p3 p4 : Value) {w : World} {pb mb : Nat} {q : Int} {T F : Tree} (h : Mdl w pb mb q T) (hF : Ok F)
    (hf : ∀ (W : World) (pb' mb' : Nat), Below w.heap.size w W → Mdl W pb' mb' q T → w.heap.size ≤ pb' → w.heap.size ≤ mb' → Calls Tryd.prog 43 #[mp pb', p1, p2, p3, p4] W fun e W' => e = .returned (.int .i64 0) ∧ Mdl W' pb' mb' q F ∧ Turn1 mb' W W') :
    Calls Tryd.prog 42 #[mp pb, .func (.func 43) #[] #[p1, p2, p3, p4]] w fun e w' => ∃ mb', (mb' = mb ∨ w.heap.size ≤ mb') ∧ e = .returned (.int .i64 (tryR q T F).2) ∧ Mdl w' pb mb' q (tryR q T F).1 ∧ Turn (fun k => k = pb) w w' := by
  have HC := Aside0.mk (copy_any h)
  have HM := Aside0.mk h
  have HF := Aside0.mk hF
  have HH := Aside0.mk hf
  obtain ⟨R, hR⟩ : ∃ R, tryR q T F = R := ⟨_, rfl⟩
  rw [hR]
  unfold tryR at hR
  obtain ⟨U, hU⟩ : ∃ U, usedT F = U := ⟨_, rfl⟩
  have HU := Aside0.mk hU
  rw [hU] at hR
  clear hF hf hU h
  go_enter Tryd.func42, Tryd.ntmps42
  go_wp2_with (first
    | (have hz := HB1.out; clear hz; go_at_call 43; refine Calls.mono (HH.out w1 pb' mb' HB1.out HM1.out HP.out HQ.out) ?_; rintro e w2 ⟨rfl, hm, ht⟩; have HM2 := Aside0.mk hm; have HB2 := Aside0.mk (show Below w.heap.size w w2 from HB1.out.trans (ht.below HB1.out.size (fun k e => by have := HQ.out; have e : k = mb' := e; omega))); clear hm ht)
    | (go_at_call 11; refine Calls.mono HC.out ?_; rintro e w1 ⟨pb', mb', rfl, hp, hq, hm, hb⟩; have HP := Aside0.mk hp; have HQ := Aside0.mk hq; have HM1 := Aside0.mk hm; have HB1 := Aside0.mk hb; clear hp hq hm hb))
  have HMW := Aside0.mk (HM.out.below HB2.out)
  have P0 := Aside0.mk HMW.out.quota
  have HUS := Aside0.mk (used_any (HM2.out.below (below_drew (Below.refl w2.heap.size w2))) HF.out)
  by_cases hq : q < U
  · rw [if_pos hq] at hR
    have HR := Aside0.mk hR
    have HCO := Aside0.mk (show decide (q < U) = true from decide_eq_true hq)
    clear hR hq
    refine wp_region_held_drew (S := fun W => Below w2.heap.size w2 W) (by kernel_rfl) (below_drew (Below.refl _ _)) (fun hHeld => ?_)
    refine wpAnyH_take (i := 0) (oi := ⟨some 12, _, _, _, _, _⟩) (v := (.int .i64 0)) rfl (by kernel_rfl) (by kernel_rfl) (by kernel_rfl) (fun _ _ _ h => h) (Or.inl ⟨by rfl, fun W hS => by go_simp⟩) hHeld ?_
    (try simp only [Act.put, List.setIfInBounds_toArray, List.set_cons_zero, List.set_cons_succ])
    refine wpAnyH_take (i := 1) (oi := ⟨some 13, _, _, _, _, _⟩) (v := (.bool true)) rfl (by kernel_rfl) (by kernel_rfl) (by kernel_rfl) (fun _ _ _ h => h) (Or.inl ⟨by rfl, fun W hS => by go_simp⟩) hHeld ?_
    (try simp only [Act.put, List.setIfInBounds_toArray, List.set_cons_zero, List.set_cons_succ])
    refine wpAnyH_take (i := 2) (oi := ⟨some 14, _, _, _, _, _⟩) (v := (.bool true)) rfl (by kernel_rfl) (by kernel_rfl) (by kernel_rfl) (fun _ _ _ h => h) (Or.inl ⟨by rfl, fun W hS => by go_simp⟩) hHeld ?_
    (try simp only [Act.put, List.setIfInBounds_toArray, List.set_cons_zero, List.set_cons_succ])
    refine wpAnyH_take (i := 3) (oi := ⟨some 15, _, _, _, _, _⟩) (v := (mp pb')) rfl (by kernel_rfl) (by kernel_rfl) (by kernel_rfl) (fun _ _ _ h => h) (Or.inl ⟨by rfl, fun W hS => by go_simp⟩) hHeld ?_
    (try simp only [Act.put, List.setIfInBounds_toArray, List.set_cons_zero, List.set_cons_succ])
    refine wpAnyH_take (i := 5) (oi := ⟨some 17, _, _, _, _, _⟩) (v := (mp pb)) rfl (by kernel_rfl) (by kernel_rfl) (by kernel_rfl) (fun _ _ _ h => h) (Or.inl ⟨by rfl, fun W hS => by go_simp⟩) hHeld ?_
    (try simp only [Act.put, List.setIfInBounds_toArray, List.set_cons_zero, List.set_cons_succ])
    refine wpAnyH_take (i := 6) (oi := ⟨some 18, _, _, _, _, _⟩) (v := (mp pb)) rfl (by kernel_rfl) (by kernel_rfl) (by kernel_rfl) (fun _ _ _ h => h) (Or.inl ⟨by rfl, fun W hS => by go_simp⟩) hHeld ?_
    (try simp only [Act.put, List.setIfInBounds_toArray, List.set_cons_zero, List.set_cons_succ])
    refine wpAnyH_take (i := 7) (oi := ⟨some 19, _, _, _, _, _⟩) (v := (mp pb)) rfl (by kernel_rfl) (by kernel_rfl) (by kernel_rfl) (fun _ _ _ h => h) (Or.inl ⟨by rfl, fun W hS => by go_simp⟩) hHeld ?_
    (try simp only [Act.put, List.setIfInBounds_toArray, List.set_cons_zero, List.set_cons_succ])
    refine wpAnyH_take (i := 8) (oi := ⟨some 20, _, _, _, _, _⟩) (v := (.int .i64 q)) rfl (by kernel_rfl) (by kernel_rfl) (by kernel_rfl) (fun _ _ _ h => h) (Or.inl ⟨by rfl, fun W hS => by have cc := pw_cell_below hS P0.out; go_simp⟩) hHeld ?_
    (try simp only [Act.put, List.setIfInBounds_toArray, List.set_cons_zero, List.set_cons_succ])
    refine wpAnyH_ready (rs := [4]) (by kernel_rfl) (by simp) ?_
    refine AllReadyH.cons rfl (fun K hK => ?_) AllReadyH.nil
    rw [if_pos (by rfl)]
    go_simp
    refine (HUS.out).mono ?_
    rw [HU.out]
    rintro e w3 ⟨rfl, hb⟩
    dsimp only
    refine hK.out _ _ (below_step hHeld hb) (fun hH => ?_)
    have HB3 := Aside0.mk hb
    clear hK K hHeld hb
    have hHeld := hH
    clear hH
    (try simp only [Act.put, List.setIfInBounds_toArray, List.set_cons_zero, List.set_cons_succ])
    refine wpAnyH_take (i := 9) (oi := ⟨some 21, _, _, _, _, _⟩) (v := (.bool true)) rfl (by kernel_rfl) (by kernel_rfl) (by kernel_rfl) (fun _ _ _ h => h) (Or.inl ⟨by rfl, fun W hS => by have hc := HCO.out; go_simp⟩) hHeld ?_
    (try simp only [Act.put, List.setIfInBounds_toArray, List.set_cons_zero, List.set_cons_succ])
    refine wpAnyH_take (i := 10) (oi := ⟨some 22, _, _, _, _, _⟩) (v := (.bool true)) rfl (by kernel_rfl) (by kernel_rfl) (by kernel_rfl) (fun _ _ _ h => h) (Or.inl ⟨by rfl, fun W hS => by go_simp⟩) hHeld ?_
    (try simp only [Act.put, List.setIfInBounds_toArray, List.set_cons_zero, List.set_cons_succ])
    refine wpAnyH_done (by kernel_rfl) ?_ _
    have HB4 := Aside0.mk (below_step HB2.out hHeld)
    clear hHeld
    (try simp only [Exit.then])
    go_wp2
    go_ret
    rw [← HR.out]
    exact ⟨mb, .inl rfl, rfl, HM.out.below HB4.out, Turn.of_below HB4.out⟩
  · rw [if_neg hq] at hR
    have HR := Aside0.mk hR
    have HCO := Aside0.mk (show decide (q < U) = false from decide_eq_false hq)
    clear hR hq
    refine wp_region_held_drew (S := fun W => Below w2.heap.size w2 W) (by kernel_rfl) (below_drew (Below.refl _ _)) (fun hHeld => ?_)
    refine wpAnyH_take (i := 0) (oi := ⟨some 12, _, _, _, _, _⟩) (v := (.int .i64 0)) rfl (by kernel_rfl) (by kernel_rfl) (by kernel_rfl) (fun _ _ _ h => h) (Or.inl ⟨by rfl, fun W hS => by go_simp⟩) hHeld ?_
    (try simp only [Act.put, List.setIfInBounds_toArray, List.set_cons_zero, List.set_cons_succ])
    refine wpAnyH_take (i := 1) (oi := ⟨some 13, _, _, _, _, _⟩) (v := (.bool true)) rfl (by kernel_rfl) (by kernel_rfl) (by kernel_rfl) (fun _ _ _ h => h) (Or.inl ⟨by rfl, fun W hS => by go_simp⟩) hHeld ?_
    (try simp only [Act.put, List.setIfInBounds_toArray, List.set_cons_zero, List.set_cons_succ])
    refine wpAnyH_take (i := 2) (oi := ⟨some 14, _, _, _, _, _⟩) (v := (.bool true)) rfl (by kernel_rfl) (by kernel_rfl) (by kernel_rfl) (fun _ _ _ h => h) (Or.inl ⟨by rfl, fun W hS => by go_simp⟩) hHeld ?_
    (try simp only [Act.put, List.setIfInBounds_toArray, List.set_cons_zero, List.set_cons_succ])
    refine wpAnyH_take (i := 3) (oi := ⟨some 15, _, _, _, _, _⟩) (v := (mp pb')) rfl (by kernel_rfl) (by kernel_rfl) (by kernel_rfl) (fun _ _ _ h => h) (Or.inl ⟨by rfl, fun W hS => by go_simp⟩) hHeld ?_
    (try simp only [Act.put, List.setIfInBounds_toArray, List.set_cons_zero, List.set_cons_succ])
    refine wpAnyH_take (i := 5) (oi := ⟨some 17, _, _, _, _, _⟩) (v := (mp pb)) rfl (by kernel_rfl) (by kernel_rfl) (by kernel_rfl) (fun _ _ _ h => h) (Or.inl ⟨by rfl, fun W hS => by go_simp⟩) hHeld ?_
    (try simp only [Act.put, List.setIfInBounds_toArray, List.set_cons_zero, List.set_cons_succ])
    refine wpAnyH_take (i := 6) (oi := ⟨some 18, _, _, _, _, _⟩) (v := (mp pb)) rfl (by kernel_rfl) (by kernel_rfl) (by kernel_rfl) (fun _ _ _ h => h) (Or.inl ⟨by rfl, fun W hS => by go_simp⟩) hHeld ?_
    (try simp only [Act.put, List.setIfInBounds_toArray, List.set_cons_zero, List.set_cons_succ])
    refine wpAnyH_take (i := 7) (oi := ⟨some 19, _, _, _, _, _⟩) (v := (mp pb)) rfl (by kernel_rfl) (by kernel_rfl) (by kernel_rfl) (fun _ _ _ h => h) (Or.inl ⟨by rfl, fun W hS => by go_simp⟩) hHeld ?_
    (try simp only [Act.put, List.setIfInBounds_toArray, List.set_cons_zero, List.set_cons_succ])
    refine wpAnyH_take (i := 8) (oi := ⟨some 20, _, _, _, _, _⟩) (v := (.int .i64 q)) rfl (by kernel_rfl) (by kernel_rfl) (by kernel_rfl) (fun _ _ _ h => h) (Or.inl ⟨by rfl, fun W hS => by have cc := pw_cell_below hS P0.out; go_simp⟩) hHeld ?_
    (try simp only [Act.put, List.setIfInBounds_toArray, List.set_cons_zero, List.set_cons_succ])
    refine wpAnyH_ready (rs := [4]) (by kernel_rfl) (by simp) ?_
    refine AllReadyH.cons rfl (fun K hK => ?_) AllReadyH.nil
    rw [if_pos (by rfl)]
    go_simp
    refine (HUS.out).mono ?_
    rw [HU.out]
    rintro e w3 ⟨rfl, hb⟩
    dsimp only
    refine hK.out _ _ (below_step hHeld hb) (fun hH => ?_)
    have HB3 := Aside0.mk hb
    clear hK K hHeld hb
    have hHeld := hH
    clear hH
    (try simp only [Act.put, List.setIfInBounds_toArray, List.set_cons_zero, List.set_cons_succ])
    refine wpAnyH_take (i := 9) (oi := ⟨some 21, _, _, _, _, _⟩) (v := (.bool false)) rfl (by kernel_rfl) (by kernel_rfl) (by kernel_rfl) (fun _ _ _ h => h) (Or.inl ⟨by rfl, fun W hS => by have hc := HCO.out; go_simp⟩) hHeld ?_
    (try simp only [Act.put, List.setIfInBounds_toArray, List.set_cons_zero, List.set_cons_succ])
    refine wpAnyH_take (i := 10) (oi := ⟨some 22, _, _, _, _, _⟩) (v := (.bool false)) rfl (by kernel_rfl) (by kernel_rfl) (by kernel_rfl) (fun _ _ _ h => h) (Or.inl ⟨by rfl, fun W hS => by go_simp⟩) hHeld ?_
    (try simp only [Act.put, List.setIfInBounds_toArray, List.set_cons_zero, List.set_cons_succ])
    refine wpAnyH_done (by kernel_rfl) ?_ _
    have HB4 := Aside0.mk (below_step HB2.out hHeld)
    have HM4 := Aside0.mk (HM2.out.below hHeld)
    have HW4 := Aside0.mk (HM.out.below HB4.out)
    have a1 := HM4.out.at_
    have a2 := HW4.out.at_
    have a3 := HW4.out.froz
    clear hHeld
    (try simp only [Exit.then])
    go_wp2
    go_ret
    rw [← HR.out]
    exact ⟨mb', .inr HQ.out, rfl, HW4.out.setMap HM4.out.2, (Turn.of_below HB4.out : Turn (fun k => k = pb) w w3).trans (setCell_turn _ _ _) (fun _ _ e => e)⟩
theorem try_rename (p1 p2 p3 p4 p5 : Value) {w : World} {pb mb : Nat} {q : Int} {T F : Tree} (h : Mdl w pb mb q T) (hF : Ok F)
    (hf : ∀ (W : World) (pb' mb' : Nat), Below w.heap.size w W → Mdl W pb' mb' q T → w.heap.size ≤ pb' → w.heap.size ≤ mb' → Calls Tryd.prog 47 #[mp pb', p1, p2, p3, p4, p5] W fun e W' => e = .returned (.int .i64 0) ∧ Mdl W' pb' mb' q F ∧ Turn1 mb' W W') :
    Calls Tryd.prog 42 #[mp pb, .func (.func 47) #[] #[p1, p2, p3, p4, p5]] w fun e w' => ∃ mb', (mb' = mb ∨ w.heap.size ≤ mb') ∧ e = .returned (.int .i64 (tryR q T F).2) ∧ Mdl w' pb mb' q (tryR q T F).1 ∧ Turn (fun k => k = pb) w w' := by
  have HC := Aside0.mk (copy_any h)
  have HM := Aside0.mk h
  have HF := Aside0.mk hF
  have HH := Aside0.mk hf
  obtain ⟨R, hR⟩ : ∃ R, tryR q T F = R := ⟨_, rfl⟩
  rw [hR]
  unfold tryR at hR
  obtain ⟨U, hU⟩ : ∃ U, usedT F = U := ⟨_, rfl⟩
  have HU := Aside0.mk hU
  rw [hU] at hR
  clear hF hf hU h
  go_enter Tryd.func42, Tryd.ntmps42
  go_wp2_with (first
    | (have hz := HB1.out; clear hz; go_at_call 47; refine Calls.mono (HH.out w1 pb' mb' HB1.out HM1.out HP.out HQ.out) ?_; rintro e w2 ⟨rfl, hm, ht⟩; have HM2 := Aside0.mk hm; have HB2 := Aside0.mk (show Below w.heap.size w w2 from HB1.out.trans (ht.below HB1.out.size (fun k e => by have := HQ.out; have e : k = mb' := e; omega))); clear hm ht)
    | (go_at_call 11; refine Calls.mono HC.out ?_; rintro e w1 ⟨pb', mb', rfl, hp, hq, hm, hb⟩; have HP := Aside0.mk hp; have HQ := Aside0.mk hq; have HM1 := Aside0.mk hm; have HB1 := Aside0.mk hb; clear hp hq hm hb))
  have HMW := Aside0.mk (HM.out.below HB2.out)
  have P0 := Aside0.mk HMW.out.quota
  have HUS := Aside0.mk (used_any (HM2.out.below (below_drew (Below.refl w2.heap.size w2))) HF.out)
  by_cases hq : q < U
  · rw [if_pos hq] at hR
    have HR := Aside0.mk hR
    have HCO := Aside0.mk (show decide (q < U) = true from decide_eq_true hq)
    clear hR hq
    refine wp_region_held_drew (S := fun W => Below w2.heap.size w2 W) (by kernel_rfl) (below_drew (Below.refl _ _)) (fun hHeld => ?_)
    refine wpAnyH_take (i := 0) (oi := ⟨some 12, _, _, _, _, _⟩) (v := (.int .i64 0)) rfl (by kernel_rfl) (by kernel_rfl) (by kernel_rfl) (fun _ _ _ h => h) (Or.inl ⟨by rfl, fun W hS => by go_simp⟩) hHeld ?_
    (try simp only [Act.put, List.setIfInBounds_toArray, List.set_cons_zero, List.set_cons_succ])
    refine wpAnyH_take (i := 1) (oi := ⟨some 13, _, _, _, _, _⟩) (v := (.bool true)) rfl (by kernel_rfl) (by kernel_rfl) (by kernel_rfl) (fun _ _ _ h => h) (Or.inl ⟨by rfl, fun W hS => by go_simp⟩) hHeld ?_
    (try simp only [Act.put, List.setIfInBounds_toArray, List.set_cons_zero, List.set_cons_succ])
    refine wpAnyH_take (i := 2) (oi := ⟨some 14, _, _, _, _, _⟩) (v := (.bool true)) rfl (by kernel_rfl) (by kernel_rfl) (by kernel_rfl) (fun _ _ _ h => h) (Or.inl ⟨by rfl, fun W hS => by go_simp⟩) hHeld ?_
    (try simp only [Act.put, List.setIfInBounds_toArray, List.set_cons_zero, List.set_cons_succ])
    refine wpAnyH_take (i := 3) (oi := ⟨some 15, _, _, _, _, _⟩) (v := (mp pb')) rfl (by kernel_rfl) (by kernel_rfl) (by kernel_rfl) (fun _ _ _ h => h) (Or.inl ⟨by rfl, fun W hS => by go_simp⟩) hHeld ?_
    (try simp only [Act.put, List.setIfInBounds_toArray, List.set_cons_zero, List.set_cons_succ])
    refine wpAnyH_take (i := 5) (oi := ⟨some 17, _, _, _, _, _⟩) (v := (mp pb)) rfl (by kernel_rfl) (by kernel_rfl) (by kernel_rfl) (fun _ _ _ h => h) (Or.inl ⟨by rfl, fun W hS => by go_simp⟩) hHeld ?_
    (try simp only [Act.put, List.setIfInBounds_toArray, List.set_cons_zero, List.set_cons_succ])
    refine wpAnyH_take (i := 6) (oi := ⟨some 18, _, _, _, _, _⟩) (v := (mp pb)) rfl (by kernel_rfl) (by kernel_rfl) (by kernel_rfl) (fun _ _ _ h => h) (Or.inl ⟨by rfl, fun W hS => by go_simp⟩) hHeld ?_
    (try simp only [Act.put, List.setIfInBounds_toArray, List.set_cons_zero, List.set_cons_succ])
    refine wpAnyH_take (i := 7) (oi := ⟨some 19, _, _, _, _, _⟩) (v := (mp pb)) rfl (by kernel_rfl) (by kernel_rfl) (by kernel_rfl) (fun _ _ _ h => h) (Or.inl ⟨by rfl, fun W hS => by go_simp⟩) hHeld ?_
    (try simp only [Act.put, List.setIfInBounds_toArray, List.set_cons_zero, List.set_cons_succ])
    refine wpAnyH_take (i := 8) (oi := ⟨some 20, _, _, _, _, _⟩) (v := (.int .i64 q)) rfl (by kernel_rfl) (by kernel_rfl) (by kernel_rfl) (fun _ _ _ h => h) (Or.inl ⟨by rfl, fun W hS => by have cc := pw_cell_below hS P0.out; go_simp⟩) hHeld ?_
    (try simp only [Act.put, List.setIfInBounds_toArray, List.set_cons_zero, List.set_cons_succ])
    refine wpAnyH_ready (rs := [4]) (by kernel_rfl) (by simp) ?_
    refine AllReadyH.cons rfl (fun K hK => ?_) AllReadyH.nil
    rw [if_pos (by rfl)]
    go_simp
    refine (HUS.out).mono ?_
    rw [HU.out]
    rintro e w3 ⟨rfl, hb⟩
    dsimp only
    refine hK.out _ _ (below_step hHeld hb) (fun hH => ?_)
    have HB3 := Aside0.mk hb
    clear hK K hHeld hb
    have hHeld := hH
    clear hH
    (try simp only [Act.put, List.setIfInBounds_toArray, List.set_cons_zero, List.set_cons_succ])
    refine wpAnyH_take (i := 9) (oi := ⟨some 21, _, _, _, _, _⟩) (v := (.bool true)) rfl (by kernel_rfl) (by kernel_rfl) (by kernel_rfl) (fun _ _ _ h => h) (Or.inl ⟨by rfl, fun W hS => by have hc := HCO.out; go_simp⟩) hHeld ?_
    (try simp only [Act.put, List.setIfInBounds_toArray, List.set_cons_zero, List.set_cons_succ])
    refine wpAnyH_take (i := 10) (oi := ⟨some 22, _, _, _, _, _⟩) (v := (.bool true)) rfl (by kernel_rfl) (by kernel_rfl) (by kernel_rfl) (fun _ _ _ h => h) (Or.inl ⟨by rfl, fun W hS => by go_simp⟩) hHeld ?_
    (try simp only [Act.put, List.setIfInBounds_toArray, List.set_cons_zero, List.set_cons_succ])
    refine wpAnyH_done (by kernel_rfl) ?_ _
    have HB4 := Aside0.mk (below_step HB2.out hHeld)
    clear hHeld
    (try simp only [Exit.then])
    go_wp2
    go_ret
    rw [← HR.out]
    exact ⟨mb, .inl rfl, rfl, HM.out.below HB4.out, Turn.of_below HB4.out⟩
  · rw [if_neg hq] at hR
    have HR := Aside0.mk hR
    have HCO := Aside0.mk (show decide (q < U) = false from decide_eq_false hq)
    clear hR hq
    refine wp_region_held_drew (S := fun W => Below w2.heap.size w2 W) (by kernel_rfl) (below_drew (Below.refl _ _)) (fun hHeld => ?_)
    refine wpAnyH_take (i := 0) (oi := ⟨some 12, _, _, _, _, _⟩) (v := (.int .i64 0)) rfl (by kernel_rfl) (by kernel_rfl) (by kernel_rfl) (fun _ _ _ h => h) (Or.inl ⟨by rfl, fun W hS => by go_simp⟩) hHeld ?_
    (try simp only [Act.put, List.setIfInBounds_toArray, List.set_cons_zero, List.set_cons_succ])
    refine wpAnyH_take (i := 1) (oi := ⟨some 13, _, _, _, _, _⟩) (v := (.bool true)) rfl (by kernel_rfl) (by kernel_rfl) (by kernel_rfl) (fun _ _ _ h => h) (Or.inl ⟨by rfl, fun W hS => by go_simp⟩) hHeld ?_
    (try simp only [Act.put, List.setIfInBounds_toArray, List.set_cons_zero, List.set_cons_succ])
    refine wpAnyH_take (i := 2) (oi := ⟨some 14, _, _, _, _, _⟩) (v := (.bool true)) rfl (by kernel_rfl) (by kernel_rfl) (by kernel_rfl) (fun _ _ _ h => h) (Or.inl ⟨by rfl, fun W hS => by go_simp⟩) hHeld ?_
    (try simp only [Act.put, List.setIfInBounds_toArray, List.set_cons_zero, List.set_cons_succ])
    refine wpAnyH_take (i := 3) (oi := ⟨some 15, _, _, _, _, _⟩) (v := (mp pb')) rfl (by kernel_rfl) (by kernel_rfl) (by kernel_rfl) (fun _ _ _ h => h) (Or.inl ⟨by rfl, fun W hS => by go_simp⟩) hHeld ?_
    (try simp only [Act.put, List.setIfInBounds_toArray, List.set_cons_zero, List.set_cons_succ])
    refine wpAnyH_take (i := 5) (oi := ⟨some 17, _, _, _, _, _⟩) (v := (mp pb)) rfl (by kernel_rfl) (by kernel_rfl) (by kernel_rfl) (fun _ _ _ h => h) (Or.inl ⟨by rfl, fun W hS => by go_simp⟩) hHeld ?_
    (try simp only [Act.put, List.setIfInBounds_toArray, List.set_cons_zero, List.set_cons_succ])
    refine wpAnyH_take (i := 6) (oi := ⟨some 18, _, _, _, _, _⟩) (v := (mp pb)) rfl (by kernel_rfl) (by kernel_rfl) (by kernel_rfl) (fun _ _ _ h => h) (Or.inl ⟨by rfl, fun W hS => by go_simp⟩) hHeld ?_
    (try simp only [Act.put, List.setIfInBounds_toArray, List.set_cons_zero, List.set_cons_succ])
    refine wpAnyH_take (i := 7) (oi := ⟨some 19, _, _, _, _, _⟩) (v := (mp pb)) rfl (by kernel_rfl) (by kernel_rfl) (by kernel_rfl) (fun _ _ _ h => h) (Or.inl ⟨by rfl, fun W hS => by go_simp⟩) hHeld ?_
    (try simp only [Act.put, List.setIfInBounds_toArray, List.set_cons_zero, List.set_cons_succ])
    refine wpAnyH_take (i := 8) (oi := ⟨some 20, _, _, _, _, _⟩) (v := (.int .i64 q)) rfl (by kernel_rfl) (by kernel_rfl) (by kernel_rfl) (fun _ _ _ h => h) (Or.inl ⟨by rfl, fun W hS => by have cc := pw_cell_below hS P0.out; go_simp⟩) hHeld ?_
    (try simp only [Act.put, List.setIfInBounds_toArray, List.set_cons_zero, List.set_cons_succ])
    refine wpAnyH_ready (rs := [4]) (by kernel_rfl) (by simp) ?_
    refine AllReadyH.cons rfl (fun K hK => ?_) AllReadyH.nil
    rw [if_pos (by rfl)]
    go_simp
    refine (HUS.out).mono ?_
    rw [HU.out]
    rintro e w3 ⟨rfl, hb⟩
    dsimp only
    refine hK.out _ _ (below_step hHeld hb) (fun hH => ?_)
    have HB3 := Aside0.mk hb
    clear hK K hHeld hb
    have hHeld := hH
    clear hH
    (try simp only [Act.put, List.setIfInBounds_toArray, List.set_cons_zero, List.set_cons_succ])
    refine wpAnyH_take (i := 9) (oi := ⟨some 21, _, _, _, _, _⟩) (v := (.bool false)) rfl (by kernel_rfl) (by kernel_rfl) (by kernel_rfl) (fun _ _ _ h => h) (Or.inl ⟨by rfl, fun W hS => by have hc := HCO.out; go_simp⟩) hHeld ?_
    (try simp only [Act.put, List.setIfInBounds_toArray, List.set_cons_zero, List.set_cons_succ])
    refine wpAnyH_take (i := 10) (oi := ⟨some 22, _, _, _, _, _⟩) (v := (.bool false)) rfl (by kernel_rfl) (by kernel_rfl) (by kernel_rfl) (fun _ _ _ h => h) (Or.inl ⟨by rfl, fun W hS => by go_simp⟩) hHeld ?_
    (try simp only [Act.put, List.setIfInBounds_toArray, List.set_cons_zero, List.set_cons_succ])
    refine wpAnyH_done (by kernel_rfl) ?_ _
    have HB4 := Aside0.mk (below_step HB2.out hHeld)
    have HM4 := Aside0.mk (HM2.out.below hHeld)
    have HW4 := Aside0.mk (HM.out.below HB4.out)
    have a1 := HM4.out.at_
    have a2 := HW4.out.at_
    have a3 := HW4.out.froz
    clear hHeld
    (try simp only [Exit.then])
    go_wp2
    go_ret
    rw [← HR.out]
    exact ⟨mb', .inr HQ.out, rfl, HW4.out.setMap HM4.out.2, (Turn.of_below HB4.out : Turn (fun k => k = pb) w w3).trans (setCell_turn _ _ _) (fun _ _ e => e)⟩
theorem try_put (p1 p2 p3 : Value) {w : World} {pb mb : Nat} {q : Int} {T F : Tree} (h : Mdl w pb mb q T) (hF : Ok F)
    (hf : ∀ (W : World) (pb' mb' : Nat), Below w.heap.size w W → Mdl W pb' mb' q T → w.heap.size ≤ pb' → w.heap.size ≤ mb' → Calls Tryd.prog 53 #[mp pb', p1, p2, p3] W fun e W' => e = .returned (.int .i64 0) ∧ Mdl W' pb' mb' q F ∧ Turn1 mb' W W') :
    Calls Tryd.prog 42 #[mp pb, .func (.func 53) #[] #[p1, p2, p3]] w fun e w' => ∃ mb', (mb' = mb ∨ w.heap.size ≤ mb') ∧ e = .returned (.int .i64 (tryR q T F).2) ∧ Mdl w' pb mb' q (tryR q T F).1 ∧ Turn (fun k => k = pb) w w' := by
  have HC := Aside0.mk (copy_any h)
  have HM := Aside0.mk h
  have HF := Aside0.mk hF
  have HH := Aside0.mk hf
  obtain ⟨R, hR⟩ : ∃ R, tryR q T F = R := ⟨_, rfl⟩
  rw [hR]
  unfold tryR at hR
  obtain ⟨U, hU⟩ : ∃ U, usedT F = U := ⟨_, rfl⟩
  have HU := Aside0.mk hU
  rw [hU] at hR
  clear hF hf hU h
  go_enter Tryd.func42, Tryd.ntmps42
  go_wp2_with (first
    | (have hz := HB1.out; clear hz; go_at_call 53; refine Calls.mono (HH.out w1 pb' mb' HB1.out HM1.out HP.out HQ.out) ?_; rintro e w2 ⟨rfl, hm, ht⟩; have HM2 := Aside0.mk hm; have HB2 := Aside0.mk (show Below w.heap.size w w2 from HB1.out.trans (ht.below HB1.out.size (fun k e => by have := HQ.out; have e : k = mb' := e; omega))); clear hm ht)
    | (go_at_call 11; refine Calls.mono HC.out ?_; rintro e w1 ⟨pb', mb', rfl, hp, hq, hm, hb⟩; have HP := Aside0.mk hp; have HQ := Aside0.mk hq; have HM1 := Aside0.mk hm; have HB1 := Aside0.mk hb; clear hp hq hm hb))
  have HMW := Aside0.mk (HM.out.below HB2.out)
  have P0 := Aside0.mk HMW.out.quota
  have HUS := Aside0.mk (used_any (HM2.out.below (below_drew (Below.refl w2.heap.size w2))) HF.out)
  by_cases hq : q < U
  · rw [if_pos hq] at hR
    have HR := Aside0.mk hR
    have HCO := Aside0.mk (show decide (q < U) = true from decide_eq_true hq)
    clear hR hq
    refine wp_region_held_drew (S := fun W => Below w2.heap.size w2 W) (by kernel_rfl) (below_drew (Below.refl _ _)) (fun hHeld => ?_)
    refine wpAnyH_take (i := 0) (oi := ⟨some 12, _, _, _, _, _⟩) (v := (.int .i64 0)) rfl (by kernel_rfl) (by kernel_rfl) (by kernel_rfl) (fun _ _ _ h => h) (Or.inl ⟨by rfl, fun W hS => by go_simp⟩) hHeld ?_
    (try simp only [Act.put, List.setIfInBounds_toArray, List.set_cons_zero, List.set_cons_succ])
    refine wpAnyH_take (i := 1) (oi := ⟨some 13, _, _, _, _, _⟩) (v := (.bool true)) rfl (by kernel_rfl) (by kernel_rfl) (by kernel_rfl) (fun _ _ _ h => h) (Or.inl ⟨by rfl, fun W hS => by go_simp⟩) hHeld ?_
    (try simp only [Act.put, List.setIfInBounds_toArray, List.set_cons_zero, List.set_cons_succ])
    refine wpAnyH_take (i := 2) (oi := ⟨some 14, _, _, _, _, _⟩) (v := (.bool true)) rfl (by kernel_rfl) (by kernel_rfl) (by kernel_rfl) (fun _ _ _ h => h) (Or.inl ⟨by rfl, fun W hS => by go_simp⟩) hHeld ?_
    (try simp only [Act.put, List.setIfInBounds_toArray, List.set_cons_zero, List.set_cons_succ])
    refine wpAnyH_take (i := 3) (oi := ⟨some 15, _, _, _, _, _⟩) (v := (mp pb')) rfl (by kernel_rfl) (by kernel_rfl) (by kernel_rfl) (fun _ _ _ h => h) (Or.inl ⟨by rfl, fun W hS => by go_simp⟩) hHeld ?_
    (try simp only [Act.put, List.setIfInBounds_toArray, List.set_cons_zero, List.set_cons_succ])
    refine wpAnyH_take (i := 5) (oi := ⟨some 17, _, _, _, _, _⟩) (v := (mp pb)) rfl (by kernel_rfl) (by kernel_rfl) (by kernel_rfl) (fun _ _ _ h => h) (Or.inl ⟨by rfl, fun W hS => by go_simp⟩) hHeld ?_
    (try simp only [Act.put, List.setIfInBounds_toArray, List.set_cons_zero, List.set_cons_succ])
    refine wpAnyH_take (i := 6) (oi := ⟨some 18, _, _, _, _, _⟩) (v := (mp pb)) rfl (by kernel_rfl) (by kernel_rfl) (by kernel_rfl) (fun _ _ _ h => h) (Or.inl ⟨by rfl, fun W hS => by go_simp⟩) hHeld ?_
    (try simp only [Act.put, List.setIfInBounds_toArray, List.set_cons_zero, List.set_cons_succ])
    refine wpAnyH_take (i := 7) (oi := ⟨some 19, _, _, _, _, _⟩) (v := (mp pb)) rfl (by kernel_rfl) (by kernel_rfl) (by kernel_rfl) (fun _ _ _ h => h) (Or.inl ⟨by rfl, fun W hS => by go_simp⟩) hHeld ?_
    (try simp only [Act.put, List.setIfInBounds_toArray, List.set_cons_zero, List.set_cons_succ])
    refine wpAnyH_take (i := 8) (oi := ⟨some 20, _, _, _, _, _⟩) (v := (.int .i64 q)) rfl (by kernel_rfl) (by kernel_rfl) (by kernel_rfl) (fun _ _ _ h => h) (Or.inl ⟨by rfl, fun W hS => by have cc := pw_cell_below hS P0.out; go_simp⟩) hHeld ?_
    (try simp only [Act.put, List.setIfInBounds_toArray, List.set_cons_zero, List.set_cons_succ])
    refine wpAnyH_ready (rs := [4]) (by kernel_rfl) (by simp) ?_
    refine AllReadyH.cons rfl (fun K hK => ?_) AllReadyH.nil
    rw [if_pos (by rfl)]
    go_simp
    refine (HUS.out).mono ?_
    rw [HU.out]
    rintro e w3 ⟨rfl, hb⟩
    dsimp only
    refine hK.out _ _ (below_step hHeld hb) (fun hH => ?_)
    have HB3 := Aside0.mk hb
    clear hK K hHeld hb
    have hHeld := hH
    clear hH
    (try simp only [Act.put, List.setIfInBounds_toArray, List.set_cons_zero, List.set_cons_succ])
    refine wpAnyH_take (i := 9) (oi := ⟨some 21, _, _, _, _, _⟩) (v := (.bool true)) rfl (by kernel_rfl) (by kernel_rfl) (by kernel_rfl) (fun _ _ _ h => h) (Or.inl ⟨by rfl, fun W hS => by have hc := HCO.out; go_simp⟩) hHeld ?_
    (try simp only [Act.put, List.setIfInBounds_toArray, List.set_cons_zero, List.set_cons_succ])
    refine wpAnyH_take (i := 10) (oi := ⟨some 22, _, _, _, _, _⟩) (v := (.bool true)) rfl (by kernel_rfl) (by kernel_rfl) (by kernel_rfl) (fun _ _ _ h => h) (Or.inl ⟨by rfl, fun W hS => by go_simp⟩) hHeld ?_
    (try simp only [Act.put, List.setIfInBounds_toArray, List.set_cons_zero, List.set_cons_succ])
    refine wpAnyH_done (by kernel_rfl) ?_ _
    have HB4 := Aside0.mk (below_step HB2.out hHeld)
    clear hHeld
    (try simp only [Exit.then])
    go_wp2
    go_ret
    rw [← HR.out]
    exact ⟨mb, .inl rfl, rfl, HM.out.below HB4.out, Turn.of_below HB4.out⟩
  · rw [if_neg hq] at hR
    have HR := Aside0.mk hR
    have HCO := Aside0.mk (show decide (q < U) = false from decide_eq_false hq)
    clear hR hq
    refine wp_region_held_drew (S := fun W => Below w2.heap.size w2 W) (by kernel_rfl) (below_drew (Below.refl _ _)) (fun hHeld => ?_)
    refine wpAnyH_take (i := 0) (oi := ⟨some 12, _, _, _, _, _⟩) (v := (.int .i64 0)) rfl (by kernel_rfl) (by kernel_rfl) (by kernel_rfl) (fun _ _ _ h => h) (Or.inl ⟨by rfl, fun W hS => by go_simp⟩) hHeld ?_
    (try simp only [Act.put, List.setIfInBounds_toArray, List.set_cons_zero, List.set_cons_succ])
    refine wpAnyH_take (i := 1) (oi := ⟨some 13, _, _, _, _, _⟩) (v := (.bool true)) rfl (by kernel_rfl) (by kernel_rfl) (by kernel_rfl) (fun _ _ _ h => h) (Or.inl ⟨by rfl, fun W hS => by go_simp⟩) hHeld ?_
    (try simp only [Act.put, List.setIfInBounds_toArray, List.set_cons_zero, List.set_cons_succ])
    refine wpAnyH_take (i := 2) (oi := ⟨some 14, _, _, _, _, _⟩) (v := (.bool true)) rfl (by kernel_rfl) (by kernel_rfl) (by kernel_rfl) (fun _ _ _ h => h) (Or.inl ⟨by rfl, fun W hS => by go_simp⟩) hHeld ?_
    (try simp only [Act.put, List.setIfInBounds_toArray, List.set_cons_zero, List.set_cons_succ])
    refine wpAnyH_take (i := 3) (oi := ⟨some 15, _, _, _, _, _⟩) (v := (mp pb')) rfl (by kernel_rfl) (by kernel_rfl) (by kernel_rfl) (fun _ _ _ h => h) (Or.inl ⟨by rfl, fun W hS => by go_simp⟩) hHeld ?_
    (try simp only [Act.put, List.setIfInBounds_toArray, List.set_cons_zero, List.set_cons_succ])
    refine wpAnyH_take (i := 5) (oi := ⟨some 17, _, _, _, _, _⟩) (v := (mp pb)) rfl (by kernel_rfl) (by kernel_rfl) (by kernel_rfl) (fun _ _ _ h => h) (Or.inl ⟨by rfl, fun W hS => by go_simp⟩) hHeld ?_
    (try simp only [Act.put, List.setIfInBounds_toArray, List.set_cons_zero, List.set_cons_succ])
    refine wpAnyH_take (i := 6) (oi := ⟨some 18, _, _, _, _, _⟩) (v := (mp pb)) rfl (by kernel_rfl) (by kernel_rfl) (by kernel_rfl) (fun _ _ _ h => h) (Or.inl ⟨by rfl, fun W hS => by go_simp⟩) hHeld ?_
    (try simp only [Act.put, List.setIfInBounds_toArray, List.set_cons_zero, List.set_cons_succ])
    refine wpAnyH_take (i := 7) (oi := ⟨some 19, _, _, _, _, _⟩) (v := (mp pb)) rfl (by kernel_rfl) (by kernel_rfl) (by kernel_rfl) (fun _ _ _ h => h) (Or.inl ⟨by rfl, fun W hS => by go_simp⟩) hHeld ?_
    (try simp only [Act.put, List.setIfInBounds_toArray, List.set_cons_zero, List.set_cons_succ])
    refine wpAnyH_take (i := 8) (oi := ⟨some 20, _, _, _, _, _⟩) (v := (.int .i64 q)) rfl (by kernel_rfl) (by kernel_rfl) (by kernel_rfl) (fun _ _ _ h => h) (Or.inl ⟨by rfl, fun W hS => by have cc := pw_cell_below hS P0.out; go_simp⟩) hHeld ?_
    (try simp only [Act.put, List.setIfInBounds_toArray, List.set_cons_zero, List.set_cons_succ])
    refine wpAnyH_ready (rs := [4]) (by kernel_rfl) (by simp) ?_
    refine AllReadyH.cons rfl (fun K hK => ?_) AllReadyH.nil
    rw [if_pos (by rfl)]
    go_simp
    refine (HUS.out).mono ?_
    rw [HU.out]
    rintro e w3 ⟨rfl, hb⟩
    dsimp only
    refine hK.out _ _ (below_step hHeld hb) (fun hH => ?_)
    have HB3 := Aside0.mk hb
    clear hK K hHeld hb
    have hHeld := hH
    clear hH
    (try simp only [Act.put, List.setIfInBounds_toArray, List.set_cons_zero, List.set_cons_succ])
    refine wpAnyH_take (i := 9) (oi := ⟨some 21, _, _, _, _, _⟩) (v := (.bool false)) rfl (by kernel_rfl) (by kernel_rfl) (by kernel_rfl) (fun _ _ _ h => h) (Or.inl ⟨by rfl, fun W hS => by have hc := HCO.out; go_simp⟩) hHeld ?_
    (try simp only [Act.put, List.setIfInBounds_toArray, List.set_cons_zero, List.set_cons_succ])
    refine wpAnyH_take (i := 10) (oi := ⟨some 22, _, _, _, _, _⟩) (v := (.bool false)) rfl (by kernel_rfl) (by kernel_rfl) (by kernel_rfl) (fun _ _ _ h => h) (Or.inl ⟨by rfl, fun W hS => by go_simp⟩) hHeld ?_
    (try simp only [Act.put, List.setIfInBounds_toArray, List.set_cons_zero, List.set_cons_succ])
    refine wpAnyH_done (by kernel_rfl) ?_ _
    have HB4 := Aside0.mk (below_step HB2.out hHeld)
    have HM4 := Aside0.mk (HM2.out.below hHeld)
    have HW4 := Aside0.mk (HM.out.below HB4.out)
    have a1 := HM4.out.at_
    have a2 := HW4.out.at_
    have a3 := HW4.out.froz
    clear hHeld
    (try simp only [Exit.then])
    go_wp2
    go_ret
    rw [← HR.out]
    exact ⟨mb', .inr HQ.out, rfl, HW4.out.setMap HM4.out.2, (Turn.of_below HB4.out : Turn (fun k => k = pb) w w3).trans (setCell_turn _ _ _) (fun _ _ e => e)⟩
end Go.Proofs.YtcmcmkfoihlniaaDoor.MM
end
