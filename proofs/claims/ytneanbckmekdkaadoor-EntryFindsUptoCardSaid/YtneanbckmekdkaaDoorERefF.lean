/- The document's Find, plain. -/
import Derived.Test.YtneanbckmekdkaaDoorEFind
import Derived.Test.YtneanbckmekdkaaDoorEFRef
import Derived.Test.YtneanbckmekdkaaDoorNRefK
namespace Go.Proofs.YtneanbckmekdkaaDoor.EN
open Go Go.RowKit Go.Proofs.YtneanbckmekdkaaDoor.NM Go.Proofs.YtneanbckmekdkaaDoorW.PrintWords Go.Proofs.YtneanbckmekdkaaDoor.PEntryForms
open Go.Proofs.YtneanbckmekdkaaDoor.NMK (compare_f)
set_option linter.unusedVariables false
theorem cb_zero : ∀ a b : List UInt8, Lib.compareBytes a b = 0 ↔ a = b
  | [], [] => by simp [Lib.compareBytes]
  | [], _ :: _ => by simp [Lib.compareBytes]
  | _ :: _, [] => by simp [Lib.compareBytes]
  | x :: a, y :: b => by
    have ih := cb_zero a b
    rw [Lib.compareBytes]
    by_cases h1 : x < y
    · rw [if_pos h1]
      refine ⟨fun h => absurd h (by decide), fun h => ?_⟩
      cases h
      rw [UInt8.lt_iff_toNat_lt] at h1
      omega
    · rw [if_neg h1]
      by_cases h2 : y < x
      · rw [if_pos h2]
        refine ⟨fun h => absurd h (by decide), fun h => ?_⟩
        cases h
        rw [UInt8.lt_iff_toNat_lt] at h2
        omega
      · rw [if_neg h2, ih]
        have h3 : x = y := by
          rw [UInt8.lt_iff_toNat_lt] at h1 h2
          exact UInt8.toNat_inj.1 (by omega)
        subst h3
        simp
theorem ahead_zero {a b : List UInt8} : NM.ahead a b = 0 ↔ a = b := by
  unfold NM.ahead
  by_cases h : cmpI (runes a) (runes b) = 0
  · rw [if_neg (by simpa using h)]
    exact cb_zero a b
  · rw [if_pos h]
    exact ⟨fun e => absurd e h, fun e => by subst e; exact absurd (Go.Proofs.YtneanbckmekdkaaDoor.NMK.cmpI_zero.2 rfl) h⟩
theorem nameAt_rd (l : List S42) (i : Nat) : (rd_T42 l (i : Int)).f1 = nameAt l i := rfl
theorem ref_find_l (l : List S42) (nm : ByteArray) (hl : l.length ≤ 9223372036854775806) (hz : ∀ x ∈ l, x.f1.size ≤ 4398046511104) (hn : nm.size ≤ 4398046511104) (kc : Nat) (hkc : 4 * (4398046511104 + 4398046511104) + 13 ≤ kc) :
    ∀ (j k i : Nat), l.length ≤ i + j → i ≤ l.length → (∀ q, q < i → geAt l nm q = false) → hayrickref12_Find.l0 (kc + 1 + k + j) l nm i = some ((atE l nm : Int), isE l nm)
  | 0, k, i, h, h2, hq => by
    obtain rfl : i = l.length := by omega
    have ha : atE l nm = l.length := atE_is (Nat.le_refl _) hq (fun h => absurd h (Nat.lt_irrefl _))
    have hi : isE l nm = false := by unfold isE; rw [ha, decide_eq_false (Nat.lt_irrefl _), Bool.false_and]
    rw [show kc + 1 + k + 0 = (kc + k) + 1 by omega, hayrickref12_Find.l0, if_neg (by omega), ha, hi]
  | j + 1, k, i, h, h2, hq => by
    by_cases hi : i < l.length
    · have hsz : (nameAt l i).size ≤ 4398046511104 := by rw [(show nameAt l i = l[i].f1 from by unfold nameAt rd_T42; rw [Int.toNat_natCast, List.getD_eq_getElem?_getD, List.getElem?_eq_getElem hi]; rfl)]; exact hz _ (List.getElem_mem hi)
      have hw : wrap64 ((i : Int) + 1) = ((i + 1 : Nat) : Int) := by unfold wrap64; omega
      rw [show kc + 1 + k + (j + 1) = (kc + 1 + k + j) + 1 by omega, hayrickref12_Find.l0, if_pos (by omega), if_pos (by omega), nameAt_rd, compare_f (nameAt l i) nm (by omega) (by omega) _ (by omega), Option.bind_some]
      have hg : geAt l nm i = decide (0 ≤ NM.ahead (nameAt l i).data.toList nm.data.toList) := rfl
      by_cases hc : 0 ≤ NM.ahead (nameAt l i).data.toList nm.data.toList
      · have ha : atE l nm = i := atE_is (by omega) hq (fun _ => by rw [hg, decide_eq_true hc])
        have hs : isE l nm = (NM.ahead (nameAt l i).data.toList nm.data.toList == 0) := by
          unfold isE
          rw [ha, decide_eq_true hi, Bool.true_and, Lib.toList_data, Lib.toList_data, Bool.eq_iff_iff, beq_iff_eq, beq_iff_eq, ahead_zero]
        rw [if_pos (by omega), ha, hs]
      · rw [if_neg (by omega), hw]
        exact ref_find_l l nm hl hz hn kc hkc j k (i + 1) (by omega) (by omega) (fun q hq' => by
          by_cases e : q = i
          · rw [e, hg, decide_eq_false hc]
          · exact hq q (by omega))
    · have h3 := ref_find_l l nm hl hz hn kc hkc 0 (k + (j + 1)) i (by omega) h2 hq
      rw [show kc + 1 + k + (j + 1) = kc + 1 + (k + (j + 1)) + 0 by omega]
      exact h3
/-- The document's Find answers alike. -/
theorem refFind_any (A : Option Addr) (c : Nat) (l : List S42) (nm : ByteArray) (w : World) (hr : Row w A l) (hc : l.length ≤ c) (hl : l.length ≤ 9223372036854775806) (hz : ∀ x ∈ l, x.f1.size ≤ 4398046511104) (hn : nm.size ≤ 4398046511104) :
    Calls Tryd.prog 19 #[.slice A l.length c, .string nm] w fun e w' => e = .returned (.tuple #[.int .i64 (atE l nm : Int), .bool (isE l nm)]) ∧ Below w.heap.size w w' := by
  refine (hayrickref12_Find.calls (4 * (4398046511104 + 4398046511104) + 13 + 1 + 0 + l.length) A c l nm _ _ w hr.c hc (ref_find_l l nm hl hz hn _ (Nat.le_refl _) l.length 0 0 (by omega) (Nat.zero_le _) (fun q hq => absurd hq (Nat.not_lt_zero _)))).mono ?_
  rintro e w' h
  exact ⟨h.1, by first | exact h.2 | exact h.2.below⟩
end Go.Proofs.YtneanbckmekdkaaDoor.EN
