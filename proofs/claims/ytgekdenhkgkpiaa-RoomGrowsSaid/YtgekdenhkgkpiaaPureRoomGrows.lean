/- RoomGrows: a greater file uses no less; more segments have no less room. Conditions: none. -/
import Derived.Test.YtgekdenhkgkpiaaTRoomGrows
namespace Go.Proofs.Ytgekdenhkgkpiaa.Pure
open Go.RowKit Go.Proofs.Ytgekdenhkgkpiaa.PRoomGrows Go.Proofs.Ytgekdenhkgkpiaa.TRoomGrows

theorem seg_mono {a x y : Int} (h : x ≤ y) : segK a x ≤ segK a y := by
  unfold segK
  by_cases ho : Ok a
  · rw [if_pos ho, if_pos ho]
    have hc := cap_bd ho
    by_cases hx : x < 1
    · rw [if_pos hx]
      by_cases hy : y < 1
      · rw [if_pos hy]; omega
      · rw [if_neg hy]
        have := (up_spec (b := y) (c := capK a) (by omega) (by omega)).2.2.1
        omega
    · rw [if_neg hx, if_neg (by omega)]
      have : (x - 1) / capK a ≤ (y - 1) / capK a := Int.ediv_le_ediv (by omega) (by omega)
      omega
  · rw [if_neg ho, if_neg ho]; omega
theorem use_mono {x y : Int} (h : x ≤ y) : useK x ≤ useK y := by
  have hl : lowK x ≤ lowK y := by
    unfold lowK
    by_cases h1 : 3808 < x
    · rw [if_pos h1, if_pos (by omega)]; omega
    · rw [if_neg h1]
      by_cases h2 : 3808 < y
      · rw [if_pos h2]; omega
      · rw [if_neg h2]; omega
  have hb : blocksK (lowK x) ≤ blocksK (lowK y) := by
    unfold blocksK
    by_cases h1 : lowK x ≤ 0
    · rw [if_pos h1]
      by_cases h2 : lowK y ≤ 0
      · rw [if_pos h2]; omega
      · rw [if_neg h2]; omega
    · rw [if_neg h1, if_neg (by omega)]; omega
  unfold useK
  by_cases h1 : blocksK (lowK x) > 6
  · rw [if_pos h1, if_pos (by omega)]; omega
  · rw [if_neg h1]
    by_cases h2 : blocksK (lowK y) > 6
    · rw [if_pos h2]; omega
    · rw [if_neg h2]; omega
theorem used_snoc (l : List Int) (x : Int) : usedK (l ++ [x]) = usedK l + useK x := by
  induction l with
  | nil => simp [usedK]
  | cons y l ih => simp only [List.cons_append, usedK, ih]; omega
theorem quota_mono {a s t : Int} (h : s ≤ t) (ht : s ≤ 128 → t ≤ 128) : quotaK a s ≤ quotaK a t := by
  have h0 := quota_bd a t
  unfold quotaK at *
  by_cases hs : Ok a ∧ 16 ≤ s ∧ s ≤ 128
  · have ht' := ht hs.2.2
    rw [if_pos hs, if_pos (show Ok a ∧ 16 ≤ t ∧ t ≤ 128 from ⟨hs.1, by omega, ht'⟩)]
    have hc := cap_bd hs.1
    refine Int.mul_le_mul_of_nonneg_left ?_ (by omega)
    have hl : leftK a s ≤ leftK a t := by unfold leftK; omega
    by_cases h1 : leftK a s < 0
    · rw [if_pos h1]
      by_cases h2 : leftK a t < 0
      · rw [if_pos h2]; omega
      · rw [if_neg h2]; omega
    · rw [if_neg h1, if_neg (by omega)]; omega
  · rw [if_neg hs]; exact h0.1
theorem great_bd {g2 more : Int} : g2 ≤ (if g2 < (if 128 < more then 128 else more) then (if 128 < more then 128 else more) else g2) ∧ (g2 ≤ 128 → (if g2 < (if 128 < more then 128 else more) then (if 128 < more then 128 else more) else g2) ≤ 128) := by
  by_cases h : 128 < more
  · rw [if_pos h]
    by_cases h2 : g2 < 128
    · rw [if_pos h2]; omega
    · rw [if_neg h2]; omega
  · rw [if_neg h]
    by_cases h2 : g2 < more
    · rw [if_pos h2]; omega
    · rw [if_neg h2]; omega
theorem fits_great {a n s t used : Int} (h : FitsK a n s used) (hst : s ≤ t) (ht : s ≤ 128 → t ≤ 128) : FitsK a n t used := by
  have hq := quota_mono (a := a) hst ht
  obtain ⟨⟨h1, h2, h3⟩, h4⟩ := h
  exact ⟨⟨h1, h2, by omega⟩, by omega⟩
theorem fits_less {a n s used less : Int} (h : FitsK a n s used) (hle : less ≤ used) : FitsK a n s less := ⟨h.1, by have := h.2; omega⟩
theorem lo_bd {x y b : Int} (hx : x ≤ b) (hy : y ≤ b) : (if x < y then x else y) ≤ b ∧ (if y < x then x else y) ≤ b ∧ (if x < y then x else y) ≤ (if y < x then x else y) := by
  by_cases h : x < y
  · rw [if_pos h, if_neg (by omega)]; omega
  · rw [if_neg h]
    by_cases h2 : y < x
    · rw [if_pos h2]; omega
    · rw [if_neg h2]; omega
end Go.Proofs.Ytgekdenhkgkpiaa.Pure
