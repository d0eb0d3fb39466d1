/- RoomParts: a segment's blocks are its summary and its cap, each block of a summary tells of 15; so many segments have room for blocks, one less has not. Conditions: none. -/
import Derived.Test.YtgekdenhkgkpiaaPRoomPartsx3
import Derived.Test.YtgekdenhkgkpiaaTRoomParts
namespace Go.Proofs.Ytgekdenhkgkpiaa.Pure
open Go.RowKit Go.Proofs.Ytgekdenhkgkpiaa.PRoomParts Go.Proofs.Ytgekdenhkgkpiaa.TRoomParts Go.Proofs.YtgekdenhkgkpiaaW.PrintWords Go.Proofs.YtgekdenhkgkpiaaW.PrintLast

theorem parts_j1 {b c n : Int} (hb : b ≤ 9223372036854775807) (hc : 3 ≤ c) (h : b < 1 ∧ n = 0 ∨ 1 ≤ b ∧ n = (b - 1) / c + 1) : hayricklaw21_RoomParts.j1 10 b c n false = some true := by
  simp only [hayricklaw21_RoomParts.j1]
  rw [if_neg (by simp)]
  rcases h with ⟨h1, rfl⟩ | ⟨h1, rfl⟩
  · rw [if_pos h1, if_pos rfl, wakes_true _ (by omega)]; rfl
  · have hs := up_spec h1 (c := c) (by omega)
    have h0 : (b - 1) / c * c ≤ b - 1 := by omega
    have h1' : 0 ≤ (b - 1) / c * c := Int.mul_nonneg hs.2.2.1 (by omega)
    rw [if_neg (by omega), if_pos (by omega), w64 (n := (b - 1) / c + 1 - 1) (by omega), show (b - 1) / c + 1 - 1 = (b - 1) / c from by omega,
      w64 (n := (b - 1) / c * c) (by omega), if_pos (by omega), w64 (by omega), if_pos (by omega), wakes_true _ (by omega)]
    rfl

theorem RoomParts : hayricklaw21_RoomParts.Pure := by
  intro a b wa wb
  have ba := bounds_i64 wa
  have bb := bounds_i64 wb
  refine ⟨11, ?_⟩
  unfold hayricklaw21_RoomParts.f
  rw [sum_eq, cap_eq, seg_eq bb.2]
  simp only [Option.bind_some]
  by_cases h : Ok a
  · have hs := sum_bd h
    have hc := cap_bd h
    have ha := h
    unfold Ok at ha
    rw [if_neg (by omega), decide_eq_false (by omega)]
    simp only [hayricklaw21_RoomParts.j0]
    rw [if_neg (by simp), w64 (n := sumK a + capK a) (by omega), w64 (n := 4 * a) (by omega), if_pos (by omega), w64 (n := 15 * sumK a) (by omega),
      if_neg (by omega), w64 (n := sumK a - 1) (by omega), w64 (n := 15 * (sumK a - 1)) (by omega), if_neg (by omega), decide_eq_false (by omega)]
    refine parts_j1 bb.2 hc.1 ?_
    unfold segK
    rw [if_pos h]
    by_cases h1 : b < 1
    · rw [if_pos h1]; exact .inl ⟨h1, rfl⟩
    · rw [if_neg h1]; exact .inr ⟨by omega, rfl⟩
  · have e : hayricklaw21_RoomParts.j0 11 a b (sumK a) (capK a) (segK a b) true = some true := by
      simp only [hayricklaw21_RoomParts.j0]
      rw [if_pos trivial, sumK, capK, segK, if_neg h, if_neg h, if_neg h, if_pos rfl, if_pos rfl, if_pos rfl, wakes_true _ (by omega)]
      rfl
    unfold Ok at h
    by_cases h1 : a < 1
    · rw [if_pos h1]; exact e
    · rw [if_neg h1, decide_eq_true (by omega)]; exact e

end Go.Proofs.Ytgekdenhkgkpiaa.Pure
