/- RoomSafe: what fits leaves room to write all of it anew. Conditions: none. -/
import Derived.Test.YtgekdenhkgkpiaaPRoomSafex3
import Derived.Test.YtgekdenhkgkpiaaTRoomSafe
namespace Go.Proofs.Ytgekdenhkgkpiaa.Pure
open Go.RowKit Go.Proofs.Ytgekdenhkgkpiaa.PRoomSafe Go.Proofs.Ytgekdenhkgkpiaa.TRoomSafe Go.Proofs.YtgekdenhkgkpiaaW.PrintWords Go.Proofs.YtgekdenhkgkpiaaW.PrintLast

theorem safe_bd {a n s used : Int} (h : FitsK a n s used) : 2 * segK a used + 2 * segK a 48 + 6 ≤ s := by
  have ho := acc_ok h.1
  have hc := cap_bd ho.1
  have hq : 8 ≤ quotaK a s := h.1.2.2
  have hu := h.2
  have hl : leftK a s = s - 6 - 2 * segK a 48 := rfl
  rw [quotaK, if_pos ho] at hq hu
  by_cases hn : leftK a s < 0
  · rw [if_pos hn, Int.mul_zero] at hq; omega
  · rw [if_neg hn] at hq hu
    rw [segK, if_pos ho.1]
    by_cases h1 : used < 1
    · rw [if_pos h1]; omega
    · rw [if_neg h1]
      have : (used - 1) / capK a < leftK a s / 2 := Int.ediv_lt_of_lt_mul (by omega) (by rw [Int.mul_comm]; omega)
      omega

theorem RoomSafe (a n s used : Int) (hused : used ≤ 9223372036854775807) : hayricklaw21_RoomSafe.f 11 a n s used = some true := by
  unfold hayricklaw21_RoomSafe.f
  rw [fits_eq (by omega)]; simp only [Option.bind_some]
  by_cases h : FitsK a n s used
  · have hb := safe_bd h
    have ho := acc_ok h.1
    have hc := cap_bd ho.1
    have h48 := seg48 ho.1
    have h0 := seg_nonneg (a := a) (b := used)
    have hs := seg_le (a := a) hused
    have hn : ¬ n ≤ a := by have := h.1.1; omega
    rw [decide_eq_true h, if_pos rfl, seg_eq (by omega), seg_eq hused]; simp only [Option.bind_some]
    rw [w64 (n := 2 * segK a used) (by omega), w64 (n := 2 * segK a 48) (by omega), w64 (n := 2 * segK a used + 2 * segK a 48) (by omega), w64 (by omega),
      if_neg (by omega), if_neg (by omega), cap_eq]; simp only [Option.bind_some]
    rw [if_neg (by omega), decide_eq_false hn]
    simp only [hayricklaw21_RoomSafe.j0]
    rw [if_neg (by simp), w64 (n := s - segK a used) (by omega), w64 (n := s - segK a used - 3) (by omega), w64 (n := 2 * segK a 48) (by omega),
      w64 (n := segK a used + 2 * segK a 48) (by omega), w64 (n := segK a used + 2 * segK a 48 + 3) (by omega), w64 (n := segK a used + 2 * segK a 48 + 2) (by omega),
      ready_eq (by omega) hused, ready_eq (by omega) hused, ready_eq (by omega) hused]; simp only [Option.bind_some]
    rw [decide_eq_true ⟨h.1, by omega⟩, decide_eq_true ⟨h.1, by omega⟩, decide_eq_false (fun hh => by have := hh.2; omega), if_pos rfl, if_pos rfl, if_neg (by simp), wakes_true _ (by omega)]
    rfl
  · have h48 := seg_nonneg (a := a) (b := 48)
    have h0 := seg_nonneg (a := a) (b := used)
    rw [decide_eq_false h, if_neg (by simp), ready_eq (by omega) hused]; simp only [Option.bind_some]
    rw [decide_eq_false (fun hh => by have := hh.2; omega), if_neg (by simp), wakes_true _ (by omega)]
    rfl
end Go.Proofs.Ytgekdenhkgkpiaa.Pure
