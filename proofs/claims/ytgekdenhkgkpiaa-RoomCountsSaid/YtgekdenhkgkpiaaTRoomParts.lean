/- The numbers of layer 21: what room's functions compute, in plain whole numbers. -/
import Derived.Test.YtgekdenhkgkpiaaPRoomPartsx2
import Derived.OpenShut
namespace Go.Proofs.Ytgekdenhkgkpiaa.TRoomParts
open Go.RowKit Go.Proofs.Ytgekdenhkgkpiaa.PRoomParts Go.Proofs.YtgekdenhkgkpiaaW.PrintWords Go.Proofs.YtgekdenhkgkpiaaW.PrintLast Go.Proofs.YtgekdenhkgkpiaaW.PrintMore

theorem w64 {n : Int} (h : -9223372036854775808 ≤ n ∧ n ≤ 9223372036854775807) : wrap64 n = n := IntWalk.wrap64_in n h

def Ok (a : Int) : Prop := 1 ≤ a ∧ a ≤ 255
instance (a : Int) : Decidable (Ok a) := by unfold Ok; infer_instance

theorem may_yes {a : Int} (h : Ok a) : room_may.f a = some true := by
  unfold room_may.f; rw [if_pos h.1]; rw [decide_eq_true h.2]
theorem may_no {a : Int} (h : ¬ Ok a) : room_may.f a = some false := by
  unfold room_may.f Ok at *
  by_cases h1 : a ≥ 1
  · rw [if_pos h1, decide_eq_false (by omega)]
  · rw [if_neg h1]

def sumK (a : Int) : Int := if Ok a then (4 * a - 1) / 15 + 1 else 0
theorem up15 {a : Int} (h : Ok a) : room_up_int.f (wrap64 (4 * a)) 15 = some ((4 * a - 1) / 15 + 1) := by
  unfold Ok at h
  unfold room_up_int.f
  rw [w64 (n := 4 * a) (by omega), if_neg (by omega), if_neg (by omega), w64 (n := 4 * a - 1) (by omega),
    Int.tdiv_eq_ediv_of_nonneg (by omega), w64 (n := (4 * a - 1) / 15) (by omega), w64 (by omega)]
theorem sum_eq (a : Int) : room_Sum.f a = some (sumK a) := by
  unfold room_Sum.f sumK
  by_cases h : Ok a
  · rw [may_yes h, if_pos h]; simp only [Option.bind_some, if_true]; rw [up15 h]; rfl
  · rw [may_no h, if_neg h]; simp
theorem sum_bd {a : Int} (h : Ok a) : 1 ≤ sumK a ∧ sumK a ≤ 68 ∧ 4 * a ≤ 15 * sumK a ∧ 15 * (sumK a - 1) < 4 * a := by
  unfold sumK; rw [if_pos h]; unfold Ok at h; omega

def capK (a : Int) : Int := if Ok a then 4 * a - sumK a else 0
theorem cap_eq (a : Int) : room_Cap.f a = some (capK a) := by
  unfold room_Cap.f capK
  by_cases h : Ok a
  · rw [may_yes h, if_pos h]; simp only [Option.bind_some, if_true]; rw [sum_eq]; simp only [Option.bind_some]
    have := sum_bd h
    unfold Ok at h
    rw [w64 (n := 4 * a) (by omega), w64 (by omega)]
  · rw [may_no h, if_neg h]; simp
theorem cap_bd {a : Int} (h : Ok a) : 3 ≤ capK a ∧ capK a ≤ 952 ∧ capK a = 4 * a - sumK a := by
  have := sum_bd h
  unfold capK; rw [if_pos h]; unfold Ok at h; omega

/-- A quotient rounded up: what it is. -/
theorem up_spec {b c : Int} (hb : 1 ≤ b) (hc : 1 ≤ c) : ((b - 1) / c) * c < b ∧ b - ((b - 1) / c) * c ≤ c ∧ 0 ≤ (b - 1) / c ∧ (b - 1) / c ≤ b - 1 := by
  have h1 := Int.mul_ediv_add_emod (b - 1) c
  have h2 := Int.emod_nonneg (b - 1) (b := c) (by omega)
  have h3 := Int.emod_lt_of_pos (b - 1) (b := c) (by omega)
  have h4 : 0 ≤ (b - 1) / c := Int.ediv_nonneg (by omega) (by omega)
  have h5 : (b - 1) / c ≤ b - 1 := Int.ediv_le_self _ (by omega)
  rw [Int.mul_comm] at h1
  generalize (b - 1) / c * c = m at *
  omega

def segK (a b : Int) : Int := if Ok a then (if b < 1 then 0 else (b - 1) / capK a + 1) else 0
theorem seg_third {a b : Int} (h : Ok a) (hb : 1 ≤ b) : (b - 1) / capK a ≤ (b - 1) / 3 := by
  have hc := cap_bd h
  have h0 : 0 ≤ (b - 1) / capK a := Int.ediv_nonneg (by omega) (by omega)
  have h1 := (up_spec hb (c := capK a) (by omega)).1
  have h2 : (b - 1) / capK a * 3 ≤ (b - 1) / capK a * capK a := Int.mul_le_mul_of_nonneg_left (by omega) h0
  omega
theorem seg_eq {a b : Int} (hb : b ≤ 9223372036854775807) : room_Segs.f a b = some (segK a b) := by
  unfold room_Segs.f segK
  by_cases h : Ok a
  · rw [may_yes h, if_pos h]; simp only [Option.bind_some, if_true]; rw [cap_eq]; simp only [Option.bind_some]
    have hc := cap_bd h
    unfold room_up_int.f
    by_cases hb1 : b < 1
    · rw [if_pos hb1, if_pos hb1]; rfl
    · rw [if_neg hb1, if_neg (by omega), if_neg hb1]
      have hs := up_spec (b := b) (c := capK a) (by omega) (by omega)
      have ht := seg_third (b := b) h (by omega)
      rw [w64 (n := b - 1) (by omega), Int.tdiv_eq_ediv_of_nonneg (by omega), w64 (n := (b - 1) / capK a) (by omega), w64 (by omega)]; rfl
  · rw [may_no h, if_neg h]; simp

theorem wakes_true : ∀ k, 3 < k → hayricklaw21_wakes.f k = some true := by
  intro k hk
  exact at_rounds hayricklaw21_wakes.mono (k := 4) (by omega) (by kernel_rfl)
end Go.Proofs.Ytgekdenhkgkpiaa.TRoomParts
