/- RoomQuotas: the reference's numbers are room's own, for any geometry. Conditions: none. -/
import Derived.Test.YtgekdenhkgkpiaaPRoomQuotasx4
import Derived.Test.YtgekdenhkgkpiaaTRoomQuotas
namespace Go.Proofs.Ytgekdenhkgkpiaa.Pure
open Go.RowKit Go.Proofs.Ytgekdenhkgkpiaa.PRoomQuotas Go.Proofs.Ytgekdenhkgkpiaa.TRoomQuotas Go.Proofs.YtgekdenhkgkpiaaW.PrintWords Go.Proofs.YtgekdenhkgkpiaaW.PrintLast

theorem rsum_l {a : Int} (h : Ok a) (d : Nat) : ∀ (k : Nat) (n : Int), 0 ≤ n → n ≤ sumK a → sumK a - n = d → d < k → hayrickref21_Sum.l0 k a n = some (sumK a) := by
  have hs := sum_bd h
  have ha := h
  unfold Ok at ha
  induction d with
  | zero =>
    intro k n h0 h1 hd hk
    obtain ⟨k, rfl⟩ : ∃ m, k = m + 1 := ⟨k - 1, by omega⟩
    have e : n = sumK a := by omega
    simp only [hayrickref21_Sum.l0]
    rw [w64 (n := 15 * n) (by omega), w64 (n := 4 * a) (by omega), if_neg (by omega), e]
  | succ d ih =>
    intro k n h0 h1 hd hk
    obtain ⟨k, rfl⟩ : ∃ m, k = m + 1 := ⟨k - 1, by omega⟩
    simp only [hayrickref21_Sum.l0]
    rw [w64 (n := 15 * n) (by omega), w64 (n := 4 * a) (by omega), if_pos (by omega), w64 (n := n + 1) (by omega)]
    exact ih k (n + 1) (by omega) (by omega) (by omega) (by omega)
theorem rsum_eq {k : Nat} (hk : 70 < k) (a : Int) : hayrickref21_Sum.f k a = some (sumK a) := by
  obtain ⟨k, rfl⟩ : ∃ m, k = m + 1 := ⟨k - 1, by omega⟩
  have hno : ¬ Ok a → hayrickref21_Sum.j0 (k + 1) a true = some (sumK a) := fun h => by simp only [hayrickref21_Sum.j0]; rw [if_pos trivial, sumK, if_neg h]
  unfold hayrickref21_Sum.f
  by_cases h1 : a < 1
  · rw [if_pos h1]; exact hno (by unfold Ok; omega)
  · rw [if_neg h1]
    by_cases h2 : a > 255
    · rw [decide_eq_true h2]; exact hno (by unfold Ok; omega)
    · rw [decide_eq_false h2]
      have h : Ok a := ⟨by omega, by omega⟩
      have hs := sum_bd h
      simp only [hayrickref21_Sum.j0]
      rw [if_neg (by simp)]
      exact rsum_l h (sumK a).toNat k 0 (by omega) (by omega) (by omega) (by omega)
theorem rcap_eq {k : Nat} (hk : 70 < k) (a : Int) : hayrickref21_Cap.f k a = some (capK a) := by
  unfold hayrickref21_Cap.f
  by_cases h1 : a < 1
  · rw [if_pos h1, capK, if_neg (by unfold Ok; omega)]
  · rw [if_neg h1]
    by_cases h2 : a > 255
    · rw [if_pos h2, capK, if_neg (by unfold Ok; omega)]
    · have h : Ok a := ⟨by omega, by omega⟩
      have hs := sum_bd h
      rw [if_neg h2, rsum_eq hk]; simp only [Option.bind_some]
      rw [w64 (n := 4 * a) (by omega), w64 (by omega), capK, if_pos h]
theorem down_up {b c : Int} (_hb : 1 ≤ b) (hc : 1 ≤ c) : (b - 1) / c + 1 = b / c + (if b % c > 0 then 1 else 0) := by
  have h1 := Int.mul_ediv_add_emod b c
  have h2 := Int.emod_nonneg b (b := c) (by omega)
  have h3 := Int.emod_lt_of_pos b (b := c) (by omega)
  by_cases h : b % c > 0
  · rw [if_pos h]
    have e : b - 1 = (b % c - 1) + c * (b / c) := by omega
    rw [e, Int.add_mul_ediv_left _ _ (by omega), Int.ediv_eq_zero_of_lt (by omega) (by omega)]
    omega
  · rw [if_neg h]
    have e : b - 1 = (c - 1) + c * (b / c - 1) := by rw [Int.mul_sub]; omega
    rw [e, Int.add_mul_ediv_left _ _ (by omega), Int.ediv_eq_zero_of_lt (by omega) (by omega)]
    omega
theorem rseg_eq {k : Nat} (hk : 71 < k) {a b : Int} (hb : b ≤ 9223372036854775807) : hayrickref21_Segs.f k a b = some (segK a b) := by
  obtain ⟨k, rfl⟩ : ∃ m, k = m + 1 := ⟨k - 1, by omega⟩
  have hno : segK a b = 0 → hayrickref21_Segs.j0 (k + 1) a b true = some (segK a b) := fun h => by simp only [hayrickref21_Segs.j0]; rw [if_pos trivial, h]
  unfold hayrickref21_Segs.f
  by_cases h1 : a < 1
  · rw [if_pos h1]; exact hno (by rw [segK, if_neg (by unfold Ok; omega)])
  · rw [if_neg h1]
    by_cases h2 : a > 255
    · rw [if_pos h2]; exact hno (by rw [segK, if_neg (by unfold Ok; omega)])
    · have h : Ok a := ⟨by omega, by omega⟩
      rw [if_neg h2]
      by_cases h3 : b < 1
      · rw [decide_eq_true h3]; exact hno (by rw [segK, if_pos h, if_pos h3])
      · rw [decide_eq_false h3]
        have hc := cap_bd h
        have hd := down_up (b := b) (c := capK a) (by omega) (by omega)
        have hl : b / capK a ≤ b := Int.ediv_le_self _ (by omega)
        have h0 : 0 ≤ b / capK a := Int.ediv_nonneg (by omega) (by omega)
        have hs := seg_le (a := a) hb
        have e : segK a b = b / capK a + (if b % capK a > 0 then 1 else 0) := by rw [segK, if_pos h, if_neg h3, hd]
        simp only [hayrickref21_Segs.j0]
        rw [if_neg (by simp), rcap_eq (by omega)]; simp only [Option.bind_some]
        rw [if_neg (by omega), if_neg (by omega), Int.tmod_eq_emod_of_nonneg (by omega), Int.tdiv_eq_ediv_of_nonneg (by omega)]
        by_cases hm : b % capK a > 0
        · rw [if_pos hm] at e ⊢
          rw [w64 (n := b / capK a) (by omega), w64 (by omega), e]
        · rw [if_neg hm] at e ⊢
          rw [w64 (n := b / capK a) (by omega), e]; simp
theorem rquota_l {a b s left : Int} (h : Ok a) (hl0 : 0 ≤ left) (hl : left ≤ 120) (d : Nat) : ∀ (k : Nat) (n : Int), 0 ≤ n → n ≤ left / 2 → left / 2 - n = d → d + 71 < k → hayrickref21_Quota.l0 k left n a b s = some (capK a * (left / 2)) := by
  have hc := cap_bd h
  have hm := mul_bd (a := capK a) (A := 952) (b := left / 2) (B := 60) (by omega) (by omega) (by omega) (by omega)
  induction d with
  | zero =>
    intro k n h0 h1 hd hk
    obtain ⟨k, rfl⟩ : ∃ m, k = m + 1 := ⟨k - 1, by omega⟩
    have e : n = left / 2 := by omega
    simp only [hayrickref21_Quota.l0]
    rw [w64 (n := 2 * n) (by omega), w64 (n := 2 * n + 2) (by omega), if_neg (by omega), rcap_eq (by omega)]; simp only [Option.bind_some]
    rw [e, w64 (by omega)]
  | succ d ih =>
    intro k n h0 h1 hd hk
    obtain ⟨k, rfl⟩ : ∃ m, k = m + 1 := ⟨k - 1, by omega⟩
    simp only [hayrickref21_Quota.l0]
    rw [w64 (n := 2 * n) (by omega), w64 (n := 2 * n + 2) (by omega), if_pos (by omega), w64 (n := n + 1) (by omega)]
    exact ih k (n + 1) (by omega) (by omega) (by omega) (by omega)
theorem rquota_eq {k : Nat} (hk : 200 < k) (a b s : Int) : hayrickref21_Quota.f k a b s = some (quotaK a s) := by
  obtain ⟨k, rfl⟩ : ∃ m, k = m + 1 := ⟨k - 1, by omega⟩
  have hno : ¬ (Ok a ∧ 16 ≤ s ∧ s ≤ 128) → hayrickref21_Quota.j0 (k + 1) true a b s = some (quotaK a s) := fun h => by simp only [hayrickref21_Quota.j0]; rw [if_pos trivial, quotaK, if_neg h]
  unfold hayrickref21_Quota.f
  by_cases h1 : a < 1
  · rw [if_pos h1]; exact hno (by unfold Ok; omega)
  · rw [if_neg h1]
    by_cases h2 : a > 255
    · rw [if_pos h2]; exact hno (by unfold Ok; omega)
    · rw [if_neg h2]
      by_cases h3 : s < 16
      · rw [if_pos h3]; exact hno (by omega)
      · rw [if_neg h3]
        by_cases h4 : s > 128
        · rw [decide_eq_true h4]; exact hno (by omega)
        · rw [decide_eq_false h4]
          have h : Ok a := ⟨by omega, by omega⟩
          have h48 := seg48 h
          have hl := left_bd h (s := s) (by omega) (by omega)
          have e : wrap64 (wrap64 (s - 6) - wrap64 (2 * segK a 48)) = leftK a s := by
            rw [w64 (n := s - 6) (by omega), w64 (n := 2 * segK a 48) (by omega), w64 (by omega)]; rfl
          have q : quotaK a s = capK a * (if leftK a s < 0 then 0 else leftK a s / 2) := by rw [quotaK, if_pos ⟨h, by omega, by omega⟩]
          simp only [hayrickref21_Quota.j0]
          rw [if_neg (by simp), rseg_eq (by omega) (by omega)]; simp only [Option.bind_some]
          rw [e, q]
          by_cases hn : leftK a s < 0
          · rw [if_pos hn, if_pos hn, Int.mul_zero]
          · rw [if_neg hn, if_neg hn]
            exact rquota_l h (by omega) (by omega) (leftK a s / 2).toNat k 0 (by omega) (by omega) (by omega) (by omega)
theorem racc_eq {k : Nat} (hk : 200 < k) (a n s : Int) : hayrickref21_Accepts.f k a n s = some (decide (AccK a n s)) := by
  have hq : ¬ (Ok a ∧ 16 ≤ s ∧ s ≤ 128) → ¬ AccK a n s := fun h hh => h (acc_ok hh)
  unfold hayrickref21_Accepts.f
  by_cases h1 : a ≥ 1
  · rw [if_pos h1]
    by_cases h2 : n > a
    · rw [if_pos h2]
      by_cases h3 : n ≤ 255
      · rw [if_pos h3]
        by_cases h4 : s ≥ 16
        · rw [if_pos h4]
          by_cases h5 : s ≤ 128
          · rw [if_pos h5, rquota_eq hk]; simp only [Option.bind_some]
            congr 1
            rw [decide_eq_decide]
            unfold AccK
            constructor
            · intro h; exact ⟨by omega, h3, h⟩
            · intro h; exact h.2.2
          · rw [if_neg h5, decide_eq_false (hq (by omega))]
        · rw [if_neg h4, decide_eq_false (hq (by omega))]
      · rw [if_neg h3, decide_eq_false (by unfold AccK; omega)]
    · rw [if_neg h2, decide_eq_false (by unfold AccK; omega)]
  · rw [if_neg h1, decide_eq_false (hq (by unfold Ok; omega))]
theorem rready_eq {k : Nat} (hk : 200 < k) {a n s free after : Int} (ha : after ≤ 9223372036854775807) : hayrickref21_Ready.f k a n s free after = some (decide (ReadyK a n s free after)) := by
  unfold hayrickref21_Ready.f
  rw [racc_eq hk]; simp only [Option.bind_some]
  by_cases h : AccK a n s
  · rw [decide_eq_true h, if_pos rfl, rseg_eq (by omega) ha, rseg_eq (by omega) (by omega)]; simp only [Option.bind_some]
    have h48 := seg48 (acc_ok h).1
    have hs := seg_le (a := a) ha
    have h0 := seg_nonneg (a := a) (b := after)
    rw [w64 (n := 2 * segK a 48) (by omega), w64 (n := segK a after + 2 * segK a 48) (by omega), w64 (by omega)]
    congr 1
    rw [decide_eq_decide]
    unfold ReadyK
    constructor
    · intro hh; exact ⟨h, hh⟩
    · intro hh; exact hh.2
  · rw [decide_eq_false h, if_neg (by simp), decide_eq_false (fun hh => h hh.1)]

theorem RoomQuotas (a n s free after : Int) (hafter : after ≤ 9223372036854775807) : hayricklaw21_RoomQuotas.f 201 a n s free after = some true := by
  unfold hayricklaw21_RoomQuotas.f
  rw [rquota_eq (by omega), racc_eq (by omega), quota_eq (by omega), acc_eq (by omega), fits_eq (by omega), ready_eq (by omega) hafter, rready_eq (by omega) hafter, wakes_true _ (by omega)]
  simp only [Option.bind_some]
  rw [if_pos trivial, if_pos (by simp)]
  by_cases h : AccK a n s
  · rw [decide_eq_true h, if_pos rfl, if_pos (by simp [FitsK, h]), if_pos (by simp)]
  · rw [decide_eq_false h, if_neg (by simp), if_pos (by simp [FitsK, h]), if_pos (by simp)]
end Go.Proofs.Ytgekdenhkgkpiaa.Pure
