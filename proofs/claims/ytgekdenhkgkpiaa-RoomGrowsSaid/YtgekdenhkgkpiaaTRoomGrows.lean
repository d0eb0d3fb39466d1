/- The numbers of layer 21: what room's functions compute, in plain whole numbers. -/
import Derived.Test.YtgekdenhkgkpiaaPRoomGrowsx2
import Derived.OpenShut
namespace Go.Proofs.Ytgekdenhkgkpiaa.TRoomGrows
open Go.RowKit Go.Proofs.Ytgekdenhkgkpiaa.PRoomGrows Go.Proofs.YtgekdenhkgkpiaaW.PrintWords Go.Proofs.YtgekdenhkgkpiaaW.PrintLast Go.Proofs.YtgekdenhkgkpiaaW.PrintMore

theorem w64 {n : Int} (h : -9223372036854775808 ≤ n ∧ n ≤ 9223372036854775807) : wrap64 n = n := IntWalk.wrap64_in n h

def Ok (a : Int) : Prop := 1 ≤ a ∧ a ≤ 255
instance (a : Int) : Decidable (Ok a) := by unfold Ok; infer_instance

theorem may_yes {a : Int} (h : Ok a) : room_may.f a = some true := by
  unfold room_may.f; rw [if_pos h.1]; rw [decide_eq_true h.2]
theorem may_no {a : Int} (h : ¬ Ok a) : room_may.f a = some false := by
  unfold room_may.f Ok at *
  by_cases h1 : a ≥ 1
  · rw [if_pos h1, decide_eq_false (by omega)]
  · rw [if_neg h1]

def sumK (a : Int) : Int := if Ok a then (4 * a - 1) / 15 + 1 else 0
theorem up15 {a : Int} (h : Ok a) : room_up_int.f (wrap64 (4 * a)) 15 = some ((4 * a - 1) / 15 + 1) := by
  unfold Ok at h
  unfold room_up_int.f
  rw [w64 (n := 4 * a) (by omega), if_neg (by omega), if_neg (by omega), w64 (n := 4 * a - 1) (by omega),
    Int.tdiv_eq_ediv_of_nonneg (by omega), w64 (n := (4 * a - 1) / 15) (by omega), w64 (by omega)]
theorem sum_eq (a : Int) : room_Sum.f a = some (sumK a) := by
  unfold room_Sum.f sumK
  by_cases h : Ok a
  · rw [may_yes h, if_pos h]; simp only [Option.bind_some, if_true]; rw [up15 h]; rfl
  · rw [may_no h, if_neg h]; simp
theorem sum_bd {a : Int} (h : Ok a) : 1 ≤ sumK a ∧ sumK a ≤ 68 ∧ 4 * a ≤ 15 * sumK a ∧ 15 * (sumK a - 1) < 4 * a := by
  unfold sumK; rw [if_pos h]; unfold Ok at h; omega

def capK (a : Int) : Int := if Ok a then 4 * a - sumK a else 0
theorem cap_eq (a : Int) : room_Cap.f a = some (capK a) := by
  unfold room_Cap.f capK
  by_cases h : Ok a
  · rw [may_yes h, if_pos h]; simp only [Option.bind_some, if_true]; rw [sum_eq]; simp only [Option.bind_some]
    have := sum_bd h
    unfold Ok at h
    rw [w64 (n := 4 * a) (by omega), w64 (by omega)]
  · rw [may_no h, if_neg h]; simp
theorem cap_bd {a : Int} (h : Ok a) : 3 ≤ capK a ∧ capK a ≤ 952 ∧ capK a = 4 * a - sumK a := by
  have := sum_bd h
  unfold capK; rw [if_pos h]; unfold Ok at h; omega

/-- A quotient rounded up: what it is. -/
theorem up_spec {b c : Int} (hb : 1 ≤ b) (hc : 1 ≤ c) : ((b - 1) / c) * c < b ∧ b - ((b - 1) / c) * c ≤ c ∧ 0 ≤ (b - 1) / c ∧ (b - 1) / c ≤ b - 1 := by
  have h1 := Int.mul_ediv_add_emod (b - 1) c
  have h2 := Int.emod_nonneg (b - 1) (b := c) (by omega)
  have h3 := Int.emod_lt_of_pos (b - 1) (b := c) (by omega)
  have h4 : 0 ≤ (b - 1) / c := Int.ediv_nonneg (by omega) (by omega)
  have h5 : (b - 1) / c ≤ b - 1 := Int.ediv_le_self _ (by omega)
  rw [Int.mul_comm] at h1
  generalize (b - 1) / c * c = m at *
  omega

def segK (a b : Int) : Int := if Ok a then (if b < 1 then 0 else (b - 1) / capK a + 1) else 0
theorem seg_third {a b : Int} (h : Ok a) (hb : 1 ≤ b) : (b - 1) / capK a ≤ (b - 1) / 3 := by
  have hc := cap_bd h
  have h0 : 0 ≤ (b - 1) / capK a := Int.ediv_nonneg (by omega) (by omega)
  have h1 := (up_spec hb (c := capK a) (by omega)).1
  have h2 : (b - 1) / capK a * 3 ≤ (b - 1) / capK a * capK a := Int.mul_le_mul_of_nonneg_left (by omega) h0
  omega
theorem seg_eq {a b : Int} (hb : b ≤ 9223372036854775807) : room_Segs.f a b = some (segK a b) := by
  unfold room_Segs.f segK
  by_cases h : Ok a
  · rw [may_yes h, if_pos h]; simp only [Option.bind_some, if_true]; rw [cap_eq]; simp only [Option.bind_some]
    have hc := cap_bd h
    unfold room_up_int.f
    by_cases hb1 : b < 1
    · rw [if_pos hb1, if_pos hb1]; rfl
    · rw [if_neg hb1, if_neg (by omega), if_neg hb1]
      have hs := up_spec (b := b) (c := capK a) (by omega) (by omega)
      have ht := seg_third (b := b) h (by omega)
      rw [w64 (n := b - 1) (by omega), Int.tdiv_eq_ediv_of_nonneg (by omega), w64 (n := (b - 1) / capK a) (by omega), w64 (by omega)]; rfl
  · rw [may_no h, if_neg h]; simp

theorem wakes_true : ∀ k, 3 < k → hayricklaw21_wakes.f k = some true := by
  intro k hk
  exact at_rounds hayricklaw21_wakes.mono (k := 4) (by omega) (by kernel_rfl)

/-! ### What a file uses -/
theorem mul_bd {a b A B : Int} (h1 : 0 ≤ a) (h2 : a ≤ A) (h3 : 0 ≤ b) (h4 : b ≤ B) : 0 ≤ a * b ∧ a * b ≤ A * B :=
  ⟨Int.mul_nonneg h1 h3, Int.le_trans (Int.mul_le_mul_of_nonneg_right h2 h3) (Int.mul_le_mul_of_nonneg_left h4 (by omega))⟩

theorem seg_nonneg {a b : Int} : 0 ≤ segK a b := by
  unfold segK
  by_cases h : Ok a
  · rw [if_pos h]
    by_cases hb : b < 1
    · rw [if_pos hb]; omega
    · rw [if_neg hb]
      have := (up_spec (b := b) (c := capK a) (by omega) (by have := cap_bd h; omega)).2.2.1
      omega
  · rw [if_neg h]; omega
theorem seg48 {a : Int} (h : Ok a) : 1 ≤ segK a 48 ∧ segK a 48 ≤ 16 := by
  have ht := seg_third (b := 48) h (by omega)
  have hs := (up_spec (b := 48) (c := capK a) (by omega) (by have := cap_bd h; omega)).2.2.1
  unfold segK
  rw [if_pos h, if_neg (by omega)]
  omega
theorem seg_le {a b : Int} (hb : b ≤ 9223372036854775807) : segK a b ≤ 3074457345618258603 := by
  unfold segK
  by_cases h : Ok a
  · rw [if_pos h]
    by_cases h1 : b < 1
    · rw [if_pos h1]; omega
    · rw [if_neg h1]
      have := seg_third (b := b) h (by omega)
      omega
  · rw [if_neg h]; omega

theorem spare_eq (a b c : Int) : room_spare.f a b c = some (segK a 48) := by
  unfold room_spare.f; rw [seg_eq (by omega)]; rfl

/-! ### The quota -/
def leftK (a s : Int) : Int := s - 6 - 2 * segK a 48
def quotaK (a s : Int) : Int := if Ok a ∧ 16 ≤ s ∧ s ≤ 128 then capK a * (if leftK a s < 0 then 0 else leftK a s / 2) else 0
theorem half_eq {x : Int} : mx 0 (Int.tdiv x 2) = if x < 0 then 0 else x / 2 := by
  unfold mx
  by_cases h : x < 0
  · rw [if_pos h]
    have : Int.tdiv x 2 ≤ 0 := by
      have := Int.tdiv_eq_ediv_of_nonneg (a := -x) (b := 2) (by omega)
      rw [Int.neg_tdiv] at this
      omega
    rw [if_neg (by omega)]
  · rw [if_neg h, Int.tdiv_eq_ediv_of_nonneg (by omega)]
    by_cases h2 : 0 < x / 2
    · rw [if_pos h2]
    · rw [if_neg h2]; omega
theorem left_bd {a s : Int} (h : Ok a) (h1 : 16 ≤ s) (h2 : s ≤ 128) : -22 ≤ leftK a s ∧ leftK a s ≤ 120 := by
  have := seg48 h
  unfold leftK; omega
theorem half_bd {a s : Int} (h : Ok a) (h1 : 16 ≤ s) (h2 : s ≤ 128) : 0 ≤ (if leftK a s < 0 then 0 else leftK a s / 2) ∧ (if leftK a s < 0 then 0 else leftK a s / 2) ≤ 60 := by
  have := left_bd h h1 h2
  by_cases hh : leftK a s < 0
  · rw [if_pos hh]; omega
  · rw [if_neg hh]; omega
theorem quota_bd (a s : Int) : 0 ≤ quotaK a s ∧ quotaK a s ≤ 57120 := by
  unfold quotaK
  by_cases h : Ok a ∧ 16 ≤ s ∧ s ≤ 128
  · rw [if_pos h]
    have hc := cap_bd h.1
    have hh := half_bd h.1 h.2.1 h.2.2
    exact mul_bd (A := 952) (B := 60) (by omega) (by omega) hh.1 hh.2
  · rw [if_neg h]; omega
theorem tdiv_bd {x : Int} (h1 : -1000 ≤ x) (h2 : x ≤ 1000) : -1000 ≤ Int.tdiv x 2 ∧ Int.tdiv x 2 ≤ 1000 := by
  by_cases h : 0 ≤ x
  · rw [Int.tdiv_eq_ediv_of_nonneg h]; omega
  · have := Int.tdiv_eq_ediv_of_nonneg (a := -x) (b := 2) (by omega)
    rw [Int.neg_tdiv] at this
    omega
theorem quota_eq {k : Nat} (hk : 0 < k) {a b s : Int} : room_Quota.f k a b s = some (quotaK a s) := by
  obtain ⟨k, rfl⟩ : ∃ m, k = m + 1 := ⟨k - 1, by omega⟩
  have hno : room_Quota.j0 (k + 1) true a b s = some 0 := by simp only [room_Quota.j0]; rw [if_pos trivial]
  unfold room_Quota.f quotaK
  by_cases h : Ok a
  · rw [may_yes h]; simp only [Option.bind_some, if_true]
    by_cases h1 : s < 16
    · rw [if_pos h1, if_neg (by omega), hno]
    · rw [if_neg h1]
      by_cases h2 : s > 128
      · rw [decide_eq_true h2, if_neg (by omega), hno]
      · rw [decide_eq_false h2, if_pos ⟨h, by omega, by omega⟩]
        simp only [room_Quota.j0]
        rw [if_neg (by simp), cap_eq, spare_eq]; simp only [Option.bind_some]
        have h48 := seg48 h
        have hl := left_bd h (s := s) (by omega) (by omega)
        have hh := half_bd h (s := s) (by omega) (by omega)
        have hc := cap_bd h
        have e : wrap64 (wrap64 (s - 6) - wrap64 (2 * segK a 48)) = leftK a s := by
          rw [w64 (n := s - 6) (by omega), w64 (n := 2 * segK a 48) (by omega), w64 (by omega)]; rfl
        rw [e]
        have ht := tdiv_bd (x := leftK a s) (by omega) (by omega)
        rw [w64 (n := Int.tdiv (leftK a s) 2) (by omega), half_eq]
        have hm := mul_bd (a := capK a) (A := 952) (by omega) (by omega) hh.1 hh.2
        rw [w64 (by omega)]
  · rw [may_no h]; simp only [Option.bind_some]
    rw [if_neg (by simp), hno, if_neg (fun hh => h hh.1)]

def AccK (a n s : Int) : Prop := a < n ∧ n ≤ 255 ∧ 8 ≤ quotaK a s
instance (a n s : Int) : Decidable (AccK a n s) := by unfold AccK; infer_instance
theorem acc_eq {k : Nat} (hk : 0 < k) {a n s : Int} : room_Accepts.f k a n s = some (decide (AccK a n s)) := by
  unfold room_Accepts.f
  by_cases h1 : a < n
  · rw [if_pos h1]
    by_cases h2 : n ≤ 255
    · rw [if_pos h2, quota_eq hk]; simp only [Option.bind_some]
      congr 1
      rw [decide_eq_decide]
      unfold AccK
      constructor
      · intro h; exact ⟨h1, h2, h⟩
      · intro h; exact h.2.2
    · rw [if_neg h2, decide_eq_false (by unfold AccK; omega)]
  · rw [if_neg h1, decide_eq_false (by unfold AccK; omega)]
theorem acc_ok {a n s : Int} (h : AccK a n s) : Ok a ∧ 16 ≤ s ∧ s ≤ 128 := by
  unfold AccK quotaK at h
  by_cases hh : Ok a ∧ 16 ≤ s ∧ s ≤ 128
  · exact hh
  · rw [if_neg hh] at h; omega

def ReadyK (a n s free after : Int) : Prop := AccK a n s ∧ segK a after + 2 * segK a 48 + 3 ≤ free
instance (a n s free after : Int) : Decidable (ReadyK a n s free after) := by unfold ReadyK; infer_instance
theorem ready_eq {k : Nat} (hk : 0 < k) {a n s free after : Int} (ha : after ≤ 9223372036854775807) : room_Ready.f k a n s free after = some (decide (ReadyK a n s free after)) := by
  unfold room_Ready.f
  rw [acc_eq hk]; simp only [Option.bind_some]
  by_cases h : AccK a n s
  · rw [decide_eq_true h, if_pos rfl, seg_eq ha, spare_eq]; simp only [Option.bind_some]
    have h48 := seg48 (acc_ok h).1
    have hs := seg_le (a := a) ha
    have h0 := seg_nonneg (a := a) (b := after)
    rw [w64 (n := 2 * segK a 48) (by omega), w64 (n := segK a after + 2 * segK a 48) (by omega), w64 (by omega)]
    congr 1
    rw [decide_eq_decide]
    unfold ReadyK
    constructor
    · intro hh; exact ⟨h, hh⟩
    · intro hh; exact hh.2
  · rw [decide_eq_false h, if_neg (by simp), decide_eq_false (fun hh => h hh.1)]

def FitsK (a n s used : Int) : Prop := AccK a n s ∧ used ≤ quotaK a s
instance (a n s used : Int) : Decidable (FitsK a n s used) := by unfold FitsK; infer_instance
theorem fits_eq {k : Nat} (hk : 0 < k) {a n s used : Int} : room_Fits.f k a n s used = some (decide (FitsK a n s used)) := by
  unfold room_Fits.f
  rw [acc_eq hk]; simp only [Option.bind_some]
  by_cases h : AccK a n s
  · rw [decide_eq_true h, if_pos rfl, quota_eq hk]; simp only [Option.bind_some]
    congr 1
    rw [decide_eq_decide]
    unfold FitsK
    constructor
    · intro hh; exact ⟨h, hh⟩
    · intro hh; exact hh.2
  · rw [decide_eq_false h, if_neg (by simp), decide_eq_false (fun hh => h hh.1)]

/-! ### What files use -/
def blocksK (a : Int) : Int := if a ≤ 0 then 0 else (a - 1) / 112 + 1
theorem blocks_eq {a : Int} (h : a ≤ 9223372036854775807) : inode_Blocks.f a = some (blocksK a) := by
  unfold inode_Blocks.f blocksK
  by_cases h0 : a ≤ 0
  · rw [if_pos h0, if_pos h0]
  · rw [if_neg h0, if_neg h0, w64 (n := a - 1) (by omega), Int.tdiv_eq_ediv_of_nonneg (by omega), w64 (n := (a - 1) / 112) (by omega), w64 (by omega)]
def lowK (a : Int) : Int := if 3808 < a then 3808 else a
theorem low_eq (a : Int) : mn a 3808 = lowK a := rfl
def useK (a : Int) : Int := if blocksK (lowK a) > 6 then blocksK (lowK a) + 2 else blocksK (lowK a) + 1
theorem low_bd (a : Int) : lowK a ≤ 3808 ∧ (lowK a = a ∨ lowK a = 3808 ∧ 3808 < a) := by
  unfold lowK; by_cases h : 3808 < a
  · rw [if_pos h]; omega
  · rw [if_neg h]; omega
theorem blocks_bd {a : Int} (h : a ≤ 3808) : 0 ≤ blocksK a ∧ blocksK a ≤ 34 := by
  unfold blocksK; by_cases h0 : a ≤ 0
  · rw [if_pos h0]; omega
  · rw [if_neg h0]; omega
theorem use_bd (a : Int) : 1 ≤ useK a ∧ useK a ≤ 36 := by
  have := blocks_bd (low_bd a).1
  unfold useK; by_cases h : blocksK (lowK a) > 6
  · rw [if_pos h]; omega
  · rw [if_neg h]; omega
theorem use_eq (a : Int) : room_Use.f a = some (useK a) := by
  have h := low_bd a
  have hb := blocks_bd h.1
  unfold room_Use.f useK
  rw [low_eq, blocks_eq (by omega)]; simp only [Option.bind_some]
  by_cases h6 : blocksK (lowK a) > 6
  · rw [if_pos h6, if_pos h6, w64 (n := blocksK (lowK a) + 1) (by omega), w64 (by omega)]; congr 1; omega
  · rw [if_neg h6, if_neg h6, w64 (by omega)]
def usedK : List Int → Int
  | [] => 0
  | x :: l => useK x + usedK l
theorem used_bd (l : List Int) : 0 ≤ usedK l ∧ usedK l ≤ 36 * l.length := by
  induction l with
  | nil => simp [usedK]
  | cons x l ih =>
    have := use_bd x
    simp only [usedK, List.length_cons]
    omega
theorem used_drop {l : List Int} {i : Int} (h0 : 0 ≤ i) (h1 : i < l.length) : usedK (l.drop i.toNat) = useK (rd l i) + usedK (l.drop (i + 1).toNat) := by
  rw [List.drop_eq_getElem_cons (by omega : i.toNat < l.length), show (i + 1).toNat = i.toNat + 1 from by omega]
  have e : rd l i = l[i.toNat]'(by omega) := by
    unfold rd; rw [List.getD_eq_getElem?_getD, List.getElem?_eq_getElem (by omega : i.toNat < l.length)]; rfl
  rw [e]; rfl
theorem used_l {l : List Int} (hl : l.length ≤ 17592186044417) (d : Nat) : ∀ (k : Nat) (i acc : Int), 0 ≤ i → i ≤ l.length → (l.length : Int) - i = d → d < k → 0 ≤ acc → acc ≤ 36 * i →
    room_Used.l0 k acc l l.length i = some (acc + usedK (l.drop i.toNat)) := by
  induction d with
  | zero =>
    intro k i acc h0 h1 hd hk ha0 ha1
    obtain ⟨k, rfl⟩ : ∃ m, k = m + 1 := ⟨k - 1, by omega⟩
    simp only [room_Used.l0]
    rw [if_neg (by omega), List.drop_of_length_le (by omega), usedK, Int.add_zero]
  | succ d ih =>
    intro k i acc h0 h1 hd hk ha0 ha1
    obtain ⟨k, rfl⟩ : ∃ m, k = m + 1 := ⟨k - 1, by omega⟩
    have hu := use_bd (rd l i)
    simp only [room_Used.l0]
    rw [if_pos (by omega), if_pos h0, if_pos (by omega), use_eq]; simp only [Option.bind_some]
    rw [w64 (n := acc + useK (rd l i)) (by omega), w64 (n := i + 1) (by omega), ih k (i + 1) (acc + useK (rd l i)) (by omega) (by omega) (by omega) (by omega) (by omega) (by omega), used_drop h0 (by omega)]
    congr 1; omega
theorem used_eq' {l : List Int} (hl : l.length ≤ 17592186044417) {k : Nat} (hk : l.length < k) : room_Used.f k l = some (usedK l) := by
  unfold room_Used.f
  rw [used_l hl l.length k 0 0 (by omega) (by omega) (by omega) (by omega) (by omega) (by omega)]
  simp
theorem used_eq {l : List Int} (hl : l.length * 8 ≤ 140737488351232) {k : Nat} (hk : l.length < k) : room_Used.f k l = some (usedK l) := used_eq' (by omega) hk
end Go.Proofs.Ytgekdenhkgkpiaa.TRoomGrows
