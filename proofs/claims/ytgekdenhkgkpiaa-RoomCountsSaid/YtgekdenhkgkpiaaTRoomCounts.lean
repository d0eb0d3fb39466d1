/- The numbers of layer 21: what room's functions compute, in plain whole numbers. -/
import Derived.Test.YtgekdenhkgkpiaaPRoomCountsx1
import Derived.OpenShut
namespace Go.Proofs.Ytgekdenhkgkpiaa.TRoomCounts
open Go.RowKit Go.Proofs.Ytgekdenhkgkpiaa.PRoomCounts Go.Proofs.YtgekdenhkgkpiaaW.PrintWords Go.Proofs.YtgekdenhkgkpiaaW.PrintLast Go.Proofs.YtgekdenhkgkpiaaW.PrintMore

theorem w64 {n : Int} (h : -9223372036854775808 ≤ n ∧ n ≤ 9223372036854775807) : wrap64 n = n := IntWalk.wrap64_in n h

def Ok (a : Int) : Prop := 1 ≤ a ∧ a ≤ 255
instance (a : Int) : Decidable (Ok a) := by unfold Ok; infer_instance

theorem may_yes {a : Int} (h : Ok a) : room_may.f a = some true := by
  unfold room_may.f; rw [if_pos h.1]; rw [decide_eq_true h.2]
theorem may_no {a : Int} (h : ¬ Ok a) : room_may.f a = some false := by
  unfold room_may.f Ok at *
  by_cases h1 : a ≥ 1
  · rw [if_pos h1, decide_eq_false (by omega)]
  · rw [if_neg h1]

def sumK (a : Int) : Int := if Ok a then (4 * a - 1) / 15 + 1 else 0
theorem up15 {a : Int} (h : Ok a) : room_up_int.f (wrap64 (4 * a)) 15 = some ((4 * a - 1) / 15 + 1) := by
  unfold Ok at h
  unfold room_up_int.f
  rw [w64 (n := 4 * a) (by omega), if_neg (by omega), if_neg (by omega), w64 (n := 4 * a - 1) (by omega),
    Int.tdiv_eq_ediv_of_nonneg (by omega), w64 (n := (4 * a - 1) / 15) (by omega), w64 (by omega)]
theorem sum_eq (a : Int) : room_Sum.f a = some (sumK a) := by
  unfold room_Sum.f sumK
  by_cases h : Ok a
  · rw [may_yes h, if_pos h]; simp only [Option.bind_some, if_true]; rw [up15 h]; rfl
  · rw [may_no h, if_neg h]; simp
theorem sum_bd {a : Int} (h : Ok a) : 1 ≤ sumK a ∧ sumK a ≤ 68 ∧ 4 * a ≤ 15 * sumK a ∧ 15 * (sumK a - 1) < 4 * a := by
  unfold sumK; rw [if_pos h]; unfold Ok at h; omega

def capK (a : Int) : Int := if Ok a then 4 * a - sumK a else 0
theorem cap_eq (a : Int) : room_Cap.f a = some (capK a) := by
  unfold room_Cap.f capK
  by_cases h : Ok a
  · rw [may_yes h, if_pos h]; simp only [Option.bind_some, if_true]; rw [sum_eq]; simp only [Option.bind_some]
    have := sum_bd h
    unfold Ok at h
    rw [w64 (n := 4 * a) (by omega), w64 (by omega)]
  · rw [may_no h, if_neg h]; simp
theorem cap_bd {a : Int} (h : Ok a) : 3 ≤ capK a ∧ capK a ≤ 952 ∧ capK a = 4 * a - sumK a := by
  have := sum_bd h
  unfold capK; rw [if_pos h]; unfold Ok at h; omega

/-- A quotient rounded up: what it is. -/
theorem up_spec {b c : Int} (hb : 1 ≤ b) (hc : 1 ≤ c) : ((b - 1) / c) * c < b ∧ b - ((b - 1) / c) * c ≤ c ∧ 0 ≤ (b - 1) / c ∧ (b - 1) / c ≤ b - 1 := by
  have h1 := Int.mul_ediv_add_emod (b - 1) c
  have h2 := Int.emod_nonneg (b - 1) (b := c) (by omega)
  have h3 := Int.emod_lt_of_pos (b - 1) (b := c) (by omega)
  have h4 : 0 ≤ (b - 1) / c := Int.ediv_nonneg (by omega) (by omega)
  have h5 : (b - 1) / c ≤ b - 1 := Int.ediv_le_self _ (by omega)
  rw [Int.mul_comm] at h1
  generalize (b - 1) / c * c = m at *
  omega

def segK (a b : Int) : Int := if Ok a then (if b < 1 then 0 else (b - 1) / capK a + 1) else 0
theorem seg_third {a b : Int} (h : Ok a) (hb : 1 ≤ b) : (b - 1) / capK a ≤ (b - 1) / 3 := by
  have hc := cap_bd h
  have h0 : 0 ≤ (b - 1) / capK a := Int.ediv_nonneg (by omega) (by omega)
  have h1 := (up_spec hb (c := capK a) (by omega)).1
  have h2 : (b - 1) / capK a * 3 ≤ (b - 1) / capK a * capK a := Int.mul_le_mul_of_nonneg_left (by omega) h0
  omega
theorem seg_eq {a b : Int} (hb : b ≤ 9223372036854775807) : room_Segs.f a b = some (segK a b) := by
  unfold room_Segs.f segK
  by_cases h : Ok a
  · rw [may_yes h, if_pos h]; simp only [Option.bind_some, if_true]; rw [cap_eq]; simp only [Option.bind_some]
    have hc := cap_bd h
    unfold room_up_int.f
    by_cases hb1 : b < 1
    · rw [if_pos hb1, if_pos hb1]; rfl
    · rw [if_neg hb1, if_neg (by omega), if_neg hb1]
      have hs := up_spec (b := b) (c := capK a) (by omega) (by omega)
      have ht := seg_third (b := b) h (by omega)
      rw [w64 (n := b - 1) (by omega), Int.tdiv_eq_ediv_of_nonneg (by omega), w64 (n := (b - 1) / capK a) (by omega), w64 (by omega)]; rfl
  · rw [may_no h, if_neg h]; simp

theorem mul_bd {a b A B : Int} (h1 : 0 ≤ a) (h2 : a ≤ A) (h3 : 0 ≤ b) (h4 : b ≤ B) : 0 ≤ a * b ∧ a * b ≤ A * B :=
  ⟨Int.mul_nonneg h1 h3, Int.le_trans (Int.mul_le_mul_of_nonneg_right h2 h3) (Int.mul_le_mul_of_nonneg_left h4 (by omega))⟩

theorem seg_nonneg {a b : Int} : 0 ≤ segK a b := by
  unfold segK
  by_cases h : Ok a
  · rw [if_pos h]
    by_cases hb : b < 1
    · rw [if_pos hb]; omega
    · rw [if_neg hb]
      have := (up_spec (b := b) (c := capK a) (by omega) (by have := cap_bd h; omega)).2.2.1
      omega
  · rw [if_neg h]; omega
theorem seg48 {a : Int} (h : Ok a) : 1 ≤ segK a 48 ∧ segK a 48 ≤ 16 := by
  have ht := seg_third (b := 48) h (by omega)
  have hs := (up_spec (b := 48) (c := capK a) (by omega) (by have := cap_bd h; omega)).2.2.1
  unfold segK
  rw [if_pos h, if_neg (by omega)]
  omega
theorem seg_le {a b : Int} (hb : b ≤ 9223372036854775807) : segK a b ≤ 3074457345618258603 := by
  unfold segK
  by_cases h : Ok a
  · rw [if_pos h]
    by_cases h1 : b < 1
    · rw [if_pos h1]; omega
    · rw [if_neg h1]
      have := seg_third (b := b) h (by omega)
      omega
  · rw [if_neg h]; omega


/-! ### What files use -/
def blocksK (a : Int) : Int := if a ≤ 0 then 0 else (a - 1) / 112 + 1
theorem blocks_eq {a : Int} (h : a ≤ 9223372036854775807) : inode_Blocks.f a = some (blocksK a) := by
  unfold inode_Blocks.f blocksK
  by_cases h0 : a ≤ 0
  · rw [if_pos h0, if_pos h0]
  · rw [if_neg h0, if_neg h0, w64 (n := a - 1) (by omega), Int.tdiv_eq_ediv_of_nonneg (by omega), w64 (n := (a - 1) / 112) (by omega), w64 (by omega)]
def lowK (a : Int) : Int := if 3808 < a then 3808 else a
theorem low_eq (a : Int) : mn a 3808 = lowK a := rfl
def useK (a : Int) : Int := if blocksK (lowK a) > 6 then blocksK (lowK a) + 2 else blocksK (lowK a) + 1
theorem low_bd (a : Int) : lowK a ≤ 3808 ∧ (lowK a = a ∨ lowK a = 3808 ∧ 3808 < a) := by
  unfold lowK; by_cases h : 3808 < a
  · rw [if_pos h]; omega
  · rw [if_neg h]; omega
theorem blocks_bd {a : Int} (h : a ≤ 3808) : 0 ≤ blocksK a ∧ blocksK a ≤ 34 := by
  unfold blocksK; by_cases h0 : a ≤ 0
  · rw [if_pos h0]; omega
  · rw [if_neg h0]; omega
theorem use_bd (a : Int) : 1 ≤ useK a ∧ useK a ≤ 36 := by
  have := blocks_bd (low_bd a).1
  unfold useK; by_cases h : blocksK (lowK a) > 6
  · rw [if_pos h]; omega
  · rw [if_neg h]; omega
theorem use_eq (a : Int) : room_Use.f a = some (useK a) := by
  have h := low_bd a
  have hb := blocks_bd h.1
  unfold room_Use.f useK
  rw [low_eq, blocks_eq (by omega)]; simp only [Option.bind_some]
  by_cases h6 : blocksK (lowK a) > 6
  · rw [if_pos h6, if_pos h6, w64 (n := blocksK (lowK a) + 1) (by omega), w64 (by omega)]; congr 1; omega
  · rw [if_neg h6, if_neg h6, w64 (by omega)]
def usedK : List Int → Int
  | [] => 0
  | x :: l => useK x + usedK l
theorem used_bd (l : List Int) : 0 ≤ usedK l ∧ usedK l ≤ 36 * l.length := by
  induction l with
  | nil => simp [usedK]
  | cons x l ih =>
    have := use_bd x
    simp only [usedK, List.length_cons]
    omega
theorem used_drop {l : List Int} {i : Int} (h0 : 0 ≤ i) (h1 : i < l.length) : usedK (l.drop i.toNat) = useK (rd l i) + usedK (l.drop (i + 1).toNat) := by
  rw [List.drop_eq_getElem_cons (by omega : i.toNat < l.length), show (i + 1).toNat = i.toNat + 1 from by omega]
  have e : rd l i = l[i.toNat]'(by omega) := by
    unfold rd; rw [List.getD_eq_getElem?_getD, List.getElem?_eq_getElem (by omega : i.toNat < l.length)]; rfl
  rw [e]; rfl
theorem used_l {l : List Int} (hl : l.length * 8 ≤ 140737488351232) (d : Nat) : ∀ (k : Nat) (i acc : Int), 0 ≤ i → i ≤ l.length → (l.length : Int) - i = d → d < k → 0 ≤ acc → acc ≤ 36 * i →
    room_Used.l0 k acc l l.length i = some (acc + usedK (l.drop i.toNat)) := by
  induction d with
  | zero =>
    intro k i acc h0 h1 hd hk ha0 ha1
    obtain ⟨k, rfl⟩ : ∃ m, k = m + 1 := ⟨k - 1, by omega⟩
    simp only [room_Used.l0]
    rw [if_neg (by omega), List.drop_of_length_le (by omega), usedK, Int.add_zero]
  | succ d ih =>
    intro k i acc h0 h1 hd hk ha0 ha1
    obtain ⟨k, rfl⟩ : ∃ m, k = m + 1 := ⟨k - 1, by omega⟩
    have hu := use_bd (rd l i)
    simp only [room_Used.l0]
    rw [if_pos (by omega), if_pos h0, if_pos (by omega), use_eq]; simp only [Option.bind_some]
    rw [w64 (n := acc + useK (rd l i)) (by omega), w64 (n := i + 1) (by omega), ih k (i + 1) (acc + useK (rd l i)) (by omega) (by omega) (by omega) (by omega) (by omega) (by omega), used_drop h0 (by omega)]
    congr 1; omega
theorem used_eq {l : List Int} (hl : l.length * 8 ≤ 140737488351232) {k : Nat} (hk : l.length < k) : room_Used.f k l = some (usedK l) := by
  unfold room_Used.f
  rw [used_l hl l.length k 0 0 (by omega) (by omega) (by omega) (by omega) (by omega) (by omega)]
  simp
theorem rsum_l {a : Int} (h : Ok a) (d : Nat) : ∀ (k : Nat) (n : Int), 0 ≤ n → n ≤ sumK a → sumK a - n = d → d < k → hayrickref21_Sum.l0 k a n = some (sumK a) := by
  have hs := sum_bd h
  have ha := h
  unfold Ok at ha
  induction d with
  | zero =>
    intro k n h0 h1 hd hk
    obtain ⟨k, rfl⟩ : ∃ m, k = m + 1 := ⟨k - 1, by omega⟩
    have e : n = sumK a := by omega
    simp only [hayrickref21_Sum.l0]
    rw [w64 (n := 15 * n) (by omega), w64 (n := 4 * a) (by omega), if_neg (by omega), e]
  | succ d ih =>
    intro k n h0 h1 hd hk
    obtain ⟨k, rfl⟩ : ∃ m, k = m + 1 := ⟨k - 1, by omega⟩
    simp only [hayrickref21_Sum.l0]
    rw [w64 (n := 15 * n) (by omega), w64 (n := 4 * a) (by omega), if_pos (by omega), w64 (n := n + 1) (by omega)]
    exact ih k (n + 1) (by omega) (by omega) (by omega) (by omega)
theorem rsum_eq {k : Nat} (hk : 70 < k) (a : Int) : hayrickref21_Sum.f k a = some (sumK a) := by
  obtain ⟨k, rfl⟩ : ∃ m, k = m + 1 := ⟨k - 1, by omega⟩
  have hno : ¬ Ok a → hayrickref21_Sum.j0 (k + 1) a true = some (sumK a) := fun h => by simp only [hayrickref21_Sum.j0]; rw [if_pos trivial, sumK, if_neg h]
  unfold hayrickref21_Sum.f
  by_cases h1 : a < 1
  · rw [if_pos h1]; exact hno (by unfold Ok; omega)
  · rw [if_neg h1]
    by_cases h2 : a > 255
    · rw [decide_eq_true h2]; exact hno (by unfold Ok; omega)
    · rw [decide_eq_false h2]
      have h : Ok a := ⟨by omega, by omega⟩
      have hs := sum_bd h
      simp only [hayrickref21_Sum.j0]
      rw [if_neg (by simp)]
      exact rsum_l h (sumK a).toNat k 0 (by omega) (by omega) (by omega) (by omega)
theorem rcap_eq {k : Nat} (hk : 70 < k) (a : Int) : hayrickref21_Cap.f k a = some (capK a) := by
  unfold hayrickref21_Cap.f
  by_cases h1 : a < 1
  · rw [if_pos h1, capK, if_neg (by unfold Ok; omega)]
  · rw [if_neg h1]
    by_cases h2 : a > 255
    · rw [if_pos h2, capK, if_neg (by unfold Ok; omega)]
    · have h : Ok a := ⟨by omega, by omega⟩
      have hs := sum_bd h
      rw [if_neg h2, rsum_eq hk]; simp only [Option.bind_some]
      rw [w64 (n := 4 * a) (by omega), w64 (by omega), capK, if_pos h]
theorem down_up {b c : Int} (_hb : 1 ≤ b) (hc : 1 ≤ c) : (b - 1) / c + 1 = b / c + (if b % c > 0 then 1 else 0) := by
  have h1 := Int.mul_ediv_add_emod b c
  have h2 := Int.emod_nonneg b (b := c) (by omega)
  have h3 := Int.emod_lt_of_pos b (b := c) (by omega)
  by_cases h : b % c > 0
  · rw [if_pos h]
    have e : b - 1 = (b % c - 1) + c * (b / c) := by omega
    rw [e, Int.add_mul_ediv_left _ _ (by omega), Int.ediv_eq_zero_of_lt (by omega) (by omega)]
    omega
  · rw [if_neg h]
    have e : b - 1 = (c - 1) + c * (b / c - 1) := by rw [Int.mul_sub]; omega
    rw [e, Int.add_mul_ediv_left _ _ (by omega), Int.ediv_eq_zero_of_lt (by omega) (by omega)]
    omega
theorem rseg_eq {k : Nat} (hk : 71 < k) {a b : Int} (hb : b ≤ 9223372036854775807) : hayrickref21_Segs.f k a b = some (segK a b) := by
  obtain ⟨k, rfl⟩ : ∃ m, k = m + 1 := ⟨k - 1, by omega⟩
  have hno : segK a b = 0 → hayrickref21_Segs.j0 (k + 1) a b true = some (segK a b) := fun h => by simp only [hayrickref21_Segs.j0]; rw [if_pos trivial, h]
  unfold hayrickref21_Segs.f
  by_cases h1 : a < 1
  · rw [if_pos h1]; exact hno (by rw [segK, if_neg (by unfold Ok; omega)])
  · rw [if_neg h1]
    by_cases h2 : a > 255
    · rw [if_pos h2]; exact hno (by rw [segK, if_neg (by unfold Ok; omega)])
    · have h : Ok a := ⟨by omega, by omega⟩
      rw [if_neg h2]
      by_cases h3 : b < 1
      · rw [decide_eq_true h3]; exact hno (by rw [segK, if_pos h, if_pos h3])
      · rw [decide_eq_false h3]
        have hc := cap_bd h
        have hd := down_up (b := b) (c := capK a) (by omega) (by omega)
        have hl : b / capK a ≤ b := Int.ediv_le_self _ (by omega)
        have h0 : 0 ≤ b / capK a := Int.ediv_nonneg (by omega) (by omega)
        have hs := seg_le (a := a) hb
        have e : segK a b = b / capK a + (if b % capK a > 0 then 1 else 0) := by rw [segK, if_pos h, if_neg h3, hd]
        simp only [hayrickref21_Segs.j0]
        rw [if_neg (by simp), rcap_eq (by omega)]; simp only [Option.bind_some]
        rw [if_neg (by omega), if_neg (by omega), Int.tmod_eq_emod_of_nonneg (by omega), Int.tdiv_eq_ediv_of_nonneg (by omega)]
        by_cases hm : b % capK a > 0
        · rw [if_pos hm] at e ⊢
          rw [w64 (n := b / capK a) (by omega), w64 (by omega), e]
        · rw [if_neg hm] at e ⊢
          rw [w64 (n := b / capK a) (by omega), e]; simp

theorem rblocks_eq {a : Int} (h : a ≤ 9223372036854775807) : hayrickref11_Blocks.f a = some (blocksK a) := by
  unfold hayrickref11_Blocks.f blocksK
  by_cases h0 : a < 1
  · rw [if_pos h0, if_pos (by omega)]
  · rw [if_neg h0, if_neg (show ¬ a ≤ 0 by omega), Int.tmod_eq_emod_of_nonneg (by omega), Int.tdiv_eq_ediv_of_nonneg (by omega)]
    by_cases hm : a % 112 > 0
    · rw [if_pos hm, w64 (n := a / 112) (by omega), w64 (by omega)]; congr 1; omega
    · rw [if_neg hm, w64 (by omega)]; congr 1; omega
theorem ruse_eq (a : Int) : hayrickref21_Use.f a = some (useK a) := by
  have h := low_bd a
  have hb := blocks_bd h.1
  unfold hayrickref21_Use.f useK
  have key : ∀ x : Int, x = lowK a → ((hayrickref11_Blocks.f x).bind fun t112 => (if t112 > 6 then (some (wrap64 (t112 + 2))) else (some (wrap64 (t112 + 1))))) = some (if blocksK (lowK a) > 6 then blocksK (lowK a) + 2 else blocksK (lowK a) + 1) := by
    rintro x rfl
    rw [rblocks_eq (by omega)]; simp only [Option.bind_some]
    by_cases h6 : blocksK (lowK a) > 6
    · rw [if_pos h6, if_pos h6, w64 (by omega)]
    · rw [if_neg h6, if_neg h6, w64 (by omega)]
  by_cases h1 : a > 3808
  · rw [if_pos h1]; exact key 3808 (by unfold lowK; rw [if_pos h1])
  · rw [if_neg h1]; exact key a (by unfold lowK; rw [if_neg h1])
theorem rused_l {l : List Int} (hl : l.length * 8 ≤ 140737488351232) (d : Nat) : ∀ (k : Nat) (i acc : Int), 0 ≤ i → i ≤ l.length → (l.length : Int) - i = d → d < k → 0 ≤ acc → acc ≤ 36 * i →
    hayrickref21_Used.l0 k l acc i = some (acc + usedK (l.drop i.toNat)) := by
  induction d with
  | zero =>
    intro k i acc h0 h1 hd hk ha0 ha1
    obtain ⟨k, rfl⟩ : ∃ m, k = m + 1 := ⟨k - 1, by omega⟩
    simp only [hayrickref21_Used.l0]
    rw [if_neg (by omega), List.drop_of_length_le (by omega), usedK, Int.add_zero]
  | succ d ih =>
    intro k i acc h0 h1 hd hk ha0 ha1
    obtain ⟨k, rfl⟩ : ∃ m, k = m + 1 := ⟨k - 1, by omega⟩
    have hu := use_bd (rd l i)
    simp only [hayrickref21_Used.l0]
    rw [if_pos (by omega), if_pos h0, ruse_eq]; simp only [Option.bind_some]
    rw [w64 (n := acc + useK (rd l i)) (by omega), w64 (n := i + 1) (by omega), ih k (i + 1) (acc + useK (rd l i)) (by omega) (by omega) (by omega) (by omega) (by omega) (by omega), used_drop h0 (by omega)]
    congr 1; omega
theorem rused_eq {l : List Int} (hl : l.length * 8 ≤ 140737488351232) {k : Nat} (hk : l.length < k) : hayrickref21_Used.f k l = some (usedK l) := by
  unfold hayrickref21_Used.f
  rw [rused_l hl l.length k 0 0 (by omega) (by omega) (by omega) (by omega) (by omega) (by omega)]
  simp
end Go.Proofs.Ytgekdenhkgkpiaa.TRoomCounts
