import Derived.Test.YtneanbckmekdkaaDoorNMath
section
/- Plain: runes of two texts, one behind the other; of a beginning. -/
namespace Go.Proofs.YtneanbckmekdkaaDoor.NM
open Go Go.Lib
set_option linter.unusedVariables false
set_option linter.unusedSimpArgs false
theorem decodeN_same (n b0 b1 b2 b3 n' c0 c1 c2 c3 : Nat) (h : ¬ ((decodeN n b0 b1 b2 b3).1 = 65533 ∧ (decodeN n b0 b1 b2 b3).2 = 1)) (hn : (decodeN n b0 b1 b2 b3).2 ≤ n') (e0 : c0 = b0)
    (e1 : 1 < (decodeN n b0 b1 b2 b3).2 → c1 = b1) (e2 : 2 < (decodeN n b0 b1 b2 b3).2 → c2 = b2) (e3 : 3 < (decodeN n b0 b1 b2 b3).2 → c3 = b3) : decodeN n' c0 c1 c2 c3 = decodeN n b0 b1 b2 b3 := by
  subst e0
  by_cases a0 : c0 < 128
  · unfold decodeN; rw [if_pos a0, if_pos a0]
  by_cases a1 : c0 / 32 = 6 ∧ (1 < n ∧ b1 / 64 = 2)
  · by_cases v : c0 % 32 * 64 + b1 % 64 ≥ 128
    · have hd : decodeN n c0 b1 b2 b3 = (c0 % 32 * 64 + b1 % 64, 2) := by unfold decodeN; rw [if_neg a0, if_pos a1, if_pos v]
      rw [hd] at hn e1 e2 e3
      obtain rfl := e1 (show (1 : Nat) < 2 by decide)
      rw [hd]; unfold decodeN
      rw [if_neg a0, if_pos ⟨a1.1, hn, a1.2.2⟩, if_pos v]
    · exfalso; apply h
      unfold decodeN; rw [if_neg a0, if_pos a1, if_neg v]; exact ⟨rfl, rfl⟩
  by_cases a2 : c0 / 16 = 14 ∧ (1 < n ∧ b1 / 64 = 2) ∧ (2 < n ∧ b2 / 64 = 2)
  · by_cases v : c0 % 16 * 4096 + b1 % 64 * 64 + b2 % 64 ≥ 2048 ∧ (c0 % 16 * 4096 + b1 % 64 * 64 + b2 % 64 < 55296 ∨ (57344 ≤ c0 % 16 * 4096 + b1 % 64 * 64 + b2 % 64 ∧ c0 % 16 * 4096 + b1 % 64 * 64 + b2 % 64 ≤ 1114111))
    · have hd : decodeN n c0 b1 b2 b3 = (c0 % 16 * 4096 + b1 % 64 * 64 + b2 % 64, 3) := by unfold decodeN; rw [if_neg a0, if_neg (by omega), if_pos a2, if_pos v]
      rw [hd] at hn e1 e2 e3
      obtain rfl := e1 (show (1 : Nat) < 3 by decide)
      obtain rfl := e2 (show (2 : Nat) < 3 by decide)
      simp only [] at hn
      rw [hd]; unfold decodeN
      rw [if_neg a0, if_neg (by omega), if_pos ⟨a2.1, ⟨by omega, a2.2.1.2⟩, ⟨by omega, a2.2.2.2⟩⟩, if_pos v]
    · exfalso; apply h
      unfold decodeN; rw [if_neg a0, if_neg (by omega), if_pos a2, if_neg v]; exact ⟨rfl, rfl⟩
  by_cases a3 : c0 / 8 = 30 ∧ (1 < n ∧ b1 / 64 = 2) ∧ (2 < n ∧ b2 / 64 = 2) ∧ (3 < n ∧ b3 / 64 = 2)
  · by_cases v : c0 % 8 * 262144 + b1 % 64 * 4096 + b2 % 64 * 64 + b3 % 64 ≥ 65536 ∧ (c0 % 8 * 262144 + b1 % 64 * 4096 + b2 % 64 * 64 + b3 % 64 < 55296 ∨ (57344 ≤ c0 % 8 * 262144 + b1 % 64 * 4096 + b2 % 64 * 64 + b3 % 64 ∧ c0 % 8 * 262144 + b1 % 64 * 4096 + b2 % 64 * 64 + b3 % 64 ≤ 1114111))
    · have hd : decodeN n c0 b1 b2 b3 = (c0 % 8 * 262144 + b1 % 64 * 4096 + b2 % 64 * 64 + b3 % 64, 4) := by unfold decodeN; rw [if_neg a0, if_neg a1, if_neg a2, if_pos a3, if_pos v]
      rw [hd] at hn e1 e2 e3
      obtain rfl := e1 (show (1 : Nat) < 4 by decide)
      obtain rfl := e2 (show (2 : Nat) < 4 by decide)
      obtain rfl := e3 (show (3 : Nat) < 4 by decide)
      simp only [] at hn
      rw [hd]; unfold decodeN
      rw [if_neg a0, if_neg (by omega), if_neg (by omega), if_pos ⟨a3.1, ⟨by omega, a3.2.1.2⟩, ⟨by omega, a3.2.2.1.2⟩, ⟨by omega, a3.2.2.2.2⟩⟩, if_pos v]
    · exfalso; apply h
      unfold decodeN; rw [if_neg a0, if_neg a1, if_neg a2, if_pos a3, if_neg v]; exact ⟨rfl, rfl⟩
  exfalso; apply h
  unfold decodeN; rw [if_neg a0, if_neg a1, if_neg a2, if_neg a3]; exact ⟨rfl, rfl⟩
theorem decodeN_more (n b0 b1 b2 b3 n' c0 c1 c2 c3 : Nat) (h : ¬ ((decodeN n b0 b1 b2 b3).1 = 65533 ∧ (decodeN n b0 b1 b2 b3).2 = 1)) (hn : n ≤ n') (h0 : 1 ≤ n) (e0 : c0 = b0)
    (e1 : 1 < n → c1 = b1) (e2 : 2 < n → c2 = b2) (e3 : 3 < n → c3 = b3) : decodeN n' c0 c1 c2 c3 = decodeN n b0 b1 b2 b3 := by
  have hk := (decodeN_two n b0 b1 b2 b3).2.2 h0
  exact decodeN_same _ _ _ _ _ _ _ _ _ _ h (Nat.le_trans hk hn) e0 (fun q => e1 (by omega)) (fun q => e2 (by omega)) (fun q => e3 (by omega))
theorem take_ne {l : List UInt8} {m : Nat} (hl : l ≠ []) (hm : 1 ≤ m) : l.take m ≠ [] := by
  cases l with
  | nil => exact absurd rfl hl
  | cons a t =>
    obtain ⟨m, rfl⟩ : ∃ k, m = k + 1 := ⟨m - 1, by omega⟩
    simp
theorem stray_iff (l : List UInt8) : stray l = true ↔ ((decL l).1 = 65533 ∧ (decL l).2 = 1) := by
  unfold stray
  rw [Bool.and_eq_true, decide_eq_true_iff, decide_eq_true_iff]
theorem getD_app (a b : List UInt8) (i : Nat) (h : i < a.length) : (a ++ b).getD i 0 = a.getD i 0 := by
  simp [List.getD, List.getElem?_append_left h]
theorem decL_app {a : List UInt8} (b : List UInt8) (ha : a ≠ []) (hs : stray a = false) : decL (a ++ b) = decL a := by
  have h : ¬ ((decL a).1 = 65533 ∧ (decL a).2 = 1) := by
    intro h
    rw [(stray_iff a).2 h] at hs
    exact absurd hs (by decide)
  have h0 : 1 ≤ a.length := by cases a with | nil => exact absurd rfl ha | cons _ _ => simp
  unfold decL at h ⊢
  refine decodeN_more _ _ _ _ _ _ _ _ _ _ h (by rw [List.length_append]; omega) h0 ?_ (fun q => ?_) (fun q => ?_) (fun q => ?_)
  all_goals rw [getD_app _ _ _ (by omega)]
theorem decL_take {l : List UInt8} {m : Nat} (hl : l ≠ []) (hm : (decL l).2 ≤ m) : decL (l.take m) = decL l := by
  have hp := decL_pos l
  have h0 : l.take m ≠ [] := take_ne hl (by omega)
  cases hs : stray (l.take m) with
  | false =>
    have := decL_app (l.drop m) h0 hs
    rw [List.take_append_drop] at this
    exact this.symm
  | true =>
    have h1 := (stray_iff _).1 hs
    -- the whole: is it stray too?
    by_cases h2 : stray l = true
    · have h3 := (stray_iff _).1 h2
      exact Prod.ext (h1.1.trans h3.1.symm) (h1.2.trans h3.2.symm)
    · exfalso
      have h3 : ¬ ((decL l).1 = 65533 ∧ (decL l).2 = 1) := fun h => h2 ((stray_iff _).2 h)
      have hk := decL_le hl
      have h4 := decL_four l
      have hlen : (l.take m).length = min m l.length := List.length_take
      have hg : ∀ i, i < m → (l.take m).getD i 0 = l.getD i 0 := fun i hi => by simp [List.getD, List.getElem?_take, hi]
      have key : decL (l.take m) = decL l := by
        unfold decL at h3 hm hk hp ⊢
        refine decodeN_same _ _ _ _ _ _ _ _ _ _ h3 (by rw [hlen]; omega) (by rw [hg 0 (by omega)]) (fun q => by rw [hg 1 (by omega)]) (fun q => by rw [hg 2 (by omega)]) (fun q => by rw [hg 3 (by omega)])
      exact h3 (key ▸ h1)
/-! ### one behind the other -/
theorem whole_app (b : List UInt8) : ∀ a, whole a = true → whole (a ++ b) = whole b ∧ runes (a ++ b) = runes a ++ runes b := by
  refine rune_ind (p := fun a => whole a = true → whole (a ++ b) = whole b ∧ runes (a ++ b) = runes a ++ runes b) (fun _ => ⟨rfl, rfl⟩) (fun a ha ih hw => ?_)
  rw [whole_step ha, Bool.and_eq_true, Bool.not_eq_true'] at hw
  have hd := decL_app b ha hw.1
  have hk := decL_le ha
  have hne : a ++ b ≠ [] := by intro h; exact ha (List.append_eq_nil_iff.1 h).1
  have hdrop : (a ++ b).drop (decL a).2 = a.drop (decL a).2 ++ b := List.drop_append_of_le_length hk
  obtain ⟨h1, h2⟩ := ih hw.2
  have hst : stray (a ++ b) = false := by rw [← hw.1]; unfold stray; rw [hd]
  rw [whole_step hne, runes_step hne, hst, hd, hdrop, h1, h2, runes_step ha]
  exact ⟨rfl, rfl⟩
theorem valid_app {a b : List UInt8} (ha : valid a = true) (hb : valid b = true) : valid (a ++ b) = decide (a.length + b.length ≤ 24) := by
  unfold valid at ha hb ⊢
  simp only [Bool.and_eq_true, decide_eq_true_iff] at ha hb
  obtain ⟨a1, a2, a3, a4, a5, a6⟩ := ha
  obtain ⟨b1, b2, b3, b4, b5, b6⟩ := hb
  obtain ⟨h1, h2⟩ := whole_app b a a3
  rw [h1, h2, b3, List.all_append, a6, b6, List.length_append, decide_eq_true (by omega)]
  have e1 : a ++ b ≠ [46] := by
    intro h
    have := congrArg List.length h
    rw [List.length_append] at this
    simp at this
    omega
  have e2 : a ++ b ≠ [46, 46] := by
    intro h
    have hl := congrArg List.length h
    rw [List.length_append] at hl
    simp at hl
    match a, a1, a4, h with
    | [], a1, _, _ => simp at a1
    | [x], _, a4, h => simp at h; exact a4 (by rw [h.1])
    | x :: y :: t, _, _, _ => simp at hl; omega
  rw [decide_eq_true e1, decide_eq_true e2]
  simp
/-! ### a beginning -/
theorem runes_ne {l : List UInt8} (h : l ≠ []) : runes l ≠ [] := by rw [runes_step h]; simp
theorem cut_runes (l : List UInt8) : ∀ n : Int, runes l = runes (l.take (cutN l n)) ++ runes (l.drop (cutN l n)) ∧ whole l = (whole (l.take (cutN l n)) && whole (l.drop (cutN l n))) := by
  refine rune_ind (p := fun l => ∀ n : Int, runes l = runes (l.take (cutN l n)) ++ runes (l.drop (cutN l n)) ∧ whole l = (whole (l.take (cutN l n)) && whole (l.drop (cutN l n)))) (fun n => ⟨rfl, rfl⟩) (fun l hl ih n => ?_) l
  rw [cut_step hl]
  by_cases h : ((decL l).2 : Int) ≤ n
  · rw [if_pos h]
    obtain ⟨h1, h2⟩ := ih (n - (decL l).2)
    obtain ⟨C, hC⟩ : ∃ C, cutN (l.drop (decL l).2) (n - (decL l).2) = C := ⟨_, rfl⟩
    rw [hC] at h1 h2 ⊢
    have hp := decL_pos l
    have ht : decL (l.take ((decL l).2 + C)) = decL l := decL_take hl (by omega)
    have hne : l.take ((decL l).2 + C) ≠ [] := take_ne hl (by omega)
    have hst : stray (l.take ((decL l).2 + C)) = stray l := by unfold stray; rw [ht]
    have hd : (l.take ((decL l).2 + C)).drop (decL l).2 = (l.drop (decL l).2).take C := by rw [List.drop_take, Nat.add_sub_cancel_left]
    rw [runes_step hl, whole_step hl, h1, h2, runes_step hne, whole_step hne, ht, hst, hd, List.drop_drop]
    exact ⟨rfl, by rw [Bool.and_assoc]⟩
  · rw [if_neg h]
    simp [runes_nil, whole_nil]
theorem cut_mid (l : List UInt8) : ∀ n m : Int, (cutN l n : Int) ≤ m → m ≤ n → cutN l m = cutN l n := by
  refine rune_ind (p := fun l => ∀ n m : Int, (cutN l n : Int) ≤ m → m ≤ n → cutN l m = cutN l n) (fun _ _ _ _ => rfl) (fun l hl ih n m h1 h2 => ?_) l
  rw [cut_step hl] at h1 ⊢
  rw [cut_step hl n]
  by_cases h : ((decL l).2 : Int) ≤ n
  · rw [if_pos h] at h1 ⊢
    rw [if_pos (by omega), ih (n - (decL l).2) (m - (decL l).2) (by omega) (by omega)]
  · rw [if_neg h, if_neg (by omega)]
theorem cut_neg0 (l : List UInt8) (n : Int) (h : n < 0) : cutN l n = 0 := by
  by_cases hl : l = []
  · rw [hl]; rfl
  · rw [cut_step hl, if_neg (by omega)]
theorem cut_zero (l : List UInt8) : cutN l ((0 : Nat) : Int) = 0 := by
  by_cases hl : l = []
  · rw [hl]; rfl
  · have := decL_pos l
    rw [cut_step hl, if_neg (by omega)]
theorem cut_self (l : List UInt8) (n : Int) : cutN l (cutN l n) = cutN l n := by
  by_cases h : n < 0
  · rw [cut_neg0 l n h]
    exact cut_zero l
  · rcases (cut_bound l n).2 with h1 | h1
    · exact cut_mid l n _ (Int.le_refl _) h1
    · rw [h1]
      exact cut_zero l
theorem cut_take (l : List UInt8) : ∀ n : Int, cutN (l.take (cutN l n)) n = cutN l n := by
  refine rune_ind (p := fun l => ∀ n : Int, cutN (l.take (cutN l n)) n = cutN l n) (fun n => rfl) (fun l hl ih n => ?_) l
  rw [cut_step hl]
  by_cases h : ((decL l).2 : Int) ≤ n
  · rw [if_pos h]
    have h1 := ih (n - (decL l).2)
    obtain ⟨C, hC⟩ : ∃ C, cutN (l.drop (decL l).2) (n - (decL l).2) = C := ⟨_, rfl⟩
    rw [hC] at h1 ⊢
    have hp := decL_pos l
    have ht : decL (l.take ((decL l).2 + C)) = decL l := decL_take hl (by omega)
    have hne : l.take ((decL l).2 + C) ≠ [] := take_ne hl (by omega)
    have hd : (l.take ((decL l).2 + C)).drop (decL l).2 = (l.drop (decL l).2).take C := by rw [List.drop_take, Nat.add_sub_cancel_left]
    rw [cut_step hne, ht, hd, if_pos h, h1]
  · rw [if_neg h]
    rfl
theorem cut_next (l : List UInt8) : ∀ n : Int, cutN l n < l.length → n < cutN l n + (decL (l.drop (cutN l n))).2 := by
  refine rune_ind (p := fun l => ∀ n : Int, cutN l n < l.length → n < cutN l n + (decL (l.drop (cutN l n))).2) (fun n h => by simp [cut_nil] at h) (fun l hl ih n => ?_) l
  rw [cut_step hl]
  by_cases h : ((decL l).2 : Int) ≤ n
  · rw [if_pos h]
    intro hlt
    have hk := decL_le hl
    have := ih (n - (decL l).2) (by rw [List.length_drop]; omega)
    rw [List.drop_drop] at this
    omega
  · rw [if_neg h]
    intro _
    rw [List.drop_zero]
    omega
theorem cut_more (l : List UInt8) (x : Int) (hx : 0 ≤ x) : ∀ n : Int, cutN l (cutN l n + x) = cutN l n + cutN (l.drop (cutN l n)) x := by
  refine rune_ind (p := fun l => ∀ n : Int, cutN l (cutN l n + x) = cutN l n + cutN (l.drop (cutN l n)) x) (fun n => rfl) (fun l hl ih n => ?_) l
  by_cases h : ((decL l).2 : Int) ≤ n
  · have e : cutN l n = (decL l).2 + cutN (l.drop (decL l).2) (n - (decL l).2) := by rw [cut_step hl, if_pos h]
    have h1 := ih (n - (decL l).2)
    rw [e, cut_step hl, if_pos (by omega), ← List.drop_drop, show ((((decL l).2 + cutN (l.drop (decL l).2) (n - (decL l).2) : Nat) : Int) + x - (decL l).2) = cutN (l.drop (decL l).2) (n - (decL l).2) + x by omega, h1]
    omega
  · have e : cutN l n = 0 := by rw [cut_step hl, if_neg h]
    rw [e, List.drop_zero, Nat.zero_add]
    congr 1
    omega
theorem cut_pos {l : List UInt8} (h : l ≠ []) : 1 ≤ cutN l 4 := by
  have h1 := decL_four l
  have h2 := decL_pos l
  rw [cut_step h, if_pos (by omega)]
  omega
end Go.Proofs.YtneanbckmekdkaaDoor.NM

end

section
/- Plain: the order of texts. -/
namespace Go.Proofs.YtneanbckmekdkaaDoor.NM
open Go Go.Lib
set_option linter.unusedVariables false
set_option linter.unusedSimpArgs false
theorem cmp_range : ∀ x y : List Int, cmpI x y = -1 ∨ cmpI x y = 0 ∨ cmpI x y = 1
  | [], [] => by simp [cmpI]
  | [], _ :: _ => by simp [cmpI]
  | _ :: _, [] => by simp [cmpI]
  | a :: x, b :: y => by
    have ih := cmp_range x y
    simp only [cmpI]
    repeat' split
    · simp
    · simp
    · exact ih
theorem cmp_neg : ∀ x y : List Int, cmpI y x = - cmpI x y
  | [], [] => by simp [cmpI]
  | [], _ :: _ => by simp [cmpI]
  | _ :: _, [] => by simp [cmpI]
  | a :: x, b :: y => by
    have ih := cmp_neg x y
    simp only [cmpI]
    by_cases h1 : a < b
    · rw [if_neg (show ¬ b < a by omega), if_pos h1, if_pos h1]; decide
    · by_cases h2 : b < a
      · rw [if_pos h2, if_neg h1, if_pos h2]
      · rw [if_neg h1, if_neg h2, if_neg h2, if_neg h1, ih]
theorem cmp_zero : ∀ {x y : List Int}, cmpI x y = 0 ↔ x = y
  | [], [] => by simp [cmpI]
  | [], _ :: _ => by simp [cmpI]
  | _ :: _, [] => by simp [cmpI]
  | a :: x, b :: y => by
    have ih := @cmp_zero x y
    simp only [cmpI, List.cons.injEq]
    by_cases c1 : a < b
    · rw [if_pos c1]; constructor
      · intro h; exact absurd h (by decide)
      · rintro ⟨rfl, _⟩; omega
    · rw [if_neg c1]
      by_cases c2 : b < a
      · rw [if_pos c2]; constructor
        · intro h; exact absurd h (by decide)
        · rintro ⟨rfl, _⟩; omega
      · rw [if_neg c2, ih]
        constructor
        · intro h; exact ⟨by omega, h⟩
        · intro h; exact h.2
theorem cmp_trans : ∀ x y z : List Int, cmpI x y ≤ 0 → cmpI y z ≤ 0 → cmpI x z ≤ 0
  | [], _, [], _, _ => by simp [cmpI]
  | [], _, _ :: _, _, _ => by simp [cmpI]
  | a :: x, [], _, h, _ => by simp [cmpI] at h
  | a :: x, b :: y, [], _, h => by simp [cmpI] at h
  | a :: x, b :: y, c :: z, h1, h2 => by
    have ih := cmp_trans x y z
    simp only [cmpI] at h1 h2 ⊢
    by_cases p1 : a < b
    · by_cases q1 : b < c
      · rw [if_pos (by omega)]; decide
      · rw [if_neg q1] at h2
        by_cases q2 : c < b
        · rw [if_pos q2] at h2; exact absurd h2 (by decide)
        · rw [if_pos (by omega)]; decide
    · rw [if_neg p1] at h1
      by_cases p2 : b < a
      · rw [if_pos p2] at h1; exact absurd h1 (by decide)
      · rw [if_neg p2] at h1
        by_cases q1 : b < c
        · rw [if_pos (by omega)]; decide
        · rw [if_neg q1] at h2
          by_cases q2 : c < b
          · rw [if_pos q2] at h2; exact absurd h2 (by decide)
          · rw [if_neg q2] at h2
            rw [if_neg (by omega), if_neg (by omega)]
            exact ih h1 h2
/-- A text's bytes as numbers. -/
def nums (l : List UInt8) : List Int := l.map (fun b => (b.toNat : Int))
theorem nums_inj : ∀ {a b : List UInt8}, nums a = nums b → a = b
  | [], [], _ => rfl
  | [], _ :: _, h => by simp [nums] at h
  | _ :: _, [], h => by simp [nums] at h
  | x :: a, y :: b, h => by
    simp only [nums, List.map_cons, List.cons.injEq] at h
    obtain ⟨h1, h2⟩ := h
    obtain rfl := nums_inj h2
    obtain rfl : x = y := UInt8.toNat_inj.1 (by omega)
    rfl
theorem bytes_nums : ∀ a b : List UInt8, compareBytes a b = cmpI (nums a) (nums b)
  | [], [] => rfl
  | [], _ :: _ => rfl
  | _ :: _, [] => rfl
  | x :: a, y :: b => by
    have ih := bytes_nums a b
    simp only [compareBytes, nums, List.map_cons, cmpI, UInt8.lt_iff_toNat_lt, Int.ofNat_lt]
    rw [ih]
    rfl
theorem ahead_zero {a b : List UInt8} : NM.ahead a b = 0 ↔ a = b := by
  unfold NM.ahead
  constructor
  · intro h
    by_cases c : cmpI (runes a) (runes b) = 0
    · rw [if_neg (by simpa using c), bytes_nums] at h
      exact nums_inj (cmp_zero.1 h)
    · rw [if_pos c] at h
      exact absurd h c
  · rintro rfl
    rw [if_neg (by simp [cmp_zero.2]), bytes_nums]
    exact cmp_zero.2 rfl
theorem ahead_neg (a b : List UInt8) : NM.ahead b a = - NM.ahead a b := by
  unfold NM.ahead
  have h := cmp_neg (runes a) (runes b)
  by_cases c : cmpI (runes a) (runes b) = 0
  · rw [if_neg (by omega), if_neg (by simpa using c), bytes_nums, bytes_nums, cmp_neg]
  · rw [if_pos (by omega), if_pos c, h]
theorem ahead_range (a b : List UInt8) : NM.ahead a b = -1 ∨ NM.ahead a b = 0 ∨ NM.ahead a b = 1 := by
  unfold NM.ahead
  split
  · exact cmp_range _ _
  · rw [bytes_nums]; exact cmp_range _ _
theorem ahead_trans (a b c : List UInt8) (h1 : NM.ahead a b ≤ 0) (h2 : NM.ahead b c ≤ 0) : NM.ahead a c ≤ 0 := by
  have k1 : cmpI (runes a) (runes b) ≤ 0 := by
    unfold NM.ahead at h1
    by_cases c : cmpI (runes a) (runes b) = 0
    · omega
    · rw [if_pos c] at h1; exact h1
  have k2 : cmpI (runes b) (runes c) ≤ 0 := by
    unfold NM.ahead at h2
    by_cases d : cmpI (runes b) (runes c) = 0
    · omega
    · rw [if_pos d] at h2; exact h2
  have k3 := cmp_trans _ _ _ k1 k2
  by_cases e : cmpI (runes a) (runes c) = 0
  · have e1 := cmp_zero.1 e
    have e2 : cmpI (runes b) (runes a) ≤ 0 := by rw [e1]; exact k2
    have e3 := cmp_neg (runes a) (runes b)
    have e4 : cmpI (runes a) (runes b) = 0 := by omega
    have e5 : cmpI (runes b) (runes c) = 0 := by rw [← e1]; omega
    unfold NM.ahead at h1 h2 ⊢
    rw [if_neg (by simpa using e4), bytes_nums] at h1
    rw [if_neg (by simpa using e5), bytes_nums] at h2
    rw [if_neg (by simpa using e), bytes_nums]
    exact cmp_trans _ _ _ h1 h2
  · unfold NM.ahead
    rw [if_pos e]
    exact k3
/-! ### of texts without stray bytes: the order of bytes -/
/-- What a rune's bytes are. -/
theorem rune_bytes {l : List UInt8} (hl : l ≠ []) (hs : stray l = false) :
    ∃ b0 t, l = b0 :: t ∧
      (((decL l).2 = 1 ∧ b0.toNat < 128 ∧ (decL l).1 = b0.toNat) ∨
       (∃ b1 u, t = b1 :: u ∧ (decL l).2 = 2 ∧ 192 ≤ b0.toNat ∧ b0.toNat < 224 ∧ 128 ≤ b1.toNat ∧ b1.toNat < 192 ∧ (decL l).1 = (b0.toNat - 192) * 64 + (b1.toNat - 128) ∧ 128 ≤ (decL l).1) ∨
       (∃ b1 b2 u, t = b1 :: b2 :: u ∧ (decL l).2 = 3 ∧ 224 ≤ b0.toNat ∧ b0.toNat < 240 ∧ 128 ≤ b1.toNat ∧ b1.toNat < 192 ∧ 128 ≤ b2.toNat ∧ b2.toNat < 192 ∧ (decL l).1 = (b0.toNat - 224) * 4096 + (b1.toNat - 128) * 64 + (b2.toNat - 128) ∧ 2048 ≤ (decL l).1) ∨
       (∃ b1 b2 b3 u, t = b1 :: b2 :: b3 :: u ∧ (decL l).2 = 4 ∧ 240 ≤ b0.toNat ∧ b0.toNat < 248 ∧ 128 ≤ b1.toNat ∧ b1.toNat < 192 ∧ 128 ≤ b2.toNat ∧ b2.toNat < 192 ∧ 128 ≤ b3.toNat ∧ b3.toNat < 192 ∧ (decL l).1 = (b0.toNat - 240) * 262144 + (b1.toNat - 128) * 4096 + (b2.toNat - 128) * 64 + (b3.toNat - 128) ∧ 65536 ≤ (decL l).1)) := by
  have h : ¬ ((decL l).1 = 65533 ∧ (decL l).2 = 1) := by
    intro h
    rw [(stray_iff l).2 h] at hs
    exact absurd hs (by decide)
  have hk := decL_le hl
  match l, hl with
  | b0 :: t, _ =>
    refine ⟨b0, t, rfl, ?_⟩
    have u0 := b0.toNat_lt
    by_cases a0 : b0.toNat < 128
    · left
      have hd : decL (b0 :: t) = (b0.toNat, 1) := by
        unfold decL decodeN
        rw [if_pos (by simpa using a0)]
        rfl
      rw [hd]
      exact ⟨rfl, a0, rfl⟩
    right
    match t with
    | [] =>
      exfalso; apply h
      unfold decL decodeN
      simp only [List.length_cons, List.length_nil, List.getD_cons_zero]
      rw [if_neg a0, if_neg (by omega), if_neg (by omega), if_neg (by omega)]
      exact ⟨rfl, rfl⟩
    | [b1] =>
      have u1 := b1.toNat_lt
      by_cases a1 : b0.toNat / 32 = 6 ∧ b1.toNat / 64 = 2
      · by_cases v : b0.toNat % 32 * 64 + b1.toNat % 64 ≥ 128
        · left
          have hd : decL [b0, b1] = (b0.toNat % 32 * 64 + b1.toNat % 64, 2) := by
            unfold decL decodeN
            simp only [List.length_cons, List.length_nil, List.getD_cons_zero, List.getD_cons_succ]
            rw [if_neg a0, if_pos (by omega), if_pos v]
          rw [hd]
          exact ⟨b1, [], rfl, rfl, by omega, by omega, by omega, by omega, by simp only []; omega, by simp only []; omega⟩
        · exfalso; apply h
          unfold decL decodeN
          simp only [List.length_cons, List.length_nil, List.getD_cons_zero, List.getD_cons_succ]
          rw [if_neg a0, if_pos (by omega), if_neg v]
          exact ⟨rfl, rfl⟩
      · exfalso; apply h
        unfold decL decodeN
        simp only [List.length_cons, List.length_nil, List.getD_cons_zero, List.getD_cons_succ]
        rw [if_neg a0, if_neg (by omega), if_neg (by omega), if_neg (by omega)]
        exact ⟨rfl, rfl⟩
    | b1 :: b2 :: u =>
      have u1 := b1.toNat_lt
      have u2 := b2.toNat_lt
      by_cases a1 : b0.toNat / 32 = 6 ∧ b1.toNat / 64 = 2
      · by_cases v : b0.toNat % 32 * 64 + b1.toNat % 64 ≥ 128
        · left
          have hd : decL (b0 :: b1 :: b2 :: u) = (b0.toNat % 32 * 64 + b1.toNat % 64, 2) := by
            unfold decL decodeN
            simp only [List.length_cons, List.getD_cons_zero, List.getD_cons_succ]
            rw [if_neg a0, if_pos (by omega), if_pos v]
          rw [hd]
          exact ⟨b1, b2 :: u, rfl, rfl, by omega, by omega, by omega, by omega, by simp only []; omega, by simp only []; omega⟩
        · exfalso; apply h
          unfold decL decodeN
          simp only [List.length_cons, List.getD_cons_zero, List.getD_cons_succ]
          rw [if_neg a0, if_pos (by omega), if_neg v]
          exact ⟨rfl, rfl⟩
      by_cases a2 : b0.toNat / 16 = 14 ∧ b1.toNat / 64 = 2 ∧ b2.toNat / 64 = 2
      · by_cases v : b0.toNat % 16 * 4096 + b1.toNat % 64 * 64 + b2.toNat % 64 ≥ 2048 ∧ (b0.toNat % 16 * 4096 + b1.toNat % 64 * 64 + b2.toNat % 64 < 55296 ∨ (57344 ≤ b0.toNat % 16 * 4096 + b1.toNat % 64 * 64 + b2.toNat % 64 ∧ b0.toNat % 16 * 4096 + b1.toNat % 64 * 64 + b2.toNat % 64 ≤ 1114111))
        · right; left
          have hd : decL (b0 :: b1 :: b2 :: u) = (b0.toNat % 16 * 4096 + b1.toNat % 64 * 64 + b2.toNat % 64, 3) := by
            unfold decL decodeN
            simp only [List.length_cons, List.getD_cons_zero, List.getD_cons_succ]
            rw [if_neg a0, if_neg (by omega), if_pos (by omega), if_pos v]
          rw [hd]
          exact ⟨b1, b2, u, rfl, rfl, by omega, by omega, by omega, by omega, by omega, by omega, by simp only []; omega, by simp only []; omega⟩
        · exfalso; apply h
          unfold decL decodeN
          simp only [List.length_cons, List.getD_cons_zero, List.getD_cons_succ]
          rw [if_neg a0, if_neg (by omega), if_pos (by omega), if_neg v]
          exact ⟨rfl, rfl⟩
      match u with
      | [] =>
        exfalso; apply h
        unfold decL decodeN
        simp only [List.length_cons, List.length_nil, List.getD_cons_zero, List.getD_cons_succ]
        rw [if_neg a0, if_neg (by omega), if_neg (by omega), if_neg (by omega)]
        exact ⟨rfl, rfl⟩
      | b3 :: u =>
        have u3 := b3.toNat_lt
        by_cases a3 : b0.toNat / 8 = 30 ∧ b1.toNat / 64 = 2 ∧ b2.toNat / 64 = 2 ∧ b3.toNat / 64 = 2
        · by_cases v : b0.toNat % 8 * 262144 + b1.toNat % 64 * 4096 + b2.toNat % 64 * 64 + b3.toNat % 64 ≥ 65536 ∧ (b0.toNat % 8 * 262144 + b1.toNat % 64 * 4096 + b2.toNat % 64 * 64 + b3.toNat % 64 < 55296 ∨ (57344 ≤ b0.toNat % 8 * 262144 + b1.toNat % 64 * 4096 + b2.toNat % 64 * 64 + b3.toNat % 64 ∧ b0.toNat % 8 * 262144 + b1.toNat % 64 * 4096 + b2.toNat % 64 * 64 + b3.toNat % 64 ≤ 1114111))
          · right; right
            have hd : decL (b0 :: b1 :: b2 :: b3 :: u) = (b0.toNat % 8 * 262144 + b1.toNat % 64 * 4096 + b2.toNat % 64 * 64 + b3.toNat % 64, 4) := by
              unfold decL decodeN
              simp only [List.length_cons, List.getD_cons_zero, List.getD_cons_succ]
              rw [if_neg a0, if_neg (by omega), if_neg (by omega), if_pos (by omega), if_pos v]
            rw [hd]
            exact ⟨b1, b2, b3, u, rfl, rfl, by omega, by omega, by omega, by omega, by omega, by omega, by omega, by omega, by simp only []; omega, by simp only []; omega⟩
          · exfalso; apply h
            unfold decL decodeN
            simp only [List.length_cons, List.getD_cons_zero, List.getD_cons_succ]
            rw [if_neg a0, if_neg (by omega), if_neg (by omega), if_pos (by omega), if_neg v]
            exact ⟨rfl, rfl⟩
        · exfalso; apply h
          unfold decL decodeN
          simp only [List.length_cons, List.getD_cons_zero, List.getD_cons_succ]
          rw [if_neg a0, if_neg (by omega), if_neg (by omega), if_neg (by omega)]
          exact ⟨rfl, rfl⟩
theorem whole_order : ∀ a, ∀ b : List UInt8, whole a = true → whole b = true → compareBytes a b = cmpI (runes a) (runes b) := by
  refine rune_ind (p := fun a => ∀ b : List UInt8, whole a = true → whole b = true → compareBytes a b = cmpI (runes a) (runes b)) (fun b _ _ => ?_) (fun a ha ih b hwa hwb => ?_)
  · cases b with
    | nil => rfl
    | cons y t => rw [runes_step (l := y :: t) (by simp)]; rfl
  by_cases hb : b = []
  · subst hb
    rw [runes_step ha]
    cases a with
    | nil => exact absurd rfl ha
    | cons x t => rfl
  rw [whole_step ha, Bool.and_eq_true, Bool.not_eq_true'] at hwa
  rw [whole_step hb, Bool.and_eq_true, Bool.not_eq_true'] at hwb
  obtain ⟨a0, s, hea, ca⟩ := rune_bytes ha hwa.1
  obtain ⟨b0, t, heb, cb⟩ := rune_bytes hb hwb.1
  have IH := ih (b.drop (decL b).2) hwa.2 hwb.2
  rw [runes_step ha, runes_step hb]
  clear ih hwa hwb ha hb
  generalize decL a = da at ca IH ⊢
  generalize decL b = db at cb IH ⊢
  obtain ⟨ra, ka⟩ := da
  obtain ⟨rb, kb⟩ := db
  simp only [] at ca cb IH ⊢
  rcases ca with ⟨rfl, a1, a2⟩ | ⟨x1, u, rfl, rfl, a1, a2, a3, a4, a5, a6⟩ | ⟨x1, x2, u, rfl, rfl, a1, a2, a3, a4, a5, a6, a7, a8⟩ | ⟨x1, x2, x3, u, rfl, rfl, a1, a2, a3, a4, a5, a6, a7, a8, a9, a10⟩ <;>
  rcases cb with ⟨rfl, b1, b2⟩ | ⟨y1, v, rfl, rfl, b1, b2, b3, b4, b5, b6⟩ | ⟨y1, y2, v, rfl, rfl, b1, b2, b3, b4, b5, b6, b7, b8⟩ | ⟨y1, y2, y3, v, rfl, rfl, b1, b2, b3, b4, b5, b6, b7, b8, b9, b10⟩ <;>
  subst hea heb <;>
  simp only [List.drop_succ_cons, List.drop_zero] at IH ⊢ <;>
  simp only [compareBytes, cmpI, UInt8.lt_iff_toNat_lt] <;>
  rw [← IH] <;>
  clear IH <;>
  (repeat' split) <;>
  first | rfl | (exfalso; omega)
end Go.Proofs.YtneanbckmekdkaaDoor.NM

end
