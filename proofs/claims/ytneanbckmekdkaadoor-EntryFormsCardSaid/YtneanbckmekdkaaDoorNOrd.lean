/- Plain: the order of texts. -/
import Derived.Test.YtneanbckmekdkaaDoorNPlain
namespace Go.Proofs.YtneanbckmekdkaaDoor.NM
open Go Go.Lib
set_option linter.unusedVariables false
set_option linter.unusedSimpArgs false
theorem cmp_range : ∀ x y : List Int, cmpI x y = -1 ∨ cmpI x y = 0 ∨ cmpI x y = 1
  | [], [] => by simp [cmpI]
  | [], _ :: _ => by simp [cmpI]
  | _ :: _, [] => by simp [cmpI]
  | a :: x, b :: y => by
    have ih := cmp_range x y
    simp only [cmpI]
    repeat' split
    · simp
    · simp
    · exact ih
theorem cmp_neg : ∀ x y : List Int, cmpI y x = - cmpI x y
  | [], [] => by simp [cmpI]
  | [], _ :: _ => by simp [cmpI]
  | _ :: _, [] => by simp [cmpI]
  | a :: x, b :: y => by
    have ih := cmp_neg x y
    simp only [cmpI]
    by_cases h1 : a < b
    · rw [if_neg (show ¬ b < a by omega), if_pos h1, if_pos h1]; decide
    · by_cases h2 : b < a
      · rw [if_pos h2, if_neg h1, if_pos h2]
      · rw [if_neg h1, if_neg h2, if_neg h2, if_neg h1, ih]
theorem cmp_zero : ∀ {x y : List Int}, cmpI x y = 0 ↔ x = y
  | [], [] => by simp [cmpI]
  | [], _ :: _ => by simp [cmpI]
  | _ :: _, [] => by simp [cmpI]
  | a :: x, b :: y => by
    have ih := @cmp_zero x y
    simp only [cmpI, List.cons.injEq]
    by_cases c1 : a < b
    · rw [if_pos c1]; constructor
      · intro h; exact absurd h (by decide)
      · rintro ⟨rfl, _⟩; omega
    · rw [if_neg c1]
      by_cases c2 : b < a
      · rw [if_pos c2]; constructor
        · intro h; exact absurd h (by decide)
        · rintro ⟨rfl, _⟩; omega
      · rw [if_neg c2, ih]
        constructor
        · intro h; exact ⟨by omega, h⟩
        · intro h; exact h.2
theorem cmp_trans : ∀ x y z : List Int, cmpI x y ≤ 0 → cmpI y z ≤ 0 → cmpI x z ≤ 0
  | [], _, [], _, _ => by simp [cmpI]
  | [], _, _ :: _, _, _ => by simp [cmpI]
  | a :: x, [], _, h, _ => by simp [cmpI] at h
  | a :: x, b :: y, [], _, h => by simp [cmpI] at h
  | a :: x, b :: y, c :: z, h1, h2 => by
    have ih := cmp_trans x y z
    simp only [cmpI] at h1 h2 ⊢
    by_cases p1 : a < b
    · by_cases q1 : b < c
      · rw [if_pos (by omega)]; decide
      · rw [if_neg q1] at h2
        by_cases q2 : c < b
        · rw [if_pos q2] at h2; exact absurd h2 (by decide)
        · rw [if_pos (by omega)]; decide
    · rw [if_neg p1] at h1
      by_cases p2 : b < a
      · rw [if_pos p2] at h1; exact absurd h1 (by decide)
      · rw [if_neg p2] at h1
        by_cases q1 : b < c
        · rw [if_pos (by omega)]; decide
        · rw [if_neg q1] at h2
          by_cases q2 : c < b
          · rw [if_pos q2] at h2; exact absurd h2 (by decide)
          · rw [if_neg q2] at h2
            rw [if_neg (by omega), if_neg (by omega)]
            exact ih h1 h2
/-- A text's bytes as numbers. -/
def nums (l : List UInt8) : List Int := l.map (fun b => (b.toNat : Int))
theorem nums_inj : ∀ {a b : List UInt8}, nums a = nums b → a = b
  | [], [], _ => rfl
  | [], _ :: _, h => by simp [nums] at h
  | _ :: _, [], h => by simp [nums] at h
  | x :: a, y :: b, h => by
    simp only [nums, List.map_cons, List.cons.injEq] at h
    obtain ⟨h1, h2⟩ := h
    obtain rfl := nums_inj h2
    obtain rfl : x = y := UInt8.toNat_inj.1 (by omega)
    rfl
theorem bytes_nums : ∀ a b : List UInt8, compareBytes a b = cmpI (nums a) (nums b)
  | [], [] => rfl
  | [], _ :: _ => rfl
  | _ :: _, [] => rfl
  | x :: a, y :: b => by
    have ih := bytes_nums a b
    simp only [compareBytes, nums, List.map_cons, cmpI, UInt8.lt_iff_toNat_lt, Int.ofNat_lt]
    rw [ih]
    rfl
theorem ahead_zero {a b : List UInt8} : NM.ahead a b = 0 ↔ a = b := by
  unfold NM.ahead
  constructor
  · intro h
    by_cases c : cmpI (runes a) (runes b) = 0
    · rw [if_neg (by simpa using c), bytes_nums] at h
      exact nums_inj (cmp_zero.1 h)
    · rw [if_pos c] at h
      exact absurd h c
  · rintro rfl
    rw [if_neg (by simp [cmp_zero.2]), bytes_nums]
    exact cmp_zero.2 rfl
theorem ahead_neg (a b : List UInt8) : NM.ahead b a = - NM.ahead a b := by
  unfold NM.ahead
  have h := cmp_neg (runes a) (runes b)
  by_cases c : cmpI (runes a) (runes b) = 0
  · rw [if_neg (by omega), if_neg (by simpa using c), bytes_nums, bytes_nums, cmp_neg]
  · rw [if_pos (by omega), if_pos c, h]
theorem ahead_range (a b : List UInt8) : NM.ahead a b = -1 ∨ NM.ahead a b = 0 ∨ NM.ahead a b = 1 := by
  unfold NM.ahead
  split
  · exact cmp_range _ _
  · rw [bytes_nums]; exact cmp_range _ _
theorem ahead_trans (a b c : List UInt8) (h1 : NM.ahead a b ≤ 0) (h2 : NM.ahead b c ≤ 0) : NM.ahead a c ≤ 0 := by
  have k1 : cmpI (runes a) (runes b) ≤ 0 := by
    unfold NM.ahead at h1
    by_cases c : cmpI (runes a) (runes b) = 0
    · omega
    · rw [if_pos c] at h1; exact h1
  have k2 : cmpI (runes b) (runes c) ≤ 0 := by
    unfold NM.ahead at h2
    by_cases d : cmpI (runes b) (runes c) = 0
    · omega
    · rw [if_pos d] at h2; exact h2
  have k3 := cmp_trans _ _ _ k1 k2
  by_cases e : cmpI (runes a) (runes c) = 0
  · have e1 := cmp_zero.1 e
    have e2 : cmpI (runes b) (runes a) ≤ 0 := by rw [e1]; exact k2
    have e3 := cmp_neg (runes a) (runes b)
    have e4 : cmpI (runes a) (runes b) = 0 := by omega
    have e5 : cmpI (runes b) (runes c) = 0 := by rw [← e1]; omega
    unfold NM.ahead at h1 h2 ⊢
    rw [if_neg (by simpa using e4), bytes_nums] at h1
    rw [if_neg (by simpa using e5), bytes_nums] at h2
    rw [if_neg (by simpa using e), bytes_nums]
    exact cmp_trans _ _ _ h1 h2
  · unfold NM.ahead
    rw [if_pos e]
    exact k3
/-! ### of texts without stray bytes: the order of bytes -/
/-- What a rune's bytes are. -/
theorem rune_bytes {l : List UInt8} (hl : l ≠ []) (hs : stray l = false) :
    ∃ b0 t, l = b0 :: t ∧
      (((decL l).2 = 1 ∧ b0.toNat < 128 ∧ (decL l).1 = b0.toNat) ∨
       (∃ b1 u, t = b1 :: u ∧ (decL l).2 = 2 ∧ 192 ≤ b0.toNat ∧ b0.toNat < 224 ∧ 128 ≤ b1.toNat ∧ b1.toNat < 192 ∧ (decL l).1 = (b0.toNat - 192) * 64 + (b1.toNat - 128) ∧ 128 ≤ (decL l).1) ∨
       (∃ b1 b2 u, t = b1 :: b2 :: u ∧ (decL l).2 = 3 ∧ 224 ≤ b0.toNat ∧ b0.toNat < 240 ∧ 128 ≤ b1.toNat ∧ b1.toNat < 192 ∧ 128 ≤ b2.toNat ∧ b2.toNat < 192 ∧ (decL l).1 = (b0.toNat - 224) * 4096 + (b1.toNat - 128) * 64 + (b2.toNat - 128) ∧ 2048 ≤ (decL l).1) ∨
       (∃ b1 b2 b3 u, t = b1 :: b2 :: b3 :: u ∧ (decL l).2 = 4 ∧ 240 ≤ b0.toNat ∧ b0.toNat < 248 ∧ 128 ≤ b1.toNat ∧ b1.toNat < 192 ∧ 128 ≤ b2.toNat ∧ b2.toNat < 192 ∧ 128 ≤ b3.toNat ∧ b3.toNat < 192 ∧ (decL l).1 = (b0.toNat - 240) * 262144 + (b1.toNat - 128) * 4096 + (b2.toNat - 128) * 64 + (b3.toNat - 128) ∧ 65536 ≤ (decL l).1)) := by
  have h : ¬ ((decL l).1 = 65533 ∧ (decL l).2 = 1) := by
    intro h
    rw [(stray_iff l).2 h] at hs
    exact absurd hs (by decide)
  have hk := decL_le hl
  match l, hl with
  | b0 :: t, _ =>
    refine ⟨b0, t, rfl, ?_⟩
    have u0 := b0.toNat_lt
    by_cases a0 : b0.toNat < 128
    · left
      have hd : decL (b0 :: t) = (b0.toNat, 1) := by
        unfold decL decodeN
        rw [if_pos (by simpa using a0)]
        rfl
      rw [hd]
      exact ⟨rfl, a0, rfl⟩
    right
    match t with
    | [] =>
      exfalso; apply h
      unfold decL decodeN
      simp only [List.length_cons, List.length_nil, List.getD_cons_zero]
      rw [if_neg a0, if_neg (by omega), if_neg (by omega), if_neg (by omega)]
      exact ⟨rfl, rfl⟩
    | [b1] =>
      have u1 := b1.toNat_lt
      by_cases a1 : b0.toNat / 32 = 6 ∧ b1.toNat / 64 = 2
      · by_cases v : b0.toNat % 32 * 64 + b1.toNat % 64 ≥ 128
        · left
          have hd : decL [b0, b1] = (b0.toNat % 32 * 64 + b1.toNat % 64, 2) := by
            unfold decL decodeN
            simp only [List.length_cons, List.length_nil, List.getD_cons_zero, List.getD_cons_succ]
            rw [if_neg a0, if_pos (by omega), if_pos v]
          rw [hd]
          exact ⟨b1, [], rfl, rfl, by omega, by omega, by omega, by omega, by simp only []; omega, by simp only []; omega⟩
        · exfalso; apply h
          unfold decL decodeN
          simp only [List.length_cons, List.length_nil, List.getD_cons_zero, List.getD_cons_succ]
          rw [if_neg a0, if_pos (by omega), if_neg v]
          exact ⟨rfl, rfl⟩
      · exfalso; apply h
        unfold decL decodeN
        simp only [List.length_cons, List.length_nil, List.getD_cons_zero, List.getD_cons_succ]
        rw [if_neg a0, if_neg (by omega), if_neg (by omega), if_neg (by omega)]
        exact ⟨rfl, rfl⟩
    | b1 :: b2 :: u =>
      have u1 := b1.toNat_lt
      have u2 := b2.toNat_lt
      by_cases a1 : b0.toNat / 32 = 6 ∧ b1.toNat / 64 = 2
      · by_cases v : b0.toNat % 32 * 64 + b1.toNat % 64 ≥ 128
        · left
          have hd : decL (b0 :: b1 :: b2 :: u) = (b0.toNat % 32 * 64 + b1.toNat % 64, 2) := by
            unfold decL decodeN
            simp only [List.length_cons, List.getD_cons_zero, List.getD_cons_succ]
            rw [if_neg a0, if_pos (by omega), if_pos v]
          rw [hd]
          exact ⟨b1, b2 :: u, rfl, rfl, by omega, by omega, by omega, by omega, by simp only []; omega, by simp only []; omega⟩
        · exfalso; apply h
          unfold decL decodeN
          simp only [List.length_cons, List.getD_cons_zero, List.getD_cons_succ]
          rw [if_neg a0, if_pos (by omega), if_neg v]
          exact ⟨rfl, rfl⟩
      by_cases a2 : b0.toNat / 16 = 14 ∧ b1.toNat / 64 = 2 ∧ b2.toNat / 64 = 2
      · by_cases v : b0.toNat % 16 * 4096 + b1.toNat % 64 * 64 + b2.toNat % 64 ≥ 2048 ∧ (b0.toNat % 16 * 4096 + b1.toNat % 64 * 64 + b2.toNat % 64 < 55296 ∨ (57344 ≤ b0.toNat % 16 * 4096 + b1.toNat % 64 * 64 + b2.toNat % 64 ∧ b0.toNat % 16 * 4096 + b1.toNat % 64 * 64 + b2.toNat % 64 ≤ 1114111))
        · right; left
          have hd : decL (b0 :: b1 :: b2 :: u) = (b0.toNat % 16 * 4096 + b1.toNat % 64 * 64 + b2.toNat % 64, 3) := by
            unfold decL decodeN
            simp only [List.length_cons, List.getD_cons_zero, List.getD_cons_succ]
            rw [if_neg a0, if_neg (by omega), if_pos (by omega), if_pos v]
          rw [hd]
          exact ⟨b1, b2, u, rfl, rfl, by omega, by omega, by omega, by omega, by omega, by omega, by simp only []; omega, by simp only []; omega⟩
        · exfalso; apply h
          unfold decL decodeN
          simp only [List.length_cons, List.getD_cons_zero, List.getD_cons_succ]
          rw [if_neg a0, if_neg (by omega), if_pos (by omega), if_neg v]
          exact ⟨rfl, rfl⟩
      match u with
      | [] =>
        exfalso; apply h
        unfold decL decodeN
        simp only [List.length_cons, List.length_nil, List.getD_cons_zero, List.getD_cons_succ]
        rw [if_neg a0, if_neg (by omega), if_neg (by omega), if_neg (by omega)]
        exact ⟨rfl, rfl⟩
      | b3 :: u =>
        have u3 := b3.toNat_lt
        by_cases a3 : b0.toNat / 8 = 30 ∧ b1.toNat / 64 = 2 ∧ b2.toNat / 64 = 2 ∧ b3.toNat / 64 = 2
        · by_cases v : b0.toNat % 8 * 262144 + b1.toNat % 64 * 4096 + b2.toNat % 64 * 64 + b3.toNat % 64 ≥ 65536 ∧ (b0.toNat % 8 * 262144 + b1.toNat % 64 * 4096 + b2.toNat % 64 * 64 + b3.toNat % 64 < 55296 ∨ (57344 ≤ b0.toNat % 8 * 262144 + b1.toNat % 64 * 4096 + b2.toNat % 64 * 64 + b3.toNat % 64 ∧ b0.toNat % 8 * 262144 + b1.toNat % 64 * 4096 + b2.toNat % 64 * 64 + b3.toNat % 64 ≤ 1114111))
          · right; right
            have hd : decL (b0 :: b1 :: b2 :: b3 :: u) = (b0.toNat % 8 * 262144 + b1.toNat % 64 * 4096 + b2.toNat % 64 * 64 + b3.toNat % 64, 4) := by
              unfold decL decodeN
              simp only [List.length_cons, List.getD_cons_zero, List.getD_cons_succ]
              rw [if_neg a0, if_neg (by omega), if_neg (by omega), if_pos (by omega), if_pos v]
            rw [hd]
            exact ⟨b1, b2, b3, u, rfl, rfl, by omega, by omega, by omega, by omega, by omega, by omega, by omega, by omega, by simp only []; omega, by simp only []; omega⟩
          · exfalso; apply h
            unfold decL decodeN
            simp only [List.length_cons, List.getD_cons_zero, List.getD_cons_succ]
            rw [if_neg a0, if_neg (by omega), if_neg (by omega), if_pos (by omega), if_neg v]
            exact ⟨rfl, rfl⟩
        · exfalso; apply h
          unfold decL decodeN
          simp only [List.length_cons, List.getD_cons_zero, List.getD_cons_succ]
          rw [if_neg a0, if_neg (by omega), if_neg (by omega), if_neg (by omega)]
          exact ⟨rfl, rfl⟩
theorem whole_order : ∀ a, ∀ b : List UInt8, whole a = true → whole b = true → compareBytes a b = cmpI (runes a) (runes b) := by
  refine rune_ind (p := fun a => ∀ b : List UInt8, whole a = true → whole b = true → compareBytes a b = cmpI (runes a) (runes b)) (fun b _ _ => ?_) (fun a ha ih b hwa hwb => ?_)
  · cases b with
    | nil => rfl
    | cons y t => rw [runes_step (l := y :: t) (by simp)]; rfl
  by_cases hb : b = []
  · subst hb
    rw [runes_step ha]
    cases a with
    | nil => exact absurd rfl ha
    | cons x t => rfl
  rw [whole_step ha, Bool.and_eq_true, Bool.not_eq_true'] at hwa
  rw [whole_step hb, Bool.and_eq_true, Bool.not_eq_true'] at hwb
  obtain ⟨a0, s, hea, ca⟩ := rune_bytes ha hwa.1
  obtain ⟨b0, t, heb, cb⟩ := rune_bytes hb hwb.1
  have IH := ih (b.drop (decL b).2) hwa.2 hwb.2
  rw [runes_step ha, runes_step hb]
  clear ih hwa hwb ha hb
  generalize decL a = da at ca IH ⊢
  generalize decL b = db at cb IH ⊢
  obtain ⟨ra, ka⟩ := da
  obtain ⟨rb, kb⟩ := db
  simp only [] at ca cb IH ⊢
  rcases ca with ⟨rfl, a1, a2⟩ | ⟨x1, u, rfl, rfl, a1, a2, a3, a4, a5, a6⟩ | ⟨x1, x2, u, rfl, rfl, a1, a2, a3, a4, a5, a6, a7, a8⟩ | ⟨x1, x2, x3, u, rfl, rfl, a1, a2, a3, a4, a5, a6, a7, a8, a9, a10⟩ <;>
  rcases cb with ⟨rfl, b1, b2⟩ | ⟨y1, v, rfl, rfl, b1, b2, b3, b4, b5, b6⟩ | ⟨y1, y2, v, rfl, rfl, b1, b2, b3, b4, b5, b6, b7, b8⟩ | ⟨y1, y2, y3, v, rfl, rfl, b1, b2, b3, b4, b5, b6, b7, b8, b9, b10⟩ <;>
  subst hea heb <;>
  simp only [List.drop_succ_cons, List.drop_zero] at IH ⊢ <;>
  simp only [compareBytes, cmpI, UInt8.lt_iff_toNat_lt] <;>
  rw [← IH] <;>
  clear IH <;>
  (repeat' split) <;>
  first | rfl | (exfalso; omega)
end Go.Proofs.YtneanbckmekdkaaDoor.NM
