/- Plain: the runes of a list of bytes, as the decoder of the model reads them; whether all bytes are of runes; how far a beginning goes. -/
import Derived.Lib.DecodeN
import Derived.Lib.RuneCount
import Derived.Lib.Strings
import Derived.Lib.Bytealg
namespace Go.Proofs.YtneanbckmekdkaaDoor.NM
open Go Go.Lib
set_option linter.unusedVariables false
set_option linter.unusedSimpArgs false

/-- The first rune and how many bytes it has. -/
def decL (l : List UInt8) : Nat × Nat := decodeN l.length (l.getD 0 0).toNat (l.getD 1 0).toNat (l.getD 2 0).toNat (l.getD 3 0).toNat

theorem decodeN_two (n b0 b1 b2 b3 : Nat) : 1 ≤ (decodeN n b0 b1 b2 b3).2 ∧ (decodeN n b0 b1 b2 b3).2 ≤ 4 ∧ (1 ≤ n → (decodeN n b0 b1 b2 b3).2 ≤ n) := by
  unfold decodeN
  repeat' split
  all_goals first | exact ⟨by decide, by decide, fun h => by simp only []; omega⟩ | (simp only []; omega)

theorem decL_pos (l : List UInt8) : 1 ≤ (decL l).2 := (decodeN_two _ _ _ _ _).1
theorem decL_four (l : List UInt8) : (decL l).2 ≤ 4 := (decodeN_two _ _ _ _ _).2.1
theorem decL_le {l : List UInt8} (h : l ≠ []) : (decL l).2 ≤ l.length := (decodeN_two _ _ _ _ _).2.2 (by
  cases l with
  | nil => exact absurd rfl h
  | cons a t => simp)

theorem get_list (s : ByteArray) (i : Nat) : (s.get! i) = s.data.toList.getD i 0 := by
  obtain ⟨⟨l⟩⟩ := s
  show (⟨l⟩ : Array UInt8)[i]! = l.getD i 0
  by_cases hi : i < l.length
  · rw [getElem!_pos (⟨l⟩ : Array UInt8) i (by simpa using hi)]
    simp [List.getD, hi]
  · rw [getElem!_neg (⟨l⟩ : Array UInt8) i (by simpa using hi)]
    simp [List.getD, List.getElem?_eq_none (Nat.le_of_not_lt hi)]
    rfl

theorem decode_drop (s : ByteArray) (pos : Nat) : Utf8.decode s pos = decL (s.data.toList.drop pos) := by
  rw [decode_at, decL, List.length_drop, get_list, get_list, get_list, get_list, ← Lib.size_eq]
  simp only [List.getD, List.getElem?_drop, Nat.add_zero]

/-! ### the runes -/
def runesF : Nat → List UInt8 → List Int
  | 0, _ => []
  | _ + 1, [] => []
  | f + 1, b :: t => ((decL (b :: t)).1 : Int) :: runesF f ((b :: t).drop (decL (b :: t)).2)
def runes (l : List UInt8) : List Int := runesF l.length l

theorem runesF_nil (f : Nat) : runesF f [] = [] := by cases f <;> rfl
theorem runesF_more : ∀ (f g : Nat) (l : List UInt8), l.length ≤ f → l.length ≤ g → runesF f l = runesF g l
  | _, _, [], _, _ => by rw [runesF_nil, runesF_nil]
  | f + 1, g + 1, b :: t, hf, hg => by
    have h1 := decL_pos (b :: t)
    have h3 : ((b :: t).drop (decL (b :: t)).2).length ≤ t.length := by rw [List.length_drop, List.length_cons]; omega
    rw [List.length_cons] at hf hg
    rw [runesF, runesF, runesF_more f g _ (by omega) (by omega)]
theorem runes_nil : runes [] = [] := rfl
theorem runes_step {l : List UInt8} (h : l ≠ []) : runes l = ((decL l).1 : Int) :: runes (l.drop (decL l).2) := by
  cases l with
  | nil => exact absurd rfl h
  | cons b t =>
    have h1 := decL_pos (b :: t)
    have h3 : ((b :: t).drop (decL (b :: t)).2).length ≤ t.length := by rw [List.length_drop, List.length_cons]; omega
    show runesF (t.length + 1) (b :: t) = _
    rw [runesF, runesF_more _ _ _ h3 (Nat.le_refl _)]
    rfl
theorem runes_len : ∀ (n : Nat) (l : List UInt8), l.length ≤ n → (runes l).length ≤ l.length
  | _, [], _ => by simp [runes_nil]
  | n + 1, b :: t, hn => by
    have h1 := decL_pos (b :: t)
    have h3 : ((b :: t).drop (decL (b :: t)).2).length ≤ t.length := by rw [List.length_drop, List.length_cons]; omega
    rw [List.length_cons] at hn
    rw [runes_step (by simp), List.length_cons, List.length_cons]
    have := runes_len n _ (Nat.le_trans h3 (by omega))
    omega
theorem runes_le (l : List UInt8) : (runes l).length ≤ l.length := runes_len _ l (Nat.le_refl _)

/-- Cuts of bytes: an induction by runes. -/
theorem rune_ind {p : List UInt8 → Prop} (h0 : p []) (h1 : ∀ l, l ≠ [] → p (l.drop (decL l).2) → p l) : ∀ l, p l := by
  have go : ∀ (n : Nat) (l : List UInt8), l.length ≤ n → p l := by
    intro n
    induction n with
    | zero => intro l hl; cases l with
      | nil => exact h0
      | cons a t => simp at hl
    | succ n ih =>
      intro l hl
      by_cases hn : l = []
      · rw [hn]; exact h0
      · refine h1 l hn (ih _ ?_)
        have := decL_pos l
        have : 0 < l.length := by cases l with | nil => exact absurd rfl hn | cons _ _ => simp
        rw [List.length_drop]
        omega
  exact fun l => go _ l (Nat.le_refl _)

/-! ### whether all bytes are of runes -/
/-- The first byte begins no rune. -/
def stray (l : List UInt8) : Bool := decide ((decL l).1 = 65533) && decide ((decL l).2 = 1)
def wholeF : Nat → List UInt8 → Bool
  | 0, _ => true
  | _ + 1, [] => true
  | f + 1, b :: t => !stray (b :: t) && wholeF f ((b :: t).drop (decL (b :: t)).2)
def whole (l : List UInt8) : Bool := wholeF l.length l
theorem wholeF_nil (f : Nat) : wholeF f [] = true := by cases f <;> rfl
theorem wholeF_more : ∀ (f g : Nat) (l : List UInt8), l.length ≤ f → l.length ≤ g → wholeF f l = wholeF g l
  | _, _, [], _, _ => by rw [wholeF_nil, wholeF_nil]
  | f + 1, g + 1, b :: t, hf, hg => by
    have h1 := decL_pos (b :: t)
    have h3 : ((b :: t).drop (decL (b :: t)).2).length ≤ t.length := by rw [List.length_drop, List.length_cons]; omega
    rw [List.length_cons] at hf hg
    rw [wholeF, wholeF, wholeF_more f g _ (by omega) (by omega)]
theorem whole_nil : whole [] = true := rfl
theorem whole_step {l : List UInt8} (h : l ≠ []) : whole l = (!stray l && whole (l.drop (decL l).2)) := by
  cases l with
  | nil => exact absurd rfl h
  | cons b t =>
    have h1 := decL_pos (b :: t)
    have h3 : ((b :: t).drop (decL (b :: t)).2).length ≤ t.length := by rw [List.length_drop, List.length_cons]; omega
    show wholeF (t.length + 1) (b :: t) = _
    rw [wholeF, wholeF_more _ _ _ h3 (Nat.le_refl _)]
    rfl

/-! ### a beginning of at most n bytes -/
def cutF : Nat → List UInt8 → Int → Nat
  | 0, _, _ => 0
  | _ + 1, [], _ => 0
  | f + 1, b :: t, n => if ((decL (b :: t)).2 : Int) ≤ n then (decL (b :: t)).2 + cutF f ((b :: t).drop (decL (b :: t)).2) (n - (decL (b :: t)).2) else 0
def cutN (l : List UInt8) (n : Int) : Nat := cutF l.length l n
theorem cutF_nil (f : Nat) (n : Int) : cutF f [] n = 0 := by cases f <;> rfl
theorem cutF_more : ∀ (f g : Nat) (l : List UInt8) (n : Int), l.length ≤ f → l.length ≤ g → cutF f l n = cutF g l n
  | _, _, [], _, _, _ => by rw [cutF_nil, cutF_nil]
  | f + 1, g + 1, b :: t, n, hf, hg => by
    have h1 := decL_pos (b :: t)
    have h3 : ((b :: t).drop (decL (b :: t)).2).length ≤ t.length := by rw [List.length_drop, List.length_cons]; omega
    rw [List.length_cons] at hf hg
    rw [cutF, cutF, cutF_more f g _ _ (by omega) (by omega)]
theorem cut_nil (n : Int) : cutN [] n = 0 := rfl
theorem cut_step {l : List UInt8} (h : l ≠ []) (n : Int) : cutN l n = if ((decL l).2 : Int) ≤ n then (decL l).2 + cutN (l.drop (decL l).2) (n - (decL l).2) else 0 := by
  cases l with
  | nil => exact absurd rfl h
  | cons b t =>
    have h1 := decL_pos (b :: t)
    have h3 : ((b :: t).drop (decL (b :: t)).2).length ≤ t.length := by rw [List.length_drop, List.length_cons]; omega
    show cutF (t.length + 1) (b :: t) n = _
    rw [cutF, cutF_more _ _ _ _ h3 (Nat.le_refl _)]
    rfl
theorem cut_bound (l : List UInt8) : ∀ n : Int, cutN l n ≤ l.length ∧ ((cutN l n : Int) ≤ n ∨ cutN l n = 0) := by
  refine rune_ind (p := fun l => ∀ n : Int, cutN l n ≤ l.length ∧ ((cutN l n : Int) ≤ n ∨ cutN l n = 0)) (fun n => by simp [cut_nil]) (fun l hl ih n => ?_) l
  have h := ih (n - (decL l).2)
  have h1 := decL_le hl
  rw [List.length_drop] at h
  rw [cut_step hl]
  split <;> omega
theorem cut_all (l : List UInt8) : ∀ n : Int, (l.length : Int) ≤ n → cutN l n = l.length := by
  refine rune_ind (p := fun l => ∀ n : Int, (l.length : Int) ≤ n → cutN l n = l.length) (fun n _ => rfl) (fun l hl ih n hn => ?_) l
  have h1 := decL_le hl
  rw [cut_step hl, if_pos (by omega), ih _ (by rw [List.length_drop]; omega), List.length_drop]
  omega

/-! ### which of two is ahead -/
def cmpI : List Int → List Int → Int
  | [], [] => 0
  | [], _ :: _ => -1
  | _ :: _, [] => 1
  | a :: x, b :: y => if a < b then -1 else if b < a then 1 else cmpI x y
def ahead (a b : List UInt8) : Int := if cmpI (runes a) (runes b) ≠ 0 then cmpI (runes a) (runes b) else Lib.compareBytes a b
/-- Whether it may be a name. -/
def okRune (r : Int) : Bool := !(decide (r = 47)) && !(decide (r < 32)) && !(decide (r = 127))
def valid (l : List UInt8) : Bool := decide (1 ≤ l.length) && (decide (l.length ≤ 24) && (whole l && (decide (l ≠ [46]) && (decide (l ≠ [46, 46]) && (runes l).all okRune))))
end Go.Proofs.YtneanbckmekdkaaDoor.NM
