/- The document's answers, plain (copy of PNamesCompare). -/
import Derived.Test.YtneanbckmekdkaaDoorNRuneV
import Derived.Test.YtneanbckmekdkaaDoorPEntryFormsx5
import Derived.Test.YtneanbckmekdkaaDoorMValid
namespace Go.Proofs.YtneanbckmekdkaaDoor.NMK
open Go.Proofs.YtneanbckmekdkaaDoor.NMV (rune_f bt_get)
open Go.RowKit Go.Proofs.YtneanbckmekdkaaDoorW.PrintWords Go.Proofs.YtneanbckmekdkaaDoorW.PrintLast Go.Proofs.YtneanbckmekdkaaDoorW.PrintMore Go.Proofs.YtneanbckmekdkaaDoor.PEntryForms Go.Proofs.YtneanbckmekdkaaDoor.NM
set_option linter.unusedVariables false
theorem rune_at (s : ByteArray) (k pos : Nat) (hp : pos < s.size) : hayrickref10_Rune.f (k + 12) (s.extract pos s.size) = some (((decL (s.data.toList.drop pos)).1 : Int), ((decL (s.data.toList.drop pos)).2 : Int), stray (s.data.toList.drop pos)) := by
  rw [rune_f _ _ (by rw [Lib.size_eq, extract_end, List.length_drop, ← Lib.size_eq]; omega), extract_end]
theorem step_fact (s : ByteArray) (pos : Nat) (hp : pos < s.size) : s.data.toList.drop pos ≠ [] ∧ 1 ≤ (decL (s.data.toList.drop pos)).2 ∧ pos + (decL (s.data.toList.drop pos)).2 ≤ s.size := by
  have h := drop_ne s pos hp
  have h2 := decL_le h
  rw [List.length_drop, ← Lib.size_eq] at h2
  exact ⟨h, decL_pos _, by omega⟩
theorem runes_l (s : ByteArray) (hs : s.size ≤ 17592186044416) : ∀ (j k pos : Nat) (acc : List Int), s.size ≤ pos + j → pos ≤ s.size → acc.length ≤ pos → hayrickref10_Runes.l0 (k + 13 + j) s acc pos = some (acc ++ runes (s.data.toList.drop pos))
  | 0, k, pos, acc, hj, hp, ha => by
    have : s.data.toList.drop pos = [] := List.drop_eq_nil_of_le (by rw [← Lib.size_eq]; omega)
    show hayrickref10_Runes.l0 (k + 12 + 1) s acc pos = _
    rw [hayrickref10_Runes.l0, if_neg (by omega), this, runes_nil, List.append_nil]
  | j + 1, k, pos, acc, hj, hp, ha => by
    by_cases h : pos < s.size
    · obtain ⟨h1, h2, h3⟩ := step_fact s pos h
      show hayrickref10_Runes.l0 (k + 13 + j + 1) s acc pos = _
      rw [hayrickref10_Runes.l0, if_pos (by omega), if_pos (by omega), if_pos (by omega), Int.toNat_natCast, show k + 13 + j = k + (j + 1) + 12 by omega, rune_at s _ pos h, Option.bind_some]
      simp only []
      rw [if_pos (by omega), IntWalk.wrap64_in _ (by omega)]
      have e := runes_l s hs j k (pos + (decL (s.data.toList.drop pos)).2) (acc ++ [((decL (s.data.toList.drop pos)).1 : Int)]) (by omega) h3 (by rw [List.length_append]; simp; omega)
      rw [runes_step h1, List.drop_drop, show k + (j + 1) + 12 = k + 13 + j by omega, ← Int.natCast_add, e, List.append_assoc]
      rfl
    · have : s.data.toList.drop pos = [] := List.drop_eq_nil_of_le (by rw [← Lib.size_eq]; omega)
      show hayrickref10_Runes.l0 (k + 13 + j + 1) s acc pos = _
      rw [hayrickref10_Runes.l0, if_neg (by omega), this, runes_nil, List.append_nil]
theorem runes_f (s : ByteArray) (hs : s.size ≤ 17592186044416) (k : Nat) (hk : s.size + 13 ≤ k) : hayrickref10_Runes.f k s = some (runes s.data.toList) := by
  obtain ⟨d, rfl⟩ : ∃ d, k = d + 13 + s.size := ⟨k - 13 - s.size, by omega⟩
  have := runes_l s hs s.size d 0 [] (by omega) (by omega) (by simp)
  rw [List.drop_zero, List.nil_append] at this
  exact this
theorem rd_drop {l : List Int} {i : Nat} (h : i < l.length) : l.drop i = rd l (i : Int) :: l.drop (i + 1) := by
  rw [List.drop_eq_getElem_cons h]
  simp [rd, List.getD, h]
theorem bt_drop {s : ByteArray} {i : Nat} (h : i < s.size) : s.data.toList.drop i = s.data.toList.getD i 0 :: s.data.toList.drop (i + 1) := by
  have h' : i < s.data.toList.length := by rw [← Lib.size_eq]; exact h
  rw [List.drop_eq_getElem_cons h']
  simp [List.getD, h]
theorem cmpI_zero : ∀ {x y : List Int}, cmpI x y = 0 ↔ x = y
  | [], [] => by simp [cmpI]
  | [], _ :: _ => by simp [cmpI]
  | _ :: _, [] => by simp [cmpI]
  | a :: x, b :: y => by
    have ih := @cmpI_zero x y
    simp only [cmpI, List.cons.injEq]
    by_cases c1 : a < b
    · rw [if_pos c1]; constructor
      · intro h; exact absurd h (by decide)
      · rintro ⟨rfl, _⟩; omega
    · rw [if_neg c1]
      by_cases c2 : b < a
      · rw [if_pos c2]; constructor
        · intro h; exact absurd h (by decide)
        · rintro ⟨rfl, _⟩; omega
      · rw [if_neg c2, ih]
        constructor
        · intro h; exact ⟨by omega, h⟩
        · intro h; exact h.2
theorem bytes_l (a b : ByteArray) (ha : a.size ≤ 9223372036854775806) (hb : b.size ≤ 9223372036854775806) : ∀ (j k i : Nat), a.size + b.size ≤ i + j → i ≤ a.size → i ≤ b.size → hayrickref10_Compare.l1 (k + 2 + 2 * j) a b i = some (Lib.compareBytes (a.data.toList.drop i) (b.data.toList.drop i)) := by
  intro j
  induction j with
  | zero =>
    intro k i hj hi hi2
    have e1 : a.data.toList.drop i = [] := List.drop_eq_nil_of_le (by rw [← Lib.size_eq]; omega)
    have e2 : b.data.toList.drop i = [] := List.drop_eq_nil_of_le (by rw [← Lib.size_eq]; omega)
    show hayrickref10_Compare.l1 (k + 1 + 1) a b i = _
    rw [hayrickref10_Compare.l1, if_neg (by omega), decide_eq_false (by omega), hayrickref10_Compare.j3, if_neg (by decide), e1, e2]
    rfl
  | succ j ih =>
    intro k i hj hi hi2
    show hayrickref10_Compare.l1 (k + 2 + 2 * j + 1 + 1) a b i = _
    by_cases c : i = a.size ∧ i = b.size
    · have e1 : a.data.toList.drop i = [] := List.drop_eq_nil_of_le (by rw [← Lib.size_eq]; omega)
      have e2 : b.data.toList.drop i = [] := List.drop_eq_nil_of_le (by rw [← Lib.size_eq]; omega)
      rw [hayrickref10_Compare.l1, if_neg (by omega), decide_eq_false (by omega), hayrickref10_Compare.j3, if_neg (by decide), e1, e2]
      rfl
    have hj3 : hayrickref10_Compare.l1 (k + 2 + 2 * j + 1 + 1) a b i = hayrickref10_Compare.j3 (k + 2 + 2 * j + 1) a b i true := by
      rw [hayrickref10_Compare.l1]
      by_cases c1 : i < a.size
      · rw [if_pos (by omega)]
      · rw [if_neg (by omega), decide_eq_true (by omega)]
    rw [hj3, hayrickref10_Compare.j3, if_pos rfl]
    by_cases c1 : i = a.size
    · have e1 : a.data.toList.drop i = [] := List.drop_eq_nil_of_le (by rw [← Lib.size_eq]; omega)
      rw [if_pos (by omega), e1, bt_drop (s := b) (i := i) (by omega)]
      rfl
    rw [if_neg (by omega)]
    by_cases c2 : i = b.size
    · have e2 : b.data.toList.drop i = [] := List.drop_eq_nil_of_le (by rw [← Lib.size_eq]; omega)
      rw [if_pos (by omega), e2, bt_drop (s := a) (i := i) (by omega)]
      rfl
    rw [if_neg (by omega), if_pos (by omega), if_pos (by omega), if_pos (by omega), IntWalk.wrap64_in _ (by omega), ← Int.natCast_succ, ih k (i + 1) (by omega) (by omega) (by omega), bt_drop (s := a) (i := i) (by omega), bt_drop (s := b) (i := i) (by omega), bt_get, bt_get, Lib.compareBytes]
    simp only [gt_iff_lt, Int.ofNat_lt, UInt8.lt_iff_toNat_lt]
    repeat' split
    all_goals first | rfl | (exfalso; omega)
theorem lists_l (a b : ByteArray) (x y : List Int) (ha : a.size ≤ 9223372036854775806) (hb : b.size ≤ 9223372036854775806) (hx : x.length ≤ 9223372036854775806) (hy : y.length ≤ 9223372036854775806) : ∀ (j k i : Nat), x.length + y.length ≤ i + j → i ≤ x.length → i ≤ y.length → hayrickref10_Compare.l0 (k + 2 + 2 * (a.size + b.size) + 2 + 2 * j) a b x y i = some (if cmpI (x.drop i) (y.drop i) ≠ 0 then cmpI (x.drop i) (y.drop i) else Lib.compareBytes a.data.toList b.data.toList) := by
  intro j
  induction j with
  | zero =>
    intro k i hj hi hi2
    have e1 : x.drop i = [] := List.drop_eq_nil_of_le (by omega)
    have e2 : y.drop i = [] := List.drop_eq_nil_of_le (by omega)
    show hayrickref10_Compare.l0 (k + 2 + 2 * (a.size + b.size) + 1 + 1) a b x y i = _
    rw [hayrickref10_Compare.l0, if_neg (by omega), decide_eq_false (by omega), hayrickref10_Compare.j1, if_neg (by decide), e1, e2, if_neg (by decide)]
    exact bytes_l a b ha hb (a.size + b.size) k 0 (by omega) (by omega) (by omega)
  | succ j ih =>
    intro k i hj hi hi2
    show hayrickref10_Compare.l0 (k + 2 + 2 * (a.size + b.size) + 2 + 2 * j + 1 + 1) a b x y i = _
    by_cases c : i = x.length ∧ i = y.length
    · have e1 : x.drop i = [] := List.drop_eq_nil_of_le (by omega)
      have e2 : y.drop i = [] := List.drop_eq_nil_of_le (by omega)
      rw [hayrickref10_Compare.l0, if_neg (by omega), decide_eq_false (by omega), hayrickref10_Compare.j1, if_neg (by decide), e1, e2, if_neg (by decide)]
      have := bytes_l a b ha hb (a.size + b.size) (k + 2 + 2 * j) 0 (by omega) (by omega) (by omega)
      rw [show k + 2 + 2 * (a.size + b.size) + 2 + 2 * j = k + 2 + 2 * j + 2 + 2 * (a.size + b.size) by omega]
      exact this
    have hj3 : hayrickref10_Compare.l0 (k + 2 + 2 * (a.size + b.size) + 2 + 2 * j + 1 + 1) a b x y i = hayrickref10_Compare.j1 (k + 2 + 2 * (a.size + b.size) + 2 + 2 * j + 1) a b x y i true := by
      rw [hayrickref10_Compare.l0]
      by_cases c1 : i < x.length
      · rw [if_pos (by omega)]
      · rw [if_neg (by omega), decide_eq_true (by omega)]
    rw [hj3, hayrickref10_Compare.j1, if_pos rfl]
    by_cases c1 : i = x.length
    · have e1 : x.drop i = [] := List.drop_eq_nil_of_le (by omega)
      rw [if_pos (by omega), e1, rd_drop (l := y) (i := i) (by omega)]
      rfl
    rw [if_neg (by omega)]
    by_cases c2 : i = y.length
    · have e2 : y.drop i = [] := List.drop_eq_nil_of_le (by omega)
      rw [if_pos (by omega), e2, rd_drop (l := x) (i := i) (by omega)]
      rfl
    rw [if_neg (by omega), if_pos (by omega), if_pos (by omega), if_pos (by omega), IntWalk.wrap64_in _ (by omega), ← Int.natCast_succ, ih k (i + 1) (by omega) (by omega) (by omega), rd_drop (l := x) (i := i) (by omega), rd_drop (l := y) (i := i) (by omega), cmpI]
    by_cases d1 : rd x i < rd y i
    · rw [if_pos d1, if_pos d1]
      rfl
    rw [if_neg d1, if_neg d1]
    by_cases d2 : rd y i < rd x i
    · rw [if_pos d2, if_pos d2]
      rfl
    rw [if_neg d2, if_neg d2]
theorem compare_f (a b : ByteArray) (ha : a.size ≤ 17592186044416) (hb : b.size ≤ 17592186044416) (k : Nat) (hk : 4 * (a.size + b.size) + 13 ≤ k) : hayrickref10_Compare.f k a b = some (NM.ahead a.data.toList b.data.toList) := by
  unfold hayrickref10_Compare.f NM.ahead
  rw [runes_f a ha k (by omega), runes_f b hb k (by omega), Option.bind_some, Option.bind_some]
  have h1 := runes_le a.data.toList
  have h2 := runes_le b.data.toList
  rw [← Lib.size_eq] at h1 h2
  obtain ⟨d, rfl⟩ : ∃ d, k = d + 2 + 2 * (a.size + b.size) + 2 + 2 * (a.size + b.size) := ⟨k - 4 - 4 * (a.size + b.size), by omega⟩
  exact lists_l a b _ _ (by omega) (by omega) (by omega) (by omega) (a.size + b.size) d 0 (by omega) (by omega) (by omega)
end Go.Proofs.YtneanbckmekdkaaDoor.NMK
