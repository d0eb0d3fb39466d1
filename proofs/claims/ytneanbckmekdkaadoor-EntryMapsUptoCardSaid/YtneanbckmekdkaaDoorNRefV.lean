/- The document's answers, plain (copy of PNamesValid). -/
import Derived.Test.YtneanbckmekdkaaDoorPEntryFormsx2
import Derived.Test.YtneanbckmekdkaaDoorNRuneV
import Derived.Test.YtneanbckmekdkaaDoorMValid
namespace Go.Proofs.YtneanbckmekdkaaDoor.NMV
open Go.RowKit Go.Proofs.YtneanbckmekdkaaDoorW.PrintWords Go.Proofs.YtneanbckmekdkaaDoorW.PrintLast Go.Proofs.YtneanbckmekdkaaDoorW.PrintMore Go.Proofs.YtneanbckmekdkaaDoor.PEntryForms Go.Proofs.YtneanbckmekdkaaDoor.NM
set_option linter.unusedVariables false
theorem rune_at (s : ByteArray) (k pos : Nat) (hp : pos < s.size) : hayrickref10_Rune.f (k + 12) (s.extract pos s.size) = some (((decL (s.data.toList.drop pos)).1 : Int), ((decL (s.data.toList.drop pos)).2 : Int), stray (s.data.toList.drop pos)) := by
  rw [rune_f _ _ (by rw [Lib.size_eq, extract_end, List.length_drop, ← Lib.size_eq]; omega), extract_end]
theorem step_fact (s : ByteArray) (pos : Nat) (hp : pos < s.size) : s.data.toList.drop pos ≠ [] ∧ 1 ≤ (decL (s.data.toList.drop pos)).2 ∧ pos + (decL (s.data.toList.drop pos)).2 ≤ s.size := by
  have h := drop_ne s pos hp
  have h2 := decL_le h
  rw [List.length_drop, ← Lib.size_eq] at h2
  exact ⟨h, decL_pos _, by omega⟩
theorem runes_l (s : ByteArray) (hs : s.size ≤ 17592186044416) : ∀ (j k pos : Nat) (acc : List Int), s.size ≤ pos + j → pos ≤ s.size → acc.length ≤ pos → hayrickref10_Runes.l0 (k + 13 + j) s acc pos = some (acc ++ runes (s.data.toList.drop pos))
  | 0, k, pos, acc, hj, hp, ha => by
    have : s.data.toList.drop pos = [] := List.drop_eq_nil_of_le (by rw [← Lib.size_eq]; omega)
    show hayrickref10_Runes.l0 (k + 12 + 1) s acc pos = _
    rw [hayrickref10_Runes.l0, if_neg (by omega), this, runes_nil, List.append_nil]
  | j + 1, k, pos, acc, hj, hp, ha => by
    by_cases h : pos < s.size
    · obtain ⟨h1, h2, h3⟩ := step_fact s pos h
      show hayrickref10_Runes.l0 (k + 13 + j + 1) s acc pos = _
      rw [hayrickref10_Runes.l0, if_pos (by omega), if_pos (by omega), if_pos (by omega), Int.toNat_natCast, show k + 13 + j = k + (j + 1) + 12 by omega, rune_at s _ pos h, Option.bind_some]
      simp only []
      rw [if_pos (by omega), IntWalk.wrap64_in _ (by omega)]
      have e := runes_l s hs j k (pos + (decL (s.data.toList.drop pos)).2) (acc ++ [((decL (s.data.toList.drop pos)).1 : Int)]) (by omega) h3 (by rw [List.length_append]; simp; omega)
      rw [runes_step h1, List.drop_drop, show k + (j + 1) + 12 = k + 13 + j by omega, ← Int.natCast_add, e, List.append_assoc]
      rfl
    · have : s.data.toList.drop pos = [] := List.drop_eq_nil_of_le (by rw [← Lib.size_eq]; omega)
      show hayrickref10_Runes.l0 (k + 13 + j + 1) s acc pos = _
      rw [hayrickref10_Runes.l0, if_neg (by omega), this, runes_nil, List.append_nil]
theorem runes_f (s : ByteArray) (hs : s.size ≤ 17592186044416) (k : Nat) (hk : s.size + 13 ≤ k) : hayrickref10_Runes.f k s = some (runes s.data.toList) := by
  obtain ⟨d, rfl⟩ : ∃ d, k = d + 13 + s.size := ⟨k - 13 - s.size, by omega⟩
  have := runes_l s hs s.size d 0 [] (by omega) (by omega) (by simp)
  rw [List.drop_zero, List.nil_append] at this
  exact this
theorem whole_l (s : ByteArray) (hs : s.size ≤ 9223372036854775807) : ∀ (j k pos : Nat), s.size ≤ pos + j → pos ≤ s.size → hayrickref10_Whole.l0 (k + 13 + j) s pos = some (whole (s.data.toList.drop pos))
  | 0, k, pos, hj, hp => by
    have : s.data.toList.drop pos = [] := List.drop_eq_nil_of_le (by rw [← Lib.size_eq]; omega)
    show hayrickref10_Whole.l0 (k + 12 + 1) s pos = _
    rw [hayrickref10_Whole.l0, if_neg (by omega), this, whole_nil]
  | j + 1, k, pos, hj, hp => by
    by_cases h : pos < s.size
    · obtain ⟨h1, h2, h3⟩ := step_fact s pos h
      show hayrickref10_Whole.l0 (k + 13 + j + 1) s pos = _
      rw [hayrickref10_Whole.l0, if_pos (by omega), if_pos (by omega), if_pos (by omega), Int.toNat_natCast, show k + 13 + j = k + (j + 1) + 12 by omega, rune_at s _ pos h, Option.bind_some, whole_step h1]
      simp only []
      cases hst : stray (s.data.toList.drop pos) with
      | true => rw [if_pos rfl]; rfl
      | false =>
        rw [if_neg (by decide), IntWalk.wrap64_in _ (by omega)]
        have e := whole_l s hs j k (pos + (decL (s.data.toList.drop pos)).2) (by omega) h3
        rw [List.drop_drop, show k + (j + 1) + 12 = k + 13 + j by omega, ← Int.natCast_add, e]
        rfl
    · have : s.data.toList.drop pos = [] := List.drop_eq_nil_of_le (by rw [← Lib.size_eq]; omega)
      show hayrickref10_Whole.l0 (k + 13 + j + 1) s pos = _
      rw [hayrickref10_Whole.l0, if_neg (by omega), this, whole_nil]
theorem whole_f (s : ByteArray) (hs : s.size ≤ 9223372036854775807) (k : Nat) (hk : s.size + 13 ≤ k) : hayrickref10_Whole.f k s = some (whole s.data.toList) := by
  obtain ⟨d, rfl⟩ : ∃ d, k = d + 13 + s.size := ⟨k - 13 - s.size, by omega⟩
  have := whole_l s hs s.size d 0 (by omega) (by omega)
  rw [List.drop_zero] at this
  exact this
theorem rd_drop {l : List Int} {i : Nat} (h : i < l.length) : l.drop i = rd l (i : Int) :: l.drop (i + 1) := by
  rw [List.drop_eq_getElem_cons h]
  simp [rd, List.getD, h]
theorem cmp_f (a b : Int) : cmp_Compare_rune.f a b = some (if a < b then -1 else if b < a then 1 else 0) := by
  unfold cmp_Compare_rune.f cmp_isNaN_rune.f
  simp only [bne_self_eq_false, Option.bind_some, Bool.false_eq_true, if_false, gt_iff_lt]
  repeat' split
  all_goals rfl
theorem cmpI_nil (b : List Int) : cmpI [] b = if b.length = 0 then 0 else -1 := by cases b <;> rfl
theorem slc_l (a b : List Int) (ha : a.length ≤ 9223372036854775806) : ∀ (j k i : Nat), a.length ≤ i + j → i ≤ a.length → i ≤ b.length → slices_Compare_rune_rune.l0 (k + 1 + j) a b a a.length i = some (cmpI (a.drop i) (b.drop i))
  | 0, k, i, hj, hi, hb => by
    rw [slices_Compare_rune_rune.l0, if_neg (by omega), List.drop_eq_nil_of_le (by omega), cmpI_nil, List.length_drop]
    by_cases h : a.length < b.length
    · rw [if_pos (by omega), if_neg (by omega)]
    · rw [if_neg (by omega), if_pos (by omega)]
  | j + 1, k, i, hj, hi, hb => by
    show slices_Compare_rune_rune.l0 (k + 1 + j + 1) a b a a.length i = _
    by_cases h : i < a.length
    · rw [slices_Compare_rune_rune.l0, if_pos (by omega), if_pos (by omega), if_pos (by omega), rd_drop h]
      by_cases h2 : i < b.length
      · rw [if_neg (by omega), if_pos (by omega), rd_drop (l := b) h2, cmp_f, Option.bind_some, IntWalk.wrap64_in _ (by omega)]
        have e := slc_l a b ha j k (i + 1) (by omega) (by omega) (by omega)
        rw [cmpI, ← Int.natCast_succ, e]
        by_cases c1 : rd a i < rd b i
        · rw [if_pos c1, if_pos c1, if_neg (by decide)]
        · rw [if_neg c1, if_neg c1]
          by_cases c2 : rd b i < rd a i
          · rw [if_pos c2, if_pos c2, if_neg (by decide)]
          · rw [if_neg c2, if_neg c2, if_pos rfl]
      · rw [if_pos (by omega), List.drop_eq_nil_of_le («as» := b) (by omega)]
        rfl
    · rw [slices_Compare_rune_rune.l0, if_neg (by omega), List.drop_eq_nil_of_le («as» := a) (by omega), cmpI_nil, List.length_drop]
      by_cases h : a.length < b.length
      · rw [if_pos (by omega), if_neg (by omega)]
      · rw [if_neg (by omega), if_pos (by omega)]
theorem slc_f (a b : List Int) (ha : a.length ≤ 9223372036854775806) (k : Nat) (hk : a.length + 1 ≤ k) : slices_Compare_rune_rune.f k a b = some (cmpI a b) := by
  obtain ⟨d, rfl⟩ : ∃ d, k = d + 1 + a.length := ⟨k - 1 - a.length, by omega⟩
  exact slc_l a b ha a.length d 0 (by omega) (by omega) (by omega)
/-! ### a whole text's bytes and its runes are alike forbidden -/
def okByte (b : UInt8) : Bool := !(decide (b.toNat = 47)) && !(decide (b.toNat < 32)) && !(decide (b.toNat = 127))
theorem decodeN_whole (n b0 b1 b2 b3 : Nat) (h : ¬ ((Lib.decodeN n b0 b1 b2 b3).1 = 65533 ∧ (Lib.decodeN n b0 b1 b2 b3).2 = 1)) :
    ((Lib.decodeN n b0 b1 b2 b3).2 = 1 ∧ b0 < 128 ∧ (Lib.decodeN n b0 b1 b2 b3).1 = b0) ∨
    (128 ≤ b0 ∧ 128 ≤ (Lib.decodeN n b0 b1 b2 b3).1 ∧ 2 ≤ (Lib.decodeN n b0 b1 b2 b3).2 ∧ (1 < (Lib.decodeN n b0 b1 b2 b3).2 → b1 / 64 = 2) ∧ (2 < (Lib.decodeN n b0 b1 b2 b3).2 → b2 / 64 = 2) ∧ (3 < (Lib.decodeN n b0 b1 b2 b3).2 → b3 / 64 = 2)) := by
  revert h
  unfold Lib.decodeN
  repeat' split
  all_goals (intro h; simp only [] at h ⊢; first | omega | (simp at h; done) | exact .inl ⟨trivial, by assumption, trivial⟩)
theorem okByte_high {b : UInt8} (h : 128 ≤ b.toNat) : okByte b = true := by
  unfold okByte
  rw [decide_eq_false (by omega), decide_eq_false (by omega), decide_eq_false (by omega)]
  rfl
theorem all_take_drop {p : UInt8 → Bool} (l : List UInt8) (k : Nat) : l.all p = ((l.take k).all p && (l.drop k).all p) := by
  rw [← List.all_append, List.take_append_drop]
theorem ok_bytes (l : List UInt8) : whole l = true → l.all okByte = (runes l).all okRune := by
  refine rune_ind (p := fun l => whole l = true → l.all okByte = (runes l).all okRune) (fun _ => rfl) (fun l hl ih hw => ?_) l
  rw [whole_step hl, Bool.and_eq_true, Bool.not_eq_true'] at hw
  have h1 : ¬ ((decL l).1 = 65533 ∧ (decL l).2 = 1) := by
    intro h
    have : stray l = true := by unfold stray; rw [decide_eq_true h.1, decide_eq_true h.2]; rfl
    rw [this] at hw
    exact absurd hw.1 (by decide)
  have hk := decL_le hl
  have h4 := decL_four l
  rw [runes_step hl, List.all_cons, all_take_drop l (decL l).2, ih hw.2]
  congr 1
  rcases decodeN_whole _ _ _ _ _ h1 with ⟨e1, e2, e3⟩ | ⟨e0, e1, e2, e3, e4, e5⟩
  · have e1' : (decL l).2 = 1 := e1
    have e3' : (decL l).1 = (l.getD 0 0).toNat := e3
    rw [e1', e3']
    cases l with
    | nil => exact absurd rfl hl
    | cons b t =>
      simp only [List.take_succ_cons, List.take_zero, List.all_cons, List.all_nil, Bool.and_true, List.getD_cons_zero]
      unfold okByte okRune
      have q1 : ((b.toNat : Int) = 47) = (b.toNat = 47) := propext ⟨fun h => by omega, fun h => by omega⟩
      have q2 : ((b.toNat : Int) < 32) = (b.toNat < 32) := propext ⟨fun h => by omega, fun h => by omega⟩
      have q3 : ((b.toNat : Int) = 127) = (b.toNat = 127) := propext ⟨fun h => by omega, fun h => by omega⟩
      simp only [q1, q2, q3]
  · have r1 : okRune ((decL l).1 : Int) = true := by
      have : 128 ≤ (decL l).1 := e1
      unfold okRune
      rw [decide_eq_false (by omega), decide_eq_false (by omega), decide_eq_false (by omega)]
      rfl
    rw [r1, List.all_eq_true]
    intro b hb
    obtain ⟨i, hi, hbi⟩ := List.mem_iff_getElem.1 hb
    rw [List.length_take] at hi
    rw [List.getElem_take] at hbi
    have hi2 : i < l.length := by omega
    have hg : l.getD i 0 = b := by simp [List.getD, hi2, hbi]
    refine okByte_high ?_
    rw [← hg]
    have hi3 : i < (decL l).2 := by omega
    have : i = 0 ∨ i = 1 ∨ i = 2 ∨ i = 3 := by omega
    rcases this with rfl | rfl | rfl | rfl
    · exact e0
    · have := e3 hi3; omega
    · have := e4 hi3; omega
    · have := e5 hi3; omega
theorem valid_l (s : ByteArray) (hs : s.size ≤ 9223372036854775807) : ∀ (j k pos : Nat), s.size ≤ pos + j → pos ≤ s.size → hayrickref10_Valid.l0 (k + 1 + j) s pos = some ((s.data.toList.drop pos).all okByte)
  | 0, k, pos, hj, hp => by
    have : s.data.toList.drop pos = [] := List.drop_eq_nil_of_le (by rw [← Lib.size_eq]; omega)
    rw [hayrickref10_Valid.l0, if_neg (by omega), this]
    rfl
  | j + 1, k, pos, hj, hp => by
    show hayrickref10_Valid.l0 (k + 1 + j + 1) s pos = _
    by_cases h : pos < s.size
    · have hd : s.data.toList.drop pos = s.data.toList.getD pos 0 :: s.data.toList.drop (pos + 1) := by
        have h' : pos < s.data.toList.length := by rw [← Lib.size_eq]; exact h
        rw [List.drop_eq_getElem_cons h']
        simp [List.getD, h]
      have e := valid_l s hs j k (pos + 1) (by omega) (by omega)
      rw [hayrickref10_Valid.l0, if_pos (by omega), if_pos (by omega), bt_get, IntWalk.wrap64_in _ (by omega), ← Int.natCast_succ, e, hd, List.all_cons]
      unfold okByte
      by_cases c1 : (s.data.toList.getD pos 0).toNat = 47
      · rw [if_pos (by omega), decide_eq_true c1]; rfl
      rw [if_neg (by omega), decide_eq_false c1]
      by_cases c2 : (s.data.toList.getD pos 0).toNat < 32
      · rw [if_pos (by omega), decide_eq_true c2]; rfl
      rw [if_neg (by omega), decide_eq_false c2]
      by_cases c3 : (s.data.toList.getD pos 0).toNat = 127
      · rw [if_pos (by omega), decide_eq_true c3]; rfl
      rw [if_neg (by omega), decide_eq_false c3]
      rfl
    · have : s.data.toList.drop pos = [] := List.drop_eq_nil_of_le (by rw [← Lib.size_eq]; omega)
      rw [hayrickref10_Valid.l0, if_neg (by omega), this]
      rfl
theorem valid_f (s : ByteArray) (hs : s.size ≤ 9223372036854775807) (k : Nat) (hk : s.size + 13 ≤ k) : hayrickref10_Valid.f k s = some (valid s.data.toList) := by
  obtain ⟨d, rfl⟩ : ∃ d, k = d + 1 + s.size + 1 := ⟨k - 2 - s.size, by omega⟩
  have ht : s.toList = s.data.toList := Lib.toList_data s
  have j0t : hayrickref10_Valid.j0 (d + 1 + s.size + 1) s true = some false := by rw [hayrickref10_Valid.j0, if_pos rfl]
  have j0f : hayrickref10_Valid.j0 (d + 1 + s.size + 1) s false = some (s.data.toList.all okByte) := by
    rw [hayrickref10_Valid.j0, if_neg (by decide)]
    exact valid_l s hs s.size d 0 (by omega) (by omega)
  unfold hayrickref10_Valid.f valid
  rw [← Lib.size_eq]
  by_cases c1 : s.size = 0
  · rw [if_pos (by omega), j0t, decide_eq_false (by omega)]; rfl
  rw [if_neg (by omega), decide_eq_true (by omega), Bool.true_and]
  by_cases c2 : s.size > 24
  · rw [if_pos (by omega), j0t, decide_eq_false (by omega)]; rfl
  rw [if_neg (by omega), decide_eq_true (by omega), Bool.true_and, whole_f s hs _ (by omega), Option.bind_some]
  cases hw : whole s.data.toList with
  | false => rw [if_neg (by decide), j0t]; rfl
  | true =>
    rw [if_pos rfl, Bool.true_and, ht]
    by_cases c3 : s.data.toList = [46]
    · rw [if_pos c3, j0t, decide_eq_false (by simp [c3])]; rfl
    rw [if_neg c3, decide_eq_true c3, Bool.true_and]
    by_cases c4 : s.data.toList = [46, 46]
    · have hb : (s.data.toList == ([46, 46] : List UInt8)) = true := by rw [c4]; rfl
      rw [hb, j0t, decide_eq_false (by simp [c4])]; rfl
    rw [beq_eq_false_iff_ne.2 c4, j0f, decide_eq_true c4, Bool.true_and, ok_bytes _ hw]
end Go.Proofs.YtneanbckmekdkaaDoor.NMV
