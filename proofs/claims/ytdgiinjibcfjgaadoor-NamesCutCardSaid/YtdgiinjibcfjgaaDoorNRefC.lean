/- The document's answers, plain (copy of PNamesCut). -/
import Derived.Test.YtdgiinjibcfjgaaDoorNRuneC
import Derived.Test.YtdgiinjibcfjgaaDoorNValid
namespace Go.Proofs.YtdgiinjibcfjgaaDoor.NMC
open Go.RowKit Go.Proofs.YtdgiinjibcfjgaaDoorW.PrintWords Go.Proofs.YtdgiinjibcfjgaaDoorW.PrintLast Go.Proofs.YtdgiinjibcfjgaaDoorW.PrintMore Go.Proofs.YtdgiinjibcfjgaaDoor.PNamesCut Go.Proofs.YtdgiinjibcfjgaaDoor.NM
set_option linter.unusedVariables false
theorem rune_at (s : ByteArray) (k pos : Nat) (hp : pos < s.size) : hayrickref10_Rune.f (k + 12) (s.extract pos s.size) = some (((decL (s.data.toList.drop pos)).1 : Int), ((decL (s.data.toList.drop pos)).2 : Int), stray (s.data.toList.drop pos)) := by
  rw [rune_f _ _ (by rw [Lib.size_eq, extract_end, List.length_drop, ← Lib.size_eq]; omega), extract_end]
theorem step_fact (s : ByteArray) (pos : Nat) (hp : pos < s.size) : s.data.toList.drop pos ≠ [] ∧ 1 ≤ (decL (s.data.toList.drop pos)).2 ∧ pos + (decL (s.data.toList.drop pos)).2 ≤ s.size := by
  have h := drop_ne s pos hp
  have h2 := decL_le h
  rw [List.length_drop, ← Lib.size_eq] at h2
  exact ⟨h, decL_pos _, by omega⟩
theorem cut_l (s : ByteArray) (n : Int) (hs : s.size ≤ 9223372036854775807) : ∀ (j k pos : Nat), s.size ≤ pos + j → pos ≤ s.size → hayrickref10_Cut.l0 (k + 13 + j) s n pos = some (s.extract 0 (pos + cutN (s.data.toList.drop pos) (n - pos)))
  | 0, k, pos, hj, hp => by
    have : s.data.toList.drop pos = [] := List.drop_eq_nil_of_le (by rw [← Lib.size_eq]; omega)
    show hayrickref10_Cut.l0 (k + 12 + 1) s n pos = _
    rw [hayrickref10_Cut.l0, if_neg (by omega), if_pos (by omega), if_pos (by omega), this, cut_nil, Int.toNat_natCast]
    rfl
  | j + 1, k, pos, hj, hp => by
    by_cases h : pos < s.size
    · obtain ⟨h1, h2, h3⟩ := step_fact s pos h
      show hayrickref10_Cut.l0 (k + 13 + j + 1) s n pos = _
      rw [hayrickref10_Cut.l0, if_pos (by omega), if_pos (by omega), if_pos (by omega), Int.toNat_natCast, show k + 13 + j = k + (j + 1) + 12 by omega, rune_at s _ pos h, Option.bind_some, cut_step h1]
      simp only []
      rw [IntWalk.wrap64_in _ (by omega)]
      have e := cut_l s n hs j k (pos + (decL (s.data.toList.drop pos)).2) (by omega) h3
      by_cases c : ((decL (s.data.toList.drop pos)).2 : Int) ≤ n - pos
      · rw [if_neg (by omega), if_pos c, List.drop_drop, show k + (j + 1) + 12 = k + 13 + j by omega, ← Int.natCast_add, e]
        rw [show n - ((pos + (decL (s.data.toList.drop pos)).2 : Nat) : Int) = n - pos - ((decL (s.data.toList.drop pos)).2 : Int) by push_cast; omega, Nat.add_assoc]
      · rw [if_pos (by omega), if_neg c]
        rfl
    · have : s.data.toList.drop pos = [] := List.drop_eq_nil_of_le (by rw [← Lib.size_eq]; omega)
      show hayrickref10_Cut.l0 (k + 13 + j + 1) s n pos = _
      rw [hayrickref10_Cut.l0, if_neg (by omega), if_pos (by omega), if_pos (by omega), this, cut_nil, Int.toNat_natCast]
      rfl
theorem cut_f (s : ByteArray) (n : Int) (hs : s.size ≤ 9223372036854775807) (k : Nat) (hk : s.size + 13 ≤ k) : hayrickref10_Cut.f k s n = some (s.extract 0 (cutN s.data.toList n)) := by
  obtain ⟨d, rfl⟩ : ∃ d, k = d + 13 + s.size := ⟨k - 13 - s.size, by omega⟩
  have := cut_l s n hs s.size d 0 (by omega) (by omega)
  rw [List.drop_zero, Nat.zero_add] at this
  rw [show n - ((0 : Nat) : Int) = n by omega] at this
  exact this
end Go.Proofs.YtdgiinjibcfjgaaDoor.NMC
