/- PointsFiles: any inode, any numbers. -/
import Derived.Test.YtjpjjddkbohbpaaFilesWalk
import Derived.Test.YtjpjjddkbohbpaaWakes
namespace Go.Proofs.YtjpjjddkbohbpaaX
open Go.RowKit Go.Proofs.YtjpjjddkbohbpaaW.PrintWords
set_option linter.unusedVariables false
theorem allR_short (a k s l : Int) (ds : List Int) (p : Int) (xs : List Int) : (allR a k s l ds p xs).1.length ≤ 34 := by
  unfold allR
  split
  · rename_i h
    obtain ⟨m, hm, h34⟩ := may_blk h
    rw [hm]
    show (allN ds xs (m : Int).toNat).length ≤ 34
    rw [allN_length]; simpa using h34
  · exact Nat.zero_le _
theorem spreadR_short (a k s l : Int) (xs : List Int) (h : xs.length ≤ 9223372036854775806) : (spreadR a k s l xs).2.1.length ≤ 9223372036854775806 := by
  unfold spreadR
  split
  · show (xs.drop 6).length ≤ _
    rw [List.length_drop]; omega
  · exact Nat.zero_le _
theorem spreadR_cells (a k s l : Int) (xs : List Int) : ∃ b0 b1 b2 b3 b4 b5 b6 b7 b8 b9 b10, (spreadR a k s l xs).1 = inoCells b0 b1 b2 b3 b4 b5 b6 b7 b8 b9 b10 := by
  unfold spreadR
  split
  · exact ⟨_, _, _, _, _, _, _, _, _, _, _, rfl⟩
  · exact ⟨_, _, _, _, _, _, _, _, _, _, _, rfl⟩
theorem files_law (a k s l d0 d1 d2 d3 d4 d5 p : Int) (A1 A2 : Option Addr) (n1 c1 n2 c2 : Nat) (xs ys : List Int) (w : World) (hs : s ≤ 9223372036854775807)
    (hr1 : ReadsInt w .u32 A1 n1 xs) (hr2 : ReadsInt w .u32 A2 n2 ys) (h1 : n1 * 4 ≤ 140737488355328) (h2 : n2 * 4 ≤ 140737488355328) (hc1 : n1 ≤ c1) (hc2 : n2 ≤ c2) :
    Calls Try.prog 6 #[.agg (inoCells a k s l d0 d1 d2 d3 d4 d5 p), .slice A1 n1 c1, .slice A2 n2 c2] w fun e w' => e = .returned (.bool true) ∧ Below w.heap.size w w' := by
  obtain rfl : xs.length = n1 := hr1.1
  obtain rfl : ys.length = n2 := hr2.1
  obtain ⟨b0, b1, b2, b3, b4, b5, b6, b7, b8, b9, b10, hb⟩ := spreadR_cells a k s l ys
  have hy : ys.length ≤ 9223372036854775806 := by omega
  refine files_walk wakes_true a k s l d0 d1 d2 d3 d4 d5 p A1 A2 c1 c2 xs ys w (allR a k s l [d0, d1, d2, d3, d4, d5] p xs).1 (spreadR a k s l ys).2.1 (allR a k s l [d0, d1, d2, d3, d4, d5] p xs).2 (spreadR a k s l ys).2.2 b0 b1 b2 b3 b4 b5 b6 b7 b8 b9 b10
    (Nat.le_trans (allR_short _ _ _ _ _ _ _) (by decide)) (spreadR_short _ _ _ _ _ hy) ?_ ?_ ?_ ?_ hr1 hr2 h1 h2 hc1 hc2
  · intro W A n c hr hc
    exact all_any a k s l d0 d1 d2 d3 d4 d5 p A n c xs W hs hr hc
  · intro W A n c hr hc
    exact refAll_any a k s l d0 d1 d2 d3 d4 d5 p A n c xs W hs hr hc
  · intro W A n c hr hc hc63 hnil
    have := spread_any a k s l d0 d1 d2 d3 d4 d5 p A n c ys W hs hr (by rw [← hr.1]; exact h2) hc hc63 hnil
    rw [hb] at this
    exact this
  · intro W A n c hr hc
    have := refSpread_any a k s l d0 d1 d2 d3 d4 d5 p A n c ys W hs hr (by rw [← hr.1]; exact h2) hc
    rw [hb] at this
    exact this
end Go.Proofs.YtjpjjddkbohbpaaX
