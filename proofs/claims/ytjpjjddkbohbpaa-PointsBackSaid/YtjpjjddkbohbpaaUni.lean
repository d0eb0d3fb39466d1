/- All and Spread, the program's and the document's: one answer, whatever comes in. -/
import Derived.Test.YtjpjjddkbohbpaaRefSpread
namespace Go.Proofs.YtjpjjddkbohbpaaX
open Go.RowKit Go.Proofs.YtjpjjddkbohbpaaW.PrintWords
set_option linter.unusedVariables false
def allR (a k s l : Int) (ds : List Int) (p : Int) (xs : List Int) : List Int × Int := if mayB a k s l ds p = true then (allN ds xs (blk s).toNat, 0) else ([], 1)
/-- The inode's cells, the numbers, the error. -/
def spreadR (a k s l : Int) (xs : List Int) : Array Value × List Int × Int :=
  if (mayB a k s l [0, 0, 0, 0, 0, 0] 0 && decide ((xs.length : Int) = blk s)) = true then (inoCells a k s l (xs.getD 0 0) (xs.getD 1 0) (xs.getD 2 0) (xs.getD 3 0) (xs.getD 4 0) (xs.getD 5 0) 0, xs.drop 6, 0) else (inoCells 0 0 0 0 0 0 0 0 0 0 0, [], 1)
theorem may_blk {a k s l p : Int} {ds : List Int} (h : mayB a k s l ds p = true) : ∃ m : Nat, blk s = m ∧ m ≤ 34 := by
  have hr : RangeOk a k s l := by
    by_cases hr : RangeOk a k s l
    · exact hr
    · rw [may_no hr] at h; cases h
  have h3 := hr.2.2.1
  have h4 := hr.2.2.2.1
  have h5 : s ≤ 3808 := by
    unfold maxSize at h4
    split at h4 <;> omega
  refine ⟨(blk s).toNat, ?_, ?_⟩ <;> (unfold blk; split <;> omega)
section
variable (a k s l d0 d1 d2 d3 d4 d5 p : Int) (A : Option Addr) (n c : Nat) (xs : List Int) (w : World)
theorem all_any (hs : s ≤ 9223372036854775807) (hr : ReadsInt w .u32 A n xs) (hc : n ≤ c) :
    Calls Try.prog 14 #[.agg (inoCells a k s l d0 d1 d2 d3 d4 d5 p), .slice A n c] w fun e w' => ∃ v, e = .returned (.tuple #[v, .int .i64 (allR a k s l [d0, d1, d2, d3, d4, d5] p xs).2]) ∧ w'.ownsRow w.heap.size 38 1 v (allR a k s l [d0, d1, d2, d3, d4, d5] p xs).1.length (nums .u32 (allR a k s l [d0, d1, d2, d3, d4, d5] p xs).1) ∧ Below w.heap.size w w' := by
  cases hm : mayB a k s l [d0, d1, d2, d3, d4, d5] p with
  | true =>
    obtain ⟨m, hb, h34⟩ := may_blk hm
    have e1 : allR a k s l [d0, d1, d2, d3, d4, d5] p xs = (allN [d0, d1, d2, d3, d4, d5] xs m, 0) := by unfold allR; rw [if_pos hm, hb, Int.toNat_natCast]
    rw [e1]
    refine (all_yes a k s l d0 d1 d2 d3 d4 d5 p A n c xs m w hs hr hc hm hb h34).mono ?_
    rintro e w' ⟨v, rfl, ho, hb'⟩
    exact ⟨v, rfl, by rw [allN_length]; exact ho, hb'⟩
  | false =>
    have e1 : allR a k s l [d0, d1, d2, d3, d4, d5] p xs = ([], 1) := by unfold allR; rw [if_neg (by rw [hm]; simp)]
    rw [e1]
    refine (all_no a k s l d0 d1 d2 d3 d4 d5 p A n c w hs hm).mono ?_
    rintro e w' ⟨rfl, hb'⟩
    exact ⟨_, rfl, own_nil _ _ _ _, hb'⟩
theorem refAll_any (hs : s ≤ 9223372036854775807) (hr : ReadsInt w .u32 A n xs) (hc : n ≤ c) :
    Calls Try.prog 15 #[.agg (inoCells a k s l d0 d1 d2 d3 d4 d5 p), .slice A n c] w fun e w' => ∃ v, e = .returned (.tuple #[v, .int .i64 (allR a k s l [d0, d1, d2, d3, d4, d5] p xs).2]) ∧ w'.ownsRow w.heap.size 38 1 v (allR a k s l [d0, d1, d2, d3, d4, d5] p xs).1.length (nums .u32 (allR a k s l [d0, d1, d2, d3, d4, d5] p xs).1) ∧ Below w.heap.size w w' := by
  cases hm : mayB a k s l [d0, d1, d2, d3, d4, d5] p with
  | true =>
    obtain ⟨m, hb, h34⟩ := may_blk hm
    have e1 : allR a k s l [d0, d1, d2, d3, d4, d5] p xs = (allN [d0, d1, d2, d3, d4, d5] xs m, 0) := by unfold allR; rw [if_pos hm, hb, Int.toNat_natCast]
    rw [e1]
    refine (refAll_yes a k s l d0 d1 d2 d3 d4 d5 p A n c xs m w hs hr hc hm hb h34).mono ?_
    rintro e w' ⟨v, rfl, ho, hb'⟩
    exact ⟨v, rfl, by rw [allN_length]; exact ho, hb'⟩
  | false =>
    have e1 : allR a k s l [d0, d1, d2, d3, d4, d5] p xs = ([], 1) := by unfold allR; rw [if_neg (by rw [hm]; simp)]
    rw [e1]
    refine (refAll_no a k s l d0 d1 d2 d3 d4 d5 p A n c w hm).mono ?_
    rintro e w' ⟨rfl, hb'⟩
    exact ⟨_, rfl, own_nil _ _ _ _, hb'⟩
theorem spread_any (hs : s ≤ 9223372036854775807) (hr : ReadsInt w .u32 A n xs) (hn : n * 4 ≤ 140737488355328) (hc : n ≤ c) (hc63 : c ≤ 9223372036854775807) (hnil : A = none → n = 0 ∧ c = 0) :
    Calls Try.prog 17 #[.agg (inoCells a k s l d0 d1 d2 d3 d4 d5 p), .slice A n c] w fun e w' => ∃ v, e = .returned (.tuple #[.agg (spreadR a k s l xs).1, v, .int .i64 (spreadR a k s l xs).2.2]) ∧ w'.ownsRow w.heap.size 38 1 v (spreadR a k s l xs).2.1.length (nums .u32 (spreadR a k s l xs).2.1) ∧ Below w.heap.size w w' := by
  have hl : xs.length = n := hr.1
  cases hm : (mayB a k s l [0, 0, 0, 0, 0, 0] 0 && decide ((n : Int) = blk s)) with
  | true =>
    have e1 : spreadR a k s l xs = (inoCells a k s l (xs.getD 0 0) (xs.getD 1 0) (xs.getD 2 0) (xs.getD 3 0) (xs.getD 4 0) (xs.getD 5 0) 0, xs.drop 6, 0) := by unfold spreadR; rw [hl, if_pos hm]
    rw [e1]
    rw [Bool.and_eq_true, decide_eq_true_eq] at hm
    cases A with
    | none =>
      obtain ⟨rfl, rfl⟩ := hnil rfl
      obtain rfl : xs = [] := List.eq_nil_of_length_eq_zero hl
      refine (spread_nil a k s l d0 d1 d2 d3 d4 d5 p w hs hm.1 (by rw [← hm.2]; rfl)).mono ?_
      rintro e w' ⟨v, rfl, ho, hb'⟩
      exact ⟨v, rfl, ho, hb'⟩
    | some ad =>
      refine (spread_yes a k s l d0 d1 d2 d3 d4 d5 p ad n c xs w hs hr hn hc hc63 hm.1 hm.2.symm).mono ?_
      rintro e w' ⟨v, rfl, ho, hb'⟩
      exact ⟨v, rfl, by rw [List.length_drop, hl]; exact ho, hb'⟩
  | false =>
    have e1 : spreadR a k s l xs = (inoCells 0 0 0 0 0 0 0 0 0 0 0, [], 1) := by unfold spreadR; rw [hl, if_neg (by rw [hm]; simp)]
    rw [e1]
    refine (spread_no a k s l d0 d1 d2 d3 d4 d5 p A n c w hs (by omega) hm).mono ?_
    rintro e w' ⟨rfl, hb'⟩
    exact ⟨_, rfl, own_nil _ _ _ _, hb'⟩
theorem refSpread_any (hs : s ≤ 9223372036854775807) (hr : ReadsInt w .u32 A n xs) (hn : n * 4 ≤ 140737488355328) (hc : n ≤ c) :
    Calls Try.prog 18 #[.agg (inoCells a k s l d0 d1 d2 d3 d4 d5 p), .slice A n c] w fun e w' => ∃ v, e = .returned (.tuple #[.agg (spreadR a k s l xs).1, v, .int .i64 (spreadR a k s l xs).2.2]) ∧ w'.ownsRow w.heap.size 38 1 v (spreadR a k s l xs).2.1.length (nums .u32 (spreadR a k s l xs).2.1) ∧ Below w.heap.size w w' := by
  have hl : xs.length = n := hr.1
  cases hm : (mayB a k s l [0, 0, 0, 0, 0, 0] 0 && decide ((n : Int) = blk s)) with
  | true =>
    have e1 : spreadR a k s l xs = (inoCells a k s l (xs.getD 0 0) (xs.getD 1 0) (xs.getD 2 0) (xs.getD 3 0) (xs.getD 4 0) (xs.getD 5 0) 0, xs.drop 6, 0) := by unfold spreadR; rw [hl, if_pos hm]
    rw [e1]
    rw [Bool.and_eq_true, decide_eq_true_eq] at hm
    refine (refSpread_yes a k s l d0 d1 d2 d3 d4 d5 p A n c xs w hs hr hn hc hm.1 hm.2.symm).mono ?_
    rintro e w' ⟨v, rfl, ho, hb'⟩
    exact ⟨v, rfl, by rw [List.length_drop, hl]; exact ho, hb'⟩
  | false =>
    have e1 : spreadR a k s l xs = (inoCells 0 0 0 0 0 0 0 0 0 0 0, [], 1) := by unfold spreadR; rw [hl, if_neg (by rw [hm]; simp)]
    rw [e1]
    refine (refSpread_no a k s l d0 d1 d2 d3 d4 d5 p A n c w hs (by omega) hm).mono ?_
    rintro e w' ⟨rfl, hb'⟩
    exact ⟨_, rfl, own_nil _ _ _ _, hb'⟩
end
end Go.Proofs.YtjpjjddkbohbpaaX
