/- inode.May: whether an inode may be. -/
import Derived.Test.YtencgnhgjegknaaWMore
import Derived.Test.YtencgnhgjegknaaInd
import Derived.WalkSpells
namespace Go.Proofs.YtencgnhgjegknaaX
open Go.RowKit Go.Proofs.YtencgnhgjegknaaW.PrintWords Go.Proofs.YtencgnhgjegknaaW.PrintMore
attribute [local go_sem] max2_int min2_int max_two min_two
set_option linter.unusedVariables false
abbrev inoCells (a k s l d0 d1 d2 d3 d4 d5 p : Int) : Array Value := #[.int .i64 a, .int .i64 k, .int .i64 s, .int .i64 l, .int .u32 d0, .int .u32 d1, .int .u32 d2, .int .u32 d3, .int .u32 d4, .int .u32 d5, .int .u32 p]
def maxSize (k : Int) : Int := if k = 1 then 3808 else 1792
def maxLinks (k : Int) : Int := if k = 1 then 64 else 1
def RangeOk (a k s l : Int) : Prop := 1 ≤ a ∧ a ≤ 64 ∧ 0 ≤ s ∧ s ≤ maxSize k ∧ 1 ≤ l ∧ l ≤ maxLinks k ∧ (k = 1 ∨ k = 2 ∧ s % 28 = 0)
instance (a k s l : Int) : Decidable (RangeOk a k s l) := by unfold RangeOk; infer_instance
/-- Whether an inode may be: its numbers, its six pointers, its pointers' block. -/
def mayB (a k s l : Int) (ds : List Int) (p : Int) : Bool := decide (RangeOk a k s l) && (!anyNZ (ds.drop (min (blk s).toNat 6)) && (decide (6 < blk s) || p == 0))
theorem ino_cell (a k s l d0 d1 d2 d3 d4 d5 p : Int) (i : Nat) (hi : i < 6) : (inoCells a k s l d0 d1 d2 d3 d4 d5 p)[4 + i]? = some (.int .u32 ([d0, d1, d2, d3, d4, d5].getD i 0)) := by
  match i, hi with
  | 0, _ => rfl
  | 1, _ => rfl
  | 2, _ => rfl
  | 3, _ => rfl
  | 4, _ => rfl
  | 5, _ => rfl
/-- A part of an inode's six pointers, read where it lies. -/
theorem ino_reads {w : World} {g t : Nat} {a k s l d0 d1 d2 d3 d4 d5 p : Int} (hb : w.heap[g]? = some (.cells (inoCells a k s l d0 d1 d2 d3 d4 d5 p) t (0, 0))) (m : Nat) (hm : m ≤ 6) :
    ReadsInt w .u32 (some ⟨g, 4 + m, none⟩) (6 - m) ([d0, d1, d2, d3, d4, d5].drop m) := by
  refine ⟨by simp, by omega, fun _ => ⟨_, rfl, fun j hj => ?_⟩⟩
  have hadd : (⟨g, 4 + m, none⟩ : Addr).add j = ⟨g, 4 + (m + j), none⟩ := by unfold Addr.add; split <;> simp_all <;> omega
  rw [hadd, blk_cell hb, ino_cell a k s l d0 d1 d2 d3 d4 d5 p (m + j) (by omega)]
  simp [List.getD_eq_getElem?_getD, List.getElem?_drop]
theorem may_no {a k s l p : Int} {ds : List Int} (h : ¬ RangeOk a k s l) : mayB a k s l ds p = false := by unfold mayB; rw [decide_eq_false h]; rfl
theorem may_any_no {a k s l p : Int} {ds : List Int} {n : Int} (hn : blk s = n) (h : anyNZ (ds.drop (min n.toNat 6)) = true) : mayB a k s l ds p = false := by unfold mayB; rw [hn, h]; simp
theorem may_yes {a k s l p : Int} {ds : List Int} {n : Int} (hr : RangeOk a k s l) (hn : blk s = n) (h : anyNZ (ds.drop (min n.toNat 6)) = false) : mayB a k s l ds p = (decide (6 < n) || p == 0) := by unfold mayB; rw [decide_eq_true hr, hn, h]; simp
set_option maxHeartbeats 4000000 in
theorem may_kind (a k s l d0 d1 d2 d3 d4 d5 p : Int) (w : World) (h1 : (k == 1) = false) (h2 : (k == 2) = false) : Calls Try.prog 12 #[.agg #[.int .i64 a, .int .i64 k, .int .i64 s, .int .i64 l, .int .u32 d0, .int .u32 d1, .int .u32 d2, .int .u32 d3, .int .u32 d4, .int .u32 d5, .int .u32 p]] w fun e w' => e = .returned (.bool false) ∧ Below w.heap.size w w' := by
  have hu41 := Try.underlying25
  go_enter Try.func12, Try.ntmps12
  go_wp2_with (first | ((with_reducible refine gate_dst (N := 1) rfl ?_); refine box_event ?hg (N := 1) ?hd (cs := #[.int .i64 a, .int .i64 k, .int .i64 s, .int .i64 l, .int .u32 d0, .int .u32 d1, .int .u32 d2, .int .u32 d3, .int .u32 d4, .int .u32 d5, .int .u32 p]) (t := 25) ?hr ?_; (case hd => rfl); (case hg => rfl); (case hr => first | (go_simp; done) | (go_simp; rfl)); intro gb hg w1 hbox hb; have HB1 := Aside0.mk hb; have BK1 := Aside0.mk hbox; have c0 := (blk_cell hbox 0).trans (show (inoCells a k s l d0 d1 d2 d3 d4 d5 p)[0]? = some (.int .i64 a) from rfl); have c1 := (blk_cell hbox 1).trans (show (inoCells a k s l d0 d1 d2 d3 d4 d5 p)[1]? = some (.int .i64 k) from rfl); have c2 := (blk_cell hbox 2).trans (show (inoCells a k s l d0 d1 d2 d3 d4 d5 p)[2]? = some (.int .i64 s) from rfl); have c3 := (blk_cell hbox 3).trans (show (inoCells a k s l d0 d1 d2 d3 d4 d5 p)[3]? = some (.int .i64 l) from rfl); have c10 := (blk_cell hbox 10).trans (show (inoCells a k s l d0 d1 d2 d3 d4 d5 p)[10]? = some (.int .u32 p) from rfl); clear hb hbox hg))
  go_ret
  exact ⟨rfl, HB1.out⟩
set_option maxHeartbeats 4000000 in
theorem may_mod (a s l d0 d1 d2 d3 d4 d5 p : Int) (w : World) (h0 : 0 ≤ s) (h2 : (s % 28 != 0) = true) : Calls Try.prog 12 #[.agg #[.int .i64 a, .int .i64 2, .int .i64 s, .int .i64 l, .int .u32 d0, .int .u32 d1, .int .u32 d2, .int .u32 d3, .int .u32 d4, .int .u32 d5, .int .u32 p]] w fun e w' => e = .returned (.bool false) ∧ Below w.heap.size w w' := by
  have hu41 := Try.underlying25
  obtain ⟨k, hk⟩ : ∃ k : Int, k = 2 := ⟨_, rfl⟩
  rw [← hk]
  have h1 : (k == 1) = false := by rw [hk]; rfl
  have h3 : (k == 2) = true := by rw [hk]; rfl
  clear hk
  go_enter Try.func12, Try.ntmps12
  go_wp2_with (first | ((with_reducible refine gate_dst (N := 1) rfl ?_); refine box_event ?hg (N := 1) ?hd (cs := #[.int .i64 a, .int .i64 k, .int .i64 s, .int .i64 l, .int .u32 d0, .int .u32 d1, .int .u32 d2, .int .u32 d3, .int .u32 d4, .int .u32 d5, .int .u32 p]) (t := 25) ?hr ?_; (case hd => rfl); (case hg => rfl); (case hr => first | (go_simp; done) | (go_simp; rfl)); intro gb hg w1 hbox hb; have HB1 := Aside0.mk hb; have BK1 := Aside0.mk hbox; have c0 := (blk_cell hbox 0).trans (show (inoCells a k s l d0 d1 d2 d3 d4 d5 p)[0]? = some (.int .i64 a) from rfl); have c1 := (blk_cell hbox 1).trans (show (inoCells a k s l d0 d1 d2 d3 d4 d5 p)[1]? = some (.int .i64 k) from rfl); have c2 := (blk_cell hbox 2).trans (show (inoCells a k s l d0 d1 d2 d3 d4 d5 p)[2]? = some (.int .i64 s) from rfl); have c3 := (blk_cell hbox 3).trans (show (inoCells a k s l d0 d1 d2 d3 d4 d5 p)[3]? = some (.int .i64 l) from rfl); have c10 := (blk_cell hbox 10).trans (show (inoCells a k s l d0 d1 d2 d3 d4 d5 p)[10]? = some (.int .u32 p) from rfl); clear hb hbox hg))
  go_ret
  exact ⟨rfl, HB1.out⟩
set_option maxHeartbeats 4000000 in
theorem may_out10 (a s l d0 d1 d2 d3 d4 d5 p : Int) (w : World) (h0 : a < 1) : Calls Try.prog 12 #[.agg #[.int .i64 a, .int .i64 1, .int .i64 s, .int .i64 l, .int .u32 d0, .int .u32 d1, .int .u32 d2, .int .u32 d3, .int .u32 d4, .int .u32 d5, .int .u32 p]] w fun e w' => e = .returned (.bool false) ∧ Below w.heap.size w w' := by
  have hu41 := Try.underlying25
  obtain ⟨k, hk⟩ : ∃ k : Int, k = 1 := ⟨_, rfl⟩
  rw [← hk]
  have q1 : (k == 1) = true := by rw [hk]; rfl
  have q2 : (k == 2) = false := by rw [hk]; rfl
  clear hk
  go_enter Try.func12, Try.ntmps12
  go_wp2_with (first | ((with_reducible refine gate_dst (N := 1) rfl ?_); refine box_event ?hg (N := 1) ?hd (cs := #[.int .i64 a, .int .i64 k, .int .i64 s, .int .i64 l, .int .u32 d0, .int .u32 d1, .int .u32 d2, .int .u32 d3, .int .u32 d4, .int .u32 d5, .int .u32 p]) (t := 25) ?hr ?_; (case hd => rfl); (case hg => rfl); (case hr => first | (go_simp; done) | (go_simp; rfl)); intro gb hg w1 hbox hb; have HB1 := Aside0.mk hb; have BK1 := Aside0.mk hbox; have c0 := (blk_cell hbox 0).trans (show (inoCells a k s l d0 d1 d2 d3 d4 d5 p)[0]? = some (.int .i64 a) from rfl); have c1 := (blk_cell hbox 1).trans (show (inoCells a k s l d0 d1 d2 d3 d4 d5 p)[1]? = some (.int .i64 k) from rfl); have c2 := (blk_cell hbox 2).trans (show (inoCells a k s l d0 d1 d2 d3 d4 d5 p)[2]? = some (.int .i64 s) from rfl); have c3 := (blk_cell hbox 3).trans (show (inoCells a k s l d0 d1 d2 d3 d4 d5 p)[3]? = some (.int .i64 l) from rfl); have c10 := (blk_cell hbox 10).trans (show (inoCells a k s l d0 d1 d2 d3 d4 d5 p)[10]? = some (.int .u32 p) from rfl); clear hb hbox hg))
  all_goals go_ret
  all_goals exact ⟨rfl, HB1.out⟩
set_option maxHeartbeats 4000000 in
theorem may_out11 (a s l d0 d1 d2 d3 d4 d5 p : Int) (w : World) (h0 : 1 ≤ a) (h1 : 64 < a) : Calls Try.prog 12 #[.agg #[.int .i64 a, .int .i64 1, .int .i64 s, .int .i64 l, .int .u32 d0, .int .u32 d1, .int .u32 d2, .int .u32 d3, .int .u32 d4, .int .u32 d5, .int .u32 p]] w fun e w' => e = .returned (.bool false) ∧ Below w.heap.size w w' := by
  have hu41 := Try.underlying25
  obtain ⟨k, hk⟩ : ∃ k : Int, k = 1 := ⟨_, rfl⟩
  rw [← hk]
  have q1 : (k == 1) = true := by rw [hk]; rfl
  have q2 : (k == 2) = false := by rw [hk]; rfl
  clear hk
  go_enter Try.func12, Try.ntmps12
  go_wp2_with (first | ((with_reducible refine gate_dst (N := 1) rfl ?_); refine box_event ?hg (N := 1) ?hd (cs := #[.int .i64 a, .int .i64 k, .int .i64 s, .int .i64 l, .int .u32 d0, .int .u32 d1, .int .u32 d2, .int .u32 d3, .int .u32 d4, .int .u32 d5, .int .u32 p]) (t := 25) ?hr ?_; (case hd => rfl); (case hg => rfl); (case hr => first | (go_simp; done) | (go_simp; rfl)); intro gb hg w1 hbox hb; have HB1 := Aside0.mk hb; have BK1 := Aside0.mk hbox; have c0 := (blk_cell hbox 0).trans (show (inoCells a k s l d0 d1 d2 d3 d4 d5 p)[0]? = some (.int .i64 a) from rfl); have c1 := (blk_cell hbox 1).trans (show (inoCells a k s l d0 d1 d2 d3 d4 d5 p)[1]? = some (.int .i64 k) from rfl); have c2 := (blk_cell hbox 2).trans (show (inoCells a k s l d0 d1 d2 d3 d4 d5 p)[2]? = some (.int .i64 s) from rfl); have c3 := (blk_cell hbox 3).trans (show (inoCells a k s l d0 d1 d2 d3 d4 d5 p)[3]? = some (.int .i64 l) from rfl); have c10 := (blk_cell hbox 10).trans (show (inoCells a k s l d0 d1 d2 d3 d4 d5 p)[10]? = some (.int .u32 p) from rfl); clear hb hbox hg))
  all_goals go_ret
  all_goals exact ⟨rfl, HB1.out⟩
set_option maxHeartbeats 4000000 in
theorem may_out12 (a s l d0 d1 d2 d3 d4 d5 p : Int) (w : World) (h0 : 1 ≤ a) (h1 : a ≤ 64) (h2 : s < 0) : Calls Try.prog 12 #[.agg #[.int .i64 a, .int .i64 1, .int .i64 s, .int .i64 l, .int .u32 d0, .int .u32 d1, .int .u32 d2, .int .u32 d3, .int .u32 d4, .int .u32 d5, .int .u32 p]] w fun e w' => e = .returned (.bool false) ∧ Below w.heap.size w w' := by
  have hu41 := Try.underlying25
  obtain ⟨k, hk⟩ : ∃ k : Int, k = 1 := ⟨_, rfl⟩
  rw [← hk]
  have q1 : (k == 1) = true := by rw [hk]; rfl
  have q2 : (k == 2) = false := by rw [hk]; rfl
  clear hk
  go_enter Try.func12, Try.ntmps12
  go_wp2_with (first | ((with_reducible refine gate_dst (N := 1) rfl ?_); refine box_event ?hg (N := 1) ?hd (cs := #[.int .i64 a, .int .i64 k, .int .i64 s, .int .i64 l, .int .u32 d0, .int .u32 d1, .int .u32 d2, .int .u32 d3, .int .u32 d4, .int .u32 d5, .int .u32 p]) (t := 25) ?hr ?_; (case hd => rfl); (case hg => rfl); (case hr => first | (go_simp; done) | (go_simp; rfl)); intro gb hg w1 hbox hb; have HB1 := Aside0.mk hb; have BK1 := Aside0.mk hbox; have c0 := (blk_cell hbox 0).trans (show (inoCells a k s l d0 d1 d2 d3 d4 d5 p)[0]? = some (.int .i64 a) from rfl); have c1 := (blk_cell hbox 1).trans (show (inoCells a k s l d0 d1 d2 d3 d4 d5 p)[1]? = some (.int .i64 k) from rfl); have c2 := (blk_cell hbox 2).trans (show (inoCells a k s l d0 d1 d2 d3 d4 d5 p)[2]? = some (.int .i64 s) from rfl); have c3 := (blk_cell hbox 3).trans (show (inoCells a k s l d0 d1 d2 d3 d4 d5 p)[3]? = some (.int .i64 l) from rfl); have c10 := (blk_cell hbox 10).trans (show (inoCells a k s l d0 d1 d2 d3 d4 d5 p)[10]? = some (.int .u32 p) from rfl); clear hb hbox hg))
  all_goals go_ret
  all_goals exact ⟨rfl, HB1.out⟩
set_option maxHeartbeats 4000000 in
theorem may_out13 (a s l d0 d1 d2 d3 d4 d5 p : Int) (w : World) (h0 : 1 ≤ a) (h1 : a ≤ 64) (h2 : 0 ≤ s) (h3 : 3808 < s) : Calls Try.prog 12 #[.agg #[.int .i64 a, .int .i64 1, .int .i64 s, .int .i64 l, .int .u32 d0, .int .u32 d1, .int .u32 d2, .int .u32 d3, .int .u32 d4, .int .u32 d5, .int .u32 p]] w fun e w' => e = .returned (.bool false) ∧ Below w.heap.size w w' := by
  have hu41 := Try.underlying25
  obtain ⟨k, hk⟩ : ∃ k : Int, k = 1 := ⟨_, rfl⟩
  rw [← hk]
  have q1 : (k == 1) = true := by rw [hk]; rfl
  have q2 : (k == 2) = false := by rw [hk]; rfl
  clear hk
  go_enter Try.func12, Try.ntmps12
  go_wp2_with (first | ((with_reducible refine gate_dst (N := 1) rfl ?_); refine box_event ?hg (N := 1) ?hd (cs := #[.int .i64 a, .int .i64 k, .int .i64 s, .int .i64 l, .int .u32 d0, .int .u32 d1, .int .u32 d2, .int .u32 d3, .int .u32 d4, .int .u32 d5, .int .u32 p]) (t := 25) ?hr ?_; (case hd => rfl); (case hg => rfl); (case hr => first | (go_simp; done) | (go_simp; rfl)); intro gb hg w1 hbox hb; have HB1 := Aside0.mk hb; have BK1 := Aside0.mk hbox; have c0 := (blk_cell hbox 0).trans (show (inoCells a k s l d0 d1 d2 d3 d4 d5 p)[0]? = some (.int .i64 a) from rfl); have c1 := (blk_cell hbox 1).trans (show (inoCells a k s l d0 d1 d2 d3 d4 d5 p)[1]? = some (.int .i64 k) from rfl); have c2 := (blk_cell hbox 2).trans (show (inoCells a k s l d0 d1 d2 d3 d4 d5 p)[2]? = some (.int .i64 s) from rfl); have c3 := (blk_cell hbox 3).trans (show (inoCells a k s l d0 d1 d2 d3 d4 d5 p)[3]? = some (.int .i64 l) from rfl); have c10 := (blk_cell hbox 10).trans (show (inoCells a k s l d0 d1 d2 d3 d4 d5 p)[10]? = some (.int .u32 p) from rfl); clear hb hbox hg))
  all_goals go_ret
  all_goals exact ⟨rfl, HB1.out⟩
set_option maxHeartbeats 4000000 in
theorem may_out14 (a s l d0 d1 d2 d3 d4 d5 p : Int) (w : World) (h0 : 1 ≤ a) (h1 : a ≤ 64) (h2 : 0 ≤ s) (h3 : s ≤ 3808) (h4 : l < 1) : Calls Try.prog 12 #[.agg #[.int .i64 a, .int .i64 1, .int .i64 s, .int .i64 l, .int .u32 d0, .int .u32 d1, .int .u32 d2, .int .u32 d3, .int .u32 d4, .int .u32 d5, .int .u32 p]] w fun e w' => e = .returned (.bool false) ∧ Below w.heap.size w w' := by
  have hu41 := Try.underlying25
  obtain ⟨k, hk⟩ : ∃ k : Int, k = 1 := ⟨_, rfl⟩
  rw [← hk]
  have q1 : (k == 1) = true := by rw [hk]; rfl
  have q2 : (k == 2) = false := by rw [hk]; rfl
  clear hk
  go_enter Try.func12, Try.ntmps12
  go_wp2_with (first | ((with_reducible refine gate_dst (N := 1) rfl ?_); refine box_event ?hg (N := 1) ?hd (cs := #[.int .i64 a, .int .i64 k, .int .i64 s, .int .i64 l, .int .u32 d0, .int .u32 d1, .int .u32 d2, .int .u32 d3, .int .u32 d4, .int .u32 d5, .int .u32 p]) (t := 25) ?hr ?_; (case hd => rfl); (case hg => rfl); (case hr => first | (go_simp; done) | (go_simp; rfl)); intro gb hg w1 hbox hb; have HB1 := Aside0.mk hb; have BK1 := Aside0.mk hbox; have c0 := (blk_cell hbox 0).trans (show (inoCells a k s l d0 d1 d2 d3 d4 d5 p)[0]? = some (.int .i64 a) from rfl); have c1 := (blk_cell hbox 1).trans (show (inoCells a k s l d0 d1 d2 d3 d4 d5 p)[1]? = some (.int .i64 k) from rfl); have c2 := (blk_cell hbox 2).trans (show (inoCells a k s l d0 d1 d2 d3 d4 d5 p)[2]? = some (.int .i64 s) from rfl); have c3 := (blk_cell hbox 3).trans (show (inoCells a k s l d0 d1 d2 d3 d4 d5 p)[3]? = some (.int .i64 l) from rfl); have c10 := (blk_cell hbox 10).trans (show (inoCells a k s l d0 d1 d2 d3 d4 d5 p)[10]? = some (.int .u32 p) from rfl); clear hb hbox hg))
  all_goals go_ret
  all_goals exact ⟨rfl, HB1.out⟩
set_option maxHeartbeats 4000000 in
theorem may_out15 (a s l d0 d1 d2 d3 d4 d5 p : Int) (w : World) (h0 : 1 ≤ a) (h1 : a ≤ 64) (h2 : 0 ≤ s) (h3 : s ≤ 3808) (h4 : 1 ≤ l) (h5 : 64 < l) : Calls Try.prog 12 #[.agg #[.int .i64 a, .int .i64 1, .int .i64 s, .int .i64 l, .int .u32 d0, .int .u32 d1, .int .u32 d2, .int .u32 d3, .int .u32 d4, .int .u32 d5, .int .u32 p]] w fun e w' => e = .returned (.bool false) ∧ Below w.heap.size w w' := by
  have hu41 := Try.underlying25
  obtain ⟨k, hk⟩ : ∃ k : Int, k = 1 := ⟨_, rfl⟩
  rw [← hk]
  have q1 : (k == 1) = true := by rw [hk]; rfl
  have q2 : (k == 2) = false := by rw [hk]; rfl
  clear hk
  go_enter Try.func12, Try.ntmps12
  go_wp2_with (first | ((with_reducible refine gate_dst (N := 1) rfl ?_); refine box_event ?hg (N := 1) ?hd (cs := #[.int .i64 a, .int .i64 k, .int .i64 s, .int .i64 l, .int .u32 d0, .int .u32 d1, .int .u32 d2, .int .u32 d3, .int .u32 d4, .int .u32 d5, .int .u32 p]) (t := 25) ?hr ?_; (case hd => rfl); (case hg => rfl); (case hr => first | (go_simp; done) | (go_simp; rfl)); intro gb hg w1 hbox hb; have HB1 := Aside0.mk hb; have BK1 := Aside0.mk hbox; have c0 := (blk_cell hbox 0).trans (show (inoCells a k s l d0 d1 d2 d3 d4 d5 p)[0]? = some (.int .i64 a) from rfl); have c1 := (blk_cell hbox 1).trans (show (inoCells a k s l d0 d1 d2 d3 d4 d5 p)[1]? = some (.int .i64 k) from rfl); have c2 := (blk_cell hbox 2).trans (show (inoCells a k s l d0 d1 d2 d3 d4 d5 p)[2]? = some (.int .i64 s) from rfl); have c3 := (blk_cell hbox 3).trans (show (inoCells a k s l d0 d1 d2 d3 d4 d5 p)[3]? = some (.int .i64 l) from rfl); have c10 := (blk_cell hbox 10).trans (show (inoCells a k s l d0 d1 d2 d3 d4 d5 p)[10]? = some (.int .u32 p) from rfl); clear hb hbox hg))
  all_goals go_ret
  all_goals exact ⟨rfl, HB1.out⟩
set_option maxHeartbeats 4000000 in
theorem may_out20 (a s l d0 d1 d2 d3 d4 d5 p : Int) (w : World) (h0 : a < 1) : Calls Try.prog 12 #[.agg #[.int .i64 a, .int .i64 2, .int .i64 s, .int .i64 l, .int .u32 d0, .int .u32 d1, .int .u32 d2, .int .u32 d3, .int .u32 d4, .int .u32 d5, .int .u32 p]] w fun e w' => e = .returned (.bool false) ∧ Below w.heap.size w w' := by
  have hu41 := Try.underlying25
  obtain ⟨k, hk⟩ : ∃ k : Int, k = 2 := ⟨_, rfl⟩
  rw [← hk]
  have q1 : (k == 1) = false := by rw [hk]; rfl
  have q2 : (k == 2) = true := by rw [hk]; rfl
  clear hk
  go_enter Try.func12, Try.ntmps12
  go_wp2_with (first | ((with_reducible refine gate_dst (N := 1) rfl ?_); refine box_event ?hg (N := 1) ?hd (cs := #[.int .i64 a, .int .i64 k, .int .i64 s, .int .i64 l, .int .u32 d0, .int .u32 d1, .int .u32 d2, .int .u32 d3, .int .u32 d4, .int .u32 d5, .int .u32 p]) (t := 25) ?hr ?_; (case hd => rfl); (case hg => rfl); (case hr => first | (go_simp; done) | (go_simp; rfl)); intro gb hg w1 hbox hb; have HB1 := Aside0.mk hb; have BK1 := Aside0.mk hbox; have c0 := (blk_cell hbox 0).trans (show (inoCells a k s l d0 d1 d2 d3 d4 d5 p)[0]? = some (.int .i64 a) from rfl); have c1 := (blk_cell hbox 1).trans (show (inoCells a k s l d0 d1 d2 d3 d4 d5 p)[1]? = some (.int .i64 k) from rfl); have c2 := (blk_cell hbox 2).trans (show (inoCells a k s l d0 d1 d2 d3 d4 d5 p)[2]? = some (.int .i64 s) from rfl); have c3 := (blk_cell hbox 3).trans (show (inoCells a k s l d0 d1 d2 d3 d4 d5 p)[3]? = some (.int .i64 l) from rfl); have c10 := (blk_cell hbox 10).trans (show (inoCells a k s l d0 d1 d2 d3 d4 d5 p)[10]? = some (.int .u32 p) from rfl); clear hb hbox hg))
  all_goals go_ret
  all_goals exact ⟨rfl, HB1.out⟩
set_option maxHeartbeats 4000000 in
theorem may_out21 (a s l d0 d1 d2 d3 d4 d5 p : Int) (w : World) (h0 : 1 ≤ a) (h1 : 64 < a) : Calls Try.prog 12 #[.agg #[.int .i64 a, .int .i64 2, .int .i64 s, .int .i64 l, .int .u32 d0, .int .u32 d1, .int .u32 d2, .int .u32 d3, .int .u32 d4, .int .u32 d5, .int .u32 p]] w fun e w' => e = .returned (.bool false) ∧ Below w.heap.size w w' := by
  have hu41 := Try.underlying25
  obtain ⟨k, hk⟩ : ∃ k : Int, k = 2 := ⟨_, rfl⟩
  rw [← hk]
  have q1 : (k == 1) = false := by rw [hk]; rfl
  have q2 : (k == 2) = true := by rw [hk]; rfl
  clear hk
  go_enter Try.func12, Try.ntmps12
  go_wp2_with (first | ((with_reducible refine gate_dst (N := 1) rfl ?_); refine box_event ?hg (N := 1) ?hd (cs := #[.int .i64 a, .int .i64 k, .int .i64 s, .int .i64 l, .int .u32 d0, .int .u32 d1, .int .u32 d2, .int .u32 d3, .int .u32 d4, .int .u32 d5, .int .u32 p]) (t := 25) ?hr ?_; (case hd => rfl); (case hg => rfl); (case hr => first | (go_simp; done) | (go_simp; rfl)); intro gb hg w1 hbox hb; have HB1 := Aside0.mk hb; have BK1 := Aside0.mk hbox; have c0 := (blk_cell hbox 0).trans (show (inoCells a k s l d0 d1 d2 d3 d4 d5 p)[0]? = some (.int .i64 a) from rfl); have c1 := (blk_cell hbox 1).trans (show (inoCells a k s l d0 d1 d2 d3 d4 d5 p)[1]? = some (.int .i64 k) from rfl); have c2 := (blk_cell hbox 2).trans (show (inoCells a k s l d0 d1 d2 d3 d4 d5 p)[2]? = some (.int .i64 s) from rfl); have c3 := (blk_cell hbox 3).trans (show (inoCells a k s l d0 d1 d2 d3 d4 d5 p)[3]? = some (.int .i64 l) from rfl); have c10 := (blk_cell hbox 10).trans (show (inoCells a k s l d0 d1 d2 d3 d4 d5 p)[10]? = some (.int .u32 p) from rfl); clear hb hbox hg))
  all_goals go_ret
  all_goals exact ⟨rfl, HB1.out⟩
set_option maxHeartbeats 4000000 in
theorem may_out22 (a s l d0 d1 d2 d3 d4 d5 p : Int) (w : World) (h0 : 1 ≤ a) (h1 : a ≤ 64) (h2 : s < 0) : Calls Try.prog 12 #[.agg #[.int .i64 a, .int .i64 2, .int .i64 s, .int .i64 l, .int .u32 d0, .int .u32 d1, .int .u32 d2, .int .u32 d3, .int .u32 d4, .int .u32 d5, .int .u32 p]] w fun e w' => e = .returned (.bool false) ∧ Below w.heap.size w w' := by
  have hu41 := Try.underlying25
  obtain ⟨k, hk⟩ : ∃ k : Int, k = 2 := ⟨_, rfl⟩
  rw [← hk]
  have q1 : (k == 1) = false := by rw [hk]; rfl
  have q2 : (k == 2) = true := by rw [hk]; rfl
  clear hk
  go_enter Try.func12, Try.ntmps12
  go_wp2_with (first | ((with_reducible refine gate_dst (N := 1) rfl ?_); refine box_event ?hg (N := 1) ?hd (cs := #[.int .i64 a, .int .i64 k, .int .i64 s, .int .i64 l, .int .u32 d0, .int .u32 d1, .int .u32 d2, .int .u32 d3, .int .u32 d4, .int .u32 d5, .int .u32 p]) (t := 25) ?hr ?_; (case hd => rfl); (case hg => rfl); (case hr => first | (go_simp; done) | (go_simp; rfl)); intro gb hg w1 hbox hb; have HB1 := Aside0.mk hb; have BK1 := Aside0.mk hbox; have c0 := (blk_cell hbox 0).trans (show (inoCells a k s l d0 d1 d2 d3 d4 d5 p)[0]? = some (.int .i64 a) from rfl); have c1 := (blk_cell hbox 1).trans (show (inoCells a k s l d0 d1 d2 d3 d4 d5 p)[1]? = some (.int .i64 k) from rfl); have c2 := (blk_cell hbox 2).trans (show (inoCells a k s l d0 d1 d2 d3 d4 d5 p)[2]? = some (.int .i64 s) from rfl); have c3 := (blk_cell hbox 3).trans (show (inoCells a k s l d0 d1 d2 d3 d4 d5 p)[3]? = some (.int .i64 l) from rfl); have c10 := (blk_cell hbox 10).trans (show (inoCells a k s l d0 d1 d2 d3 d4 d5 p)[10]? = some (.int .u32 p) from rfl); clear hb hbox hg))
  all_goals go_ret
  all_goals exact ⟨rfl, HB1.out⟩
set_option maxHeartbeats 4000000 in
theorem may_out23 (a s l d0 d1 d2 d3 d4 d5 p : Int) (w : World) (h0 : 1 ≤ a) (h1 : a ≤ 64) (h2 : 0 ≤ s) (h3 : 1792 < s) (hm : (s % 28 != 0) = false) : Calls Try.prog 12 #[.agg #[.int .i64 a, .int .i64 2, .int .i64 s, .int .i64 l, .int .u32 d0, .int .u32 d1, .int .u32 d2, .int .u32 d3, .int .u32 d4, .int .u32 d5, .int .u32 p]] w fun e w' => e = .returned (.bool false) ∧ Below w.heap.size w w' := by
  have hu41 := Try.underlying25
  obtain ⟨k, hk⟩ : ∃ k : Int, k = 2 := ⟨_, rfl⟩
  rw [← hk]
  have q1 : (k == 1) = false := by rw [hk]; rfl
  have q2 : (k == 2) = true := by rw [hk]; rfl
  clear hk
  go_enter Try.func12, Try.ntmps12
  go_wp2_with (first | ((with_reducible refine gate_dst (N := 1) rfl ?_); refine box_event ?hg (N := 1) ?hd (cs := #[.int .i64 a, .int .i64 k, .int .i64 s, .int .i64 l, .int .u32 d0, .int .u32 d1, .int .u32 d2, .int .u32 d3, .int .u32 d4, .int .u32 d5, .int .u32 p]) (t := 25) ?hr ?_; (case hd => rfl); (case hg => rfl); (case hr => first | (go_simp; done) | (go_simp; rfl)); intro gb hg w1 hbox hb; have HB1 := Aside0.mk hb; have BK1 := Aside0.mk hbox; have c0 := (blk_cell hbox 0).trans (show (inoCells a k s l d0 d1 d2 d3 d4 d5 p)[0]? = some (.int .i64 a) from rfl); have c1 := (blk_cell hbox 1).trans (show (inoCells a k s l d0 d1 d2 d3 d4 d5 p)[1]? = some (.int .i64 k) from rfl); have c2 := (blk_cell hbox 2).trans (show (inoCells a k s l d0 d1 d2 d3 d4 d5 p)[2]? = some (.int .i64 s) from rfl); have c3 := (blk_cell hbox 3).trans (show (inoCells a k s l d0 d1 d2 d3 d4 d5 p)[3]? = some (.int .i64 l) from rfl); have c10 := (blk_cell hbox 10).trans (show (inoCells a k s l d0 d1 d2 d3 d4 d5 p)[10]? = some (.int .u32 p) from rfl); clear hb hbox hg))
  all_goals go_ret
  all_goals exact ⟨rfl, HB1.out⟩
set_option maxHeartbeats 4000000 in
theorem may_out24 (a s l d0 d1 d2 d3 d4 d5 p : Int) (w : World) (h0 : 1 ≤ a) (h1 : a ≤ 64) (h2 : 0 ≤ s) (h3 : s ≤ 1792) (h4 : l < 1) (hm : (s % 28 != 0) = false) : Calls Try.prog 12 #[.agg #[.int .i64 a, .int .i64 2, .int .i64 s, .int .i64 l, .int .u32 d0, .int .u32 d1, .int .u32 d2, .int .u32 d3, .int .u32 d4, .int .u32 d5, .int .u32 p]] w fun e w' => e = .returned (.bool false) ∧ Below w.heap.size w w' := by
  have hu41 := Try.underlying25
  obtain ⟨k, hk⟩ : ∃ k : Int, k = 2 := ⟨_, rfl⟩
  rw [← hk]
  have q1 : (k == 1) = false := by rw [hk]; rfl
  have q2 : (k == 2) = true := by rw [hk]; rfl
  clear hk
  go_enter Try.func12, Try.ntmps12
  go_wp2_with (first | ((with_reducible refine gate_dst (N := 1) rfl ?_); refine box_event ?hg (N := 1) ?hd (cs := #[.int .i64 a, .int .i64 k, .int .i64 s, .int .i64 l, .int .u32 d0, .int .u32 d1, .int .u32 d2, .int .u32 d3, .int .u32 d4, .int .u32 d5, .int .u32 p]) (t := 25) ?hr ?_; (case hd => rfl); (case hg => rfl); (case hr => first | (go_simp; done) | (go_simp; rfl)); intro gb hg w1 hbox hb; have HB1 := Aside0.mk hb; have BK1 := Aside0.mk hbox; have c0 := (blk_cell hbox 0).trans (show (inoCells a k s l d0 d1 d2 d3 d4 d5 p)[0]? = some (.int .i64 a) from rfl); have c1 := (blk_cell hbox 1).trans (show (inoCells a k s l d0 d1 d2 d3 d4 d5 p)[1]? = some (.int .i64 k) from rfl); have c2 := (blk_cell hbox 2).trans (show (inoCells a k s l d0 d1 d2 d3 d4 d5 p)[2]? = some (.int .i64 s) from rfl); have c3 := (blk_cell hbox 3).trans (show (inoCells a k s l d0 d1 d2 d3 d4 d5 p)[3]? = some (.int .i64 l) from rfl); have c10 := (blk_cell hbox 10).trans (show (inoCells a k s l d0 d1 d2 d3 d4 d5 p)[10]? = some (.int .u32 p) from rfl); clear hb hbox hg))
  all_goals go_ret
  all_goals exact ⟨rfl, HB1.out⟩
set_option maxHeartbeats 4000000 in
theorem may_out25 (a s l d0 d1 d2 d3 d4 d5 p : Int) (w : World) (h0 : 1 ≤ a) (h1 : a ≤ 64) (h2 : 0 ≤ s) (h3 : s ≤ 1792) (h4 : 1 ≤ l) (h5 : 1 < l) (hm : (s % 28 != 0) = false) : Calls Try.prog 12 #[.agg #[.int .i64 a, .int .i64 2, .int .i64 s, .int .i64 l, .int .u32 d0, .int .u32 d1, .int .u32 d2, .int .u32 d3, .int .u32 d4, .int .u32 d5, .int .u32 p]] w fun e w' => e = .returned (.bool false) ∧ Below w.heap.size w w' := by
  have hu41 := Try.underlying25
  obtain ⟨k, hk⟩ : ∃ k : Int, k = 2 := ⟨_, rfl⟩
  rw [← hk]
  have q1 : (k == 1) = false := by rw [hk]; rfl
  have q2 : (k == 2) = true := by rw [hk]; rfl
  clear hk
  go_enter Try.func12, Try.ntmps12
  go_wp2_with (first | ((with_reducible refine gate_dst (N := 1) rfl ?_); refine box_event ?hg (N := 1) ?hd (cs := #[.int .i64 a, .int .i64 k, .int .i64 s, .int .i64 l, .int .u32 d0, .int .u32 d1, .int .u32 d2, .int .u32 d3, .int .u32 d4, .int .u32 d5, .int .u32 p]) (t := 25) ?hr ?_; (case hd => rfl); (case hg => rfl); (case hr => first | (go_simp; done) | (go_simp; rfl)); intro gb hg w1 hbox hb; have HB1 := Aside0.mk hb; have BK1 := Aside0.mk hbox; have c0 := (blk_cell hbox 0).trans (show (inoCells a k s l d0 d1 d2 d3 d4 d5 p)[0]? = some (.int .i64 a) from rfl); have c1 := (blk_cell hbox 1).trans (show (inoCells a k s l d0 d1 d2 d3 d4 d5 p)[1]? = some (.int .i64 k) from rfl); have c2 := (blk_cell hbox 2).trans (show (inoCells a k s l d0 d1 d2 d3 d4 d5 p)[2]? = some (.int .i64 s) from rfl); have c3 := (blk_cell hbox 3).trans (show (inoCells a k s l d0 d1 d2 d3 d4 d5 p)[3]? = some (.int .i64 l) from rfl); have c10 := (blk_cell hbox 10).trans (show (inoCells a k s l d0 d1 d2 d3 d4 d5 p)[10]? = some (.int .u32 p) from rfl); clear hb hbox hg))
  all_goals go_ret
  all_goals exact ⟨rfl, HB1.out⟩
end Go.Proofs.YtencgnhgjegknaaX
