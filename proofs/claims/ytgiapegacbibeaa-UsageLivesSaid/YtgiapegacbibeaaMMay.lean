import Derived.Test.YtgiapegacbibeaaWMore
import Derived.Test.YtgiapegacbibeaaMEv
import Derived.WalkSpells
section
/- inode.May: whether an inode may be. -/
namespace Go.Proofs.YtgiapegacbibeaaX
open Go.RowKit Go.Proofs.YtgiapegacbibeaaW.PrintWords Go.Proofs.YtgiapegacbibeaaW.PrintMore
attribute [local go_sem] max2_int min2_int max_two min_two
set_option linter.unusedVariables false
abbrev inoCells (a k s l d0 d1 d2 d3 d4 d5 p : Int) : Array Value := #[.int .i64 a, .int .i64 k, .int .i64 s, .int .i64 l, .int .u32 d0, .int .u32 d1, .int .u32 d2, .int .u32 d3, .int .u32 d4, .int .u32 d5, .int .u32 p]
def maxSize (k : Int) : Int := if k = 1 then 3808 else 1792
def maxLinks (k : Int) : Int := if k = 1 then 64 else 1
def RangeOk (a k s l : Int) : Prop := 1 ≤ a ∧ a ≤ 64 ∧ 0 ≤ s ∧ s ≤ maxSize k ∧ 1 ≤ l ∧ l ≤ maxLinks k ∧ (k = 1 ∨ k = 2 ∧ s % 28 = 0)
instance (a k s l : Int) : Decidable (RangeOk a k s l) := by unfold RangeOk; infer_instance
/-- Whether an inode may be: its numbers, its six pointers, its pointers' block. -/
def mayB (a k s l : Int) (ds : List Int) (p : Int) : Bool := decide (RangeOk a k s l) && (!anyNZ (ds.drop (min (blk s).toNat 6)) && (decide (6 < blk s) || p == 0))
theorem ino_cell (a k s l d0 d1 d2 d3 d4 d5 p : Int) (i : Nat) (hi : i < 6) : (inoCells a k s l d0 d1 d2 d3 d4 d5 p)[4 + i]? = some (.int .u32 ([d0, d1, d2, d3, d4, d5].getD i 0)) := by
  match i, hi with
  | 0, _ => rfl
  | 1, _ => rfl
  | 2, _ => rfl
  | 3, _ => rfl
  | 4, _ => rfl
  | 5, _ => rfl
/-- A part of an inode's six pointers, read where it lies. -/
theorem ino_reads {w : World} {g t : Nat} {a k s l d0 d1 d2 d3 d4 d5 p : Int} (hb : w.heap[g]? = some (.cells (inoCells a k s l d0 d1 d2 d3 d4 d5 p) t (0, 0))) (m : Nat) (hm : m ≤ 6) :
    ReadsInt w .u32 (some ⟨g, 4 + m, none⟩) (6 - m) ([d0, d1, d2, d3, d4, d5].drop m) := by
  refine ⟨by simp, by omega, fun _ => ⟨_, rfl, fun j hj => ?_⟩⟩
  have hadd : (⟨g, 4 + m, none⟩ : Addr).add j = ⟨g, 4 + (m + j), none⟩ := by unfold Addr.add; split <;> simp_all <;> omega
  rw [hadd, blk_cell hb, ino_cell a k s l d0 d1 d2 d3 d4 d5 p (m + j) (by omega)]
  simp [List.getD_eq_getElem?_getD, List.getElem?_drop]
theorem may_no {a k s l p : Int} {ds : List Int} (h : ¬ RangeOk a k s l) : mayB a k s l ds p = false := by unfold mayB; rw [decide_eq_false h]; rfl
theorem may_any_no {a k s l p : Int} {ds : List Int} {n : Int} (hn : blk s = n) (h : anyNZ (ds.drop (min n.toNat 6)) = true) : mayB a k s l ds p = false := by unfold mayB; rw [hn, h]; simp
theorem may_yes {a k s l p : Int} {ds : List Int} {n : Int} (hr : RangeOk a k s l) (hn : blk s = n) (h : anyNZ (ds.drop (min n.toNat 6)) = false) : mayB a k s l ds p = (decide (6 < n) || p == 0) := by unfold mayB; rw [decide_eq_true hr, hn, h]; simp
set_option maxHeartbeats 4000000 in
set_option maxRecDepth 100000 in
theorem may_kind (a k s l d0 d1 d2 d3 d4 d5 p : Int) (w : World) (h1 : (k == 1) = false) (h2 : (k == 2) = false) : Calls Try.prog 24 #[.agg #[.int .i64 a, .int .i64 k, .int .i64 s, .int .i64 l, .int .u32 d0, .int .u32 d1, .int .u32 d2, .int .u32 d3, .int .u32 d4, .int .u32 d5, .int .u32 p]] w fun e w' => e = .returned (.bool false) ∧ Below w.heap.size w w' := by
  have hu41 := Try.underlying57
  go_enter Try.func24, Try.ntmps24
  go_wp2_with (first | ((with_reducible refine gate_dst (N := 1) rfl ?_); refine box_event ?hg (N := 1) ?hd (cs := #[.int .i64 a, .int .i64 k, .int .i64 s, .int .i64 l, .int .u32 d0, .int .u32 d1, .int .u32 d2, .int .u32 d3, .int .u32 d4, .int .u32 d5, .int .u32 p]) (t := 57) ?hr ?_; (case hd => rfl); (case hg => rfl); (case hr => first | (go_simp; done) | (go_simp; rfl)); intro gb hg w1 hbox hb; have HB1 := Aside0.mk hb; have BK1 := Aside0.mk hbox; have c0 := (blk_cell hbox 0).trans (show (inoCells a k s l d0 d1 d2 d3 d4 d5 p)[0]? = some (.int .i64 a) from rfl); have c1 := (blk_cell hbox 1).trans (show (inoCells a k s l d0 d1 d2 d3 d4 d5 p)[1]? = some (.int .i64 k) from rfl); have c2 := (blk_cell hbox 2).trans (show (inoCells a k s l d0 d1 d2 d3 d4 d5 p)[2]? = some (.int .i64 s) from rfl); have c3 := (blk_cell hbox 3).trans (show (inoCells a k s l d0 d1 d2 d3 d4 d5 p)[3]? = some (.int .i64 l) from rfl); have c10 := (blk_cell hbox 10).trans (show (inoCells a k s l d0 d1 d2 d3 d4 d5 p)[10]? = some (.int .u32 p) from rfl); clear hb hbox hg))
  go_ret
  exact ⟨rfl, HB1.out⟩
set_option maxHeartbeats 4000000 in
set_option maxRecDepth 100000 in
theorem may_mod (a s l d0 d1 d2 d3 d4 d5 p : Int) (w : World) (h0 : 0 ≤ s) (h2 : (s % 28 != 0) = true) : Calls Try.prog 24 #[.agg #[.int .i64 a, .int .i64 2, .int .i64 s, .int .i64 l, .int .u32 d0, .int .u32 d1, .int .u32 d2, .int .u32 d3, .int .u32 d4, .int .u32 d5, .int .u32 p]] w fun e w' => e = .returned (.bool false) ∧ Below w.heap.size w w' := by
  have hu41 := Try.underlying57
  obtain ⟨k, hk⟩ : ∃ k : Int, k = 2 := ⟨_, rfl⟩
  rw [← hk]
  have h1 : (k == 1) = false := by rw [hk]; rfl
  have h3 : (k == 2) = true := by rw [hk]; rfl
  clear hk
  go_enter Try.func24, Try.ntmps24
  go_wp2_with (first | ((with_reducible refine gate_dst (N := 1) rfl ?_); refine box_event ?hg (N := 1) ?hd (cs := #[.int .i64 a, .int .i64 k, .int .i64 s, .int .i64 l, .int .u32 d0, .int .u32 d1, .int .u32 d2, .int .u32 d3, .int .u32 d4, .int .u32 d5, .int .u32 p]) (t := 57) ?hr ?_; (case hd => rfl); (case hg => rfl); (case hr => first | (go_simp; done) | (go_simp; rfl)); intro gb hg w1 hbox hb; have HB1 := Aside0.mk hb; have BK1 := Aside0.mk hbox; have c0 := (blk_cell hbox 0).trans (show (inoCells a k s l d0 d1 d2 d3 d4 d5 p)[0]? = some (.int .i64 a) from rfl); have c1 := (blk_cell hbox 1).trans (show (inoCells a k s l d0 d1 d2 d3 d4 d5 p)[1]? = some (.int .i64 k) from rfl); have c2 := (blk_cell hbox 2).trans (show (inoCells a k s l d0 d1 d2 d3 d4 d5 p)[2]? = some (.int .i64 s) from rfl); have c3 := (blk_cell hbox 3).trans (show (inoCells a k s l d0 d1 d2 d3 d4 d5 p)[3]? = some (.int .i64 l) from rfl); have c10 := (blk_cell hbox 10).trans (show (inoCells a k s l d0 d1 d2 d3 d4 d5 p)[10]? = some (.int .u32 p) from rfl); clear hb hbox hg))
  go_ret
  exact ⟨rfl, HB1.out⟩
set_option maxHeartbeats 4000000 in
set_option maxRecDepth 100000 in
theorem may_out10 (a s l d0 d1 d2 d3 d4 d5 p : Int) (w : World) (h0 : a < 1) : Calls Try.prog 24 #[.agg #[.int .i64 a, .int .i64 1, .int .i64 s, .int .i64 l, .int .u32 d0, .int .u32 d1, .int .u32 d2, .int .u32 d3, .int .u32 d4, .int .u32 d5, .int .u32 p]] w fun e w' => e = .returned (.bool false) ∧ Below w.heap.size w w' := by
  have hu41 := Try.underlying57
  obtain ⟨k, hk⟩ : ∃ k : Int, k = 1 := ⟨_, rfl⟩
  rw [← hk]
  have q1 : (k == 1) = true := by rw [hk]; rfl
  have q2 : (k == 2) = false := by rw [hk]; rfl
  clear hk
  go_enter Try.func24, Try.ntmps24
  go_wp2_with (first | ((with_reducible refine gate_dst (N := 1) rfl ?_); refine box_event ?hg (N := 1) ?hd (cs := #[.int .i64 a, .int .i64 k, .int .i64 s, .int .i64 l, .int .u32 d0, .int .u32 d1, .int .u32 d2, .int .u32 d3, .int .u32 d4, .int .u32 d5, .int .u32 p]) (t := 57) ?hr ?_; (case hd => rfl); (case hg => rfl); (case hr => first | (go_simp; done) | (go_simp; rfl)); intro gb hg w1 hbox hb; have HB1 := Aside0.mk hb; have BK1 := Aside0.mk hbox; have c0 := (blk_cell hbox 0).trans (show (inoCells a k s l d0 d1 d2 d3 d4 d5 p)[0]? = some (.int .i64 a) from rfl); have c1 := (blk_cell hbox 1).trans (show (inoCells a k s l d0 d1 d2 d3 d4 d5 p)[1]? = some (.int .i64 k) from rfl); have c2 := (blk_cell hbox 2).trans (show (inoCells a k s l d0 d1 d2 d3 d4 d5 p)[2]? = some (.int .i64 s) from rfl); have c3 := (blk_cell hbox 3).trans (show (inoCells a k s l d0 d1 d2 d3 d4 d5 p)[3]? = some (.int .i64 l) from rfl); have c10 := (blk_cell hbox 10).trans (show (inoCells a k s l d0 d1 d2 d3 d4 d5 p)[10]? = some (.int .u32 p) from rfl); clear hb hbox hg))
  all_goals go_ret
  all_goals exact ⟨rfl, HB1.out⟩
set_option maxHeartbeats 4000000 in
set_option maxRecDepth 100000 in
theorem may_out11 (a s l d0 d1 d2 d3 d4 d5 p : Int) (w : World) (h0 : 1 ≤ a) (h1 : 64 < a) : Calls Try.prog 24 #[.agg #[.int .i64 a, .int .i64 1, .int .i64 s, .int .i64 l, .int .u32 d0, .int .u32 d1, .int .u32 d2, .int .u32 d3, .int .u32 d4, .int .u32 d5, .int .u32 p]] w fun e w' => e = .returned (.bool false) ∧ Below w.heap.size w w' := by
  have hu41 := Try.underlying57
  obtain ⟨k, hk⟩ : ∃ k : Int, k = 1 := ⟨_, rfl⟩
  rw [← hk]
  have q1 : (k == 1) = true := by rw [hk]; rfl
  have q2 : (k == 2) = false := by rw [hk]; rfl
  clear hk
  go_enter Try.func24, Try.ntmps24
  go_wp2_with (first | ((with_reducible refine gate_dst (N := 1) rfl ?_); refine box_event ?hg (N := 1) ?hd (cs := #[.int .i64 a, .int .i64 k, .int .i64 s, .int .i64 l, .int .u32 d0, .int .u32 d1, .int .u32 d2, .int .u32 d3, .int .u32 d4, .int .u32 d5, .int .u32 p]) (t := 57) ?hr ?_; (case hd => rfl); (case hg => rfl); (case hr => first | (go_simp; done) | (go_simp; rfl)); intro gb hg w1 hbox hb; have HB1 := Aside0.mk hb; have BK1 := Aside0.mk hbox; have c0 := (blk_cell hbox 0).trans (show (inoCells a k s l d0 d1 d2 d3 d4 d5 p)[0]? = some (.int .i64 a) from rfl); have c1 := (blk_cell hbox 1).trans (show (inoCells a k s l d0 d1 d2 d3 d4 d5 p)[1]? = some (.int .i64 k) from rfl); have c2 := (blk_cell hbox 2).trans (show (inoCells a k s l d0 d1 d2 d3 d4 d5 p)[2]? = some (.int .i64 s) from rfl); have c3 := (blk_cell hbox 3).trans (show (inoCells a k s l d0 d1 d2 d3 d4 d5 p)[3]? = some (.int .i64 l) from rfl); have c10 := (blk_cell hbox 10).trans (show (inoCells a k s l d0 d1 d2 d3 d4 d5 p)[10]? = some (.int .u32 p) from rfl); clear hb hbox hg))
  all_goals go_ret
  all_goals exact ⟨rfl, HB1.out⟩
set_option maxHeartbeats 4000000 in
set_option maxRecDepth 100000 in
theorem may_out12 (a s l d0 d1 d2 d3 d4 d5 p : Int) (w : World) (h0 : 1 ≤ a) (h1 : a ≤ 64) (h2 : s < 0) : Calls Try.prog 24 #[.agg #[.int .i64 a, .int .i64 1, .int .i64 s, .int .i64 l, .int .u32 d0, .int .u32 d1, .int .u32 d2, .int .u32 d3, .int .u32 d4, .int .u32 d5, .int .u32 p]] w fun e w' => e = .returned (.bool false) ∧ Below w.heap.size w w' := by
  have hu41 := Try.underlying57
  obtain ⟨k, hk⟩ : ∃ k : Int, k = 1 := ⟨_, rfl⟩
  rw [← hk]
  have q1 : (k == 1) = true := by rw [hk]; rfl
  have q2 : (k == 2) = false := by rw [hk]; rfl
  clear hk
  go_enter Try.func24, Try.ntmps24
  go_wp2_with (first | ((with_reducible refine gate_dst (N := 1) rfl ?_); refine box_event ?hg (N := 1) ?hd (cs := #[.int .i64 a, .int .i64 k, .int .i64 s, .int .i64 l, .int .u32 d0, .int .u32 d1, .int .u32 d2, .int .u32 d3, .int .u32 d4, .int .u32 d5, .int .u32 p]) (t := 57) ?hr ?_; (case hd => rfl); (case hg => rfl); (case hr => first | (go_simp; done) | (go_simp; rfl)); intro gb hg w1 hbox hb; have HB1 := Aside0.mk hb; have BK1 := Aside0.mk hbox; have c0 := (blk_cell hbox 0).trans (show (inoCells a k s l d0 d1 d2 d3 d4 d5 p)[0]? = some (.int .i64 a) from rfl); have c1 := (blk_cell hbox 1).trans (show (inoCells a k s l d0 d1 d2 d3 d4 d5 p)[1]? = some (.int .i64 k) from rfl); have c2 := (blk_cell hbox 2).trans (show (inoCells a k s l d0 d1 d2 d3 d4 d5 p)[2]? = some (.int .i64 s) from rfl); have c3 := (blk_cell hbox 3).trans (show (inoCells a k s l d0 d1 d2 d3 d4 d5 p)[3]? = some (.int .i64 l) from rfl); have c10 := (blk_cell hbox 10).trans (show (inoCells a k s l d0 d1 d2 d3 d4 d5 p)[10]? = some (.int .u32 p) from rfl); clear hb hbox hg))
  all_goals go_ret
  all_goals exact ⟨rfl, HB1.out⟩
set_option maxHeartbeats 4000000 in
set_option maxRecDepth 100000 in
theorem may_out13 (a s l d0 d1 d2 d3 d4 d5 p : Int) (w : World) (h0 : 1 ≤ a) (h1 : a ≤ 64) (h2 : 0 ≤ s) (h3 : 3808 < s) : Calls Try.prog 24 #[.agg #[.int .i64 a, .int .i64 1, .int .i64 s, .int .i64 l, .int .u32 d0, .int .u32 d1, .int .u32 d2, .int .u32 d3, .int .u32 d4, .int .u32 d5, .int .u32 p]] w fun e w' => e = .returned (.bool false) ∧ Below w.heap.size w w' := by
  have hu41 := Try.underlying57
  obtain ⟨k, hk⟩ : ∃ k : Int, k = 1 := ⟨_, rfl⟩
  rw [← hk]
  have q1 : (k == 1) = true := by rw [hk]; rfl
  have q2 : (k == 2) = false := by rw [hk]; rfl
  clear hk
  go_enter Try.func24, Try.ntmps24
  go_wp2_with (first | ((with_reducible refine gate_dst (N := 1) rfl ?_); refine box_event ?hg (N := 1) ?hd (cs := #[.int .i64 a, .int .i64 k, .int .i64 s, .int .i64 l, .int .u32 d0, .int .u32 d1, .int .u32 d2, .int .u32 d3, .int .u32 d4, .int .u32 d5, .int .u32 p]) (t := 57) ?hr ?_; (case hd => rfl); (case hg => rfl); (case hr => first | (go_simp; done) | (go_simp; rfl)); intro gb hg w1 hbox hb; have HB1 := Aside0.mk hb; have BK1 := Aside0.mk hbox; have c0 := (blk_cell hbox 0).trans (show (inoCells a k s l d0 d1 d2 d3 d4 d5 p)[0]? = some (.int .i64 a) from rfl); have c1 := (blk_cell hbox 1).trans (show (inoCells a k s l d0 d1 d2 d3 d4 d5 p)[1]? = some (.int .i64 k) from rfl); have c2 := (blk_cell hbox 2).trans (show (inoCells a k s l d0 d1 d2 d3 d4 d5 p)[2]? = some (.int .i64 s) from rfl); have c3 := (blk_cell hbox 3).trans (show (inoCells a k s l d0 d1 d2 d3 d4 d5 p)[3]? = some (.int .i64 l) from rfl); have c10 := (blk_cell hbox 10).trans (show (inoCells a k s l d0 d1 d2 d3 d4 d5 p)[10]? = some (.int .u32 p) from rfl); clear hb hbox hg))
  all_goals go_ret
  all_goals exact ⟨rfl, HB1.out⟩
set_option maxHeartbeats 4000000 in
set_option maxRecDepth 100000 in
theorem may_out14 (a s l d0 d1 d2 d3 d4 d5 p : Int) (w : World) (h0 : 1 ≤ a) (h1 : a ≤ 64) (h2 : 0 ≤ s) (h3 : s ≤ 3808) (h4 : l < 1) : Calls Try.prog 24 #[.agg #[.int .i64 a, .int .i64 1, .int .i64 s, .int .i64 l, .int .u32 d0, .int .u32 d1, .int .u32 d2, .int .u32 d3, .int .u32 d4, .int .u32 d5, .int .u32 p]] w fun e w' => e = .returned (.bool false) ∧ Below w.heap.size w w' := by
  have hu41 := Try.underlying57
  obtain ⟨k, hk⟩ : ∃ k : Int, k = 1 := ⟨_, rfl⟩
  rw [← hk]
  have q1 : (k == 1) = true := by rw [hk]; rfl
  have q2 : (k == 2) = false := by rw [hk]; rfl
  clear hk
  go_enter Try.func24, Try.ntmps24
  go_wp2_with (first | ((with_reducible refine gate_dst (N := 1) rfl ?_); refine box_event ?hg (N := 1) ?hd (cs := #[.int .i64 a, .int .i64 k, .int .i64 s, .int .i64 l, .int .u32 d0, .int .u32 d1, .int .u32 d2, .int .u32 d3, .int .u32 d4, .int .u32 d5, .int .u32 p]) (t := 57) ?hr ?_; (case hd => rfl); (case hg => rfl); (case hr => first | (go_simp; done) | (go_simp; rfl)); intro gb hg w1 hbox hb; have HB1 := Aside0.mk hb; have BK1 := Aside0.mk hbox; have c0 := (blk_cell hbox 0).trans (show (inoCells a k s l d0 d1 d2 d3 d4 d5 p)[0]? = some (.int .i64 a) from rfl); have c1 := (blk_cell hbox 1).trans (show (inoCells a k s l d0 d1 d2 d3 d4 d5 p)[1]? = some (.int .i64 k) from rfl); have c2 := (blk_cell hbox 2).trans (show (inoCells a k s l d0 d1 d2 d3 d4 d5 p)[2]? = some (.int .i64 s) from rfl); have c3 := (blk_cell hbox 3).trans (show (inoCells a k s l d0 d1 d2 d3 d4 d5 p)[3]? = some (.int .i64 l) from rfl); have c10 := (blk_cell hbox 10).trans (show (inoCells a k s l d0 d1 d2 d3 d4 d5 p)[10]? = some (.int .u32 p) from rfl); clear hb hbox hg))
  all_goals go_ret
  all_goals exact ⟨rfl, HB1.out⟩
set_option maxHeartbeats 4000000 in
set_option maxRecDepth 100000 in
theorem may_out15 (a s l d0 d1 d2 d3 d4 d5 p : Int) (w : World) (h0 : 1 ≤ a) (h1 : a ≤ 64) (h2 : 0 ≤ s) (h3 : s ≤ 3808) (h4 : 1 ≤ l) (h5 : 64 < l) : Calls Try.prog 24 #[.agg #[.int .i64 a, .int .i64 1, .int .i64 s, .int .i64 l, .int .u32 d0, .int .u32 d1, .int .u32 d2, .int .u32 d3, .int .u32 d4, .int .u32 d5, .int .u32 p]] w fun e w' => e = .returned (.bool false) ∧ Below w.heap.size w w' := by
  have hu41 := Try.underlying57
  obtain ⟨k, hk⟩ : ∃ k : Int, k = 1 := ⟨_, rfl⟩
  rw [← hk]
  have q1 : (k == 1) = true := by rw [hk]; rfl
  have q2 : (k == 2) = false := by rw [hk]; rfl
  clear hk
  go_enter Try.func24, Try.ntmps24
  go_wp2_with (first | ((with_reducible refine gate_dst (N := 1) rfl ?_); refine box_event ?hg (N := 1) ?hd (cs := #[.int .i64 a, .int .i64 k, .int .i64 s, .int .i64 l, .int .u32 d0, .int .u32 d1, .int .u32 d2, .int .u32 d3, .int .u32 d4, .int .u32 d5, .int .u32 p]) (t := 57) ?hr ?_; (case hd => rfl); (case hg => rfl); (case hr => first | (go_simp; done) | (go_simp; rfl)); intro gb hg w1 hbox hb; have HB1 := Aside0.mk hb; have BK1 := Aside0.mk hbox; have c0 := (blk_cell hbox 0).trans (show (inoCells a k s l d0 d1 d2 d3 d4 d5 p)[0]? = some (.int .i64 a) from rfl); have c1 := (blk_cell hbox 1).trans (show (inoCells a k s l d0 d1 d2 d3 d4 d5 p)[1]? = some (.int .i64 k) from rfl); have c2 := (blk_cell hbox 2).trans (show (inoCells a k s l d0 d1 d2 d3 d4 d5 p)[2]? = some (.int .i64 s) from rfl); have c3 := (blk_cell hbox 3).trans (show (inoCells a k s l d0 d1 d2 d3 d4 d5 p)[3]? = some (.int .i64 l) from rfl); have c10 := (blk_cell hbox 10).trans (show (inoCells a k s l d0 d1 d2 d3 d4 d5 p)[10]? = some (.int .u32 p) from rfl); clear hb hbox hg))
  all_goals go_ret
  all_goals exact ⟨rfl, HB1.out⟩
set_option maxHeartbeats 4000000 in
set_option maxRecDepth 100000 in
theorem may_out20 (a s l d0 d1 d2 d3 d4 d5 p : Int) (w : World) (h0 : a < 1) : Calls Try.prog 24 #[.agg #[.int .i64 a, .int .i64 2, .int .i64 s, .int .i64 l, .int .u32 d0, .int .u32 d1, .int .u32 d2, .int .u32 d3, .int .u32 d4, .int .u32 d5, .int .u32 p]] w fun e w' => e = .returned (.bool false) ∧ Below w.heap.size w w' := by
  have hu41 := Try.underlying57
  obtain ⟨k, hk⟩ : ∃ k : Int, k = 2 := ⟨_, rfl⟩
  rw [← hk]
  have q1 : (k == 1) = false := by rw [hk]; rfl
  have q2 : (k == 2) = true := by rw [hk]; rfl
  clear hk
  go_enter Try.func24, Try.ntmps24
  go_wp2_with (first | ((with_reducible refine gate_dst (N := 1) rfl ?_); refine box_event ?hg (N := 1) ?hd (cs := #[.int .i64 a, .int .i64 k, .int .i64 s, .int .i64 l, .int .u32 d0, .int .u32 d1, .int .u32 d2, .int .u32 d3, .int .u32 d4, .int .u32 d5, .int .u32 p]) (t := 57) ?hr ?_; (case hd => rfl); (case hg => rfl); (case hr => first | (go_simp; done) | (go_simp; rfl)); intro gb hg w1 hbox hb; have HB1 := Aside0.mk hb; have BK1 := Aside0.mk hbox; have c0 := (blk_cell hbox 0).trans (show (inoCells a k s l d0 d1 d2 d3 d4 d5 p)[0]? = some (.int .i64 a) from rfl); have c1 := (blk_cell hbox 1).trans (show (inoCells a k s l d0 d1 d2 d3 d4 d5 p)[1]? = some (.int .i64 k) from rfl); have c2 := (blk_cell hbox 2).trans (show (inoCells a k s l d0 d1 d2 d3 d4 d5 p)[2]? = some (.int .i64 s) from rfl); have c3 := (blk_cell hbox 3).trans (show (inoCells a k s l d0 d1 d2 d3 d4 d5 p)[3]? = some (.int .i64 l) from rfl); have c10 := (blk_cell hbox 10).trans (show (inoCells a k s l d0 d1 d2 d3 d4 d5 p)[10]? = some (.int .u32 p) from rfl); clear hb hbox hg))
  all_goals go_ret
  all_goals exact ⟨rfl, HB1.out⟩
set_option maxHeartbeats 4000000 in
set_option maxRecDepth 100000 in
theorem may_out21 (a s l d0 d1 d2 d3 d4 d5 p : Int) (w : World) (h0 : 1 ≤ a) (h1 : 64 < a) : Calls Try.prog 24 #[.agg #[.int .i64 a, .int .i64 2, .int .i64 s, .int .i64 l, .int .u32 d0, .int .u32 d1, .int .u32 d2, .int .u32 d3, .int .u32 d4, .int .u32 d5, .int .u32 p]] w fun e w' => e = .returned (.bool false) ∧ Below w.heap.size w w' := by
  have hu41 := Try.underlying57
  obtain ⟨k, hk⟩ : ∃ k : Int, k = 2 := ⟨_, rfl⟩
  rw [← hk]
  have q1 : (k == 1) = false := by rw [hk]; rfl
  have q2 : (k == 2) = true := by rw [hk]; rfl
  clear hk
  go_enter Try.func24, Try.ntmps24
  go_wp2_with (first | ((with_reducible refine gate_dst (N := 1) rfl ?_); refine box_event ?hg (N := 1) ?hd (cs := #[.int .i64 a, .int .i64 k, .int .i64 s, .int .i64 l, .int .u32 d0, .int .u32 d1, .int .u32 d2, .int .u32 d3, .int .u32 d4, .int .u32 d5, .int .u32 p]) (t := 57) ?hr ?_; (case hd => rfl); (case hg => rfl); (case hr => first | (go_simp; done) | (go_simp; rfl)); intro gb hg w1 hbox hb; have HB1 := Aside0.mk hb; have BK1 := Aside0.mk hbox; have c0 := (blk_cell hbox 0).trans (show (inoCells a k s l d0 d1 d2 d3 d4 d5 p)[0]? = some (.int .i64 a) from rfl); have c1 := (blk_cell hbox 1).trans (show (inoCells a k s l d0 d1 d2 d3 d4 d5 p)[1]? = some (.int .i64 k) from rfl); have c2 := (blk_cell hbox 2).trans (show (inoCells a k s l d0 d1 d2 d3 d4 d5 p)[2]? = some (.int .i64 s) from rfl); have c3 := (blk_cell hbox 3).trans (show (inoCells a k s l d0 d1 d2 d3 d4 d5 p)[3]? = some (.int .i64 l) from rfl); have c10 := (blk_cell hbox 10).trans (show (inoCells a k s l d0 d1 d2 d3 d4 d5 p)[10]? = some (.int .u32 p) from rfl); clear hb hbox hg))
  all_goals go_ret
  all_goals exact ⟨rfl, HB1.out⟩
set_option maxHeartbeats 4000000 in
set_option maxRecDepth 100000 in
theorem may_out22 (a s l d0 d1 d2 d3 d4 d5 p : Int) (w : World) (h0 : 1 ≤ a) (h1 : a ≤ 64) (h2 : s < 0) : Calls Try.prog 24 #[.agg #[.int .i64 a, .int .i64 2, .int .i64 s, .int .i64 l, .int .u32 d0, .int .u32 d1, .int .u32 d2, .int .u32 d3, .int .u32 d4, .int .u32 d5, .int .u32 p]] w fun e w' => e = .returned (.bool false) ∧ Below w.heap.size w w' := by
  have hu41 := Try.underlying57
  obtain ⟨k, hk⟩ : ∃ k : Int, k = 2 := ⟨_, rfl⟩
  rw [← hk]
  have q1 : (k == 1) = false := by rw [hk]; rfl
  have q2 : (k == 2) = true := by rw [hk]; rfl
  clear hk
  go_enter Try.func24, Try.ntmps24
  go_wp2_with (first | ((with_reducible refine gate_dst (N := 1) rfl ?_); refine box_event ?hg (N := 1) ?hd (cs := #[.int .i64 a, .int .i64 k, .int .i64 s, .int .i64 l, .int .u32 d0, .int .u32 d1, .int .u32 d2, .int .u32 d3, .int .u32 d4, .int .u32 d5, .int .u32 p]) (t := 57) ?hr ?_; (case hd => rfl); (case hg => rfl); (case hr => first | (go_simp; done) | (go_simp; rfl)); intro gb hg w1 hbox hb; have HB1 := Aside0.mk hb; have BK1 := Aside0.mk hbox; have c0 := (blk_cell hbox 0).trans (show (inoCells a k s l d0 d1 d2 d3 d4 d5 p)[0]? = some (.int .i64 a) from rfl); have c1 := (blk_cell hbox 1).trans (show (inoCells a k s l d0 d1 d2 d3 d4 d5 p)[1]? = some (.int .i64 k) from rfl); have c2 := (blk_cell hbox 2).trans (show (inoCells a k s l d0 d1 d2 d3 d4 d5 p)[2]? = some (.int .i64 s) from rfl); have c3 := (blk_cell hbox 3).trans (show (inoCells a k s l d0 d1 d2 d3 d4 d5 p)[3]? = some (.int .i64 l) from rfl); have c10 := (blk_cell hbox 10).trans (show (inoCells a k s l d0 d1 d2 d3 d4 d5 p)[10]? = some (.int .u32 p) from rfl); clear hb hbox hg))
  all_goals go_ret
  all_goals exact ⟨rfl, HB1.out⟩
set_option maxHeartbeats 4000000 in
set_option maxRecDepth 100000 in
theorem may_out23 (a s l d0 d1 d2 d3 d4 d5 p : Int) (w : World) (h0 : 1 ≤ a) (h1 : a ≤ 64) (h2 : 0 ≤ s) (h3 : 1792 < s) (hm : (s % 28 != 0) = false) : Calls Try.prog 24 #[.agg #[.int .i64 a, .int .i64 2, .int .i64 s, .int .i64 l, .int .u32 d0, .int .u32 d1, .int .u32 d2, .int .u32 d3, .int .u32 d4, .int .u32 d5, .int .u32 p]] w fun e w' => e = .returned (.bool false) ∧ Below w.heap.size w w' := by
  have hu41 := Try.underlying57
  obtain ⟨k, hk⟩ : ∃ k : Int, k = 2 := ⟨_, rfl⟩
  rw [← hk]
  have q1 : (k == 1) = false := by rw [hk]; rfl
  have q2 : (k == 2) = true := by rw [hk]; rfl
  clear hk
  go_enter Try.func24, Try.ntmps24
  go_wp2_with (first | ((with_reducible refine gate_dst (N := 1) rfl ?_); refine box_event ?hg (N := 1) ?hd (cs := #[.int .i64 a, .int .i64 k, .int .i64 s, .int .i64 l, .int .u32 d0, .int .u32 d1, .int .u32 d2, .int .u32 d3, .int .u32 d4, .int .u32 d5, .int .u32 p]) (t := 57) ?hr ?_; (case hd => rfl); (case hg => rfl); (case hr => first | (go_simp; done) | (go_simp; rfl)); intro gb hg w1 hbox hb; have HB1 := Aside0.mk hb; have BK1 := Aside0.mk hbox; have c0 := (blk_cell hbox 0).trans (show (inoCells a k s l d0 d1 d2 d3 d4 d5 p)[0]? = some (.int .i64 a) from rfl); have c1 := (blk_cell hbox 1).trans (show (inoCells a k s l d0 d1 d2 d3 d4 d5 p)[1]? = some (.int .i64 k) from rfl); have c2 := (blk_cell hbox 2).trans (show (inoCells a k s l d0 d1 d2 d3 d4 d5 p)[2]? = some (.int .i64 s) from rfl); have c3 := (blk_cell hbox 3).trans (show (inoCells a k s l d0 d1 d2 d3 d4 d5 p)[3]? = some (.int .i64 l) from rfl); have c10 := (blk_cell hbox 10).trans (show (inoCells a k s l d0 d1 d2 d3 d4 d5 p)[10]? = some (.int .u32 p) from rfl); clear hb hbox hg))
  all_goals go_ret
  all_goals exact ⟨rfl, HB1.out⟩
set_option maxHeartbeats 4000000 in
set_option maxRecDepth 100000 in
theorem may_out24 (a s l d0 d1 d2 d3 d4 d5 p : Int) (w : World) (h0 : 1 ≤ a) (h1 : a ≤ 64) (h2 : 0 ≤ s) (h3 : s ≤ 1792) (h4 : l < 1) (hm : (s % 28 != 0) = false) : Calls Try.prog 24 #[.agg #[.int .i64 a, .int .i64 2, .int .i64 s, .int .i64 l, .int .u32 d0, .int .u32 d1, .int .u32 d2, .int .u32 d3, .int .u32 d4, .int .u32 d5, .int .u32 p]] w fun e w' => e = .returned (.bool false) ∧ Below w.heap.size w w' := by
  have hu41 := Try.underlying57
  obtain ⟨k, hk⟩ : ∃ k : Int, k = 2 := ⟨_, rfl⟩
  rw [← hk]
  have q1 : (k == 1) = false := by rw [hk]; rfl
  have q2 : (k == 2) = true := by rw [hk]; rfl
  clear hk
  go_enter Try.func24, Try.ntmps24
  go_wp2_with (first | ((with_reducible refine gate_dst (N := 1) rfl ?_); refine box_event ?hg (N := 1) ?hd (cs := #[.int .i64 a, .int .i64 k, .int .i64 s, .int .i64 l, .int .u32 d0, .int .u32 d1, .int .u32 d2, .int .u32 d3, .int .u32 d4, .int .u32 d5, .int .u32 p]) (t := 57) ?hr ?_; (case hd => rfl); (case hg => rfl); (case hr => first | (go_simp; done) | (go_simp; rfl)); intro gb hg w1 hbox hb; have HB1 := Aside0.mk hb; have BK1 := Aside0.mk hbox; have c0 := (blk_cell hbox 0).trans (show (inoCells a k s l d0 d1 d2 d3 d4 d5 p)[0]? = some (.int .i64 a) from rfl); have c1 := (blk_cell hbox 1).trans (show (inoCells a k s l d0 d1 d2 d3 d4 d5 p)[1]? = some (.int .i64 k) from rfl); have c2 := (blk_cell hbox 2).trans (show (inoCells a k s l d0 d1 d2 d3 d4 d5 p)[2]? = some (.int .i64 s) from rfl); have c3 := (blk_cell hbox 3).trans (show (inoCells a k s l d0 d1 d2 d3 d4 d5 p)[3]? = some (.int .i64 l) from rfl); have c10 := (blk_cell hbox 10).trans (show (inoCells a k s l d0 d1 d2 d3 d4 d5 p)[10]? = some (.int .u32 p) from rfl); clear hb hbox hg))
  all_goals go_ret
  all_goals exact ⟨rfl, HB1.out⟩
set_option maxHeartbeats 4000000 in
set_option maxRecDepth 100000 in
theorem may_out25 (a s l d0 d1 d2 d3 d4 d5 p : Int) (w : World) (h0 : 1 ≤ a) (h1 : a ≤ 64) (h2 : 0 ≤ s) (h3 : s ≤ 1792) (h4 : 1 ≤ l) (h5 : 1 < l) (hm : (s % 28 != 0) = false) : Calls Try.prog 24 #[.agg #[.int .i64 a, .int .i64 2, .int .i64 s, .int .i64 l, .int .u32 d0, .int .u32 d1, .int .u32 d2, .int .u32 d3, .int .u32 d4, .int .u32 d5, .int .u32 p]] w fun e w' => e = .returned (.bool false) ∧ Below w.heap.size w w' := by
  have hu41 := Try.underlying57
  obtain ⟨k, hk⟩ : ∃ k : Int, k = 2 := ⟨_, rfl⟩
  rw [← hk]
  have q1 : (k == 1) = false := by rw [hk]; rfl
  have q2 : (k == 2) = true := by rw [hk]; rfl
  clear hk
  go_enter Try.func24, Try.ntmps24
  go_wp2_with (first | ((with_reducible refine gate_dst (N := 1) rfl ?_); refine box_event ?hg (N := 1) ?hd (cs := #[.int .i64 a, .int .i64 k, .int .i64 s, .int .i64 l, .int .u32 d0, .int .u32 d1, .int .u32 d2, .int .u32 d3, .int .u32 d4, .int .u32 d5, .int .u32 p]) (t := 57) ?hr ?_; (case hd => rfl); (case hg => rfl); (case hr => first | (go_simp; done) | (go_simp; rfl)); intro gb hg w1 hbox hb; have HB1 := Aside0.mk hb; have BK1 := Aside0.mk hbox; have c0 := (blk_cell hbox 0).trans (show (inoCells a k s l d0 d1 d2 d3 d4 d5 p)[0]? = some (.int .i64 a) from rfl); have c1 := (blk_cell hbox 1).trans (show (inoCells a k s l d0 d1 d2 d3 d4 d5 p)[1]? = some (.int .i64 k) from rfl); have c2 := (blk_cell hbox 2).trans (show (inoCells a k s l d0 d1 d2 d3 d4 d5 p)[2]? = some (.int .i64 s) from rfl); have c3 := (blk_cell hbox 3).trans (show (inoCells a k s l d0 d1 d2 d3 d4 d5 p)[3]? = some (.int .i64 l) from rfl); have c10 := (blk_cell hbox 10).trans (show (inoCells a k s l d0 d1 d2 d3 d4 d5 p)[10]? = some (.int .u32 p) from rfl); clear hb hbox hg))
  all_goals go_ret
  all_goals exact ⟨rfl, HB1.out⟩
end Go.Proofs.YtgiapegacbibeaaX

end

section
/- inode.May, all numbers in range. -/
namespace Go.Proofs.YtgiapegacbibeaaX
open Go.RowKit Go.Proofs.YtgiapegacbibeaaW.PrintWords Go.Proofs.YtgiapegacbibeaaW.PrintMore
attribute [local go_sem] max2_int min2_int max_two min_two
set_option linter.unusedVariables false
set_option maxHeartbeats 4000000 in
set_option maxRecDepth 100000 in
theorem may_in10 (a s l d0 d1 d2 d3 d4 d5 p : Int) (w : World) (b : Bool) (h0 : 1 ≤ a) (h1 : a ≤ 64) (h2 : 0 ≤ s) (h3 : s ≤ 3808) (h4 : 1 ≤ l) (h5 : l ≤ 64) (hn : blk s = 0) (hb : anyNZ ([d0, d1, d2, d3, d4, d5].drop 0) = b) : Calls Try.prog 24 #[.agg #[.int .i64 a, .int .i64 1, .int .i64 s, .int .i64 l, .int .u32 d0, .int .u32 d1, .int .u32 d2, .int .u32 d3, .int .u32 d4, .int .u32 d5, .int .u32 p]] w fun e w' => e = .returned (.bool (!b && (p == 0))) ∧ Below w.heap.size w w' := by
  have hu41 := Try.underlying57
  have HN := Aside0.mk hn
  have HA := Aside0.mk hb
  obtain ⟨k, hk⟩ : ∃ k : Int, k = 1 := ⟨_, rfl⟩
  rw [← hk]
  have q1 : (k == 1) = true := by rw [hk]; rfl
  have q2 : (k == 2) = false := by rw [hk]; rfl
  clear hk hn hb
  cases b
  all_goals
    go_enter Try.func24, Try.ntmps24
    go_wp2_with (first | ((with_reducible refine gate_dst (N := 1) rfl ?_); refine box_event ?hg (N := 1) ?hd (cs := #[.int .i64 a, .int .i64 k, .int .i64 s, .int .i64 l, .int .u32 d0, .int .u32 d1, .int .u32 d2, .int .u32 d3, .int .u32 d4, .int .u32 d5, .int .u32 p]) (t := 57) ?hr ?_; (case hd => rfl); (case hg => rfl); (case hr => first | (go_simp; done) | (go_simp; rfl)); intro gb hg w1 hbox hb; have HB1 := Aside0.mk hb; have BK1 := Aside0.mk hbox; have c0 := (blk_cell hbox 0).trans (show (inoCells a k s l d0 d1 d2 d3 d4 d5 p)[0]? = some (.int .i64 a) from rfl); have c1 := (blk_cell hbox 1).trans (show (inoCells a k s l d0 d1 d2 d3 d4 d5 p)[1]? = some (.int .i64 k) from rfl); have c2 := (blk_cell hbox 2).trans (show (inoCells a k s l d0 d1 d2 d3 d4 d5 p)[2]? = some (.int .i64 s) from rfl); have c3 := (blk_cell hbox 3).trans (show (inoCells a k s l d0 d1 d2 d3 d4 d5 p)[3]? = some (.int .i64 l) from rfl); have c10 := (blk_cell hbox 10).trans (show (inoCells a k s l d0 d1 d2 d3 d4 d5 p)[10]? = some (.int .u32 p) from rfl); clear hb hbox hg) | (go_at_call 31; refine (blocks_any s _ (by omega)).mono ?_; rw [HN.out]; rintro e w' ⟨rfl, rfl⟩) | (go_at_call 38; refine (contains_any _ _ _ ([d0, d1, d2, d3, d4, d5].drop 0) _ ?_).mono ?_; exact ino_reads BK1.out 0 (by omega); rw [HA.out]; rintro e w' ⟨rfl, rfl⟩))
    all_goals go_ret
    all_goals exact ⟨by first | rfl | (simp; done) | (simp [*]; done), HB1.out⟩
set_option maxHeartbeats 4000000 in
set_option maxRecDepth 100000 in
theorem may_in11 (a s l d0 d1 d2 d3 d4 d5 p : Int) (w : World) (b : Bool) (h0 : 1 ≤ a) (h1 : a ≤ 64) (h2 : 0 ≤ s) (h3 : s ≤ 3808) (h4 : 1 ≤ l) (h5 : l ≤ 64) (hn : blk s = 1) (hb : anyNZ ([d0, d1, d2, d3, d4, d5].drop 1) = b) : Calls Try.prog 24 #[.agg #[.int .i64 a, .int .i64 1, .int .i64 s, .int .i64 l, .int .u32 d0, .int .u32 d1, .int .u32 d2, .int .u32 d3, .int .u32 d4, .int .u32 d5, .int .u32 p]] w fun e w' => e = .returned (.bool (!b && (p == 0))) ∧ Below w.heap.size w w' := by
  have hu41 := Try.underlying57
  have HN := Aside0.mk hn
  have HA := Aside0.mk hb
  obtain ⟨k, hk⟩ : ∃ k : Int, k = 1 := ⟨_, rfl⟩
  rw [← hk]
  have q1 : (k == 1) = true := by rw [hk]; rfl
  have q2 : (k == 2) = false := by rw [hk]; rfl
  clear hk hn hb
  cases b
  all_goals
    go_enter Try.func24, Try.ntmps24
    go_wp2_with (first | ((with_reducible refine gate_dst (N := 1) rfl ?_); refine box_event ?hg (N := 1) ?hd (cs := #[.int .i64 a, .int .i64 k, .int .i64 s, .int .i64 l, .int .u32 d0, .int .u32 d1, .int .u32 d2, .int .u32 d3, .int .u32 d4, .int .u32 d5, .int .u32 p]) (t := 57) ?hr ?_; (case hd => rfl); (case hg => rfl); (case hr => first | (go_simp; done) | (go_simp; rfl)); intro gb hg w1 hbox hb; have HB1 := Aside0.mk hb; have BK1 := Aside0.mk hbox; have c0 := (blk_cell hbox 0).trans (show (inoCells a k s l d0 d1 d2 d3 d4 d5 p)[0]? = some (.int .i64 a) from rfl); have c1 := (blk_cell hbox 1).trans (show (inoCells a k s l d0 d1 d2 d3 d4 d5 p)[1]? = some (.int .i64 k) from rfl); have c2 := (blk_cell hbox 2).trans (show (inoCells a k s l d0 d1 d2 d3 d4 d5 p)[2]? = some (.int .i64 s) from rfl); have c3 := (blk_cell hbox 3).trans (show (inoCells a k s l d0 d1 d2 d3 d4 d5 p)[3]? = some (.int .i64 l) from rfl); have c10 := (blk_cell hbox 10).trans (show (inoCells a k s l d0 d1 d2 d3 d4 d5 p)[10]? = some (.int .u32 p) from rfl); clear hb hbox hg) | (go_at_call 31; refine (blocks_any s _ (by omega)).mono ?_; rw [HN.out]; rintro e w' ⟨rfl, rfl⟩) | (go_at_call 38; refine (contains_any _ _ _ ([d0, d1, d2, d3, d4, d5].drop 1) _ ?_).mono ?_; exact ino_reads BK1.out 1 (by omega); rw [HA.out]; rintro e w' ⟨rfl, rfl⟩))
    all_goals go_ret
    all_goals exact ⟨by first | rfl | (simp; done) | (simp [*]; done), HB1.out⟩
set_option maxHeartbeats 4000000 in
set_option maxRecDepth 100000 in
theorem may_in12 (a s l d0 d1 d2 d3 d4 d5 p : Int) (w : World) (b : Bool) (h0 : 1 ≤ a) (h1 : a ≤ 64) (h2 : 0 ≤ s) (h3 : s ≤ 3808) (h4 : 1 ≤ l) (h5 : l ≤ 64) (hn : blk s = 2) (hb : anyNZ ([d0, d1, d2, d3, d4, d5].drop 2) = b) : Calls Try.prog 24 #[.agg #[.int .i64 a, .int .i64 1, .int .i64 s, .int .i64 l, .int .u32 d0, .int .u32 d1, .int .u32 d2, .int .u32 d3, .int .u32 d4, .int .u32 d5, .int .u32 p]] w fun e w' => e = .returned (.bool (!b && (p == 0))) ∧ Below w.heap.size w w' := by
  have hu41 := Try.underlying57
  have HN := Aside0.mk hn
  have HA := Aside0.mk hb
  obtain ⟨k, hk⟩ : ∃ k : Int, k = 1 := ⟨_, rfl⟩
  rw [← hk]
  have q1 : (k == 1) = true := by rw [hk]; rfl
  have q2 : (k == 2) = false := by rw [hk]; rfl
  clear hk hn hb
  cases b
  all_goals
    go_enter Try.func24, Try.ntmps24
    go_wp2_with (first | ((with_reducible refine gate_dst (N := 1) rfl ?_); refine box_event ?hg (N := 1) ?hd (cs := #[.int .i64 a, .int .i64 k, .int .i64 s, .int .i64 l, .int .u32 d0, .int .u32 d1, .int .u32 d2, .int .u32 d3, .int .u32 d4, .int .u32 d5, .int .u32 p]) (t := 57) ?hr ?_; (case hd => rfl); (case hg => rfl); (case hr => first | (go_simp; done) | (go_simp; rfl)); intro gb hg w1 hbox hb; have HB1 := Aside0.mk hb; have BK1 := Aside0.mk hbox; have c0 := (blk_cell hbox 0).trans (show (inoCells a k s l d0 d1 d2 d3 d4 d5 p)[0]? = some (.int .i64 a) from rfl); have c1 := (blk_cell hbox 1).trans (show (inoCells a k s l d0 d1 d2 d3 d4 d5 p)[1]? = some (.int .i64 k) from rfl); have c2 := (blk_cell hbox 2).trans (show (inoCells a k s l d0 d1 d2 d3 d4 d5 p)[2]? = some (.int .i64 s) from rfl); have c3 := (blk_cell hbox 3).trans (show (inoCells a k s l d0 d1 d2 d3 d4 d5 p)[3]? = some (.int .i64 l) from rfl); have c10 := (blk_cell hbox 10).trans (show (inoCells a k s l d0 d1 d2 d3 d4 d5 p)[10]? = some (.int .u32 p) from rfl); clear hb hbox hg) | (go_at_call 31; refine (blocks_any s _ (by omega)).mono ?_; rw [HN.out]; rintro e w' ⟨rfl, rfl⟩) | (go_at_call 38; refine (contains_any _ _ _ ([d0, d1, d2, d3, d4, d5].drop 2) _ ?_).mono ?_; exact ino_reads BK1.out 2 (by omega); rw [HA.out]; rintro e w' ⟨rfl, rfl⟩))
    all_goals go_ret
    all_goals exact ⟨by first | rfl | (simp; done) | (simp [*]; done), HB1.out⟩
set_option maxHeartbeats 4000000 in
set_option maxRecDepth 100000 in
theorem may_in13 (a s l d0 d1 d2 d3 d4 d5 p : Int) (w : World) (b : Bool) (h0 : 1 ≤ a) (h1 : a ≤ 64) (h2 : 0 ≤ s) (h3 : s ≤ 3808) (h4 : 1 ≤ l) (h5 : l ≤ 64) (hn : blk s = 3) (hb : anyNZ ([d0, d1, d2, d3, d4, d5].drop 3) = b) : Calls Try.prog 24 #[.agg #[.int .i64 a, .int .i64 1, .int .i64 s, .int .i64 l, .int .u32 d0, .int .u32 d1, .int .u32 d2, .int .u32 d3, .int .u32 d4, .int .u32 d5, .int .u32 p]] w fun e w' => e = .returned (.bool (!b && (p == 0))) ∧ Below w.heap.size w w' := by
  have hu41 := Try.underlying57
  have HN := Aside0.mk hn
  have HA := Aside0.mk hb
  obtain ⟨k, hk⟩ : ∃ k : Int, k = 1 := ⟨_, rfl⟩
  rw [← hk]
  have q1 : (k == 1) = true := by rw [hk]; rfl
  have q2 : (k == 2) = false := by rw [hk]; rfl
  clear hk hn hb
  cases b
  all_goals
    go_enter Try.func24, Try.ntmps24
    go_wp2_with (first | ((with_reducible refine gate_dst (N := 1) rfl ?_); refine box_event ?hg (N := 1) ?hd (cs := #[.int .i64 a, .int .i64 k, .int .i64 s, .int .i64 l, .int .u32 d0, .int .u32 d1, .int .u32 d2, .int .u32 d3, .int .u32 d4, .int .u32 d5, .int .u32 p]) (t := 57) ?hr ?_; (case hd => rfl); (case hg => rfl); (case hr => first | (go_simp; done) | (go_simp; rfl)); intro gb hg w1 hbox hb; have HB1 := Aside0.mk hb; have BK1 := Aside0.mk hbox; have c0 := (blk_cell hbox 0).trans (show (inoCells a k s l d0 d1 d2 d3 d4 d5 p)[0]? = some (.int .i64 a) from rfl); have c1 := (blk_cell hbox 1).trans (show (inoCells a k s l d0 d1 d2 d3 d4 d5 p)[1]? = some (.int .i64 k) from rfl); have c2 := (blk_cell hbox 2).trans (show (inoCells a k s l d0 d1 d2 d3 d4 d5 p)[2]? = some (.int .i64 s) from rfl); have c3 := (blk_cell hbox 3).trans (show (inoCells a k s l d0 d1 d2 d3 d4 d5 p)[3]? = some (.int .i64 l) from rfl); have c10 := (blk_cell hbox 10).trans (show (inoCells a k s l d0 d1 d2 d3 d4 d5 p)[10]? = some (.int .u32 p) from rfl); clear hb hbox hg) | (go_at_call 31; refine (blocks_any s _ (by omega)).mono ?_; rw [HN.out]; rintro e w' ⟨rfl, rfl⟩) | (go_at_call 38; refine (contains_any _ _ _ ([d0, d1, d2, d3, d4, d5].drop 3) _ ?_).mono ?_; exact ino_reads BK1.out 3 (by omega); rw [HA.out]; rintro e w' ⟨rfl, rfl⟩))
    all_goals go_ret
    all_goals exact ⟨by first | rfl | (simp; done) | (simp [*]; done), HB1.out⟩
set_option maxHeartbeats 4000000 in
set_option maxRecDepth 100000 in
theorem may_in14 (a s l d0 d1 d2 d3 d4 d5 p : Int) (w : World) (b : Bool) (h0 : 1 ≤ a) (h1 : a ≤ 64) (h2 : 0 ≤ s) (h3 : s ≤ 3808) (h4 : 1 ≤ l) (h5 : l ≤ 64) (hn : blk s = 4) (hb : anyNZ ([d0, d1, d2, d3, d4, d5].drop 4) = b) : Calls Try.prog 24 #[.agg #[.int .i64 a, .int .i64 1, .int .i64 s, .int .i64 l, .int .u32 d0, .int .u32 d1, .int .u32 d2, .int .u32 d3, .int .u32 d4, .int .u32 d5, .int .u32 p]] w fun e w' => e = .returned (.bool (!b && (p == 0))) ∧ Below w.heap.size w w' := by
  have hu41 := Try.underlying57
  have HN := Aside0.mk hn
  have HA := Aside0.mk hb
  obtain ⟨k, hk⟩ : ∃ k : Int, k = 1 := ⟨_, rfl⟩
  rw [← hk]
  have q1 : (k == 1) = true := by rw [hk]; rfl
  have q2 : (k == 2) = false := by rw [hk]; rfl
  clear hk hn hb
  cases b
  all_goals
    go_enter Try.func24, Try.ntmps24
    go_wp2_with (first | ((with_reducible refine gate_dst (N := 1) rfl ?_); refine box_event ?hg (N := 1) ?hd (cs := #[.int .i64 a, .int .i64 k, .int .i64 s, .int .i64 l, .int .u32 d0, .int .u32 d1, .int .u32 d2, .int .u32 d3, .int .u32 d4, .int .u32 d5, .int .u32 p]) (t := 57) ?hr ?_; (case hd => rfl); (case hg => rfl); (case hr => first | (go_simp; done) | (go_simp; rfl)); intro gb hg w1 hbox hb; have HB1 := Aside0.mk hb; have BK1 := Aside0.mk hbox; have c0 := (blk_cell hbox 0).trans (show (inoCells a k s l d0 d1 d2 d3 d4 d5 p)[0]? = some (.int .i64 a) from rfl); have c1 := (blk_cell hbox 1).trans (show (inoCells a k s l d0 d1 d2 d3 d4 d5 p)[1]? = some (.int .i64 k) from rfl); have c2 := (blk_cell hbox 2).trans (show (inoCells a k s l d0 d1 d2 d3 d4 d5 p)[2]? = some (.int .i64 s) from rfl); have c3 := (blk_cell hbox 3).trans (show (inoCells a k s l d0 d1 d2 d3 d4 d5 p)[3]? = some (.int .i64 l) from rfl); have c10 := (blk_cell hbox 10).trans (show (inoCells a k s l d0 d1 d2 d3 d4 d5 p)[10]? = some (.int .u32 p) from rfl); clear hb hbox hg) | (go_at_call 31; refine (blocks_any s _ (by omega)).mono ?_; rw [HN.out]; rintro e w' ⟨rfl, rfl⟩) | (go_at_call 38; refine (contains_any _ _ _ ([d0, d1, d2, d3, d4, d5].drop 4) _ ?_).mono ?_; exact ino_reads BK1.out 4 (by omega); rw [HA.out]; rintro e w' ⟨rfl, rfl⟩))
    all_goals go_ret
    all_goals exact ⟨by first | rfl | (simp; done) | (simp [*]; done), HB1.out⟩
set_option maxHeartbeats 4000000 in
set_option maxRecDepth 100000 in
theorem may_in15 (a s l d0 d1 d2 d3 d4 d5 p : Int) (w : World) (b : Bool) (h0 : 1 ≤ a) (h1 : a ≤ 64) (h2 : 0 ≤ s) (h3 : s ≤ 3808) (h4 : 1 ≤ l) (h5 : l ≤ 64) (hn : blk s = 5) (hb : anyNZ ([d0, d1, d2, d3, d4, d5].drop 5) = b) : Calls Try.prog 24 #[.agg #[.int .i64 a, .int .i64 1, .int .i64 s, .int .i64 l, .int .u32 d0, .int .u32 d1, .int .u32 d2, .int .u32 d3, .int .u32 d4, .int .u32 d5, .int .u32 p]] w fun e w' => e = .returned (.bool (!b && (p == 0))) ∧ Below w.heap.size w w' := by
  have hu41 := Try.underlying57
  have HN := Aside0.mk hn
  have HA := Aside0.mk hb
  obtain ⟨k, hk⟩ : ∃ k : Int, k = 1 := ⟨_, rfl⟩
  rw [← hk]
  have q1 : (k == 1) = true := by rw [hk]; rfl
  have q2 : (k == 2) = false := by rw [hk]; rfl
  clear hk hn hb
  cases b
  all_goals
    go_enter Try.func24, Try.ntmps24
    go_wp2_with (first | ((with_reducible refine gate_dst (N := 1) rfl ?_); refine box_event ?hg (N := 1) ?hd (cs := #[.int .i64 a, .int .i64 k, .int .i64 s, .int .i64 l, .int .u32 d0, .int .u32 d1, .int .u32 d2, .int .u32 d3, .int .u32 d4, .int .u32 d5, .int .u32 p]) (t := 57) ?hr ?_; (case hd => rfl); (case hg => rfl); (case hr => first | (go_simp; done) | (go_simp; rfl)); intro gb hg w1 hbox hb; have HB1 := Aside0.mk hb; have BK1 := Aside0.mk hbox; have c0 := (blk_cell hbox 0).trans (show (inoCells a k s l d0 d1 d2 d3 d4 d5 p)[0]? = some (.int .i64 a) from rfl); have c1 := (blk_cell hbox 1).trans (show (inoCells a k s l d0 d1 d2 d3 d4 d5 p)[1]? = some (.int .i64 k) from rfl); have c2 := (blk_cell hbox 2).trans (show (inoCells a k s l d0 d1 d2 d3 d4 d5 p)[2]? = some (.int .i64 s) from rfl); have c3 := (blk_cell hbox 3).trans (show (inoCells a k s l d0 d1 d2 d3 d4 d5 p)[3]? = some (.int .i64 l) from rfl); have c10 := (blk_cell hbox 10).trans (show (inoCells a k s l d0 d1 d2 d3 d4 d5 p)[10]? = some (.int .u32 p) from rfl); clear hb hbox hg) | (go_at_call 31; refine (blocks_any s _ (by omega)).mono ?_; rw [HN.out]; rintro e w' ⟨rfl, rfl⟩) | (go_at_call 38; refine (contains_any _ _ _ ([d0, d1, d2, d3, d4, d5].drop 5) _ ?_).mono ?_; exact ino_reads BK1.out 5 (by omega); rw [HA.out]; rintro e w' ⟨rfl, rfl⟩))
    all_goals go_ret
    all_goals exact ⟨by first | rfl | (simp; done) | (simp [*]; done), HB1.out⟩
set_option maxHeartbeats 4000000 in
set_option maxRecDepth 100000 in
theorem may_in16 (a s l d0 d1 d2 d3 d4 d5 p : Int) (w : World) (b : Bool) (h0 : 1 ≤ a) (h1 : a ≤ 64) (h2 : 0 ≤ s) (h3 : s ≤ 3808) (h4 : 1 ≤ l) (h5 : l ≤ 64) (hn : blk s = 6) (hb : anyNZ ([d0, d1, d2, d3, d4, d5].drop 6) = b) : Calls Try.prog 24 #[.agg #[.int .i64 a, .int .i64 1, .int .i64 s, .int .i64 l, .int .u32 d0, .int .u32 d1, .int .u32 d2, .int .u32 d3, .int .u32 d4, .int .u32 d5, .int .u32 p]] w fun e w' => e = .returned (.bool (!b && (p == 0))) ∧ Below w.heap.size w w' := by
  have hu41 := Try.underlying57
  have HN := Aside0.mk hn
  have HA := Aside0.mk hb
  obtain ⟨k, hk⟩ : ∃ k : Int, k = 1 := ⟨_, rfl⟩
  rw [← hk]
  have q1 : (k == 1) = true := by rw [hk]; rfl
  have q2 : (k == 2) = false := by rw [hk]; rfl
  clear hk hn hb
  obtain rfl : b = false := by rw [← HA.out]; rfl
  all_goals
    go_enter Try.func24, Try.ntmps24
    go_wp2_with (first | ((with_reducible refine gate_dst (N := 1) rfl ?_); refine box_event ?hg (N := 1) ?hd (cs := #[.int .i64 a, .int .i64 k, .int .i64 s, .int .i64 l, .int .u32 d0, .int .u32 d1, .int .u32 d2, .int .u32 d3, .int .u32 d4, .int .u32 d5, .int .u32 p]) (t := 57) ?hr ?_; (case hd => rfl); (case hg => rfl); (case hr => first | (go_simp; done) | (go_simp; rfl)); intro gb hg w1 hbox hb; have HB1 := Aside0.mk hb; have BK1 := Aside0.mk hbox; have c0 := (blk_cell hbox 0).trans (show (inoCells a k s l d0 d1 d2 d3 d4 d5 p)[0]? = some (.int .i64 a) from rfl); have c1 := (blk_cell hbox 1).trans (show (inoCells a k s l d0 d1 d2 d3 d4 d5 p)[1]? = some (.int .i64 k) from rfl); have c2 := (blk_cell hbox 2).trans (show (inoCells a k s l d0 d1 d2 d3 d4 d5 p)[2]? = some (.int .i64 s) from rfl); have c3 := (blk_cell hbox 3).trans (show (inoCells a k s l d0 d1 d2 d3 d4 d5 p)[3]? = some (.int .i64 l) from rfl); have c10 := (blk_cell hbox 10).trans (show (inoCells a k s l d0 d1 d2 d3 d4 d5 p)[10]? = some (.int .u32 p) from rfl); clear hb hbox hg) | (go_at_call 31; refine (blocks_any s _ (by omega)).mono ?_; rw [HN.out]; rintro e w' ⟨rfl, rfl⟩) | (go_at_call 38; refine (contains_any _ 0 _ [] _ ⟨rfl, by omega, fun h => absurd h (by omega)⟩).mono ?_; rw [show anyNZ [] = false from rfl]; rintro e w' ⟨rfl, rfl⟩))
    all_goals go_ret
    all_goals exact ⟨by first | rfl | (simp; done) | (simp [*]; done), HB1.out⟩
set_option maxHeartbeats 4000000 in
set_option maxRecDepth 100000 in
theorem may_in1n (a s l d0 d1 d2 d3 d4 d5 p : Int) (w : World) (b : Bool) (h0 : 1 ≤ a) (h1 : a ≤ 64) (h2 : 0 ≤ s) (h3 : s ≤ 3808) (h4 : 1 ≤ l) (h5 : l ≤ 64) (n : Int) (hn1 : 6 < n) (hn2 : n ≤ 34) (hn : blk s = n) (hb : anyNZ ([d0, d1, d2, d3, d4, d5].drop 6) = b) : Calls Try.prog 24 #[.agg #[.int .i64 a, .int .i64 1, .int .i64 s, .int .i64 l, .int .u32 d0, .int .u32 d1, .int .u32 d2, .int .u32 d3, .int .u32 d4, .int .u32 d5, .int .u32 p]] w fun e w' => e = .returned (.bool (!b && (true))) ∧ Below w.heap.size w w' := by
  have hu41 := Try.underlying57
  have HN := Aside0.mk hn
  have HA := Aside0.mk hb
  obtain ⟨k, hk⟩ : ∃ k : Int, k = 1 := ⟨_, rfl⟩
  rw [← hk]
  have q1 : (k == 1) = true := by rw [hk]; rfl
  have q2 : (k == 2) = false := by rw [hk]; rfl
  clear hk hn hb
  obtain rfl : b = false := by rw [← HA.out]; rfl
  all_goals
    go_enter Try.func24, Try.ntmps24
    go_wp2_with (first | ((with_reducible refine gate_dst (N := 1) rfl ?_); refine box_event ?hg (N := 1) ?hd (cs := #[.int .i64 a, .int .i64 k, .int .i64 s, .int .i64 l, .int .u32 d0, .int .u32 d1, .int .u32 d2, .int .u32 d3, .int .u32 d4, .int .u32 d5, .int .u32 p]) (t := 57) ?hr ?_; (case hd => rfl); (case hg => rfl); (case hr => first | (go_simp; done) | (go_simp; rfl)); intro gb hg w1 hbox hb; have HB1 := Aside0.mk hb; have BK1 := Aside0.mk hbox; have c0 := (blk_cell hbox 0).trans (show (inoCells a k s l d0 d1 d2 d3 d4 d5 p)[0]? = some (.int .i64 a) from rfl); have c1 := (blk_cell hbox 1).trans (show (inoCells a k s l d0 d1 d2 d3 d4 d5 p)[1]? = some (.int .i64 k) from rfl); have c2 := (blk_cell hbox 2).trans (show (inoCells a k s l d0 d1 d2 d3 d4 d5 p)[2]? = some (.int .i64 s) from rfl); have c3 := (blk_cell hbox 3).trans (show (inoCells a k s l d0 d1 d2 d3 d4 d5 p)[3]? = some (.int .i64 l) from rfl); have c10 := (blk_cell hbox 10).trans (show (inoCells a k s l d0 d1 d2 d3 d4 d5 p)[10]? = some (.int .u32 p) from rfl); clear hb hbox hg) | (go_at_call 31; refine (blocks_any s _ (by omega)).mono ?_; rw [HN.out]; rintro e w' ⟨rfl, rfl⟩) | (go_at_call 38; refine (contains_any _ 0 _ [] _ ⟨rfl, by omega, fun h => absurd h (by omega)⟩).mono ?_; rw [show anyNZ [] = false from rfl]; rintro e w' ⟨rfl, rfl⟩))
    all_goals go_ret
    all_goals exact ⟨by first | rfl | (simp; done) | (simp [*]; done), HB1.out⟩
set_option maxHeartbeats 4000000 in
set_option maxRecDepth 100000 in
theorem may_in20 (a s l d0 d1 d2 d3 d4 d5 p : Int) (w : World) (b : Bool) (h0 : 1 ≤ a) (h1 : a ≤ 64) (h2 : 0 ≤ s) (h3 : s ≤ 1792) (h4 : 1 ≤ l) (h5 : l ≤ 1) (hm : (s % 28 != 0) = false) (hn : blk s = 0) (hb : anyNZ ([d0, d1, d2, d3, d4, d5].drop 0) = b) : Calls Try.prog 24 #[.agg #[.int .i64 a, .int .i64 2, .int .i64 s, .int .i64 l, .int .u32 d0, .int .u32 d1, .int .u32 d2, .int .u32 d3, .int .u32 d4, .int .u32 d5, .int .u32 p]] w fun e w' => e = .returned (.bool (!b && (p == 0))) ∧ Below w.heap.size w w' := by
  have hu41 := Try.underlying57
  have HN := Aside0.mk hn
  have HA := Aside0.mk hb
  obtain ⟨k, hk⟩ : ∃ k : Int, k = 2 := ⟨_, rfl⟩
  rw [← hk]
  have q1 : (k == 1) = false := by rw [hk]; rfl
  have q2 : (k == 2) = true := by rw [hk]; rfl
  clear hk hn hb
  cases b
  all_goals
    go_enter Try.func24, Try.ntmps24
    go_wp2_with (first | ((with_reducible refine gate_dst (N := 1) rfl ?_); refine box_event ?hg (N := 1) ?hd (cs := #[.int .i64 a, .int .i64 k, .int .i64 s, .int .i64 l, .int .u32 d0, .int .u32 d1, .int .u32 d2, .int .u32 d3, .int .u32 d4, .int .u32 d5, .int .u32 p]) (t := 57) ?hr ?_; (case hd => rfl); (case hg => rfl); (case hr => first | (go_simp; done) | (go_simp; rfl)); intro gb hg w1 hbox hb; have HB1 := Aside0.mk hb; have BK1 := Aside0.mk hbox; have c0 := (blk_cell hbox 0).trans (show (inoCells a k s l d0 d1 d2 d3 d4 d5 p)[0]? = some (.int .i64 a) from rfl); have c1 := (blk_cell hbox 1).trans (show (inoCells a k s l d0 d1 d2 d3 d4 d5 p)[1]? = some (.int .i64 k) from rfl); have c2 := (blk_cell hbox 2).trans (show (inoCells a k s l d0 d1 d2 d3 d4 d5 p)[2]? = some (.int .i64 s) from rfl); have c3 := (blk_cell hbox 3).trans (show (inoCells a k s l d0 d1 d2 d3 d4 d5 p)[3]? = some (.int .i64 l) from rfl); have c10 := (blk_cell hbox 10).trans (show (inoCells a k s l d0 d1 d2 d3 d4 d5 p)[10]? = some (.int .u32 p) from rfl); clear hb hbox hg) | (go_at_call 31; refine (blocks_any s _ (by omega)).mono ?_; rw [HN.out]; rintro e w' ⟨rfl, rfl⟩) | (go_at_call 38; refine (contains_any _ _ _ ([d0, d1, d2, d3, d4, d5].drop 0) _ ?_).mono ?_; exact ino_reads BK1.out 0 (by omega); rw [HA.out]; rintro e w' ⟨rfl, rfl⟩))
    all_goals go_ret
    all_goals exact ⟨by first | rfl | (simp; done) | (simp [*]; done), HB1.out⟩
set_option maxHeartbeats 4000000 in
set_option maxRecDepth 100000 in
theorem may_in21 (a s l d0 d1 d2 d3 d4 d5 p : Int) (w : World) (b : Bool) (h0 : 1 ≤ a) (h1 : a ≤ 64) (h2 : 0 ≤ s) (h3 : s ≤ 1792) (h4 : 1 ≤ l) (h5 : l ≤ 1) (hm : (s % 28 != 0) = false) (hn : blk s = 1) (hb : anyNZ ([d0, d1, d2, d3, d4, d5].drop 1) = b) : Calls Try.prog 24 #[.agg #[.int .i64 a, .int .i64 2, .int .i64 s, .int .i64 l, .int .u32 d0, .int .u32 d1, .int .u32 d2, .int .u32 d3, .int .u32 d4, .int .u32 d5, .int .u32 p]] w fun e w' => e = .returned (.bool (!b && (p == 0))) ∧ Below w.heap.size w w' := by
  have hu41 := Try.underlying57
  have HN := Aside0.mk hn
  have HA := Aside0.mk hb
  obtain ⟨k, hk⟩ : ∃ k : Int, k = 2 := ⟨_, rfl⟩
  rw [← hk]
  have q1 : (k == 1) = false := by rw [hk]; rfl
  have q2 : (k == 2) = true := by rw [hk]; rfl
  clear hk hn hb
  cases b
  all_goals
    go_enter Try.func24, Try.ntmps24
    go_wp2_with (first | ((with_reducible refine gate_dst (N := 1) rfl ?_); refine box_event ?hg (N := 1) ?hd (cs := #[.int .i64 a, .int .i64 k, .int .i64 s, .int .i64 l, .int .u32 d0, .int .u32 d1, .int .u32 d2, .int .u32 d3, .int .u32 d4, .int .u32 d5, .int .u32 p]) (t := 57) ?hr ?_; (case hd => rfl); (case hg => rfl); (case hr => first | (go_simp; done) | (go_simp; rfl)); intro gb hg w1 hbox hb; have HB1 := Aside0.mk hb; have BK1 := Aside0.mk hbox; have c0 := (blk_cell hbox 0).trans (show (inoCells a k s l d0 d1 d2 d3 d4 d5 p)[0]? = some (.int .i64 a) from rfl); have c1 := (blk_cell hbox 1).trans (show (inoCells a k s l d0 d1 d2 d3 d4 d5 p)[1]? = some (.int .i64 k) from rfl); have c2 := (blk_cell hbox 2).trans (show (inoCells a k s l d0 d1 d2 d3 d4 d5 p)[2]? = some (.int .i64 s) from rfl); have c3 := (blk_cell hbox 3).trans (show (inoCells a k s l d0 d1 d2 d3 d4 d5 p)[3]? = some (.int .i64 l) from rfl); have c10 := (blk_cell hbox 10).trans (show (inoCells a k s l d0 d1 d2 d3 d4 d5 p)[10]? = some (.int .u32 p) from rfl); clear hb hbox hg) | (go_at_call 31; refine (blocks_any s _ (by omega)).mono ?_; rw [HN.out]; rintro e w' ⟨rfl, rfl⟩) | (go_at_call 38; refine (contains_any _ _ _ ([d0, d1, d2, d3, d4, d5].drop 1) _ ?_).mono ?_; exact ino_reads BK1.out 1 (by omega); rw [HA.out]; rintro e w' ⟨rfl, rfl⟩))
    all_goals go_ret
    all_goals exact ⟨by first | rfl | (simp; done) | (simp [*]; done), HB1.out⟩
set_option maxHeartbeats 4000000 in
set_option maxRecDepth 100000 in
theorem may_in22 (a s l d0 d1 d2 d3 d4 d5 p : Int) (w : World) (b : Bool) (h0 : 1 ≤ a) (h1 : a ≤ 64) (h2 : 0 ≤ s) (h3 : s ≤ 1792) (h4 : 1 ≤ l) (h5 : l ≤ 1) (hm : (s % 28 != 0) = false) (hn : blk s = 2) (hb : anyNZ ([d0, d1, d2, d3, d4, d5].drop 2) = b) : Calls Try.prog 24 #[.agg #[.int .i64 a, .int .i64 2, .int .i64 s, .int .i64 l, .int .u32 d0, .int .u32 d1, .int .u32 d2, .int .u32 d3, .int .u32 d4, .int .u32 d5, .int .u32 p]] w fun e w' => e = .returned (.bool (!b && (p == 0))) ∧ Below w.heap.size w w' := by
  have hu41 := Try.underlying57
  have HN := Aside0.mk hn
  have HA := Aside0.mk hb
  obtain ⟨k, hk⟩ : ∃ k : Int, k = 2 := ⟨_, rfl⟩
  rw [← hk]
  have q1 : (k == 1) = false := by rw [hk]; rfl
  have q2 : (k == 2) = true := by rw [hk]; rfl
  clear hk hn hb
  cases b
  all_goals
    go_enter Try.func24, Try.ntmps24
    go_wp2_with (first | ((with_reducible refine gate_dst (N := 1) rfl ?_); refine box_event ?hg (N := 1) ?hd (cs := #[.int .i64 a, .int .i64 k, .int .i64 s, .int .i64 l, .int .u32 d0, .int .u32 d1, .int .u32 d2, .int .u32 d3, .int .u32 d4, .int .u32 d5, .int .u32 p]) (t := 57) ?hr ?_; (case hd => rfl); (case hg => rfl); (case hr => first | (go_simp; done) | (go_simp; rfl)); intro gb hg w1 hbox hb; have HB1 := Aside0.mk hb; have BK1 := Aside0.mk hbox; have c0 := (blk_cell hbox 0).trans (show (inoCells a k s l d0 d1 d2 d3 d4 d5 p)[0]? = some (.int .i64 a) from rfl); have c1 := (blk_cell hbox 1).trans (show (inoCells a k s l d0 d1 d2 d3 d4 d5 p)[1]? = some (.int .i64 k) from rfl); have c2 := (blk_cell hbox 2).trans (show (inoCells a k s l d0 d1 d2 d3 d4 d5 p)[2]? = some (.int .i64 s) from rfl); have c3 := (blk_cell hbox 3).trans (show (inoCells a k s l d0 d1 d2 d3 d4 d5 p)[3]? = some (.int .i64 l) from rfl); have c10 := (blk_cell hbox 10).trans (show (inoCells a k s l d0 d1 d2 d3 d4 d5 p)[10]? = some (.int .u32 p) from rfl); clear hb hbox hg) | (go_at_call 31; refine (blocks_any s _ (by omega)).mono ?_; rw [HN.out]; rintro e w' ⟨rfl, rfl⟩) | (go_at_call 38; refine (contains_any _ _ _ ([d0, d1, d2, d3, d4, d5].drop 2) _ ?_).mono ?_; exact ino_reads BK1.out 2 (by omega); rw [HA.out]; rintro e w' ⟨rfl, rfl⟩))
    all_goals go_ret
    all_goals exact ⟨by first | rfl | (simp; done) | (simp [*]; done), HB1.out⟩
set_option maxHeartbeats 4000000 in
set_option maxRecDepth 100000 in
theorem may_in23 (a s l d0 d1 d2 d3 d4 d5 p : Int) (w : World) (b : Bool) (h0 : 1 ≤ a) (h1 : a ≤ 64) (h2 : 0 ≤ s) (h3 : s ≤ 1792) (h4 : 1 ≤ l) (h5 : l ≤ 1) (hm : (s % 28 != 0) = false) (hn : blk s = 3) (hb : anyNZ ([d0, d1, d2, d3, d4, d5].drop 3) = b) : Calls Try.prog 24 #[.agg #[.int .i64 a, .int .i64 2, .int .i64 s, .int .i64 l, .int .u32 d0, .int .u32 d1, .int .u32 d2, .int .u32 d3, .int .u32 d4, .int .u32 d5, .int .u32 p]] w fun e w' => e = .returned (.bool (!b && (p == 0))) ∧ Below w.heap.size w w' := by
  have hu41 := Try.underlying57
  have HN := Aside0.mk hn
  have HA := Aside0.mk hb
  obtain ⟨k, hk⟩ : ∃ k : Int, k = 2 := ⟨_, rfl⟩
  rw [← hk]
  have q1 : (k == 1) = false := by rw [hk]; rfl
  have q2 : (k == 2) = true := by rw [hk]; rfl
  clear hk hn hb
  cases b
  all_goals
    go_enter Try.func24, Try.ntmps24
    go_wp2_with (first | ((with_reducible refine gate_dst (N := 1) rfl ?_); refine box_event ?hg (N := 1) ?hd (cs := #[.int .i64 a, .int .i64 k, .int .i64 s, .int .i64 l, .int .u32 d0, .int .u32 d1, .int .u32 d2, .int .u32 d3, .int .u32 d4, .int .u32 d5, .int .u32 p]) (t := 57) ?hr ?_; (case hd => rfl); (case hg => rfl); (case hr => first | (go_simp; done) | (go_simp; rfl)); intro gb hg w1 hbox hb; have HB1 := Aside0.mk hb; have BK1 := Aside0.mk hbox; have c0 := (blk_cell hbox 0).trans (show (inoCells a k s l d0 d1 d2 d3 d4 d5 p)[0]? = some (.int .i64 a) from rfl); have c1 := (blk_cell hbox 1).trans (show (inoCells a k s l d0 d1 d2 d3 d4 d5 p)[1]? = some (.int .i64 k) from rfl); have c2 := (blk_cell hbox 2).trans (show (inoCells a k s l d0 d1 d2 d3 d4 d5 p)[2]? = some (.int .i64 s) from rfl); have c3 := (blk_cell hbox 3).trans (show (inoCells a k s l d0 d1 d2 d3 d4 d5 p)[3]? = some (.int .i64 l) from rfl); have c10 := (blk_cell hbox 10).trans (show (inoCells a k s l d0 d1 d2 d3 d4 d5 p)[10]? = some (.int .u32 p) from rfl); clear hb hbox hg) | (go_at_call 31; refine (blocks_any s _ (by omega)).mono ?_; rw [HN.out]; rintro e w' ⟨rfl, rfl⟩) | (go_at_call 38; refine (contains_any _ _ _ ([d0, d1, d2, d3, d4, d5].drop 3) _ ?_).mono ?_; exact ino_reads BK1.out 3 (by omega); rw [HA.out]; rintro e w' ⟨rfl, rfl⟩))
    all_goals go_ret
    all_goals exact ⟨by first | rfl | (simp; done) | (simp [*]; done), HB1.out⟩
set_option maxHeartbeats 4000000 in
set_option maxRecDepth 100000 in
theorem may_in24 (a s l d0 d1 d2 d3 d4 d5 p : Int) (w : World) (b : Bool) (h0 : 1 ≤ a) (h1 : a ≤ 64) (h2 : 0 ≤ s) (h3 : s ≤ 1792) (h4 : 1 ≤ l) (h5 : l ≤ 1) (hm : (s % 28 != 0) = false) (hn : blk s = 4) (hb : anyNZ ([d0, d1, d2, d3, d4, d5].drop 4) = b) : Calls Try.prog 24 #[.agg #[.int .i64 a, .int .i64 2, .int .i64 s, .int .i64 l, .int .u32 d0, .int .u32 d1, .int .u32 d2, .int .u32 d3, .int .u32 d4, .int .u32 d5, .int .u32 p]] w fun e w' => e = .returned (.bool (!b && (p == 0))) ∧ Below w.heap.size w w' := by
  have hu41 := Try.underlying57
  have HN := Aside0.mk hn
  have HA := Aside0.mk hb
  obtain ⟨k, hk⟩ : ∃ k : Int, k = 2 := ⟨_, rfl⟩
  rw [← hk]
  have q1 : (k == 1) = false := by rw [hk]; rfl
  have q2 : (k == 2) = true := by rw [hk]; rfl
  clear hk hn hb
  cases b
  all_goals
    go_enter Try.func24, Try.ntmps24
    go_wp2_with (first | ((with_reducible refine gate_dst (N := 1) rfl ?_); refine box_event ?hg (N := 1) ?hd (cs := #[.int .i64 a, .int .i64 k, .int .i64 s, .int .i64 l, .int .u32 d0, .int .u32 d1, .int .u32 d2, .int .u32 d3, .int .u32 d4, .int .u32 d5, .int .u32 p]) (t := 57) ?hr ?_; (case hd => rfl); (case hg => rfl); (case hr => first | (go_simp; done) | (go_simp; rfl)); intro gb hg w1 hbox hb; have HB1 := Aside0.mk hb; have BK1 := Aside0.mk hbox; have c0 := (blk_cell hbox 0).trans (show (inoCells a k s l d0 d1 d2 d3 d4 d5 p)[0]? = some (.int .i64 a) from rfl); have c1 := (blk_cell hbox 1).trans (show (inoCells a k s l d0 d1 d2 d3 d4 d5 p)[1]? = some (.int .i64 k) from rfl); have c2 := (blk_cell hbox 2).trans (show (inoCells a k s l d0 d1 d2 d3 d4 d5 p)[2]? = some (.int .i64 s) from rfl); have c3 := (blk_cell hbox 3).trans (show (inoCells a k s l d0 d1 d2 d3 d4 d5 p)[3]? = some (.int .i64 l) from rfl); have c10 := (blk_cell hbox 10).trans (show (inoCells a k s l d0 d1 d2 d3 d4 d5 p)[10]? = some (.int .u32 p) from rfl); clear hb hbox hg) | (go_at_call 31; refine (blocks_any s _ (by omega)).mono ?_; rw [HN.out]; rintro e w' ⟨rfl, rfl⟩) | (go_at_call 38; refine (contains_any _ _ _ ([d0, d1, d2, d3, d4, d5].drop 4) _ ?_).mono ?_; exact ino_reads BK1.out 4 (by omega); rw [HA.out]; rintro e w' ⟨rfl, rfl⟩))
    all_goals go_ret
    all_goals exact ⟨by first | rfl | (simp; done) | (simp [*]; done), HB1.out⟩
set_option maxHeartbeats 4000000 in
set_option maxRecDepth 100000 in
theorem may_in25 (a s l d0 d1 d2 d3 d4 d5 p : Int) (w : World) (b : Bool) (h0 : 1 ≤ a) (h1 : a ≤ 64) (h2 : 0 ≤ s) (h3 : s ≤ 1792) (h4 : 1 ≤ l) (h5 : l ≤ 1) (hm : (s % 28 != 0) = false) (hn : blk s = 5) (hb : anyNZ ([d0, d1, d2, d3, d4, d5].drop 5) = b) : Calls Try.prog 24 #[.agg #[.int .i64 a, .int .i64 2, .int .i64 s, .int .i64 l, .int .u32 d0, .int .u32 d1, .int .u32 d2, .int .u32 d3, .int .u32 d4, .int .u32 d5, .int .u32 p]] w fun e w' => e = .returned (.bool (!b && (p == 0))) ∧ Below w.heap.size w w' := by
  have hu41 := Try.underlying57
  have HN := Aside0.mk hn
  have HA := Aside0.mk hb
  obtain ⟨k, hk⟩ : ∃ k : Int, k = 2 := ⟨_, rfl⟩
  rw [← hk]
  have q1 : (k == 1) = false := by rw [hk]; rfl
  have q2 : (k == 2) = true := by rw [hk]; rfl
  clear hk hn hb
  cases b
  all_goals
    go_enter Try.func24, Try.ntmps24
    go_wp2_with (first | ((with_reducible refine gate_dst (N := 1) rfl ?_); refine box_event ?hg (N := 1) ?hd (cs := #[.int .i64 a, .int .i64 k, .int .i64 s, .int .i64 l, .int .u32 d0, .int .u32 d1, .int .u32 d2, .int .u32 d3, .int .u32 d4, .int .u32 d5, .int .u32 p]) (t := 57) ?hr ?_; (case hd => rfl); (case hg => rfl); (case hr => first | (go_simp; done) | (go_simp; rfl)); intro gb hg w1 hbox hb; have HB1 := Aside0.mk hb; have BK1 := Aside0.mk hbox; have c0 := (blk_cell hbox 0).trans (show (inoCells a k s l d0 d1 d2 d3 d4 d5 p)[0]? = some (.int .i64 a) from rfl); have c1 := (blk_cell hbox 1).trans (show (inoCells a k s l d0 d1 d2 d3 d4 d5 p)[1]? = some (.int .i64 k) from rfl); have c2 := (blk_cell hbox 2).trans (show (inoCells a k s l d0 d1 d2 d3 d4 d5 p)[2]? = some (.int .i64 s) from rfl); have c3 := (blk_cell hbox 3).trans (show (inoCells a k s l d0 d1 d2 d3 d4 d5 p)[3]? = some (.int .i64 l) from rfl); have c10 := (blk_cell hbox 10).trans (show (inoCells a k s l d0 d1 d2 d3 d4 d5 p)[10]? = some (.int .u32 p) from rfl); clear hb hbox hg) | (go_at_call 31; refine (blocks_any s _ (by omega)).mono ?_; rw [HN.out]; rintro e w' ⟨rfl, rfl⟩) | (go_at_call 38; refine (contains_any _ _ _ ([d0, d1, d2, d3, d4, d5].drop 5) _ ?_).mono ?_; exact ino_reads BK1.out 5 (by omega); rw [HA.out]; rintro e w' ⟨rfl, rfl⟩))
    all_goals go_ret
    all_goals exact ⟨by first | rfl | (simp; done) | (simp [*]; done), HB1.out⟩
set_option maxHeartbeats 4000000 in
set_option maxRecDepth 100000 in
theorem may_in26 (a s l d0 d1 d2 d3 d4 d5 p : Int) (w : World) (b : Bool) (h0 : 1 ≤ a) (h1 : a ≤ 64) (h2 : 0 ≤ s) (h3 : s ≤ 1792) (h4 : 1 ≤ l) (h5 : l ≤ 1) (hm : (s % 28 != 0) = false) (hn : blk s = 6) (hb : anyNZ ([d0, d1, d2, d3, d4, d5].drop 6) = b) : Calls Try.prog 24 #[.agg #[.int .i64 a, .int .i64 2, .int .i64 s, .int .i64 l, .int .u32 d0, .int .u32 d1, .int .u32 d2, .int .u32 d3, .int .u32 d4, .int .u32 d5, .int .u32 p]] w fun e w' => e = .returned (.bool (!b && (p == 0))) ∧ Below w.heap.size w w' := by
  have hu41 := Try.underlying57
  have HN := Aside0.mk hn
  have HA := Aside0.mk hb
  obtain ⟨k, hk⟩ : ∃ k : Int, k = 2 := ⟨_, rfl⟩
  rw [← hk]
  have q1 : (k == 1) = false := by rw [hk]; rfl
  have q2 : (k == 2) = true := by rw [hk]; rfl
  clear hk hn hb
  obtain rfl : b = false := by rw [← HA.out]; rfl
  all_goals
    go_enter Try.func24, Try.ntmps24
    go_wp2_with (first | ((with_reducible refine gate_dst (N := 1) rfl ?_); refine box_event ?hg (N := 1) ?hd (cs := #[.int .i64 a, .int .i64 k, .int .i64 s, .int .i64 l, .int .u32 d0, .int .u32 d1, .int .u32 d2, .int .u32 d3, .int .u32 d4, .int .u32 d5, .int .u32 p]) (t := 57) ?hr ?_; (case hd => rfl); (case hg => rfl); (case hr => first | (go_simp; done) | (go_simp; rfl)); intro gb hg w1 hbox hb; have HB1 := Aside0.mk hb; have BK1 := Aside0.mk hbox; have c0 := (blk_cell hbox 0).trans (show (inoCells a k s l d0 d1 d2 d3 d4 d5 p)[0]? = some (.int .i64 a) from rfl); have c1 := (blk_cell hbox 1).trans (show (inoCells a k s l d0 d1 d2 d3 d4 d5 p)[1]? = some (.int .i64 k) from rfl); have c2 := (blk_cell hbox 2).trans (show (inoCells a k s l d0 d1 d2 d3 d4 d5 p)[2]? = some (.int .i64 s) from rfl); have c3 := (blk_cell hbox 3).trans (show (inoCells a k s l d0 d1 d2 d3 d4 d5 p)[3]? = some (.int .i64 l) from rfl); have c10 := (blk_cell hbox 10).trans (show (inoCells a k s l d0 d1 d2 d3 d4 d5 p)[10]? = some (.int .u32 p) from rfl); clear hb hbox hg) | (go_at_call 31; refine (blocks_any s _ (by omega)).mono ?_; rw [HN.out]; rintro e w' ⟨rfl, rfl⟩) | (go_at_call 38; refine (contains_any _ 0 _ [] _ ⟨rfl, by omega, fun h => absurd h (by omega)⟩).mono ?_; rw [show anyNZ [] = false from rfl]; rintro e w' ⟨rfl, rfl⟩))
    all_goals go_ret
    all_goals exact ⟨by first | rfl | (simp; done) | (simp [*]; done), HB1.out⟩
set_option maxHeartbeats 4000000 in
set_option maxRecDepth 100000 in
theorem may_in2n (a s l d0 d1 d2 d3 d4 d5 p : Int) (w : World) (b : Bool) (h0 : 1 ≤ a) (h1 : a ≤ 64) (h2 : 0 ≤ s) (h3 : s ≤ 1792) (h4 : 1 ≤ l) (h5 : l ≤ 1) (hm : (s % 28 != 0) = false) (n : Int) (hn1 : 6 < n) (hn2 : n ≤ 34) (hn : blk s = n) (hb : anyNZ ([d0, d1, d2, d3, d4, d5].drop 6) = b) : Calls Try.prog 24 #[.agg #[.int .i64 a, .int .i64 2, .int .i64 s, .int .i64 l, .int .u32 d0, .int .u32 d1, .int .u32 d2, .int .u32 d3, .int .u32 d4, .int .u32 d5, .int .u32 p]] w fun e w' => e = .returned (.bool (!b && (true))) ∧ Below w.heap.size w w' := by
  have hu41 := Try.underlying57
  have HN := Aside0.mk hn
  have HA := Aside0.mk hb
  obtain ⟨k, hk⟩ : ∃ k : Int, k = 2 := ⟨_, rfl⟩
  rw [← hk]
  have q1 : (k == 1) = false := by rw [hk]; rfl
  have q2 : (k == 2) = true := by rw [hk]; rfl
  clear hk hn hb
  obtain rfl : b = false := by rw [← HA.out]; rfl
  all_goals
    go_enter Try.func24, Try.ntmps24
    go_wp2_with (first | ((with_reducible refine gate_dst (N := 1) rfl ?_); refine box_event ?hg (N := 1) ?hd (cs := #[.int .i64 a, .int .i64 k, .int .i64 s, .int .i64 l, .int .u32 d0, .int .u32 d1, .int .u32 d2, .int .u32 d3, .int .u32 d4, .int .u32 d5, .int .u32 p]) (t := 57) ?hr ?_; (case hd => rfl); (case hg => rfl); (case hr => first | (go_simp; done) | (go_simp; rfl)); intro gb hg w1 hbox hb; have HB1 := Aside0.mk hb; have BK1 := Aside0.mk hbox; have c0 := (blk_cell hbox 0).trans (show (inoCells a k s l d0 d1 d2 d3 d4 d5 p)[0]? = some (.int .i64 a) from rfl); have c1 := (blk_cell hbox 1).trans (show (inoCells a k s l d0 d1 d2 d3 d4 d5 p)[1]? = some (.int .i64 k) from rfl); have c2 := (blk_cell hbox 2).trans (show (inoCells a k s l d0 d1 d2 d3 d4 d5 p)[2]? = some (.int .i64 s) from rfl); have c3 := (blk_cell hbox 3).trans (show (inoCells a k s l d0 d1 d2 d3 d4 d5 p)[3]? = some (.int .i64 l) from rfl); have c10 := (blk_cell hbox 10).trans (show (inoCells a k s l d0 d1 d2 d3 d4 d5 p)[10]? = some (.int .u32 p) from rfl); clear hb hbox hg) | (go_at_call 31; refine (blocks_any s _ (by omega)).mono ?_; rw [HN.out]; rintro e w' ⟨rfl, rfl⟩) | (go_at_call 38; refine (contains_any _ 0 _ [] _ ⟨rfl, by omega, fun h => absurd h (by omega)⟩).mono ?_; rw [show anyNZ [] = false from rfl]; rintro e w' ⟨rfl, rfl⟩))
    all_goals go_ret
    all_goals exact ⟨by first | rfl | (simp; done) | (simp [*]; done), HB1.out⟩
end Go.Proofs.YtgiapegacbibeaaX

end

section
/- inode.May: whether an inode may be: one contract. -/
namespace Go.Proofs.YtgiapegacbibeaaX
open Go.RowKit Go.Proofs.YtgiapegacbibeaaW.PrintWords
theorem ofB {f : FuncId} {args : Array Value} {w : World} {b b' : Bool} (h : Calls Try.prog f args w fun e w' => e = .returned (.bool b) ∧ Below w.heap.size w w') (e : b = b') :
    Calls Try.prog f args w fun e w' => e = .returned (.bool b') ∧ Below w.heap.size w w' := e ▸ h
theorem may_any (a k s l d0 d1 d2 d3 d4 d5 p : Int) (w : World) (hs : s ≤ 9223372036854775807) :
    Calls Try.prog 24 #[.agg #[.int .i64 a, .int .i64 k, .int .i64 s, .int .i64 l, .int .u32 d0, .int .u32 d1, .int .u32 d2, .int .u32 d3, .int .u32 d4, .int .u32 d5, .int .u32 p]] w
      fun e w' => e = .returned (.bool (mayB a k s l [d0, d1, d2, d3, d4, d5] p)) ∧ Below w.heap.size w w' := by
  by_cases hr : RangeOk a k s l
  · obtain ⟨h0, h1, h2, h3, h4, h5, hk⟩ := id hr
    have hn := blk_bd hs
    have hb : blk s ≤ 34 := by
      unfold maxSize at h3
      have : s ≤ 3808 := by
        by_cases h : k = 1
        · rw [if_pos h] at h3; exact h3
        · rw [if_neg h] at h3; omega
      unfold blk
      by_cases h : s ≤ 0
      · rw [if_pos h]; omega
      · rw [if_neg h]; omega
    rcases (show blk s = 0 ∨ blk s = 1 ∨ blk s = 2 ∨ blk s = 3 ∨ blk s = 4 ∨ blk s = 5 ∨ blk s = 6 ∨ 6 < blk s from by omega) with h | h | h | h | h | h | h | h
    · rcases hk with rfl | ⟨rfl, hm⟩
      · refine ofB (may_in10 a s l d0 d1 d2 d3 d4 d5 p w _ h0 h1 h2 (by unfold maxSize at h3; rw [if_pos rfl] at h3; exact h3) h4 (by unfold maxLinks at h5; rw [if_pos rfl] at h5; exact h5) h rfl) (by cases hq : anyNZ ([d0, d1, d2, d3, d4, d5].drop 0) with
          | true => rw [may_any_no h hq]; rfl
          | false => rw [may_yes hr h hq]; simp)
      · refine ofB (may_in20 a s l d0 d1 d2 d3 d4 d5 p w _ h0 h1 h2 (by unfold maxSize at h3; rw [if_neg (by omega)] at h3; exact h3) h4 (by unfold maxLinks at h5; rw [if_neg (by omega)] at h5; exact h5) (bne_eq_false_iff_eq.2 hm) h rfl) (by cases hq : anyNZ ([d0, d1, d2, d3, d4, d5].drop 0) with
          | true => rw [may_any_no h hq]; rfl
          | false => rw [may_yes hr h hq]; simp)
    · rcases hk with rfl | ⟨rfl, hm⟩
      · refine ofB (may_in11 a s l d0 d1 d2 d3 d4 d5 p w _ h0 h1 h2 (by unfold maxSize at h3; rw [if_pos rfl] at h3; exact h3) h4 (by unfold maxLinks at h5; rw [if_pos rfl] at h5; exact h5) h rfl) (by cases hq : anyNZ ([d0, d1, d2, d3, d4, d5].drop 1) with
          | true => rw [may_any_no h hq]; rfl
          | false => rw [may_yes hr h hq]; simp)
      · refine ofB (may_in21 a s l d0 d1 d2 d3 d4 d5 p w _ h0 h1 h2 (by unfold maxSize at h3; rw [if_neg (by omega)] at h3; exact h3) h4 (by unfold maxLinks at h5; rw [if_neg (by omega)] at h5; exact h5) (bne_eq_false_iff_eq.2 hm) h rfl) (by cases hq : anyNZ ([d0, d1, d2, d3, d4, d5].drop 1) with
          | true => rw [may_any_no h hq]; rfl
          | false => rw [may_yes hr h hq]; simp)
    · rcases hk with rfl | ⟨rfl, hm⟩
      · refine ofB (may_in12 a s l d0 d1 d2 d3 d4 d5 p w _ h0 h1 h2 (by unfold maxSize at h3; rw [if_pos rfl] at h3; exact h3) h4 (by unfold maxLinks at h5; rw [if_pos rfl] at h5; exact h5) h rfl) (by cases hq : anyNZ ([d0, d1, d2, d3, d4, d5].drop 2) with
          | true => rw [may_any_no h hq]; rfl
          | false => rw [may_yes hr h hq]; simp)
      · refine ofB (may_in22 a s l d0 d1 d2 d3 d4 d5 p w _ h0 h1 h2 (by unfold maxSize at h3; rw [if_neg (by omega)] at h3; exact h3) h4 (by unfold maxLinks at h5; rw [if_neg (by omega)] at h5; exact h5) (bne_eq_false_iff_eq.2 hm) h rfl) (by cases hq : anyNZ ([d0, d1, d2, d3, d4, d5].drop 2) with
          | true => rw [may_any_no h hq]; rfl
          | false => rw [may_yes hr h hq]; simp)
    · rcases hk with rfl | ⟨rfl, hm⟩
      · refine ofB (may_in13 a s l d0 d1 d2 d3 d4 d5 p w _ h0 h1 h2 (by unfold maxSize at h3; rw [if_pos rfl] at h3; exact h3) h4 (by unfold maxLinks at h5; rw [if_pos rfl] at h5; exact h5) h rfl) (by cases hq : anyNZ ([d0, d1, d2, d3, d4, d5].drop 3) with
          | true => rw [may_any_no h hq]; rfl
          | false => rw [may_yes hr h hq]; simp)
      · refine ofB (may_in23 a s l d0 d1 d2 d3 d4 d5 p w _ h0 h1 h2 (by unfold maxSize at h3; rw [if_neg (by omega)] at h3; exact h3) h4 (by unfold maxLinks at h5; rw [if_neg (by omega)] at h5; exact h5) (bne_eq_false_iff_eq.2 hm) h rfl) (by cases hq : anyNZ ([d0, d1, d2, d3, d4, d5].drop 3) with
          | true => rw [may_any_no h hq]; rfl
          | false => rw [may_yes hr h hq]; simp)
    · rcases hk with rfl | ⟨rfl, hm⟩
      · refine ofB (may_in14 a s l d0 d1 d2 d3 d4 d5 p w _ h0 h1 h2 (by unfold maxSize at h3; rw [if_pos rfl] at h3; exact h3) h4 (by unfold maxLinks at h5; rw [if_pos rfl] at h5; exact h5) h rfl) (by cases hq : anyNZ ([d0, d1, d2, d3, d4, d5].drop 4) with
          | true => rw [may_any_no h hq]; rfl
          | false => rw [may_yes hr h hq]; simp)
      · refine ofB (may_in24 a s l d0 d1 d2 d3 d4 d5 p w _ h0 h1 h2 (by unfold maxSize at h3; rw [if_neg (by omega)] at h3; exact h3) h4 (by unfold maxLinks at h5; rw [if_neg (by omega)] at h5; exact h5) (bne_eq_false_iff_eq.2 hm) h rfl) (by cases hq : anyNZ ([d0, d1, d2, d3, d4, d5].drop 4) with
          | true => rw [may_any_no h hq]; rfl
          | false => rw [may_yes hr h hq]; simp)
    · rcases hk with rfl | ⟨rfl, hm⟩
      · refine ofB (may_in15 a s l d0 d1 d2 d3 d4 d5 p w _ h0 h1 h2 (by unfold maxSize at h3; rw [if_pos rfl] at h3; exact h3) h4 (by unfold maxLinks at h5; rw [if_pos rfl] at h5; exact h5) h rfl) (by cases hq : anyNZ ([d0, d1, d2, d3, d4, d5].drop 5) with
          | true => rw [may_any_no h hq]; rfl
          | false => rw [may_yes hr h hq]; simp)
      · refine ofB (may_in25 a s l d0 d1 d2 d3 d4 d5 p w _ h0 h1 h2 (by unfold maxSize at h3; rw [if_neg (by omega)] at h3; exact h3) h4 (by unfold maxLinks at h5; rw [if_neg (by omega)] at h5; exact h5) (bne_eq_false_iff_eq.2 hm) h rfl) (by cases hq : anyNZ ([d0, d1, d2, d3, d4, d5].drop 5) with
          | true => rw [may_any_no h hq]; rfl
          | false => rw [may_yes hr h hq]; simp)
    · rcases hk with rfl | ⟨rfl, hm⟩
      · refine ofB (may_in16 a s l d0 d1 d2 d3 d4 d5 p w _ h0 h1 h2 (by unfold maxSize at h3; rw [if_pos rfl] at h3; exact h3) h4 (by unfold maxLinks at h5; rw [if_pos rfl] at h5; exact h5) h rfl) (by cases hq : anyNZ ([d0, d1, d2, d3, d4, d5].drop 6) with
          | true => rw [may_any_no h hq]; rfl
          | false => rw [may_yes hr h hq]; simp)
      · refine ofB (may_in26 a s l d0 d1 d2 d3 d4 d5 p w _ h0 h1 h2 (by unfold maxSize at h3; rw [if_neg (by omega)] at h3; exact h3) h4 (by unfold maxLinks at h5; rw [if_neg (by omega)] at h5; exact h5) (bne_eq_false_iff_eq.2 hm) h rfl) (by cases hq : anyNZ ([d0, d1, d2, d3, d4, d5].drop 6) with
          | true => rw [may_any_no h hq]; rfl
          | false => rw [may_yes hr h hq]; simp)
    · rcases hk with rfl | ⟨rfl, hm⟩
      · refine ofB (may_in1n a s l d0 d1 d2 d3 d4 d5 p w _ h0 h1 h2 (by unfold maxSize at h3; rw [if_pos rfl] at h3; exact h3) h4 (by unfold maxLinks at h5; rw [if_pos rfl] at h5; exact h5) _ h hb rfl rfl) (by cases hq : anyNZ ([d0, d1, d2, d3, d4, d5].drop (min (blk s).toNat 6)) with
          | true => rw [may_any_no rfl hq, ← show min (blk s).toNat 6 = 6 from by omega, hq]; rfl
          | false => rw [may_yes hr rfl hq, ← show min (blk s).toNat 6 = 6 from by omega, hq, decide_eq_true h]; rfl)
      · refine ofB (may_in2n a s l d0 d1 d2 d3 d4 d5 p w _ h0 h1 h2 (by unfold maxSize at h3; rw [if_neg (by omega)] at h3; exact h3) h4 (by unfold maxLinks at h5; rw [if_neg (by omega)] at h5; exact h5) (bne_eq_false_iff_eq.2 hm) _ h hb rfl rfl) (by cases hq : anyNZ ([d0, d1, d2, d3, d4, d5].drop (min (blk s).toNat 6)) with
          | true => rw [may_any_no rfl hq, ← show min (blk s).toNat 6 = 6 from by omega, hq]; rfl
          | false => rw [may_yes hr rfl hq, ← show min (blk s).toNat 6 = 6 from by omega, hq, decide_eq_true h]; rfl)
  · rw [may_no hr]
    by_cases k1 : k = 1
    · subst k1
      by_cases q0 : a < 1
      · exact may_out10 a s l d0 d1 d2 d3 d4 d5 p w q0
      by_cases q1 : 64 < a
      · exact may_out11 a s l d0 d1 d2 d3 d4 d5 p w (by omega) q1
      by_cases q2 : s < 0
      · exact may_out12 a s l d0 d1 d2 d3 d4 d5 p w (by omega) (by omega) q2
      by_cases q3 : 3808 < s
      · exact may_out13 a s l d0 d1 d2 d3 d4 d5 p w (by omega) (by omega) (by omega) q3
      by_cases q4 : l < 1
      · exact may_out14 a s l d0 d1 d2 d3 d4 d5 p w (by omega) (by omega) (by omega) (by omega) q4
      by_cases q5 : 64 < l
      · exact may_out15 a s l d0 d1 d2 d3 d4 d5 p w (by omega) (by omega) (by omega) (by omega) (by omega) q5
      exact absurd ⟨by omega, by omega, by omega, by unfold maxSize; rw [if_pos rfl]; omega, by omega, by unfold maxLinks; rw [if_pos rfl]; omega, .inl rfl⟩ hr
    · by_cases k2 : k = 2
      · subst k2
        by_cases q0 : a < 1
        · exact may_out20 a s l d0 d1 d2 d3 d4 d5 p w q0
        by_cases q1 : 64 < a
        · exact may_out21 a s l d0 d1 d2 d3 d4 d5 p w (by omega) q1
        by_cases q2 : s < 0
        · exact may_out22 a s l d0 d1 d2 d3 d4 d5 p w (by omega) (by omega) q2
        by_cases qm : s % 28 = 0
        · have hm : (s % 28 != 0) = false := bne_eq_false_iff_eq.2 qm
          by_cases q3 : 1792 < s
          · exact may_out23 a s l d0 d1 d2 d3 d4 d5 p w (by omega) (by omega) (by omega) q3 hm
          by_cases q4 : l < 1
          · exact may_out24 a s l d0 d1 d2 d3 d4 d5 p w (by omega) (by omega) (by omega) (by omega) q4 hm
          by_cases q5 : 1 < l
          · exact may_out25 a s l d0 d1 d2 d3 d4 d5 p w (by omega) (by omega) (by omega) (by omega) (by omega) q5 hm
          exact absurd ⟨by omega, by omega, by omega, by unfold maxSize; rw [if_neg (by omega)]; omega, by omega, by unfold maxLinks; rw [if_neg (by omega)]; omega, .inr ⟨rfl, qm⟩⟩ hr
        · exact may_mod a s l d0 d1 d2 d3 d4 d5 p w (by omega) (bne_iff_ne.2 qm)
      · exact may_kind a k s l d0 d1 d2 d3 d4 d5 p w (beq_eq_false_iff_ne.2 k1) (beq_eq_false_iff_ne.2 k2)
end Go.Proofs.YtgiapegacbibeaaX

end
