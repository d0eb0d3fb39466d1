/- inode.May, all numbers in range. -/
import Derived.Test.YtencgnhgjegknaaMay
namespace Go.Proofs.YtencgnhgjegknaaX
open Go.RowKit Go.Proofs.YtencgnhgjegknaaW.PrintWords Go.Proofs.YtencgnhgjegknaaW.PrintMore
attribute [local go_sem] max2_int min2_int max_two min_two
set_option linter.unusedVariables false
set_option maxHeartbeats 4000000 in
theorem may_in10 (a s l d0 d1 d2 d3 d4 d5 p : Int) (w : World) (b : Bool) (h0 : 1 ≤ a) (h1 : a ≤ 64) (h2 : 0 ≤ s) (h3 : s ≤ 3808) (h4 : 1 ≤ l) (h5 : l ≤ 64) (hn : blk s = 0) (hb : anyNZ ([d0, d1, d2, d3, d4, d5].drop 0) = b) : Calls Try.prog 12 #[.agg #[.int .i64 a, .int .i64 1, .int .i64 s, .int .i64 l, .int .u32 d0, .int .u32 d1, .int .u32 d2, .int .u32 d3, .int .u32 d4, .int .u32 d5, .int .u32 p]] w fun e w' => e = .returned (.bool (!b && (p == 0))) ∧ Below w.heap.size w w' := by
  have hu41 := Try.underlying25
  have HN := Aside0.mk hn
  have HA := Aside0.mk hb
  obtain ⟨k, hk⟩ : ∃ k : Int, k = 1 := ⟨_, rfl⟩
  rw [← hk]
  have q1 : (k == 1) = true := by rw [hk]; rfl
  have q2 : (k == 2) = false := by rw [hk]; rfl
  clear hk hn hb
  cases b
  all_goals
    go_enter Try.func12, Try.ntmps12
    go_wp2_with (first | ((with_reducible refine gate_dst (N := 1) rfl ?_); refine box_event ?hg (N := 1) ?hd (cs := #[.int .i64 a, .int .i64 k, .int .i64 s, .int .i64 l, .int .u32 d0, .int .u32 d1, .int .u32 d2, .int .u32 d3, .int .u32 d4, .int .u32 d5, .int .u32 p]) (t := 25) ?hr ?_; (case hd => rfl); (case hg => rfl); (case hr => first | (go_simp; done) | (go_simp; rfl)); intro gb hg w1 hbox hb; have HB1 := Aside0.mk hb; have BK1 := Aside0.mk hbox; have c0 := (blk_cell hbox 0).trans (show (inoCells a k s l d0 d1 d2 d3 d4 d5 p)[0]? = some (.int .i64 a) from rfl); have c1 := (blk_cell hbox 1).trans (show (inoCells a k s l d0 d1 d2 d3 d4 d5 p)[1]? = some (.int .i64 k) from rfl); have c2 := (blk_cell hbox 2).trans (show (inoCells a k s l d0 d1 d2 d3 d4 d5 p)[2]? = some (.int .i64 s) from rfl); have c3 := (blk_cell hbox 3).trans (show (inoCells a k s l d0 d1 d2 d3 d4 d5 p)[3]? = some (.int .i64 l) from rfl); have c10 := (blk_cell hbox 10).trans (show (inoCells a k s l d0 d1 d2 d3 d4 d5 p)[10]? = some (.int .u32 p) from rfl); clear hb hbox hg) | (go_at_call 14; refine (blocks_any s _ (by omega)).mono ?_; rw [HN.out]; rintro e w' ⟨rfl, rfl⟩) | (go_at_call 24; refine (contains_any _ _ _ ([d0, d1, d2, d3, d4, d5].drop 0) _ ?_).mono ?_; exact ino_reads BK1.out 0 (by omega); rw [HA.out]; rintro e w' ⟨rfl, rfl⟩))
    all_goals go_ret
    all_goals exact ⟨by first | rfl | (simp; done) | (simp [*]; done), HB1.out⟩
set_option maxHeartbeats 4000000 in
theorem may_in11 (a s l d0 d1 d2 d3 d4 d5 p : Int) (w : World) (b : Bool) (h0 : 1 ≤ a) (h1 : a ≤ 64) (h2 : 0 ≤ s) (h3 : s ≤ 3808) (h4 : 1 ≤ l) (h5 : l ≤ 64) (hn : blk s = 1) (hb : anyNZ ([d0, d1, d2, d3, d4, d5].drop 1) = b) : Calls Try.prog 12 #[.agg #[.int .i64 a, .int .i64 1, .int .i64 s, .int .i64 l, .int .u32 d0, .int .u32 d1, .int .u32 d2, .int .u32 d3, .int .u32 d4, .int .u32 d5, .int .u32 p]] w fun e w' => e = .returned (.bool (!b && (p == 0))) ∧ Below w.heap.size w w' := by
  have hu41 := Try.underlying25
  have HN := Aside0.mk hn
  have HA := Aside0.mk hb
  obtain ⟨k, hk⟩ : ∃ k : Int, k = 1 := ⟨_, rfl⟩
  rw [← hk]
  have q1 : (k == 1) = true := by rw [hk]; rfl
  have q2 : (k == 2) = false := by rw [hk]; rfl
  clear hk hn hb
  cases b
  all_goals
    go_enter Try.func12, Try.ntmps12
    go_wp2_with (first | ((with_reducible refine gate_dst (N := 1) rfl ?_); refine box_event ?hg (N := 1) ?hd (cs := #[.int .i64 a, .int .i64 k, .int .i64 s, .int .i64 l, .int .u32 d0, .int .u32 d1, .int .u32 d2, .int .u32 d3, .int .u32 d4, .int .u32 d5, .int .u32 p]) (t := 25) ?hr ?_; (case hd => rfl); (case hg => rfl); (case hr => first | (go_simp; done) | (go_simp; rfl)); intro gb hg w1 hbox hb; have HB1 := Aside0.mk hb; have BK1 := Aside0.mk hbox; have c0 := (blk_cell hbox 0).trans (show (inoCells a k s l d0 d1 d2 d3 d4 d5 p)[0]? = some (.int .i64 a) from rfl); have c1 := (blk_cell hbox 1).trans (show (inoCells a k s l d0 d1 d2 d3 d4 d5 p)[1]? = some (.int .i64 k) from rfl); have c2 := (blk_cell hbox 2).trans (show (inoCells a k s l d0 d1 d2 d3 d4 d5 p)[2]? = some (.int .i64 s) from rfl); have c3 := (blk_cell hbox 3).trans (show (inoCells a k s l d0 d1 d2 d3 d4 d5 p)[3]? = some (.int .i64 l) from rfl); have c10 := (blk_cell hbox 10).trans (show (inoCells a k s l d0 d1 d2 d3 d4 d5 p)[10]? = some (.int .u32 p) from rfl); clear hb hbox hg) | (go_at_call 14; refine (blocks_any s _ (by omega)).mono ?_; rw [HN.out]; rintro e w' ⟨rfl, rfl⟩) | (go_at_call 24; refine (contains_any _ _ _ ([d0, d1, d2, d3, d4, d5].drop 1) _ ?_).mono ?_; exact ino_reads BK1.out 1 (by omega); rw [HA.out]; rintro e w' ⟨rfl, rfl⟩))
    all_goals go_ret
    all_goals exact ⟨by first | rfl | (simp; done) | (simp [*]; done), HB1.out⟩
set_option maxHeartbeats 4000000 in
theorem may_in12 (a s l d0 d1 d2 d3 d4 d5 p : Int) (w : World) (b : Bool) (h0 : 1 ≤ a) (h1 : a ≤ 64) (h2 : 0 ≤ s) (h3 : s ≤ 3808) (h4 : 1 ≤ l) (h5 : l ≤ 64) (hn : blk s = 2) (hb : anyNZ ([d0, d1, d2, d3, d4, d5].drop 2) = b) : Calls Try.prog 12 #[.agg #[.int .i64 a, .int .i64 1, .int .i64 s, .int .i64 l, .int .u32 d0, .int .u32 d1, .int .u32 d2, .int .u32 d3, .int .u32 d4, .int .u32 d5, .int .u32 p]] w fun e w' => e = .returned (.bool (!b && (p == 0))) ∧ Below w.heap.size w w' := by
  have hu41 := Try.underlying25
  have HN := Aside0.mk hn
  have HA := Aside0.mk hb
  obtain ⟨k, hk⟩ : ∃ k : Int, k = 1 := ⟨_, rfl⟩
  rw [← hk]
  have q1 : (k == 1) = true := by rw [hk]; rfl
  have q2 : (k == 2) = false := by rw [hk]; rfl
  clear hk hn hb
  cases b
  all_goals
    go_enter Try.func12, Try.ntmps12
    go_wp2_with (first | ((with_reducible refine gate_dst (N := 1) rfl ?_); refine box_event ?hg (N := 1) ?hd (cs := #[.int .i64 a, .int .i64 k, .int .i64 s, .int .i64 l, .int .u32 d0, .int .u32 d1, .int .u32 d2, .int .u32 d3, .int .u32 d4, .int .u32 d5, .int .u32 p]) (t := 25) ?hr ?_; (case hd => rfl); (case hg => rfl); (case hr => first | (go_simp; done) | (go_simp; rfl)); intro gb hg w1 hbox hb; have HB1 := Aside0.mk hb; have BK1 := Aside0.mk hbox; have c0 := (blk_cell hbox 0).trans (show (inoCells a k s l d0 d1 d2 d3 d4 d5 p)[0]? = some (.int .i64 a) from rfl); have c1 := (blk_cell hbox 1).trans (show (inoCells a k s l d0 d1 d2 d3 d4 d5 p)[1]? = some (.int .i64 k) from rfl); have c2 := (blk_cell hbox 2).trans (show (inoCells a k s l d0 d1 d2 d3 d4 d5 p)[2]? = some (.int .i64 s) from rfl); have c3 := (blk_cell hbox 3).trans (show (inoCells a k s l d0 d1 d2 d3 d4 d5 p)[3]? = some (.int .i64 l) from rfl); have c10 := (blk_cell hbox 10).trans (show (inoCells a k s l d0 d1 d2 d3 d4 d5 p)[10]? = some (.int .u32 p) from rfl); clear hb hbox hg) | (go_at_call 14; refine (blocks_any s _ (by omega)).mono ?_; rw [HN.out]; rintro e w' ⟨rfl, rfl⟩) | (go_at_call 24; refine (contains_any _ _ _ ([d0, d1, d2, d3, d4, d5].drop 2) _ ?_).mono ?_; exact ino_reads BK1.out 2 (by omega); rw [HA.out]; rintro e w' ⟨rfl, rfl⟩))
    all_goals go_ret
    all_goals exact ⟨by first | rfl | (simp; done) | (simp [*]; done), HB1.out⟩
set_option maxHeartbeats 4000000 in
theorem may_in13 (a s l d0 d1 d2 d3 d4 d5 p : Int) (w : World) (b : Bool) (h0 : 1 ≤ a) (h1 : a ≤ 64) (h2 : 0 ≤ s) (h3 : s ≤ 3808) (h4 : 1 ≤ l) (h5 : l ≤ 64) (hn : blk s = 3) (hb : anyNZ ([d0, d1, d2, d3, d4, d5].drop 3) = b) : Calls Try.prog 12 #[.agg #[.int .i64 a, .int .i64 1, .int .i64 s, .int .i64 l, .int .u32 d0, .int .u32 d1, .int .u32 d2, .int .u32 d3, .int .u32 d4, .int .u32 d5, .int .u32 p]] w fun e w' => e = .returned (.bool (!b && (p == 0))) ∧ Below w.heap.size w w' := by
  have hu41 := Try.underlying25
  have HN := Aside0.mk hn
  have HA := Aside0.mk hb
  obtain ⟨k, hk⟩ : ∃ k : Int, k = 1 := ⟨_, rfl⟩
  rw [← hk]
  have q1 : (k == 1) = true := by rw [hk]; rfl
  have q2 : (k == 2) = false := by rw [hk]; rfl
  clear hk hn hb
  cases b
  all_goals
    go_enter Try.func12, Try.ntmps12
    go_wp2_with (first | ((with_reducible refine gate_dst (N := 1) rfl ?_); refine box_event ?hg (N := 1) ?hd (cs := #[.int .i64 a, .int .i64 k, .int .i64 s, .int .i64 l, .int .u32 d0, .int .u32 d1, .int .u32 d2, .int .u32 d3, .int .u32 d4, .int .u32 d5, .int .u32 p]) (t := 25) ?hr ?_; (case hd => rfl); (case hg => rfl); (case hr => first | (go_simp; done) | (go_simp; rfl)); intro gb hg w1 hbox hb; have HB1 := Aside0.mk hb; have BK1 := Aside0.mk hbox; have c0 := (blk_cell hbox 0).trans (show (inoCells a k s l d0 d1 d2 d3 d4 d5 p)[0]? = some (.int .i64 a) from rfl); have c1 := (blk_cell hbox 1).trans (show (inoCells a k s l d0 d1 d2 d3 d4 d5 p)[1]? = some (.int .i64 k) from rfl); have c2 := (blk_cell hbox 2).trans (show (inoCells a k s l d0 d1 d2 d3 d4 d5 p)[2]? = some (.int .i64 s) from rfl); have c3 := (blk_cell hbox 3).trans (show (inoCells a k s l d0 d1 d2 d3 d4 d5 p)[3]? = some (.int .i64 l) from rfl); have c10 := (blk_cell hbox 10).trans (show (inoCells a k s l d0 d1 d2 d3 d4 d5 p)[10]? = some (.int .u32 p) from rfl); clear hb hbox hg) | (go_at_call 14; refine (blocks_any s _ (by omega)).mono ?_; rw [HN.out]; rintro e w' ⟨rfl, rfl⟩) | (go_at_call 24; refine (contains_any _ _ _ ([d0, d1, d2, d3, d4, d5].drop 3) _ ?_).mono ?_; exact ino_reads BK1.out 3 (by omega); rw [HA.out]; rintro e w' ⟨rfl, rfl⟩))
    all_goals go_ret
    all_goals exact ⟨by first | rfl | (simp; done) | (simp [*]; done), HB1.out⟩
set_option maxHeartbeats 4000000 in
theorem may_in14 (a s l d0 d1 d2 d3 d4 d5 p : Int) (w : World) (b : Bool) (h0 : 1 ≤ a) (h1 : a ≤ 64) (h2 : 0 ≤ s) (h3 : s ≤ 3808) (h4 : 1 ≤ l) (h5 : l ≤ 64) (hn : blk s = 4) (hb : anyNZ ([d0, d1, d2, d3, d4, d5].drop 4) = b) : Calls Try.prog 12 #[.agg #[.int .i64 a, .int .i64 1, .int .i64 s, .int .i64 l, .int .u32 d0, .int .u32 d1, .int .u32 d2, .int .u32 d3, .int .u32 d4, .int .u32 d5, .int .u32 p]] w fun e w' => e = .returned (.bool (!b && (p == 0))) ∧ Below w.heap.size w w' := by
  have hu41 := Try.underlying25
  have HN := Aside0.mk hn
  have HA := Aside0.mk hb
  obtain ⟨k, hk⟩ : ∃ k : Int, k = 1 := ⟨_, rfl⟩
  rw [← hk]
  have q1 : (k == 1) = true := by rw [hk]; rfl
  have q2 : (k == 2) = false := by rw [hk]; rfl
  clear hk hn hb
  cases b
  all_goals
    go_enter Try.func12, Try.ntmps12
    go_wp2_with (first | ((with_reducible refine gate_dst (N := 1) rfl ?_); refine box_event ?hg (N := 1) ?hd (cs := #[.int .i64 a, .int .i64 k, .int .i64 s, .int .i64 l, .int .u32 d0, .int .u32 d1, .int .u32 d2, .int .u32 d3, .int .u32 d4, .int .u32 d5, .int .u32 p]) (t := 25) ?hr ?_; (case hd => rfl); (case hg => rfl); (case hr => first | (go_simp; done) | (go_simp; rfl)); intro gb hg w1 hbox hb; have HB1 := Aside0.mk hb; have BK1 := Aside0.mk hbox; have c0 := (blk_cell hbox 0).trans (show (inoCells a k s l d0 d1 d2 d3 d4 d5 p)[0]? = some (.int .i64 a) from rfl); have c1 := (blk_cell hbox 1).trans (show (inoCells a k s l d0 d1 d2 d3 d4 d5 p)[1]? = some (.int .i64 k) from rfl); have c2 := (blk_cell hbox 2).trans (show (inoCells a k s l d0 d1 d2 d3 d4 d5 p)[2]? = some (.int .i64 s) from rfl); have c3 := (blk_cell hbox 3).trans (show (inoCells a k s l d0 d1 d2 d3 d4 d5 p)[3]? = some (.int .i64 l) from rfl); have c10 := (blk_cell hbox 10).trans (show (inoCells a k s l d0 d1 d2 d3 d4 d5 p)[10]? = some (.int .u32 p) from rfl); clear hb hbox hg) | (go_at_call 14; refine (blocks_any s _ (by omega)).mono ?_; rw [HN.out]; rintro e w' ⟨rfl, rfl⟩) | (go_at_call 24; refine (contains_any _ _ _ ([d0, d1, d2, d3, d4, d5].drop 4) _ ?_).mono ?_; exact ino_reads BK1.out 4 (by omega); rw [HA.out]; rintro e w' ⟨rfl, rfl⟩))
    all_goals go_ret
    all_goals exact ⟨by first | rfl | (simp; done) | (simp [*]; done), HB1.out⟩
set_option maxHeartbeats 4000000 in
theorem may_in15 (a s l d0 d1 d2 d3 d4 d5 p : Int) (w : World) (b : Bool) (h0 : 1 ≤ a) (h1 : a ≤ 64) (h2 : 0 ≤ s) (h3 : s ≤ 3808) (h4 : 1 ≤ l) (h5 : l ≤ 64) (hn : blk s = 5) (hb : anyNZ ([d0, d1, d2, d3, d4, d5].drop 5) = b) : Calls Try.prog 12 #[.agg #[.int .i64 a, .int .i64 1, .int .i64 s, .int .i64 l, .int .u32 d0, .int .u32 d1, .int .u32 d2, .int .u32 d3, .int .u32 d4, .int .u32 d5, .int .u32 p]] w fun e w' => e = .returned (.bool (!b && (p == 0))) ∧ Below w.heap.size w w' := by
  have hu41 := Try.underlying25
  have HN := Aside0.mk hn
  have HA := Aside0.mk hb
  obtain ⟨k, hk⟩ : ∃ k : Int, k = 1 := ⟨_, rfl⟩
  rw [← hk]
  have q1 : (k == 1) = true := by rw [hk]; rfl
  have q2 : (k == 2) = false := by rw [hk]; rfl
  clear hk hn hb
  cases b
  all_goals
    go_enter Try.func12, Try.ntmps12
    go_wp2_with (first | ((with_reducible refine gate_dst (N := 1) rfl ?_); refine box_event ?hg (N := 1) ?hd (cs := #[.int .i64 a, .int .i64 k, .int .i64 s, .int .i64 l, .int .u32 d0, .int .u32 d1, .int .u32 d2, .int .u32 d3, .int .u32 d4, .int .u32 d5, .int .u32 p]) (t := 25) ?hr ?_; (case hd => rfl); (case hg => rfl); (case hr => first | (go_simp; done) | (go_simp; rfl)); intro gb hg w1 hbox hb; have HB1 := Aside0.mk hb; have BK1 := Aside0.mk hbox; have c0 := (blk_cell hbox 0).trans (show (inoCells a k s l d0 d1 d2 d3 d4 d5 p)[0]? = some (.int .i64 a) from rfl); have c1 := (blk_cell hbox 1).trans (show (inoCells a k s l d0 d1 d2 d3 d4 d5 p)[1]? = some (.int .i64 k) from rfl); have c2 := (blk_cell hbox 2).trans (show (inoCells a k s l d0 d1 d2 d3 d4 d5 p)[2]? = some (.int .i64 s) from rfl); have c3 := (blk_cell hbox 3).trans (show (inoCells a k s l d0 d1 d2 d3 d4 d5 p)[3]? = some (.int .i64 l) from rfl); have c10 := (blk_cell hbox 10).trans (show (inoCells a k s l d0 d1 d2 d3 d4 d5 p)[10]? = some (.int .u32 p) from rfl); clear hb hbox hg) | (go_at_call 14; refine (blocks_any s _ (by omega)).mono ?_; rw [HN.out]; rintro e w' ⟨rfl, rfl⟩) | (go_at_call 24; refine (contains_any _ _ _ ([d0, d1, d2, d3, d4, d5].drop 5) _ ?_).mono ?_; exact ino_reads BK1.out 5 (by omega); rw [HA.out]; rintro e w' ⟨rfl, rfl⟩))
    all_goals go_ret
    all_goals exact ⟨by first | rfl | (simp; done) | (simp [*]; done), HB1.out⟩
set_option maxHeartbeats 4000000 in
theorem may_in16 (a s l d0 d1 d2 d3 d4 d5 p : Int) (w : World) (b : Bool) (h0 : 1 ≤ a) (h1 : a ≤ 64) (h2 : 0 ≤ s) (h3 : s ≤ 3808) (h4 : 1 ≤ l) (h5 : l ≤ 64) (hn : blk s = 6) (hb : anyNZ ([d0, d1, d2, d3, d4, d5].drop 6) = b) : Calls Try.prog 12 #[.agg #[.int .i64 a, .int .i64 1, .int .i64 s, .int .i64 l, .int .u32 d0, .int .u32 d1, .int .u32 d2, .int .u32 d3, .int .u32 d4, .int .u32 d5, .int .u32 p]] w fun e w' => e = .returned (.bool (!b && (p == 0))) ∧ Below w.heap.size w w' := by
  have hu41 := Try.underlying25
  have HN := Aside0.mk hn
  have HA := Aside0.mk hb
  obtain ⟨k, hk⟩ : ∃ k : Int, k = 1 := ⟨_, rfl⟩
  rw [← hk]
  have q1 : (k == 1) = true := by rw [hk]; rfl
  have q2 : (k == 2) = false := by rw [hk]; rfl
  clear hk hn hb
  obtain rfl : b = false := by rw [← HA.out]; rfl
  all_goals
    go_enter Try.func12, Try.ntmps12
    go_wp2_with (first | ((with_reducible refine gate_dst (N := 1) rfl ?_); refine box_event ?hg (N := 1) ?hd (cs := #[.int .i64 a, .int .i64 k, .int .i64 s, .int .i64 l, .int .u32 d0, .int .u32 d1, .int .u32 d2, .int .u32 d3, .int .u32 d4, .int .u32 d5, .int .u32 p]) (t := 25) ?hr ?_; (case hd => rfl); (case hg => rfl); (case hr => first | (go_simp; done) | (go_simp; rfl)); intro gb hg w1 hbox hb; have HB1 := Aside0.mk hb; have BK1 := Aside0.mk hbox; have c0 := (blk_cell hbox 0).trans (show (inoCells a k s l d0 d1 d2 d3 d4 d5 p)[0]? = some (.int .i64 a) from rfl); have c1 := (blk_cell hbox 1).trans (show (inoCells a k s l d0 d1 d2 d3 d4 d5 p)[1]? = some (.int .i64 k) from rfl); have c2 := (blk_cell hbox 2).trans (show (inoCells a k s l d0 d1 d2 d3 d4 d5 p)[2]? = some (.int .i64 s) from rfl); have c3 := (blk_cell hbox 3).trans (show (inoCells a k s l d0 d1 d2 d3 d4 d5 p)[3]? = some (.int .i64 l) from rfl); have c10 := (blk_cell hbox 10).trans (show (inoCells a k s l d0 d1 d2 d3 d4 d5 p)[10]? = some (.int .u32 p) from rfl); clear hb hbox hg) | (go_at_call 14; refine (blocks_any s _ (by omega)).mono ?_; rw [HN.out]; rintro e w' ⟨rfl, rfl⟩) | (go_at_call 24; refine (contains_any _ 0 _ [] _ ⟨rfl, by omega, fun h => absurd h (by omega)⟩).mono ?_; rw [show anyNZ [] = false from rfl]; rintro e w' ⟨rfl, rfl⟩))
    all_goals go_ret
    all_goals exact ⟨by first | rfl | (simp; done) | (simp [*]; done), HB1.out⟩
set_option maxHeartbeats 4000000 in
theorem may_in1n (a s l d0 d1 d2 d3 d4 d5 p : Int) (w : World) (b : Bool) (h0 : 1 ≤ a) (h1 : a ≤ 64) (h2 : 0 ≤ s) (h3 : s ≤ 3808) (h4 : 1 ≤ l) (h5 : l ≤ 64) (n : Int) (hn1 : 6 < n) (hn2 : n ≤ 34) (hn : blk s = n) (hb : anyNZ ([d0, d1, d2, d3, d4, d5].drop 6) = b) : Calls Try.prog 12 #[.agg #[.int .i64 a, .int .i64 1, .int .i64 s, .int .i64 l, .int .u32 d0, .int .u32 d1, .int .u32 d2, .int .u32 d3, .int .u32 d4, .int .u32 d5, .int .u32 p]] w fun e w' => e = .returned (.bool (!b && (true))) ∧ Below w.heap.size w w' := by
  have hu41 := Try.underlying25
  have HN := Aside0.mk hn
  have HA := Aside0.mk hb
  obtain ⟨k, hk⟩ : ∃ k : Int, k = 1 := ⟨_, rfl⟩
  rw [← hk]
  have q1 : (k == 1) = true := by rw [hk]; rfl
  have q2 : (k == 2) = false := by rw [hk]; rfl
  clear hk hn hb
  obtain rfl : b = false := by rw [← HA.out]; rfl
  all_goals
    go_enter Try.func12, Try.ntmps12
    go_wp2_with (first | ((with_reducible refine gate_dst (N := 1) rfl ?_); refine box_event ?hg (N := 1) ?hd (cs := #[.int .i64 a, .int .i64 k, .int .i64 s, .int .i64 l, .int .u32 d0, .int .u32 d1, .int .u32 d2, .int .u32 d3, .int .u32 d4, .int .u32 d5, .int .u32 p]) (t := 25) ?hr ?_; (case hd => rfl); (case hg => rfl); (case hr => first | (go_simp; done) | (go_simp; rfl)); intro gb hg w1 hbox hb; have HB1 := Aside0.mk hb; have BK1 := Aside0.mk hbox; have c0 := (blk_cell hbox 0).trans (show (inoCells a k s l d0 d1 d2 d3 d4 d5 p)[0]? = some (.int .i64 a) from rfl); have c1 := (blk_cell hbox 1).trans (show (inoCells a k s l d0 d1 d2 d3 d4 d5 p)[1]? = some (.int .i64 k) from rfl); have c2 := (blk_cell hbox 2).trans (show (inoCells a k s l d0 d1 d2 d3 d4 d5 p)[2]? = some (.int .i64 s) from rfl); have c3 := (blk_cell hbox 3).trans (show (inoCells a k s l d0 d1 d2 d3 d4 d5 p)[3]? = some (.int .i64 l) from rfl); have c10 := (blk_cell hbox 10).trans (show (inoCells a k s l d0 d1 d2 d3 d4 d5 p)[10]? = some (.int .u32 p) from rfl); clear hb hbox hg) | (go_at_call 14; refine (blocks_any s _ (by omega)).mono ?_; rw [HN.out]; rintro e w' ⟨rfl, rfl⟩) | (go_at_call 24; refine (contains_any _ 0 _ [] _ ⟨rfl, by omega, fun h => absurd h (by omega)⟩).mono ?_; rw [show anyNZ [] = false from rfl]; rintro e w' ⟨rfl, rfl⟩))
    all_goals go_ret
    all_goals exact ⟨by first | rfl | (simp; done) | (simp [*]; done), HB1.out⟩
set_option maxHeartbeats 4000000 in
theorem may_in20 (a s l d0 d1 d2 d3 d4 d5 p : Int) (w : World) (b : Bool) (h0 : 1 ≤ a) (h1 : a ≤ 64) (h2 : 0 ≤ s) (h3 : s ≤ 1792) (h4 : 1 ≤ l) (h5 : l ≤ 1) (hm : (s % 28 != 0) = false) (hn : blk s = 0) (hb : anyNZ ([d0, d1, d2, d3, d4, d5].drop 0) = b) : Calls Try.prog 12 #[.agg #[.int .i64 a, .int .i64 2, .int .i64 s, .int .i64 l, .int .u32 d0, .int .u32 d1, .int .u32 d2, .int .u32 d3, .int .u32 d4, .int .u32 d5, .int .u32 p]] w fun e w' => e = .returned (.bool (!b && (p == 0))) ∧ Below w.heap.size w w' := by
  have hu41 := Try.underlying25
  have HN := Aside0.mk hn
  have HA := Aside0.mk hb
  obtain ⟨k, hk⟩ : ∃ k : Int, k = 2 := ⟨_, rfl⟩
  rw [← hk]
  have q1 : (k == 1) = false := by rw [hk]; rfl
  have q2 : (k == 2) = true := by rw [hk]; rfl
  clear hk hn hb
  cases b
  all_goals
    go_enter Try.func12, Try.ntmps12
    go_wp2_with (first | ((with_reducible refine gate_dst (N := 1) rfl ?_); refine box_event ?hg (N := 1) ?hd (cs := #[.int .i64 a, .int .i64 k, .int .i64 s, .int .i64 l, .int .u32 d0, .int .u32 d1, .int .u32 d2, .int .u32 d3, .int .u32 d4, .int .u32 d5, .int .u32 p]) (t := 25) ?hr ?_; (case hd => rfl); (case hg => rfl); (case hr => first | (go_simp; done) | (go_simp; rfl)); intro gb hg w1 hbox hb; have HB1 := Aside0.mk hb; have BK1 := Aside0.mk hbox; have c0 := (blk_cell hbox 0).trans (show (inoCells a k s l d0 d1 d2 d3 d4 d5 p)[0]? = some (.int .i64 a) from rfl); have c1 := (blk_cell hbox 1).trans (show (inoCells a k s l d0 d1 d2 d3 d4 d5 p)[1]? = some (.int .i64 k) from rfl); have c2 := (blk_cell hbox 2).trans (show (inoCells a k s l d0 d1 d2 d3 d4 d5 p)[2]? = some (.int .i64 s) from rfl); have c3 := (blk_cell hbox 3).trans (show (inoCells a k s l d0 d1 d2 d3 d4 d5 p)[3]? = some (.int .i64 l) from rfl); have c10 := (blk_cell hbox 10).trans (show (inoCells a k s l d0 d1 d2 d3 d4 d5 p)[10]? = some (.int .u32 p) from rfl); clear hb hbox hg) | (go_at_call 14; refine (blocks_any s _ (by omega)).mono ?_; rw [HN.out]; rintro e w' ⟨rfl, rfl⟩) | (go_at_call 24; refine (contains_any _ _ _ ([d0, d1, d2, d3, d4, d5].drop 0) _ ?_).mono ?_; exact ino_reads BK1.out 0 (by omega); rw [HA.out]; rintro e w' ⟨rfl, rfl⟩))
    all_goals go_ret
    all_goals exact ⟨by first | rfl | (simp; done) | (simp [*]; done), HB1.out⟩
set_option maxHeartbeats 4000000 in
theorem may_in21 (a s l d0 d1 d2 d3 d4 d5 p : Int) (w : World) (b : Bool) (h0 : 1 ≤ a) (h1 : a ≤ 64) (h2 : 0 ≤ s) (h3 : s ≤ 1792) (h4 : 1 ≤ l) (h5 : l ≤ 1) (hm : (s % 28 != 0) = false) (hn : blk s = 1) (hb : anyNZ ([d0, d1, d2, d3, d4, d5].drop 1) = b) : Calls Try.prog 12 #[.agg #[.int .i64 a, .int .i64 2, .int .i64 s, .int .i64 l, .int .u32 d0, .int .u32 d1, .int .u32 d2, .int .u32 d3, .int .u32 d4, .int .u32 d5, .int .u32 p]] w fun e w' => e = .returned (.bool (!b && (p == 0))) ∧ Below w.heap.size w w' := by
  have hu41 := Try.underlying25
  have HN := Aside0.mk hn
  have HA := Aside0.mk hb
  obtain ⟨k, hk⟩ : ∃ k : Int, k = 2 := ⟨_, rfl⟩
  rw [← hk]
  have q1 : (k == 1) = false := by rw [hk]; rfl
  have q2 : (k == 2) = true := by rw [hk]; rfl
  clear hk hn hb
  cases b
  all_goals
    go_enter Try.func12, Try.ntmps12
    go_wp2_with (first | ((with_reducible refine gate_dst (N := 1) rfl ?_); refine box_event ?hg (N := 1) ?hd (cs := #[.int .i64 a, .int .i64 k, .int .i64 s, .int .i64 l, .int .u32 d0, .int .u32 d1, .int .u32 d2, .int .u32 d3, .int .u32 d4, .int .u32 d5, .int .u32 p]) (t := 25) ?hr ?_; (case hd => rfl); (case hg => rfl); (case hr => first | (go_simp; done) | (go_simp; rfl)); intro gb hg w1 hbox hb; have HB1 := Aside0.mk hb; have BK1 := Aside0.mk hbox; have c0 := (blk_cell hbox 0).trans (show (inoCells a k s l d0 d1 d2 d3 d4 d5 p)[0]? = some (.int .i64 a) from rfl); have c1 := (blk_cell hbox 1).trans (show (inoCells a k s l d0 d1 d2 d3 d4 d5 p)[1]? = some (.int .i64 k) from rfl); have c2 := (blk_cell hbox 2).trans (show (inoCells a k s l d0 d1 d2 d3 d4 d5 p)[2]? = some (.int .i64 s) from rfl); have c3 := (blk_cell hbox 3).trans (show (inoCells a k s l d0 d1 d2 d3 d4 d5 p)[3]? = some (.int .i64 l) from rfl); have c10 := (blk_cell hbox 10).trans (show (inoCells a k s l d0 d1 d2 d3 d4 d5 p)[10]? = some (.int .u32 p) from rfl); clear hb hbox hg) | (go_at_call 14; refine (blocks_any s _ (by omega)).mono ?_; rw [HN.out]; rintro e w' ⟨rfl, rfl⟩) | (go_at_call 24; refine (contains_any _ _ _ ([d0, d1, d2, d3, d4, d5].drop 1) _ ?_).mono ?_; exact ino_reads BK1.out 1 (by omega); rw [HA.out]; rintro e w' ⟨rfl, rfl⟩))
    all_goals go_ret
    all_goals exact ⟨by first | rfl | (simp; done) | (simp [*]; done), HB1.out⟩
set_option maxHeartbeats 4000000 in
theorem may_in22 (a s l d0 d1 d2 d3 d4 d5 p : Int) (w : World) (b : Bool) (h0 : 1 ≤ a) (h1 : a ≤ 64) (h2 : 0 ≤ s) (h3 : s ≤ 1792) (h4 : 1 ≤ l) (h5 : l ≤ 1) (hm : (s % 28 != 0) = false) (hn : blk s = 2) (hb : anyNZ ([d0, d1, d2, d3, d4, d5].drop 2) = b) : Calls Try.prog 12 #[.agg #[.int .i64 a, .int .i64 2, .int .i64 s, .int .i64 l, .int .u32 d0, .int .u32 d1, .int .u32 d2, .int .u32 d3, .int .u32 d4, .int .u32 d5, .int .u32 p]] w fun e w' => e = .returned (.bool (!b && (p == 0))) ∧ Below w.heap.size w w' := by
  have hu41 := Try.underlying25
  have HN := Aside0.mk hn
  have HA := Aside0.mk hb
  obtain ⟨k, hk⟩ : ∃ k : Int, k = 2 := ⟨_, rfl⟩
  rw [← hk]
  have q1 : (k == 1) = false := by rw [hk]; rfl
  have q2 : (k == 2) = true := by rw [hk]; rfl
  clear hk hn hb
  cases b
  all_goals
    go_enter Try.func12, Try.ntmps12
    go_wp2_with (first | ((with_reducible refine gate_dst (N := 1) rfl ?_); refine box_event ?hg (N := 1) ?hd (cs := #[.int .i64 a, .int .i64 k, .int .i64 s, .int .i64 l, .int .u32 d0, .int .u32 d1, .int .u32 d2, .int .u32 d3, .int .u32 d4, .int .u32 d5, .int .u32 p]) (t := 25) ?hr ?_; (case hd => rfl); (case hg => rfl); (case hr => first | (go_simp; done) | (go_simp; rfl)); intro gb hg w1 hbox hb; have HB1 := Aside0.mk hb; have BK1 := Aside0.mk hbox; have c0 := (blk_cell hbox 0).trans (show (inoCells a k s l d0 d1 d2 d3 d4 d5 p)[0]? = some (.int .i64 a) from rfl); have c1 := (blk_cell hbox 1).trans (show (inoCells a k s l d0 d1 d2 d3 d4 d5 p)[1]? = some (.int .i64 k) from rfl); have c2 := (blk_cell hbox 2).trans (show (inoCells a k s l d0 d1 d2 d3 d4 d5 p)[2]? = some (.int .i64 s) from rfl); have c3 := (blk_cell hbox 3).trans (show (inoCells a k s l d0 d1 d2 d3 d4 d5 p)[3]? = some (.int .i64 l) from rfl); have c10 := (blk_cell hbox 10).trans (show (inoCells a k s l d0 d1 d2 d3 d4 d5 p)[10]? = some (.int .u32 p) from rfl); clear hb hbox hg) | (go_at_call 14; refine (blocks_any s _ (by omega)).mono ?_; rw [HN.out]; rintro e w' ⟨rfl, rfl⟩) | (go_at_call 24; refine (contains_any _ _ _ ([d0, d1, d2, d3, d4, d5].drop 2) _ ?_).mono ?_; exact ino_reads BK1.out 2 (by omega); rw [HA.out]; rintro e w' ⟨rfl, rfl⟩))
    all_goals go_ret
    all_goals exact ⟨by first | rfl | (simp; done) | (simp [*]; done), HB1.out⟩
set_option maxHeartbeats 4000000 in
theorem may_in23 (a s l d0 d1 d2 d3 d4 d5 p : Int) (w : World) (b : Bool) (h0 : 1 ≤ a) (h1 : a ≤ 64) (h2 : 0 ≤ s) (h3 : s ≤ 1792) (h4 : 1 ≤ l) (h5 : l ≤ 1) (hm : (s % 28 != 0) = false) (hn : blk s = 3) (hb : anyNZ ([d0, d1, d2, d3, d4, d5].drop 3) = b) : Calls Try.prog 12 #[.agg #[.int .i64 a, .int .i64 2, .int .i64 s, .int .i64 l, .int .u32 d0, .int .u32 d1, .int .u32 d2, .int .u32 d3, .int .u32 d4, .int .u32 d5, .int .u32 p]] w fun e w' => e = .returned (.bool (!b && (p == 0))) ∧ Below w.heap.size w w' := by
  have hu41 := Try.underlying25
  have HN := Aside0.mk hn
  have HA := Aside0.mk hb
  obtain ⟨k, hk⟩ : ∃ k : Int, k = 2 := ⟨_, rfl⟩
  rw [← hk]
  have q1 : (k == 1) = false := by rw [hk]; rfl
  have q2 : (k == 2) = true := by rw [hk]; rfl
  clear hk hn hb
  cases b
  all_goals
    go_enter Try.func12, Try.ntmps12
    go_wp2_with (first | ((with_reducible refine gate_dst (N := 1) rfl ?_); refine box_event ?hg (N := 1) ?hd (cs := #[.int .i64 a, .int .i64 k, .int .i64 s, .int .i64 l, .int .u32 d0, .int .u32 d1, .int .u32 d2, .int .u32 d3, .int .u32 d4, .int .u32 d5, .int .u32 p]) (t := 25) ?hr ?_; (case hd => rfl); (case hg => rfl); (case hr => first | (go_simp; done) | (go_simp; rfl)); intro gb hg w1 hbox hb; have HB1 := Aside0.mk hb; have BK1 := Aside0.mk hbox; have c0 := (blk_cell hbox 0).trans (show (inoCells a k s l d0 d1 d2 d3 d4 d5 p)[0]? = some (.int .i64 a) from rfl); have c1 := (blk_cell hbox 1).trans (show (inoCells a k s l d0 d1 d2 d3 d4 d5 p)[1]? = some (.int .i64 k) from rfl); have c2 := (blk_cell hbox 2).trans (show (inoCells a k s l d0 d1 d2 d3 d4 d5 p)[2]? = some (.int .i64 s) from rfl); have c3 := (blk_cell hbox 3).trans (show (inoCells a k s l d0 d1 d2 d3 d4 d5 p)[3]? = some (.int .i64 l) from rfl); have c10 := (blk_cell hbox 10).trans (show (inoCells a k s l d0 d1 d2 d3 d4 d5 p)[10]? = some (.int .u32 p) from rfl); clear hb hbox hg) | (go_at_call 14; refine (blocks_any s _ (by omega)).mono ?_; rw [HN.out]; rintro e w' ⟨rfl, rfl⟩) | (go_at_call 24; refine (contains_any _ _ _ ([d0, d1, d2, d3, d4, d5].drop 3) _ ?_).mono ?_; exact ino_reads BK1.out 3 (by omega); rw [HA.out]; rintro e w' ⟨rfl, rfl⟩))
    all_goals go_ret
    all_goals exact ⟨by first | rfl | (simp; done) | (simp [*]; done), HB1.out⟩
set_option maxHeartbeats 4000000 in
theorem may_in24 (a s l d0 d1 d2 d3 d4 d5 p : Int) (w : World) (b : Bool) (h0 : 1 ≤ a) (h1 : a ≤ 64) (h2 : 0 ≤ s) (h3 : s ≤ 1792) (h4 : 1 ≤ l) (h5 : l ≤ 1) (hm : (s % 28 != 0) = false) (hn : blk s = 4) (hb : anyNZ ([d0, d1, d2, d3, d4, d5].drop 4) = b) : Calls Try.prog 12 #[.agg #[.int .i64 a, .int .i64 2, .int .i64 s, .int .i64 l, .int .u32 d0, .int .u32 d1, .int .u32 d2, .int .u32 d3, .int .u32 d4, .int .u32 d5, .int .u32 p]] w fun e w' => e = .returned (.bool (!b && (p == 0))) ∧ Below w.heap.size w w' := by
  have hu41 := Try.underlying25
  have HN := Aside0.mk hn
  have HA := Aside0.mk hb
  obtain ⟨k, hk⟩ : ∃ k : Int, k = 2 := ⟨_, rfl⟩
  rw [← hk]
  have q1 : (k == 1) = false := by rw [hk]; rfl
  have q2 : (k == 2) = true := by rw [hk]; rfl
  clear hk hn hb
  cases b
  all_goals
    go_enter Try.func12, Try.ntmps12
    go_wp2_with (first | ((with_reducible refine gate_dst (N := 1) rfl ?_); refine box_event ?hg (N := 1) ?hd (cs := #[.int .i64 a, .int .i64 k, .int .i64 s, .int .i64 l, .int .u32 d0, .int .u32 d1, .int .u32 d2, .int .u32 d3, .int .u32 d4, .int .u32 d5, .int .u32 p]) (t := 25) ?hr ?_; (case hd => rfl); (case hg => rfl); (case hr => first | (go_simp; done) | (go_simp; rfl)); intro gb hg w1 hbox hb; have HB1 := Aside0.mk hb; have BK1 := Aside0.mk hbox; have c0 := (blk_cell hbox 0).trans (show (inoCells a k s l d0 d1 d2 d3 d4 d5 p)[0]? = some (.int .i64 a) from rfl); have c1 := (blk_cell hbox 1).trans (show (inoCells a k s l d0 d1 d2 d3 d4 d5 p)[1]? = some (.int .i64 k) from rfl); have c2 := (blk_cell hbox 2).trans (show (inoCells a k s l d0 d1 d2 d3 d4 d5 p)[2]? = some (.int .i64 s) from rfl); have c3 := (blk_cell hbox 3).trans (show (inoCells a k s l d0 d1 d2 d3 d4 d5 p)[3]? = some (.int .i64 l) from rfl); have c10 := (blk_cell hbox 10).trans (show (inoCells a k s l d0 d1 d2 d3 d4 d5 p)[10]? = some (.int .u32 p) from rfl); clear hb hbox hg) | (go_at_call 14; refine (blocks_any s _ (by omega)).mono ?_; rw [HN.out]; rintro e w' ⟨rfl, rfl⟩) | (go_at_call 24; refine (contains_any _ _ _ ([d0, d1, d2, d3, d4, d5].drop 4) _ ?_).mono ?_; exact ino_reads BK1.out 4 (by omega); rw [HA.out]; rintro e w' ⟨rfl, rfl⟩))
    all_goals go_ret
    all_goals exact ⟨by first | rfl | (simp; done) | (simp [*]; done), HB1.out⟩
set_option maxHeartbeats 4000000 in
theorem may_in25 (a s l d0 d1 d2 d3 d4 d5 p : Int) (w : World) (b : Bool) (h0 : 1 ≤ a) (h1 : a ≤ 64) (h2 : 0 ≤ s) (h3 : s ≤ 1792) (h4 : 1 ≤ l) (h5 : l ≤ 1) (hm : (s % 28 != 0) = false) (hn : blk s = 5) (hb : anyNZ ([d0, d1, d2, d3, d4, d5].drop 5) = b) : Calls Try.prog 12 #[.agg #[.int .i64 a, .int .i64 2, .int .i64 s, .int .i64 l, .int .u32 d0, .int .u32 d1, .int .u32 d2, .int .u32 d3, .int .u32 d4, .int .u32 d5, .int .u32 p]] w fun e w' => e = .returned (.bool (!b && (p == 0))) ∧ Below w.heap.size w w' := by
  have hu41 := Try.underlying25
  have HN := Aside0.mk hn
  have HA := Aside0.mk hb
  obtain ⟨k, hk⟩ : ∃ k : Int, k = 2 := ⟨_, rfl⟩
  rw [← hk]
  have q1 : (k == 1) = false := by rw [hk]; rfl
  have q2 : (k == 2) = true := by rw [hk]; rfl
  clear hk hn hb
  cases b
  all_goals
    go_enter Try.func12, Try.ntmps12
    go_wp2_with (first | ((with_reducible refine gate_dst (N := 1) rfl ?_); refine box_event ?hg (N := 1) ?hd (cs := #[.int .i64 a, .int .i64 k, .int .i64 s, .int .i64 l, .int .u32 d0, .int .u32 d1, .int .u32 d2, .int .u32 d3, .int .u32 d4, .int .u32 d5, .int .u32 p]) (t := 25) ?hr ?_; (case hd => rfl); (case hg => rfl); (case hr => first | (go_simp; done) | (go_simp; rfl)); intro gb hg w1 hbox hb; have HB1 := Aside0.mk hb; have BK1 := Aside0.mk hbox; have c0 := (blk_cell hbox 0).trans (show (inoCells a k s l d0 d1 d2 d3 d4 d5 p)[0]? = some (.int .i64 a) from rfl); have c1 := (blk_cell hbox 1).trans (show (inoCells a k s l d0 d1 d2 d3 d4 d5 p)[1]? = some (.int .i64 k) from rfl); have c2 := (blk_cell hbox 2).trans (show (inoCells a k s l d0 d1 d2 d3 d4 d5 p)[2]? = some (.int .i64 s) from rfl); have c3 := (blk_cell hbox 3).trans (show (inoCells a k s l d0 d1 d2 d3 d4 d5 p)[3]? = some (.int .i64 l) from rfl); have c10 := (blk_cell hbox 10).trans (show (inoCells a k s l d0 d1 d2 d3 d4 d5 p)[10]? = some (.int .u32 p) from rfl); clear hb hbox hg) | (go_at_call 14; refine (blocks_any s _ (by omega)).mono ?_; rw [HN.out]; rintro e w' ⟨rfl, rfl⟩) | (go_at_call 24; refine (contains_any _ _ _ ([d0, d1, d2, d3, d4, d5].drop 5) _ ?_).mono ?_; exact ino_reads BK1.out 5 (by omega); rw [HA.out]; rintro e w' ⟨rfl, rfl⟩))
    all_goals go_ret
    all_goals exact ⟨by first | rfl | (simp; done) | (simp [*]; done), HB1.out⟩
set_option maxHeartbeats 4000000 in
theorem may_in26 (a s l d0 d1 d2 d3 d4 d5 p : Int) (w : World) (b : Bool) (h0 : 1 ≤ a) (h1 : a ≤ 64) (h2 : 0 ≤ s) (h3 : s ≤ 1792) (h4 : 1 ≤ l) (h5 : l ≤ 1) (hm : (s % 28 != 0) = false) (hn : blk s = 6) (hb : anyNZ ([d0, d1, d2, d3, d4, d5].drop 6) = b) : Calls Try.prog 12 #[.agg #[.int .i64 a, .int .i64 2, .int .i64 s, .int .i64 l, .int .u32 d0, .int .u32 d1, .int .u32 d2, .int .u32 d3, .int .u32 d4, .int .u32 d5, .int .u32 p]] w fun e w' => e = .returned (.bool (!b && (p == 0))) ∧ Below w.heap.size w w' := by
  have hu41 := Try.underlying25
  have HN := Aside0.mk hn
  have HA := Aside0.mk hb
  obtain ⟨k, hk⟩ : ∃ k : Int, k = 2 := ⟨_, rfl⟩
  rw [← hk]
  have q1 : (k == 1) = false := by rw [hk]; rfl
  have q2 : (k == 2) = true := by rw [hk]; rfl
  clear hk hn hb
  obtain rfl : b = false := by rw [← HA.out]; rfl
  all_goals
    go_enter Try.func12, Try.ntmps12
    go_wp2_with (first | ((with_reducible refine gate_dst (N := 1) rfl ?_); refine box_event ?hg (N := 1) ?hd (cs := #[.int .i64 a, .int .i64 k, .int .i64 s, .int .i64 l, .int .u32 d0, .int .u32 d1, .int .u32 d2, .int .u32 d3, .int .u32 d4, .int .u32 d5, .int .u32 p]) (t := 25) ?hr ?_; (case hd => rfl); (case hg => rfl); (case hr => first | (go_simp; done) | (go_simp; rfl)); intro gb hg w1 hbox hb; have HB1 := Aside0.mk hb; have BK1 := Aside0.mk hbox; have c0 := (blk_cell hbox 0).trans (show (inoCells a k s l d0 d1 d2 d3 d4 d5 p)[0]? = some (.int .i64 a) from rfl); have c1 := (blk_cell hbox 1).trans (show (inoCells a k s l d0 d1 d2 d3 d4 d5 p)[1]? = some (.int .i64 k) from rfl); have c2 := (blk_cell hbox 2).trans (show (inoCells a k s l d0 d1 d2 d3 d4 d5 p)[2]? = some (.int .i64 s) from rfl); have c3 := (blk_cell hbox 3).trans (show (inoCells a k s l d0 d1 d2 d3 d4 d5 p)[3]? = some (.int .i64 l) from rfl); have c10 := (blk_cell hbox 10).trans (show (inoCells a k s l d0 d1 d2 d3 d4 d5 p)[10]? = some (.int .u32 p) from rfl); clear hb hbox hg) | (go_at_call 14; refine (blocks_any s _ (by omega)).mono ?_; rw [HN.out]; rintro e w' ⟨rfl, rfl⟩) | (go_at_call 24; refine (contains_any _ 0 _ [] _ ⟨rfl, by omega, fun h => absurd h (by omega)⟩).mono ?_; rw [show anyNZ [] = false from rfl]; rintro e w' ⟨rfl, rfl⟩))
    all_goals go_ret
    all_goals exact ⟨by first | rfl | (simp; done) | (simp [*]; done), HB1.out⟩
set_option maxHeartbeats 4000000 in
theorem may_in2n (a s l d0 d1 d2 d3 d4 d5 p : Int) (w : World) (b : Bool) (h0 : 1 ≤ a) (h1 : a ≤ 64) (h2 : 0 ≤ s) (h3 : s ≤ 1792) (h4 : 1 ≤ l) (h5 : l ≤ 1) (hm : (s % 28 != 0) = false) (n : Int) (hn1 : 6 < n) (hn2 : n ≤ 34) (hn : blk s = n) (hb : anyNZ ([d0, d1, d2, d3, d4, d5].drop 6) = b) : Calls Try.prog 12 #[.agg #[.int .i64 a, .int .i64 2, .int .i64 s, .int .i64 l, .int .u32 d0, .int .u32 d1, .int .u32 d2, .int .u32 d3, .int .u32 d4, .int .u32 d5, .int .u32 p]] w fun e w' => e = .returned (.bool (!b && (true))) ∧ Below w.heap.size w w' := by
  have hu41 := Try.underlying25
  have HN := Aside0.mk hn
  have HA := Aside0.mk hb
  obtain ⟨k, hk⟩ : ∃ k : Int, k = 2 := ⟨_, rfl⟩
  rw [← hk]
  have q1 : (k == 1) = false := by rw [hk]; rfl
  have q2 : (k == 2) = true := by rw [hk]; rfl
  clear hk hn hb
  obtain rfl : b = false := by rw [← HA.out]; rfl
  all_goals
    go_enter Try.func12, Try.ntmps12
    go_wp2_with (first | ((with_reducible refine gate_dst (N := 1) rfl ?_); refine box_event ?hg (N := 1) ?hd (cs := #[.int .i64 a, .int .i64 k, .int .i64 s, .int .i64 l, .int .u32 d0, .int .u32 d1, .int .u32 d2, .int .u32 d3, .int .u32 d4, .int .u32 d5, .int .u32 p]) (t := 25) ?hr ?_; (case hd => rfl); (case hg => rfl); (case hr => first | (go_simp; done) | (go_simp; rfl)); intro gb hg w1 hbox hb; have HB1 := Aside0.mk hb; have BK1 := Aside0.mk hbox; have c0 := (blk_cell hbox 0).trans (show (inoCells a k s l d0 d1 d2 d3 d4 d5 p)[0]? = some (.int .i64 a) from rfl); have c1 := (blk_cell hbox 1).trans (show (inoCells a k s l d0 d1 d2 d3 d4 d5 p)[1]? = some (.int .i64 k) from rfl); have c2 := (blk_cell hbox 2).trans (show (inoCells a k s l d0 d1 d2 d3 d4 d5 p)[2]? = some (.int .i64 s) from rfl); have c3 := (blk_cell hbox 3).trans (show (inoCells a k s l d0 d1 d2 d3 d4 d5 p)[3]? = some (.int .i64 l) from rfl); have c10 := (blk_cell hbox 10).trans (show (inoCells a k s l d0 d1 d2 d3 d4 d5 p)[10]? = some (.int .u32 p) from rfl); clear hb hbox hg) | (go_at_call 14; refine (blocks_any s _ (by omega)).mono ?_; rw [HN.out]; rintro e w' ⟨rfl, rfl⟩) | (go_at_call 24; refine (contains_any _ 0 _ [] _ ⟨rfl, by omega, fun h => absurd h (by omega)⟩).mono ?_; rw [show anyNZ [] = false from rfl]; rintro e w' ⟨rfl, rfl⟩))
    all_goals go_ret
    all_goals exact ⟨by first | rfl | (simp; done) | (simp [*]; done), HB1.out⟩
end Go.Proofs.YtencgnhgjegknaaX
