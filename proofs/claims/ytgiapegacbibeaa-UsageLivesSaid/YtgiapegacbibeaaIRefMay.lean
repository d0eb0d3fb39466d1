/- The document's May: the same answer as inode.May's. -/
import Derived.Test.YtgiapegacbibeaaIAny
import Derived.Test.YtgiapegacbibeaaUPr
namespace Go.Proofs.YtgiapegacbibeaaX
open Go.RowKit Go.Proofs.YtgiapegacbibeaaW.PrintWords
set_option linter.unusedVariables false
theorem w64 {n : Int} (h : -9223372036854775808 ≤ n ∧ n ≤ 9223372036854775807) : wrap64 n = n := IntWalk.wrap64_in n h
theorem refBlocks_f (a : Int) (ha : a ≤ 9223372036854775807) : Ytgiapegacbibeaa.PUsageLives.hayrickref11_Blocks.f a = some (blk a) := by
  unfold Ytgiapegacbibeaa.PUsageLives.hayrickref11_Blocks.f blk
  by_cases h : a < 1
  · have hb : (if a ≤ 0 then (0 : Int) else (a - 1) / 112 + 1) = 0 := if_pos (by omega)
    rw [if_pos h, hb]
  · have hb : (if a ≤ 0 then (0 : Int) else (a - 1) / 112 + 1) = (a - 1) / 112 + 1 := if_neg (by omega)
    rw [if_neg h, hb, Int.tdiv_eq_ediv_of_nonneg (by omega), Int.tmod_eq_emod_of_nonneg (by omega)]
    by_cases h2 : a % 112 > 0
    · rw [if_pos h2, w64 (n := a / 112) (by omega), w64 (n := a / 112 + 1) (by omega)]; congr 1; omega
    · rw [if_neg h2, w64 (n := a / 112) (by omega)]; congr 1; omega
theorem refBlocks_any (a : Int) (w : World) (ha : a ≤ 9223372036854775807) :
    Calls Try.prog 37 #[.int .i64 a] w fun e w' => e = .returned (.int .i64 (blk a)) ∧ Drawn0 w w' :=
  Ytgiapegacbibeaa.PUsageLives.hayrickref11_Blocks.calls a (blk a) w (refBlocks_f a ha)
/-- The first pointer behind the file that is none. -/
theorem anyNZ_false {l : List Int} (h : ∀ i, i < l.length → l.getD i 0 = 0) : anyNZ l = false := by
  unfold anyNZ
  simp only [List.any_eq_false]
  intro x hx
  obtain ⟨i, hi, rfl⟩ := List.getElem_of_mem hx
  have := h i hi
  rw [List.getD_eq_getElem?_getD, List.getElem?_eq_getElem hi] at this
  simpa using this
theorem anyNZ_true {l : List Int} (i : Nat) (h : l.getD i 0 ≠ 0) : anyNZ l = true := by
  have hi : i < l.length := by
    rcases Nat.lt_or_ge i l.length with h' | h'
    · exact h'
    · rw [List.getD_eq_getElem?_getD, List.getElem?_eq_none h'] at h; exact absurd rfl h
  unfold anyNZ
  rw [List.any_eq_true]
  refine ⟨l[i], List.getElem_mem hi, ?_⟩
  rw [List.getD_eq_getElem?_getD, List.getElem?_eq_getElem hi] at h
  simpa using h
set_option maxHeartbeats 400000 in
set_option maxRecDepth 100000 in
theorem rmay_ino0 (a k s l d0 d1 d2 d3 d4 d5 p : Int) (w : World) (h : a < 1) :
    Calls Try.prog 47 #[.agg (inoCells a k s l d0 d1 d2 d3 d4 d5 p)] w fun e w' => e = .returned (.bool false) ∧ Below w.heap.size w w' := by
  go_enter Try.func47, Try.ntmps47
  go_wp2_with (first | ((with_reducible refine gate_dst (N := 1) rfl ?_); refine box_event ?hg (N := 1) ?hd (cs := inoCells a k s l d0 d1 d2 d3 d4 d5 p) (t := 57) ?hr ?_; (case hd => rfl); (case hg => rfl); (case hr => first | (go_simp; done) | (go_simp; rfl)); intro gb hg w1 hbox hb; have HB1 := Aside0.mk hb; have BK1 := Aside0.mk hbox; have c0 := (blk_cell hbox 0).trans (show (inoCells a k s l d0 d1 d2 d3 d4 d5 p)[0]? = some (.int .i64 a) from rfl); have c1 := (blk_cell hbox 1).trans (show (inoCells a k s l d0 d1 d2 d3 d4 d5 p)[1]? = some (.int .i64 k) from rfl); have c2 := (blk_cell hbox 2).trans (show (inoCells a k s l d0 d1 d2 d3 d4 d5 p)[2]? = some (.int .i64 s) from rfl); have c3 := (blk_cell hbox 3).trans (show (inoCells a k s l d0 d1 d2 d3 d4 d5 p)[3]? = some (.int .i64 l) from rfl); clear hb hbox hg))
  all_goals go_ret
  all_goals exact ⟨rfl, HB1.out⟩
set_option maxHeartbeats 400000 in
set_option maxRecDepth 100000 in
theorem rmay_ino1 (a k s l d0 d1 d2 d3 d4 d5 p : Int) (w : World) (h0 : ¬ a < 1) (h : 64 < a) :
    Calls Try.prog 47 #[.agg (inoCells a k s l d0 d1 d2 d3 d4 d5 p)] w fun e w' => e = .returned (.bool false) ∧ Below w.heap.size w w' := by
  go_enter Try.func47, Try.ntmps47
  go_wp2_with (first | ((with_reducible refine gate_dst (N := 1) rfl ?_); refine box_event ?hg (N := 1) ?hd (cs := inoCells a k s l d0 d1 d2 d3 d4 d5 p) (t := 57) ?hr ?_; (case hd => rfl); (case hg => rfl); (case hr => first | (go_simp; done) | (go_simp; rfl)); intro gb hg w1 hbox hb; have HB1 := Aside0.mk hb; have BK1 := Aside0.mk hbox; have c0 := (blk_cell hbox 0).trans (show (inoCells a k s l d0 d1 d2 d3 d4 d5 p)[0]? = some (.int .i64 a) from rfl); have c1 := (blk_cell hbox 1).trans (show (inoCells a k s l d0 d1 d2 d3 d4 d5 p)[1]? = some (.int .i64 k) from rfl); have c2 := (blk_cell hbox 2).trans (show (inoCells a k s l d0 d1 d2 d3 d4 d5 p)[2]? = some (.int .i64 s) from rfl); have c3 := (blk_cell hbox 3).trans (show (inoCells a k s l d0 d1 d2 d3 d4 d5 p)[3]? = some (.int .i64 l) from rfl); clear hb hbox hg))
  all_goals go_ret
  all_goals exact ⟨rfl, HB1.out⟩
set_option maxHeartbeats 400000 in
set_option maxRecDepth 100000 in
theorem rmay_size (a k s l d0 d1 d2 d3 d4 d5 p : Int) (w : World) (h0 : ¬ a < 1) (h1 : ¬ 64 < a) (h : s < 0) :
    Calls Try.prog 47 #[.agg (inoCells a k s l d0 d1 d2 d3 d4 d5 p)] w fun e w' => e = .returned (.bool false) ∧ Below w.heap.size w w' := by
  go_enter Try.func47, Try.ntmps47
  go_wp2_with (first | ((with_reducible refine gate_dst (N := 1) rfl ?_); refine box_event ?hg (N := 1) ?hd (cs := inoCells a k s l d0 d1 d2 d3 d4 d5 p) (t := 57) ?hr ?_; (case hd => rfl); (case hg => rfl); (case hr => first | (go_simp; done) | (go_simp; rfl)); intro gb hg w1 hbox hb; have HB1 := Aside0.mk hb; have BK1 := Aside0.mk hbox; have c0 := (blk_cell hbox 0).trans (show (inoCells a k s l d0 d1 d2 d3 d4 d5 p)[0]? = some (.int .i64 a) from rfl); have c1 := (blk_cell hbox 1).trans (show (inoCells a k s l d0 d1 d2 d3 d4 d5 p)[1]? = some (.int .i64 k) from rfl); have c2 := (blk_cell hbox 2).trans (show (inoCells a k s l d0 d1 d2 d3 d4 d5 p)[2]? = some (.int .i64 s) from rfl); have c3 := (blk_cell hbox 3).trans (show (inoCells a k s l d0 d1 d2 d3 d4 d5 p)[3]? = some (.int .i64 l) from rfl); clear hb hbox hg))
  all_goals go_ret
  all_goals exact ⟨rfl, HB1.out⟩
set_option maxHeartbeats 400000 in
set_option maxRecDepth 100000 in
theorem rmay_kind (a k s l d0 d1 d2 d3 d4 d5 p : Int) (w : World) (h0 : ¬ a < 1) (h1 : ¬ 64 < a) (h2 : ¬ s < 0) (q1 : (k == 1) = false) (q2 : (k == 2) = false) :
    Calls Try.prog 47 #[.agg (inoCells a k s l d0 d1 d2 d3 d4 d5 p)] w fun e w' => e = .returned (.bool false) ∧ Below w.heap.size w w' := by
  go_enter Try.func47, Try.ntmps47
  go_wp2_with (first | ((with_reducible refine gate_dst (N := 1) rfl ?_); refine box_event ?hg (N := 1) ?hd (cs := inoCells a k s l d0 d1 d2 d3 d4 d5 p) (t := 57) ?hr ?_; (case hd => rfl); (case hg => rfl); (case hr => first | (go_simp; done) | (go_simp; rfl)); intro gb hg w1 hbox hb; have HB1 := Aside0.mk hb; have BK1 := Aside0.mk hbox; have c0 := (blk_cell hbox 0).trans (show (inoCells a k s l d0 d1 d2 d3 d4 d5 p)[0]? = some (.int .i64 a) from rfl); have c1 := (blk_cell hbox 1).trans (show (inoCells a k s l d0 d1 d2 d3 d4 d5 p)[1]? = some (.int .i64 k) from rfl); have c2 := (blk_cell hbox 2).trans (show (inoCells a k s l d0 d1 d2 d3 d4 d5 p)[2]? = some (.int .i64 s) from rfl); have c3 := (blk_cell hbox 3).trans (show (inoCells a k s l d0 d1 d2 d3 d4 d5 p)[3]? = some (.int .i64 l) from rfl); clear hb hbox hg))
  all_goals go_ret
  all_goals exact ⟨rfl, HB1.out⟩
set_option maxHeartbeats 400000 in
set_option maxRecDepth 100000 in
theorem rmay_file0 (a k s l d0 d1 d2 d3 d4 d5 p : Int) (w : World) (h0 : ¬ a < 1) (h1 : ¬ 64 < a) (h2 : ¬ s < 0) (q1 : (k == 1) = true) (h : 3808 < s) :
    Calls Try.prog 47 #[.agg (inoCells a k s l d0 d1 d2 d3 d4 d5 p)] w fun e w' => e = .returned (.bool false) ∧ Below w.heap.size w w' := by
  go_enter Try.func47, Try.ntmps47
  go_wp2_with (first | ((with_reducible refine gate_dst (N := 1) rfl ?_); refine box_event ?hg (N := 1) ?hd (cs := inoCells a k s l d0 d1 d2 d3 d4 d5 p) (t := 57) ?hr ?_; (case hd => rfl); (case hg => rfl); (case hr => first | (go_simp; done) | (go_simp; rfl)); intro gb hg w1 hbox hb; have HB1 := Aside0.mk hb; have BK1 := Aside0.mk hbox; have c0 := (blk_cell hbox 0).trans (show (inoCells a k s l d0 d1 d2 d3 d4 d5 p)[0]? = some (.int .i64 a) from rfl); have c1 := (blk_cell hbox 1).trans (show (inoCells a k s l d0 d1 d2 d3 d4 d5 p)[1]? = some (.int .i64 k) from rfl); have c2 := (blk_cell hbox 2).trans (show (inoCells a k s l d0 d1 d2 d3 d4 d5 p)[2]? = some (.int .i64 s) from rfl); have c3 := (blk_cell hbox 3).trans (show (inoCells a k s l d0 d1 d2 d3 d4 d5 p)[3]? = some (.int .i64 l) from rfl); clear hb hbox hg))
  all_goals go_ret
  all_goals exact ⟨rfl, HB1.out⟩
set_option maxHeartbeats 400000 in
set_option maxRecDepth 100000 in
theorem rmay_file1 (a k s l d0 d1 d2 d3 d4 d5 p : Int) (w : World) (h0 : ¬ a < 1) (h1 : ¬ 64 < a) (h2 : ¬ s < 0) (q1 : (k == 1) = true) (h3 : ¬ 3808 < s) (h : l < 1) :
    Calls Try.prog 47 #[.agg (inoCells a k s l d0 d1 d2 d3 d4 d5 p)] w fun e w' => e = .returned (.bool false) ∧ Below w.heap.size w w' := by
  go_enter Try.func47, Try.ntmps47
  go_wp2_with (first | ((with_reducible refine gate_dst (N := 1) rfl ?_); refine box_event ?hg (N := 1) ?hd (cs := inoCells a k s l d0 d1 d2 d3 d4 d5 p) (t := 57) ?hr ?_; (case hd => rfl); (case hg => rfl); (case hr => first | (go_simp; done) | (go_simp; rfl)); intro gb hg w1 hbox hb; have HB1 := Aside0.mk hb; have BK1 := Aside0.mk hbox; have c0 := (blk_cell hbox 0).trans (show (inoCells a k s l d0 d1 d2 d3 d4 d5 p)[0]? = some (.int .i64 a) from rfl); have c1 := (blk_cell hbox 1).trans (show (inoCells a k s l d0 d1 d2 d3 d4 d5 p)[1]? = some (.int .i64 k) from rfl); have c2 := (blk_cell hbox 2).trans (show (inoCells a k s l d0 d1 d2 d3 d4 d5 p)[2]? = some (.int .i64 s) from rfl); have c3 := (blk_cell hbox 3).trans (show (inoCells a k s l d0 d1 d2 d3 d4 d5 p)[3]? = some (.int .i64 l) from rfl); clear hb hbox hg))
  all_goals go_ret
  all_goals exact ⟨rfl, HB1.out⟩
set_option maxHeartbeats 400000 in
set_option maxRecDepth 100000 in
theorem rmay_file2 (a k s l d0 d1 d2 d3 d4 d5 p : Int) (w : World) (h0 : ¬ a < 1) (h1 : ¬ 64 < a) (h2 : ¬ s < 0) (q1 : (k == 1) = true) (h3 : ¬ 3808 < s) (h4 : ¬ l < 1) (h : 64 < l) :
    Calls Try.prog 47 #[.agg (inoCells a k s l d0 d1 d2 d3 d4 d5 p)] w fun e w' => e = .returned (.bool false) ∧ Below w.heap.size w w' := by
  go_enter Try.func47, Try.ntmps47
  go_wp2_with (first | ((with_reducible refine gate_dst (N := 1) rfl ?_); refine box_event ?hg (N := 1) ?hd (cs := inoCells a k s l d0 d1 d2 d3 d4 d5 p) (t := 57) ?hr ?_; (case hd => rfl); (case hg => rfl); (case hr => first | (go_simp; done) | (go_simp; rfl)); intro gb hg w1 hbox hb; have HB1 := Aside0.mk hb; have BK1 := Aside0.mk hbox; have c0 := (blk_cell hbox 0).trans (show (inoCells a k s l d0 d1 d2 d3 d4 d5 p)[0]? = some (.int .i64 a) from rfl); have c1 := (blk_cell hbox 1).trans (show (inoCells a k s l d0 d1 d2 d3 d4 d5 p)[1]? = some (.int .i64 k) from rfl); have c2 := (blk_cell hbox 2).trans (show (inoCells a k s l d0 d1 d2 d3 d4 d5 p)[2]? = some (.int .i64 s) from rfl); have c3 := (blk_cell hbox 3).trans (show (inoCells a k s l d0 d1 d2 d3 d4 d5 p)[3]? = some (.int .i64 l) from rfl); clear hb hbox hg))
  all_goals go_ret
  all_goals exact ⟨rfl, HB1.out⟩
set_option maxHeartbeats 400000 in
set_option maxRecDepth 100000 in
theorem rmay_dir0 (a k s l d0 d1 d2 d3 d4 d5 p : Int) (w : World) (h0 : ¬ a < 1) (h1 : ¬ 64 < a) (h2 : ¬ s < 0) (q1 : (k == 1) = false) (q2 : (k == 2) = true) (h : 1792 < s) :
    Calls Try.prog 47 #[.agg (inoCells a k s l d0 d1 d2 d3 d4 d5 p)] w fun e w' => e = .returned (.bool false) ∧ Below w.heap.size w w' := by
  go_enter Try.func47, Try.ntmps47
  go_wp2_with (first | ((with_reducible refine gate_dst (N := 1) rfl ?_); refine box_event ?hg (N := 1) ?hd (cs := inoCells a k s l d0 d1 d2 d3 d4 d5 p) (t := 57) ?hr ?_; (case hd => rfl); (case hg => rfl); (case hr => first | (go_simp; done) | (go_simp; rfl)); intro gb hg w1 hbox hb; have HB1 := Aside0.mk hb; have BK1 := Aside0.mk hbox; have c0 := (blk_cell hbox 0).trans (show (inoCells a k s l d0 d1 d2 d3 d4 d5 p)[0]? = some (.int .i64 a) from rfl); have c1 := (blk_cell hbox 1).trans (show (inoCells a k s l d0 d1 d2 d3 d4 d5 p)[1]? = some (.int .i64 k) from rfl); have c2 := (blk_cell hbox 2).trans (show (inoCells a k s l d0 d1 d2 d3 d4 d5 p)[2]? = some (.int .i64 s) from rfl); have c3 := (blk_cell hbox 3).trans (show (inoCells a k s l d0 d1 d2 d3 d4 d5 p)[3]? = some (.int .i64 l) from rfl); clear hb hbox hg))
  all_goals go_ret
  all_goals exact ⟨rfl, HB1.out⟩
set_option maxHeartbeats 400000 in
set_option maxRecDepth 100000 in
theorem rmay_dir1 (a k s l d0 d1 d2 d3 d4 d5 p : Int) (w : World) (h0 : ¬ a < 1) (h1 : ¬ 64 < a) (h2 : ¬ s < 0) (q1 : (k == 1) = false) (q2 : (k == 2) = true) (h3 : ¬ 1792 < s) (h : (s % 28 != 0) = true) :
    Calls Try.prog 47 #[.agg (inoCells a k s l d0 d1 d2 d3 d4 d5 p)] w fun e w' => e = .returned (.bool false) ∧ Below w.heap.size w w' := by
  go_enter Try.func47, Try.ntmps47
  go_wp2_with (first | ((with_reducible refine gate_dst (N := 1) rfl ?_); refine box_event ?hg (N := 1) ?hd (cs := inoCells a k s l d0 d1 d2 d3 d4 d5 p) (t := 57) ?hr ?_; (case hd => rfl); (case hg => rfl); (case hr => first | (go_simp; done) | (go_simp; rfl)); intro gb hg w1 hbox hb; have HB1 := Aside0.mk hb; have BK1 := Aside0.mk hbox; have c0 := (blk_cell hbox 0).trans (show (inoCells a k s l d0 d1 d2 d3 d4 d5 p)[0]? = some (.int .i64 a) from rfl); have c1 := (blk_cell hbox 1).trans (show (inoCells a k s l d0 d1 d2 d3 d4 d5 p)[1]? = some (.int .i64 k) from rfl); have c2 := (blk_cell hbox 2).trans (show (inoCells a k s l d0 d1 d2 d3 d4 d5 p)[2]? = some (.int .i64 s) from rfl); have c3 := (blk_cell hbox 3).trans (show (inoCells a k s l d0 d1 d2 d3 d4 d5 p)[3]? = some (.int .i64 l) from rfl); clear hb hbox hg))
  all_goals go_ret
  all_goals exact ⟨rfl, HB1.out⟩
set_option maxHeartbeats 400000 in
set_option maxRecDepth 100000 in
theorem rmay_dir2 (a k s l d0 d1 d2 d3 d4 d5 p : Int) (w : World) (h0 : ¬ a < 1) (h1 : ¬ 64 < a) (h2 : ¬ s < 0) (q1 : (k == 1) = false) (q2 : (k == 2) = true) (h3 : ¬ 1792 < s) (h4 : (s % 28 != 0) = false) (h : (l != 1) = true) :
    Calls Try.prog 47 #[.agg (inoCells a k s l d0 d1 d2 d3 d4 d5 p)] w fun e w' => e = .returned (.bool false) ∧ Below w.heap.size w w' := by
  go_enter Try.func47, Try.ntmps47
  go_wp2_with (first | ((with_reducible refine gate_dst (N := 1) rfl ?_); refine box_event ?hg (N := 1) ?hd (cs := inoCells a k s l d0 d1 d2 d3 d4 d5 p) (t := 57) ?hr ?_; (case hd => rfl); (case hg => rfl); (case hr => first | (go_simp; done) | (go_simp; rfl)); intro gb hg w1 hbox hb; have HB1 := Aside0.mk hb; have BK1 := Aside0.mk hbox; have c0 := (blk_cell hbox 0).trans (show (inoCells a k s l d0 d1 d2 d3 d4 d5 p)[0]? = some (.int .i64 a) from rfl); have c1 := (blk_cell hbox 1).trans (show (inoCells a k s l d0 d1 d2 d3 d4 d5 p)[1]? = some (.int .i64 k) from rfl); have c2 := (blk_cell hbox 2).trans (show (inoCells a k s l d0 d1 d2 d3 d4 d5 p)[2]? = some (.int .i64 s) from rfl); have c3 := (blk_cell hbox 3).trans (show (inoCells a k s l d0 d1 d2 d3 d4 d5 p)[3]? = some (.int .i64 l) from rfl); clear hb hbox hg))
  all_goals go_ret
  all_goals exact ⟨rfl, HB1.out⟩
set_option maxHeartbeats 1000000 in
set_option maxRecDepth 100000 in
theorem rmay_file (a k s l d0 d1 d2 d3 d4 d5 p : Int) (n : Nat) (w : World) (hs : s ≤ 3808) (hn : blk s = (n : Int)) (hn34 : n ≤ 34) (h0 : ¬ a < 1) (h1 : ¬ 64 < a) (h2 : ¬ s < 0) (q1 : (k == 1) = true) (h3 : ¬ 3808 < s) (h4 : ¬ l < 1) (h5 : ¬ 64 < l) :
    Calls Try.prog 47 #[.agg (inoCells a k s l d0 d1 d2 d3 d4 d5 p)] w fun e w' => e = .returned (.bool (!anyNZ ([d0, d1, d2, d3, d4, d5].drop (min n 6)) && (decide (6 < n) || p == 0))) ∧ Below w.heap.size w w' := by
  have HN := Aside0.mk hn
  clear hn
  obtain ⟨r, hr⟩ : ∃ r, (!anyNZ ([d0, d1, d2, d3, d4, d5].drop (min n 6)) && (decide (6 < n) || p == 0)) = r := ⟨_, rfl⟩
  rw [hr]
  have HRR := Aside0.mk hr
  clear hr
  go_enter Try.func47, Try.ntmps47
  go_wp2_with (first | ((with_reducible refine gate_dst (N := 1) rfl ?_); refine box_event ?hg (N := 1) ?hd (cs := inoCells a k s l d0 d1 d2 d3 d4 d5 p) (t := 57) ?hr ?_; (case hd => rfl); (case hg => rfl); (case hr => first | (go_simp; done) | (go_simp; rfl)); intro gb hg w1 hbox hb; have HB1 := Aside0.mk hb; have BK1 := Aside0.mk hbox; have c0 := (blk_cell hbox 0).trans (show (inoCells a k s l d0 d1 d2 d3 d4 d5 p)[0]? = some (.int .i64 a) from rfl); have c1 := (blk_cell hbox 1).trans (show (inoCells a k s l d0 d1 d2 d3 d4 d5 p)[1]? = some (.int .i64 k) from rfl); have c2 := (blk_cell hbox 2).trans (show (inoCells a k s l d0 d1 d2 d3 d4 d5 p)[2]? = some (.int .i64 s) from rfl); have c3 := (blk_cell hbox 3).trans (show (inoCells a k s l d0 d1 d2 d3 d4 d5 p)[3]? = some (.int .i64 l) from rfl); have c10 := (blk_cell hbox 10).trans (show (inoCells a k s l d0 d1 d2 d3 d4 d5 p)[10]? = some (.int .u32 p) from rfl); clear hb hbox hg) | (go_at_call 37; refine (refBlocks_any s _ (by omega)).mono ?_; rw [HN.out]; rintro e w' ⟨rfl, ⟨nd, rfl⟩⟩))
  go_loopw [4] (fun i wr => ∃ j : Nat, j ≤ 6 ∧ i = .int .i64 j ∧ Aside0 (∀ t, t < j → n ≤ t → [d0, d1, d2, d3, d4, d5].getD t 0 = 0) ∧ Aside0 (wr.heap[gb]? = some (.cells (inoCells a k s l d0 d1 d2 d3 d4 d5 p) 57 (0, 0))) ∧ Aside0 (Below w.heap.size w wr)) (fun i _ => 6 - (intOf i).toNat)
  case atStart => exact ⟨0, Nat.zero_le _, rfl, ⟨fun t ht => absurd ht (Nat.not_lt_zero _)⟩, ⟨blk_drewN BK1.out _⟩, ⟨pw_below_drewN HB1.out _⟩⟩
  case round =>
    obtain ⟨j, hj, rfl, HZ, BK, HB⟩ := hrel
    clear BK1 HB1 c0 c1 c2 c3 c10
    by_cases hlt : j < 6
    · have hj0 : (0 : Int) ≤ (j : Int) := Int.natCast_nonneg _
      have hj6 : (j : Int) < 6 := by omega
      have hcj := (blk_cell BK.out (4 + j)).trans (ino_cell a k s l d0 d1 d2 d3 d4 d5 p j hlt)
      obtain ⟨y, hy⟩ : ∃ y, [d0, d1, d2, d3, d4, d5].getD j 0 = y := ⟨_, rfl⟩
      rw [hy] at hcj
      have HY := Aside0.mk hy
      clear hy
      by_cases hnj : n ≤ j
      · have hnj' : (n : Int) ≤ (j : Int) := by omega
        by_cases hy0 : y = 0
        · subst hy0
          go_wp2
          go_roundw
          case rel => exact ⟨j + 1, by omega, by go_num, ⟨fun t ht hnt => by rcases Nat.lt_succ_iff_lt_or_eq.1 ht with h | rfl; exact HZ.out t h hnt; exact HY.out⟩, BK, HB⟩
          case measure => simp [intOf]; omega
        · have hyb : (y != 0) = true := bne_iff_ne.2 hy0
          have hres : r = false := by
            have h2 : anyNZ ([d0, d1, d2, d3, d4, d5].drop (min n 6)) = true := anyNZ_true (j - min n 6) (by
              rw [List.getD_eq_getElem?_getD, List.getElem?_drop, show min n 6 + (j - min n 6) = j from by omega, ← List.getD_eq_getElem?_getD, HY.out]; exact hy0)
            rw [← HRR.out, h2]; rfl
          clear hy0
          go_wp2
          go_ret
          exact ⟨by first | rfl | (rw [hres]; rfl), HB.out⟩
      · have hnj' : ¬ (n : Int) ≤ (j : Int) := by omega
        go_wp2
        go_roundw
        case rel => exact ⟨j + 1, by omega, by go_num, ⟨fun t ht hnt => HZ.out t (by omega) hnt⟩, BK, HB⟩
        case measure => simp [intOf]; omega
    · have hj6 : j = 6 := by omega
      subst hj6
      have h2 : anyNZ ([d0, d1, d2, d3, d4, d5].drop (min n 6)) = false := anyNZ_false (fun i hi => by
        rw [List.getD_eq_getElem?_getD, List.getElem?_drop, ← List.getD_eq_getElem?_getD]
        have hi' : i < 6 - min n 6 := by simpa using hi
        exact HZ.out _ (by omega) (by omega))
      have c10 := (blk_cell BK.out 10).trans (show (inoCells a k s l d0 d1 d2 d3 d4 d5 p)[10]? = some (.int .u32 p) from rfl)
      by_cases h6 : 6 < n
      · have h6' : (6 : Int) < (n : Int) := by omega
        have hres : r = true := by rw [← HRR.out, h2, decide_eq_true h6]; rfl
        go_wp2
        go_ret
        exact ⟨by first | rfl | (rw [hres]; rfl), HB.out⟩
      · have h6' : ¬ (6 : Int) < (n : Int) := by omega
        have hres : r = (p == 0) := by rw [← HRR.out, h2, decide_eq_false h6]; simp
        go_wp2
        go_ret
        exact ⟨by first | rfl | (rw [hres]; rfl), HB.out⟩
set_option maxHeartbeats 1000000 in
set_option maxRecDepth 100000 in
theorem rmay_dir (a k s l d0 d1 d2 d3 d4 d5 p : Int) (n : Nat) (w : World) (hs : s ≤ 3808) (hn : blk s = (n : Int)) (hn34 : n ≤ 34) (h0 : ¬ a < 1) (h1 : ¬ 64 < a) (h2 : ¬ s < 0) (q1 : (k == 1) = false) (q2 : (k == 2) = true) (h3 : ¬ 1792 < s) (h4 : (s % 28 != 0) = false) (h5 : (l != 1) = false) :
    Calls Try.prog 47 #[.agg (inoCells a k s l d0 d1 d2 d3 d4 d5 p)] w fun e w' => e = .returned (.bool (!anyNZ ([d0, d1, d2, d3, d4, d5].drop (min n 6)) && (decide (6 < n) || p == 0))) ∧ Below w.heap.size w w' := by
  have HN := Aside0.mk hn
  clear hn
  obtain ⟨r, hr⟩ : ∃ r, (!anyNZ ([d0, d1, d2, d3, d4, d5].drop (min n 6)) && (decide (6 < n) || p == 0)) = r := ⟨_, rfl⟩
  rw [hr]
  have HRR := Aside0.mk hr
  clear hr
  go_enter Try.func47, Try.ntmps47
  go_wp2_with (first | ((with_reducible refine gate_dst (N := 1) rfl ?_); refine box_event ?hg (N := 1) ?hd (cs := inoCells a k s l d0 d1 d2 d3 d4 d5 p) (t := 57) ?hr ?_; (case hd => rfl); (case hg => rfl); (case hr => first | (go_simp; done) | (go_simp; rfl)); intro gb hg w1 hbox hb; have HB1 := Aside0.mk hb; have BK1 := Aside0.mk hbox; have c0 := (blk_cell hbox 0).trans (show (inoCells a k s l d0 d1 d2 d3 d4 d5 p)[0]? = some (.int .i64 a) from rfl); have c1 := (blk_cell hbox 1).trans (show (inoCells a k s l d0 d1 d2 d3 d4 d5 p)[1]? = some (.int .i64 k) from rfl); have c2 := (blk_cell hbox 2).trans (show (inoCells a k s l d0 d1 d2 d3 d4 d5 p)[2]? = some (.int .i64 s) from rfl); have c3 := (blk_cell hbox 3).trans (show (inoCells a k s l d0 d1 d2 d3 d4 d5 p)[3]? = some (.int .i64 l) from rfl); have c10 := (blk_cell hbox 10).trans (show (inoCells a k s l d0 d1 d2 d3 d4 d5 p)[10]? = some (.int .u32 p) from rfl); clear hb hbox hg) | (go_at_call 37; refine (refBlocks_any s _ (by omega)).mono ?_; rw [HN.out]; rintro e w' ⟨rfl, ⟨nd, rfl⟩⟩))
  go_loopw [4] (fun i wr => ∃ j : Nat, j ≤ 6 ∧ i = .int .i64 j ∧ Aside0 (∀ t, t < j → n ≤ t → [d0, d1, d2, d3, d4, d5].getD t 0 = 0) ∧ Aside0 (wr.heap[gb]? = some (.cells (inoCells a k s l d0 d1 d2 d3 d4 d5 p) 57 (0, 0))) ∧ Aside0 (Below w.heap.size w wr)) (fun i _ => 6 - (intOf i).toNat)
  case atStart => exact ⟨0, Nat.zero_le _, rfl, ⟨fun t ht => absurd ht (Nat.not_lt_zero _)⟩, ⟨blk_drewN BK1.out _⟩, ⟨pw_below_drewN HB1.out _⟩⟩
  case round =>
    obtain ⟨j, hj, rfl, HZ, BK, HB⟩ := hrel
    clear BK1 HB1 c0 c1 c2 c3 c10
    by_cases hlt : j < 6
    · have hj0 : (0 : Int) ≤ (j : Int) := Int.natCast_nonneg _
      have hj6 : (j : Int) < 6 := by omega
      have hcj := (blk_cell BK.out (4 + j)).trans (ino_cell a k s l d0 d1 d2 d3 d4 d5 p j hlt)
      obtain ⟨y, hy⟩ : ∃ y, [d0, d1, d2, d3, d4, d5].getD j 0 = y := ⟨_, rfl⟩
      rw [hy] at hcj
      have HY := Aside0.mk hy
      clear hy
      by_cases hnj : n ≤ j
      · have hnj' : (n : Int) ≤ (j : Int) := by omega
        by_cases hy0 : y = 0
        · subst hy0
          go_wp2
          go_roundw
          case rel => exact ⟨j + 1, by omega, by go_num, ⟨fun t ht hnt => by rcases Nat.lt_succ_iff_lt_or_eq.1 ht with h | rfl; exact HZ.out t h hnt; exact HY.out⟩, BK, HB⟩
          case measure => simp [intOf]; omega
        · have hyb : (y != 0) = true := bne_iff_ne.2 hy0
          have hres : r = false := by
            have h2 : anyNZ ([d0, d1, d2, d3, d4, d5].drop (min n 6)) = true := anyNZ_true (j - min n 6) (by
              rw [List.getD_eq_getElem?_getD, List.getElem?_drop, show min n 6 + (j - min n 6) = j from by omega, ← List.getD_eq_getElem?_getD, HY.out]; exact hy0)
            rw [← HRR.out, h2]; rfl
          clear hy0
          go_wp2
          go_ret
          exact ⟨by first | rfl | (rw [hres]; rfl), HB.out⟩
      · have hnj' : ¬ (n : Int) ≤ (j : Int) := by omega
        go_wp2
        go_roundw
        case rel => exact ⟨j + 1, by omega, by go_num, ⟨fun t ht hnt => HZ.out t (by omega) hnt⟩, BK, HB⟩
        case measure => simp [intOf]; omega
    · have hj6 : j = 6 := by omega
      subst hj6
      have h2 : anyNZ ([d0, d1, d2, d3, d4, d5].drop (min n 6)) = false := anyNZ_false (fun i hi => by
        rw [List.getD_eq_getElem?_getD, List.getElem?_drop, ← List.getD_eq_getElem?_getD]
        have hi' : i < 6 - min n 6 := by simpa using hi
        exact HZ.out _ (by omega) (by omega))
      have c10 := (blk_cell BK.out 10).trans (show (inoCells a k s l d0 d1 d2 d3 d4 d5 p)[10]? = some (.int .u32 p) from rfl)
      by_cases h6 : 6 < n
      · have h6' : (6 : Int) < (n : Int) := by omega
        have hres : r = true := by rw [← HRR.out, h2, decide_eq_true h6]; rfl
        go_wp2
        go_ret
        exact ⟨by first | rfl | (rw [hres]; rfl), HB.out⟩
      · have h6' : ¬ (6 : Int) < (n : Int) := by omega
        have hres : r = (p == 0) := by rw [← HRR.out, h2, decide_eq_false h6]; simp
        go_wp2
        go_ret
        exact ⟨by first | rfl | (rw [hres]; rfl), HB.out⟩
theorem rofB {f : FuncId} {args : Array Value} {w : World} {b b' : Bool} (h : Calls Try.prog f args w fun e w' => e = .returned (.bool b) ∧ Below w.heap.size w w') (e : b = b') :
    Calls Try.prog f args w fun e w' => e = .returned (.bool b') ∧ Below w.heap.size w w' := e ▸ h
/-- The document's May is inode.May. -/
theorem refMay_any (a k s l d0 d1 d2 d3 d4 d5 p : Int) (w : World) :
    Calls Try.prog 47 #[.agg (inoCells a k s l d0 d1 d2 d3 d4 d5 p)] w fun e w' => e = .returned (.bool (mayB a k s l [d0, d1, d2, d3, d4, d5] p)) ∧ Below w.heap.size w w' := by
  by_cases g0 : a < 1
  · exact rofB (rmay_ino0 a k s l d0 d1 d2 d3 d4 d5 p w g0) (may_no (fun hr => by have := hr.1; omega)).symm
  by_cases g1 : 64 < a
  · exact rofB (rmay_ino1 a k s l d0 d1 d2 d3 d4 d5 p w g0 g1) (may_no (fun hr => by have := hr.2.1; omega)).symm
  by_cases g2 : s < 0
  · exact rofB (rmay_size a k s l d0 d1 d2 d3 d4 d5 p w g0 g1 g2) (may_no (fun hr => by have := hr.2.2.1; omega)).symm
  by_cases k1 : k = 1
  · have q1 : (k == 1) = true := by rw [k1]; rfl
    have hx : maxSize k = 3808 := by unfold maxSize; rw [if_pos k1]
    have hy : maxLinks k = 64 := by unfold maxLinks; rw [if_pos k1]
    by_cases g3 : 3808 < s
    · exact rofB (rmay_file0 a k s l d0 d1 d2 d3 d4 d5 p w g0 g1 g2 q1 g3) (may_no (fun hr => by have := hr.2.2.2.1; omega)).symm
    by_cases g4 : l < 1
    · exact rofB (rmay_file1 a k s l d0 d1 d2 d3 d4 d5 p w g0 g1 g2 q1 g3 g4) (may_no (fun hr => by have := hr.2.2.2.2.1; omega)).symm
    by_cases g5 : 64 < l
    · exact rofB (rmay_file2 a k s l d0 d1 d2 d3 d4 d5 p w g0 g1 g2 q1 g3 g4 g5) (may_no (fun hr => by have := hr.2.2.2.2.2.1; omega)).symm
    obtain ⟨n, hn⟩ : ∃ n : Nat, blk s = n := ⟨(blk s).toNat, by unfold blk; split <;> omega⟩
    have hn34 : n ≤ 34 := by unfold blk at hn; split at hn <;> omega
    refine rofB (rmay_file a k s l d0 d1 d2 d3 d4 d5 p n w (by omega) hn hn34 g0 g1 g2 q1 g3 g4 g5) ?_
    unfold mayB
    rw [decide_eq_true (show RangeOk a k s l from ⟨by omega, by omega, by omega, by omega, by omega, by omega, .inl k1⟩), hn, Int.toNat_natCast, show decide ((6 : Int) < (n : Int)) = decide (6 < n) from decide_eq_decide.2 (by omega), Bool.true_and]
  have q1 : (k == 1) = false := beq_eq_false_iff_ne.2 k1
  by_cases k2 : k = 2
  · have q2 : (k == 2) = true := by rw [k2]; rfl
    have hx : maxSize k = 1792 := by unfold maxSize; rw [if_neg k1]
    have hy : maxLinks k = 1 := by unfold maxLinks; rw [if_neg k1]
    by_cases g3 : 1792 < s
    · exact rofB (rmay_dir0 a k s l d0 d1 d2 d3 d4 d5 p w g0 g1 g2 q1 q2 g3) (may_no (fun hr => by have := hr.2.2.2.1; omega)).symm
    by_cases g4 : s % 28 = 0
    · by_cases g5 : l = 1
      · obtain ⟨n, hn⟩ : ∃ n : Nat, blk s = n := ⟨(blk s).toNat, by unfold blk; split <;> omega⟩
        have hn34 : n ≤ 34 := by unfold blk at hn; split at hn <;> omega
        refine rofB (rmay_dir a k s l d0 d1 d2 d3 d4 d5 p n w (by omega) hn hn34 g0 g1 g2 q1 q2 g3 (bne_eq_false_iff_eq.2 g4) (bne_eq_false_iff_eq.2 g5)) ?_
        unfold mayB
        rw [decide_eq_true (show RangeOk a k s l from ⟨by omega, by omega, by omega, by omega, by omega, by omega, .inr ⟨k2, g4⟩⟩), hn, Int.toNat_natCast, show decide ((6 : Int) < (n : Int)) = decide (6 < n) from decide_eq_decide.2 (by omega), Bool.true_and]
      · exact rofB (rmay_dir2 a k s l d0 d1 d2 d3 d4 d5 p w g0 g1 g2 q1 q2 g3 (bne_eq_false_iff_eq.2 g4) (bne_iff_ne.2 g5)) (may_no (fun hr => by have h5 := hr.2.2.2.2.1; have h6 := hr.2.2.2.2.2.1; omega)).symm
    · exact rofB (rmay_dir1 a k s l d0 d1 d2 d3 d4 d5 p w g0 g1 g2 q1 q2 g3 (bne_iff_ne.2 g4)) (may_no (fun hr => by rcases hr.2.2.2.2.2.2 with h | h; exact k1 h; exact g4 h.2)).symm
  · have q2 : (k == 2) = false := beq_eq_false_iff_ne.2 k2
    exact rofB (rmay_kind a k s l d0 d1 d2 d3 d4 d5 p w g0 g1 g2 q1 q2) (may_no (fun hr => by rcases hr.2.2.2.2.2.2 with h | h; exact k1 h; exact k2 h.1)).symm
end Go.Proofs.YtgiapegacbibeaaX
