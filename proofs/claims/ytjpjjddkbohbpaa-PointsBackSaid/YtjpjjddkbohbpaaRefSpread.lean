/- The document's Spread: where it refuses. -/
import Derived.Test.YtjpjjddkbohbpaaRefAll
namespace Go.Proofs.YtjpjjddkbohbpaaX
open Go.RowKit Go.Proofs.YtjpjjddkbohbpaaW.PrintWords
set_option linter.unusedVariables false
theorem zc_step (a k s l d0 d1 d2 d3 d4 d5 : Int) (j : Nat) (hj : j < 6) : (inoCells a k s l (if 0 < j then 0 else d0) (if 1 < j then 0 else d1) (if 2 < j then 0 else d2) (if 3 < j then 0 else d3) (if 4 < j then 0 else d4) (if 5 < j then 0 else d5) 0).toList.take (4 + j) ++ nums .u32 [0] ++ (inoCells a k s l (if 0 < j then 0 else d0) (if 1 < j then 0 else d1) (if 2 < j then 0 else d2) (if 3 < j then 0 else d3) (if 4 < j then 0 else d4) (if 5 < j then 0 else d5) 0).toList.drop (4 + j + 1) = (inoCells a k s l (if 0 < j + 1 then 0 else d0) (if 1 < j + 1 then 0 else d1) (if 2 < j + 1 then 0 else d2) (if 3 < j + 1 then 0 else d3) (if 4 < j + 1 then 0 else d4) (if 5 < j + 1 then 0 else d5) 0).toList := by
  match j, hj with
  | 0, _ => rfl
  | 1, _ => rfl
  | 2, _ => rfl
  | 3, _ => rfl
  | 4, _ => rfl
  | 5, _ => rfl
theorem wc_step (a k s l : Int) (xs : List Int) (j : Nat) (hj : j < 6) : (inoCells a k s l (if 0 < j then xs.getD 0 0 else 0) (if 1 < j then xs.getD 1 0 else 0) (if 2 < j then xs.getD 2 0 else 0) (if 3 < j then xs.getD 3 0 else 0) (if 4 < j then xs.getD 4 0 else 0) (if 5 < j then xs.getD 5 0 else 0) 0).toList.take (4 + j) ++ nums .u32 [xs.getD j 0] ++ (inoCells a k s l (if 0 < j then xs.getD 0 0 else 0) (if 1 < j then xs.getD 1 0 else 0) (if 2 < j then xs.getD 2 0 else 0) (if 3 < j then xs.getD 3 0 else 0) (if 4 < j then xs.getD 4 0 else 0) (if 5 < j then xs.getD 5 0 else 0) 0).toList.drop (4 + j + 1) = (inoCells a k s l (if 0 < j + 1 then xs.getD 0 0 else 0) (if 1 < j + 1 then xs.getD 1 0 else 0) (if 2 < j + 1 then xs.getD 2 0 else 0) (if 3 < j + 1 then xs.getD 3 0 else 0) (if 4 < j + 1 then xs.getD 4 0 else 0) (if 5 < j + 1 then xs.getD 5 0 else 0) 0).toList := by
  match j, hj with
  | 0, _ => rfl
  | 1, _ => rfl
  | 2, _ => rfl
  | 3, _ => rfl
  | 4, _ => rfl
  | 5, _ => rfl
set_option maxHeartbeats 400000 in
set_option maxRecDepth 100000 in
theorem refSpread_no (a k s l d0 d1 d2 d3 d4 d5 p : Int) (A : Option Addr) (n c : Nat) (w : World) (hs : s ≤ 9223372036854775807) (hn : n ≤ 9223372036854775807) (hno : (mayB a k s l [0, 0, 0, 0, 0, 0] 0 && decide ((n : Int) = blk s)) = false) :
    Calls Try.prog 18 #[.agg (inoCells a k s l d0 d1 d2 d3 d4 d5 p), .slice A n c] w fun e w' => e = .returned (.tuple #[.agg (inoCells 0 0 0 0 0 0 0 0 0 0 0), .slice none 0 0, .int .i64 1]) ∧ Below w.heap.size w w' := by
  have hu41 := Aside0.mk Try.underlying41
  obtain ⟨m, hm⟩ : ∃ m, mayB a k s l [0, 0, 0, 0, 0, 0] 0 = m := ⟨_, rfl⟩
  rw [hm] at hno
  have HM := Aside0.mk hm
  have hne : m = true → ((n : Int) != blk s) = true := by
    rintro rfl
    simpa using hno
  clear hm hno
  go_enter Try.func18, Try.ntmps18
  go_wp2_with (first | ((with_reducible refine gate_dst (N := 2) rfl ?_); refine box_event ?hg (N := 2) ?hd (cs := inoCells a k s l d0 d1 d2 d3 d4 d5 p) (t := 41) ?hr ?_; (case hd => rfl); (case hg => rfl); (case hr => first | (go_simp; done) | (go_simp; rfl)); intro gb hg w1 hbox hb; have HB1 := Aside0.mk hb; have BK1 := Aside0.mk hbox; have GE1 := Aside0.mk (Nat.le_of_eq hg.symm); clear hb hbox hg) | ((with_reducible refine gate_dst (N := 4) rfl ?_); refine box_event ?hg (N := 4) ?hd (cs := inoCells 0 0 0 0 0 0 0 0 0 0 0) (t := 41) ?hr ?_; (case hd => rfl); (case hg => rfl); (case hr => first | (go_simp; done) | (go_simp; rfl)); intro ga hg w2 hbox hb; have NE := Aside0.mk (show ga ≠ gb from fun e => by have h1 := blk_lt BK1.out; omega); have GA := Aside0.mk (show w.heap.size ≤ ga from by have := HB1.out.size; omega); have HB2 := Aside0.mk (below_step HB1.out hb); have BA2 := Aside0.mk hbox; have BK2 := Aside0.mk (blk_below BK1.out hb); clear hb hbox hg HB1 BK1) | ((with_reducible refine gate_store (t := 38) (p := 10) (v := .const (.int .u32 0)) rfl ?_); refine ev_store (by rfl) 38 (.tmp 10) (.const (.int .u32 0)) (by rfl) gb 10 (inoCells a k s l d0 d1 d2 d3 d4 d5 p).toList (nums .u32 [0]) (.int .u32 0) (by rfl) (by rfl) (by rfl) 41 BK2.out sizeU32 (show 10 + 1 ≤ 11 from by decide) (one_nums _ _) ?_; intro w4 hbox hg; have BK4 := Aside0.mk (show w4.heap[gb]? = some (.cells (inoCells a k s l d0 d1 d2 d3 d4 d5 0) 41 (0, 0)) from hbox); have HB4 := Aside0.mk (pw_below_grown HB2.out _ HB2.out.size hg (fun q e => by cases e; exact GE1.out)); have BA4 := Aside0.mk (blk_grown BA2.out hg (fun e => NE.out (Option.some.inj e))); clear hbox hg HB2 BK2 BA2))
  go_loopw [7] (fun i wr => ∃ j : Nat, j ≤ 6 ∧ i = .int .i64 j ∧ Aside0 (wr.heap[gb]? = some (.cells (inoCells a k s l (if 0 < j then 0 else d0) (if 1 < j then 0 else d1) (if 2 < j then 0 else d2) (if 3 < j then 0 else d3) (if 4 < j then 0 else d4) (if 5 < j then 0 else d5) 0) 41 (0, 0))) ∧ Aside0 (wr.heap[ga]? = some (.cells (inoCells 0 0 0 0 0 0 0 0 0 0 0) 41 (0, 0))) ∧ Aside0 (Below w.heap.size w wr)) (fun i _ => 6 - (intOf i).toNat)
  case atStart => exact ⟨0, Nat.zero_le _, rfl, BK4, BA4, HB4⟩
  case round =>
    obtain ⟨j, hj, rfl, BK, BA, HB⟩ := hrel
    clear BK4 BA4 HB4
    by_cases hlt : j < 6
    · have hj0 : (0 : Int) ≤ (j : Int) := Int.natCast_nonneg _
      have hj6 : (j : Int) < 6 := by omega
      have ST := Aside0.mk (zc_step a k s l d0 d1 d2 d3 d4 d5 j hlt)
      go_wp2_with (first | ((with_reducible refine gate_store (t := 38) (p := 17) (v := .const (.int .u32 0)) rfl ?_); refine ev_store (by rfl) 38 (.tmp 17) (.const (.int .u32 0)) (by rfl) gb (4 + j) (inoCells a k s l (if 0 < j then 0 else d0) (if 1 < j then 0 else d1) (if 2 < j then 0 else d2) (if 3 < j then 0 else d3) (if 4 < j then 0 else d4) (if 5 < j then 0 else d5) 0).toList (nums .u32 [0]) (.int .u32 0) (by first | rfl | (go_simp; done)) (by rfl) (by rfl) 41 BK.out sizeU32 (show 4 + j + 1 ≤ 11 from by omega) (one_nums _ _) ?_; intro w4 hbox hg; have hbx := hbox; rw [show (nums .u32 [0]).length = 1 from rfl, ST.out] at hbx; have BK4 := Aside0.mk (show w4.heap[gb]? = some (.cells (inoCells a k s l (if 0 < j + 1 then 0 else d0) (if 1 < j + 1 then 0 else d1) (if 2 < j + 1 then 0 else d2) (if 3 < j + 1 then 0 else d3) (if 4 < j + 1 then 0 else d4) (if 5 < j + 1 then 0 else d5) 0) 41 (0, 0)) from hbx); have HB4 := Aside0.mk (pw_below_grown HB.out _ HB.out.size hg (fun q e => by cases e; exact GE1.out)); have BA4 := Aside0.mk (blk_grown BA.out hg (fun e => NE.out (Option.some.inj e))); clear hbox hg hbx))
      go_roundw
      case rel => exact ⟨j + 1, by omega, by go_num, BK4, BA4, HB4⟩
      case measure => simp [intOf]; omega
    · have hj6 : j = 6 := by omega
      subst hj6
      have BK0 : Aside0 (wr.heap[gb]? = some (.cells (inoCells a k s l 0 0 0 0 0 0 0) 41 (0, 0))) := BK
      clear BK
      have BK := BK0
      clear BK0
      cases m
      all_goals
        have hne' := hne
        clear hne
        simp only [forall_const, Bool.false_eq_true, false_implies] at hne'
        go_wp2_with (first | ((with_reducible refine gate_dst (N := 18) rfl ?_); refine wpList_load_row rfl 41 (.tmp 2) rfl gb rfl _ _ _ _ BK.out hu41.out rfl sizeInode ?_) | (go_at_call 26; refine (refMay_any a k s l 0 0 0 0 0 0 0 _).mono ?_; rw [HM.out]; rintro e w5 ⟨rfl, hb⟩; have HB5 := Aside0.mk (below_step HB.out hb); have BK5 := Aside0.mk (blk_below BK.out hb); have BA5 := Aside0.mk (blk_below BA.out hb); have c2 := (blk_cell (blk_below BK.out hb) 2).trans (show (inoCells a k s l 0 0 0 0 0 0 0)[2]? = some (.int .i64 s) from rfl); clear hb) | (go_at_call 27; refine (refBlocks_any s _ hs).mono ?_; rintro e w' ⟨rfl, ⟨nd, rfl⟩⟩) | ((with_reducible refine gate_store (t := 41) (p := 4) (v := .tmp 29) rfl ?_); refine ev_store_row (by rfl) 41 (.tmp 4) (.tmp 29) (by rfl) ga (inoCells 0 0 0 0 0 0 0 0 0 0 0) (by rfl) (by rfl) 41 _ (by first | exact BA5.out | exact blk_drewN BA5.out _) sizeInode (by rfl) (by kernel_rfl) ?_; intro w6 hbox hg; have BA6 := Aside0.mk hbox; have HB6 := Aside0.mk (pw_below_grown (w1 := _) (by first | exact HB5.out | exact pw_below_drewN HB5.out _) _ (by exact HB5.out.size) hg (fun q e => by cases e; exact GA.out)); clear hbox hg))
        (try simp only [Exit.inBlock, Exit.then])
        refine bodyPost_ret (results_ctt rfl _ _ ga 41 (inoCells 0 0 0 0 0 0 0 0 0 0 0) (0, 0) _ rfl BA6.out hu41.out rfl sizeInode) rfl ?_
        exact ⟨rfl, HB6.out⟩
theorem wc_all (a k s l : Int) (xs : List Int) (j : Nat) (hj : 6 ≤ j) : inoCells a k s l (if 0 < j then xs.getD 0 0 else 0) (if 1 < j then xs.getD 1 0 else 0) (if 2 < j then xs.getD 2 0 else 0) (if 3 < j then xs.getD 3 0 else 0) (if 4 < j then xs.getD 4 0 else 0) (if 5 < j then xs.getD 5 0 else 0) 0 = inoCells a k s l (xs.getD 0 0) (xs.getD 1 0) (xs.getD 2 0) (xs.getD 3 0) (xs.getD 4 0) (xs.getD 5 0) 0 := by
  rw [if_pos (by omega), if_pos (by omega), if_pos (by omega), if_pos (by omega), if_pos (by omega), if_pos (by omega)]
theorem getD_end (xs : List Int) (i : Nat) : (if i < xs.length then xs.getD i 0 else 0) = xs.getD i 0 := by
  split
  · rfl
  · rename_i h
    rw [List.getD_eq_getElem?_getD, List.getElem?_eq_none (by omega)]; rfl
theorem wc_end (a k s l : Int) (xs : List Int) (j : Nat) (hj : xs.length = j) : inoCells a k s l (if 0 < j then xs.getD 0 0 else 0) (if 1 < j then xs.getD 1 0 else 0) (if 2 < j then xs.getD 2 0 else 0) (if 3 < j then xs.getD 3 0 else 0) (if 4 < j then xs.getD 4 0 else 0) (if 5 < j then xs.getD 5 0 else 0) 0 = inoCells a k s l (xs.getD 0 0) (xs.getD 1 0) (xs.getD 2 0) (xs.getD 3 0) (xs.getD 4 0) (xs.getD 5 0) 0 := by
  subst hj
  rw [getD_end, getD_end, getD_end, getD_end, getD_end, getD_end]
theorem ino_all (a k s l d0 d1 d2 d3 d4 d5 p : Int) : (inoCells a k s l d0 d1 d2 d3 d4 d5 p).all (·.oneCell') = true := by
  simp [Value.oneCell']
set_option maxHeartbeats 400000 in
set_option maxRecDepth 100000 in
theorem refSpread_yes (a k s l d0 d1 d2 d3 d4 d5 p : Int) (A : Option Addr) (n c : Nat) (xs : List Int) (w : World) (hs : s ≤ 9223372036854775807) (hr : ReadsInt w .u32 A n xs) (hn : n * 4 ≤ 140737488355328) (hc : n ≤ c) (hm : mayB a k s l [0, 0, 0, 0, 0, 0] 0 = true) (hb : blk s = (n : Int)) :
    Calls Try.prog 18 #[.agg (inoCells a k s l d0 d1 d2 d3 d4 d5 p), .slice A n c] w fun e w' => ∃ v, e = .returned (.tuple #[.agg (inoCells a k s l (xs.getD 0 0) (xs.getD 1 0) (xs.getD 2 0) (xs.getD 3 0) (xs.getD 4 0) (xs.getD 5 0) 0), v, .int .i64 0]) ∧ w'.ownsRow w.heap.size 38 1 v (n - 6) (nums .u32 (xs.drop 6)) ∧ Below w.heap.size w w' := by
  have hu41 := Aside0.mk Try.underlying41
  have HM := Aside0.mk hm
  have HBK := Aside0.mk hb
  have HR := Aside0.mk hr
  clear hm hb hr
  go_enter Try.func18, Try.ntmps18
  go_wp2_with (first | ((with_reducible refine gate_dst (N := 2) rfl ?_); refine box_event ?hg (N := 2) ?hd (cs := inoCells a k s l d0 d1 d2 d3 d4 d5 p) (t := 41) ?hr ?_; (case hd => rfl); (case hg => rfl); (case hr => first | (go_simp; done) | (go_simp; rfl)); intro gb hg w1 hbox hb; have HB1 := Aside0.mk hb; have BK1 := Aside0.mk hbox; have GE1 := Aside0.mk (Nat.le_of_eq hg.symm); clear hb hbox hg) | ((with_reducible refine gate_dst (N := 4) rfl ?_); refine box_event ?hg (N := 4) ?hd (cs := inoCells 0 0 0 0 0 0 0 0 0 0 0) (t := 41) ?hr ?_; (case hd => rfl); (case hg => rfl); (case hr => first | (go_simp; done) | (go_simp; rfl)); intro ga hg w2 hbox hb; have NE := Aside0.mk (show ga ≠ gb from fun e => by have h1 := blk_lt BK1.out; omega); have GA := Aside0.mk (show w.heap.size ≤ ga from by have := HB1.out.size; omega); have HB2 := Aside0.mk (below_step HB1.out hb); have BA2 := Aside0.mk hbox; have BK2 := Aside0.mk (blk_below BK1.out hb); clear hb hbox hg HB1 BK1) | ((with_reducible refine gate_store (t := 38) (p := 10) (v := .const (.int .u32 0)) rfl ?_); refine ev_store (by rfl) 38 (.tmp 10) (.const (.int .u32 0)) (by rfl) gb 10 (inoCells a k s l d0 d1 d2 d3 d4 d5 p).toList (nums .u32 [0]) (.int .u32 0) (by rfl) (by rfl) (by rfl) 41 BK2.out sizeU32 (show 10 + 1 ≤ 11 from by decide) (one_nums _ _) ?_; intro w4 hbox hg; have BK4 := Aside0.mk (show w4.heap[gb]? = some (.cells (inoCells a k s l d0 d1 d2 d3 d4 d5 0) 41 (0, 0)) from hbox); have HB4 := Aside0.mk (pw_below_grown HB2.out _ HB2.out.size hg (fun q e => by cases e; exact GE1.out)); have BA4 := Aside0.mk (blk_grown BA2.out hg (fun e => NE.out (Option.some.inj e))); clear hbox hg HB2 BK2 BA2))
  go_loopw [7] (fun i wr => ∃ j : Nat, j ≤ 6 ∧ i = .int .i64 j ∧ Aside0 (wr.heap[gb]? = some (.cells (inoCells a k s l (if 0 < j then 0 else d0) (if 1 < j then 0 else d1) (if 2 < j then 0 else d2) (if 3 < j then 0 else d3) (if 4 < j then 0 else d4) (if 5 < j then 0 else d5) 0) 41 (0, 0))) ∧ Aside0 (wr.heap[ga]? = some (.cells (inoCells 0 0 0 0 0 0 0 0 0 0 0) 41 (0, 0))) ∧ Aside0 (Below w.heap.size w wr)) (fun i _ => 6 - (intOf i).toNat)
  case atStart => exact ⟨0, Nat.zero_le _, rfl, BK4, BA4, HB4⟩
  case round =>
    obtain ⟨j, hj, rfl, BK, BA, HB⟩ := hrel
    clear BK4 BA4 HB4
    by_cases hlt : j < 6
    · have hj0 : (0 : Int) ≤ (j : Int) := Int.natCast_nonneg _
      have hj6 : (j : Int) < 6 := by omega
      have ST := Aside0.mk (zc_step a k s l d0 d1 d2 d3 d4 d5 j hlt)
      go_wp2_with (first | ((with_reducible refine gate_store (t := 38) (p := 17) (v := .const (.int .u32 0)) rfl ?_); refine ev_store (by rfl) 38 (.tmp 17) (.const (.int .u32 0)) (by rfl) gb (4 + j) (inoCells a k s l (if 0 < j then 0 else d0) (if 1 < j then 0 else d1) (if 2 < j then 0 else d2) (if 3 < j then 0 else d3) (if 4 < j then 0 else d4) (if 5 < j then 0 else d5) 0).toList (nums .u32 [0]) (.int .u32 0) (by first | rfl | (go_simp; done)) (by rfl) (by rfl) 41 BK.out sizeU32 (show 4 + j + 1 ≤ 11 from by omega) (one_nums _ _) ?_; intro w4 hbox hg; have hbx := hbox; rw [show (nums .u32 [0]).length = 1 from rfl, ST.out] at hbx; have BK4 := Aside0.mk (show w4.heap[gb]? = some (.cells (inoCells a k s l (if 0 < j + 1 then 0 else d0) (if 1 < j + 1 then 0 else d1) (if 2 < j + 1 then 0 else d2) (if 3 < j + 1 then 0 else d3) (if 4 < j + 1 then 0 else d4) (if 5 < j + 1 then 0 else d5) 0) 41 (0, 0)) from hbx); have HB4 := Aside0.mk (pw_below_grown HB.out _ HB.out.size hg (fun q e => by cases e; exact GE1.out)); have BA4 := Aside0.mk (blk_grown BA.out hg (fun e => NE.out (Option.some.inj e))); clear hbox hg hbx))
      go_roundw
      case rel => exact ⟨j + 1, by omega, by go_num, BK4, BA4, HB4⟩
      case measure => simp [intOf]; omega
    · have hj6 : j = 6 := by omega
      subst hj6
      have BK0 : Aside0 (wr.heap[gb]? = some (.cells (inoCells a k s l 0 0 0 0 0 0 0) 41 (0, 0))) := BK
      clear BK
      have BK := BK0
      clear BK0
      go_wp2_with (first | ((with_reducible refine gate_dst (N := 18) rfl ?_); refine wpList_load_row rfl 41 (.tmp 2) rfl gb rfl _ _ _ _ BK.out hu41.out rfl sizeInode ?_) | (go_at_call 26; refine (refMay_any a k s l 0 0 0 0 0 0 0 _).mono ?_; rw [HM.out]; rintro e w5 ⟨rfl, hb⟩; have HB5 := Aside0.mk (below_step HB.out hb); have BK5 := Aside0.mk (blk_below BK.out hb); have BA5 := Aside0.mk (blk_below BA.out hb); have c2 := (blk_cell (blk_below BK.out hb) 2).trans (show (inoCells a k s l 0 0 0 0 0 0 0)[2]? = some (.int .i64 s) from rfl); clear hb) | (go_at_call 27; refine (refBlocks_any s _ hs).mono ?_; rw [HBK.out]; rintro e w' ⟨rfl, ⟨nd, rfl⟩⟩))
      go_loopw [8, 9] (fun v i wr => ∃ j : Nat, j ≤ n ∧ i = .int .i64 j ∧ Aside0 (wr.ownsRow w.heap.size 38 1 v (j - 6) (nums .u32 ((xs.take j).drop 6))) ∧ Aside0 (wr.heap[gb]? = some (.cells (inoCells a k s l (if 0 < j then xs.getD 0 0 else 0) (if 1 < j then xs.getD 1 0 else 0) (if 2 < j then xs.getD 2 0 else 0) (if 3 < j then xs.getD 3 0 else 0) (if 4 < j then xs.getD 4 0 else 0) (if 5 < j then xs.getD 5 0 else 0) 0) 41 (0, 0))) ∧ Aside0 (wr.heap[ga]? = some (.cells (inoCells 0 0 0 0 0 0 0 0 0 0 0) 41 (0, 0))) ∧ Aside0 (Below w.heap.size w wr)) (fun _ i _ => n - (intOf i).toNat)
      case atStart => exact ⟨0, Nat.zero_le _, rfl, ⟨by simpa [nums] using own_nil _ _ _ _⟩, ⟨blk_drewN BK5.out _⟩, ⟨blk_drewN BA5.out _⟩, ⟨pw_below_drewN HB5.out _⟩⟩
      case round =>
        obtain ⟨j, hj, rfl, HO, BK, BA, HB⟩ := hrel
        clear BK5 BA5 HB5 c2
        by_cases hlt : j < n
        · have hj0 : (0 : Int) ≤ (j : Int) := Int.natCast_nonneg _
          have hlt' : (j : Int) < (n : Int) := by omega
          obtain ⟨ad, rfl, hcx⟩ := (HR.out.below HB.out).at_ j (by omega) (by omega)
          rw [Int.toNat_natCast] at hcx
          have hx0 : rd xs j = xs.getD j 0 := by unfold rd; rw [Int.toNat_natCast]
          rw [hx0] at hcx
          by_cases h6 : j < 6
          · have hj6 : (j : Int) < 6 := by omega
            have hst := wc_step a k s l xs j h6
            have hdr : ((xs.take (j + 1)).drop 6) = ((xs.take j).drop 6) := by rw [List.drop_of_length_le (by simp; omega), List.drop_of_length_le (by simp; omega)]
            obtain ⟨y, hy⟩ : ∃ y, xs.getD j 0 = y := ⟨_, rfl⟩
            rw [hy] at hcx hst
            have ST := Aside0.mk hst
            have HDR := Aside0.mk hdr
            clear hst hy hdr hx0
            go_wp2_with (first | ((with_reducible refine gate_store (t := 38) (p := 44) (v := .tmp 42) rfl ?_); refine ev_store (by rfl) 38 (.tmp 44) (.tmp 42) (by rfl) gb (4 + j) (inoCells a k s l (if 0 < j then xs.getD 0 0 else 0) (if 1 < j then xs.getD 1 0 else 0) (if 2 < j then xs.getD 2 0 else 0) (if 3 < j then xs.getD 3 0 else 0) (if 4 < j then xs.getD 4 0 else 0) (if 5 < j then xs.getD 5 0 else 0) 0).toList (nums .u32 [y]) (.int .u32 y) (by first | rfl | (go_simp; done)) (by rfl) (by rfl) 41 BK.out sizeU32 (show 4 + j + 1 ≤ 11 from by omega) (one_nums _ _) ?_; intro w4 hbox hg; have hbx := hbox; rw [show (nums .u32 [y]).length = 1 from rfl, ST.out] at hbx; have BK4 := Aside0.mk (show w4.heap[gb]? = some (.cells (inoCells a k s l (if 0 < j + 1 then xs.getD 0 0 else 0) (if 1 < j + 1 then xs.getD 1 0 else 0) (if 2 < j + 1 then xs.getD 2 0 else 0) (if 3 < j + 1 then xs.getD 3 0 else 0) (if 4 < j + 1 then xs.getD 4 0 else 0) (if 5 < j + 1 then xs.getD 5 0 else 0) 0) 41 (0, 0)) from hbx); have HB4 := Aside0.mk (pw_below_grown HB.out _ HB.out.size hg (fun q e => by cases e; exact GE1.out)); have BA4 := Aside0.mk (blk_grown BA.out hg (fun e => NE.out (Option.some.inj e))); have HO4 := Aside0.mk (own_other HO.out hg (.inr (fun e => own_ne HO.out BK.out (by decide) e.symm))); clear hbox hg hbx))
            go_roundw
            case rel => exact ⟨j + 1, by omega, by go_num, ⟨by rw [HDR.out, show j + 1 - 6 = j - 6 from by omega]; exact HO4.out⟩, BK4, BA4, HB4⟩
            case measure => simp [intOf]; omega
          · have hj6 : ¬ (j : Int) < 6 := by omega
            obtain ⟨y, hy⟩ : ∃ y, xs.getD j 0 = y := ⟨_, rfl⟩
            have hxl : j < xs.length := by have := HR.out.1; omega
            have hst : ((xs.take (j + 1)).drop 6) = ((xs.take j).drop 6) ++ [y] := by
              rw [List.take_succ_eq_append_getElem hxl, List.drop_append_of_le_length (by simp; omega), ← hy, List.getD_eq_getElem?_getD, List.getElem?_eq_getElem hxl]; rfl
            rw [hy] at hcx
            have HST := Aside0.mk hst
            have hlen : ((xs.take j).drop 6).length = j - 6 := by simp; omega
            have HL1 := Aside0.mk hlen
            have HO2 : Aside0 (wr.ownsRow w.heap.size 38 1 u8 ((xs.take j).drop 6).length (nums .u32 ((xs.take j).drop 6))) := ⟨by rw [hlen]; exact HO.out⟩
            have hlen2 : ((xs.take j).drop 6 ++ [y]).length = j + 1 - 6 := by rw [List.length_append, hlen]; simp; omega
            rw [← hst] at hlen2
            have HL2 := Aside0.mk hlen2
            have W6 := Aside0.mk ((wc_all a k s l xs j (by omega)).trans (wc_all a k s l xs (j + 1) (by omega)).symm)
            clear hst hy hx0 hlen hlen2
            go_wp2_with (first | (at_builtin; with_reducible refine gate_dst (N := 51) rfl ?_; refine print_append_num (w0 := w) w.heap.size rfl (.tmp 45) (.tmp 50) 42 38 .u32 4 rfl Try.underlying42 infoU32 (by omega) u8 ((xs.take j).drop 6) y rfl rfl HO2.out HB.out HB.out.size (by rw [HL1.out]; omega) ?_; intro v2 w4 ho hb4 hg4 _; rw [← HST.out] at ho; have HO4 := Aside0.mk ho; have HB4 := Aside0.mk hb4; have BK4 := Aside0.mk (blk_grown BK.out hg4 (own_ne HO.out BK.out (by decide))); have BA4 := Aside0.mk (blk_grown BA.out hg4 (own_ne HO.out BA.out (by decide))); clear ho hb4 hg4))
            go_roundw
            case rel => exact ⟨j + 1, by omega, by go_num, ⟨by have := HO4.out; rw [HL2.out] at this; exact this⟩, ⟨by rw [← W6.out]; exact BK4.out⟩, BA4, HB4⟩
            case measure => simp [intOf]; omega
        · have hjn : j = n := by omega
          subst hjn
          have BE : Aside0 (wr.heap[gb]? = some (.cells (inoCells a k s l (xs.getD 0 0) (xs.getD 1 0) (xs.getD 2 0) (xs.getD 3 0) (xs.getD 4 0) (xs.getD 5 0) 0) 41 (0, 0))) := ⟨by rw [← wc_end a k s l xs j HR.out.1]; exact BK.out⟩
          go_wp2_with (first | ((with_reducible refine gate_dst (N := 52) rfl ?_); refine wpList_load_row rfl 41 (.tmp 2) rfl gb rfl _ _ _ _ BE.out hu41.out rfl sizeInode ?_) | ((with_reducible refine gate_store (t := 41) (p := 4) (v := .tmp 52) rfl ?_); refine ev_store_row (by rfl) 41 (.tmp 4) (.tmp 52) (by rfl) ga (inoCells a k s l (xs.getD 0 0) (xs.getD 1 0) (xs.getD 2 0) (xs.getD 3 0) (xs.getD 4 0) (xs.getD 5 0) 0) (by rfl) (by rfl) 41 _ BA.out sizeInode (by rfl) (ino_all _ _ _ _ _ _ _ _ _ _ _) ?_; intro w6 hbox hg; have BA6 := Aside0.mk hbox; have HB6 := Aside0.mk (pw_below_grown HB.out _ HB.out.size hg (fun q e => by cases e; exact GA.out)); have HO6 := Aside0.mk (own_other HO.out hg (.inr (fun e => own_ne HO.out BA.out (by decide) e.symm))); clear hbox hg))
          (try simp only [Exit.inBlock, Exit.then])
          refine bodyPost_ret (results_ctt rfl _ _ ga 41 (inoCells a k s l (xs.getD 0 0) (xs.getD 1 0) (xs.getD 2 0) (xs.getD 3 0) (xs.getD 4 0) (xs.getD 5 0) 0) (0, 0) _ rfl BA6.out hu41.out rfl sizeInode) rfl ?_
          exact ⟨_, rfl, by have := HO6.out; rw [List.take_of_length_le (by rw [HR.out.1]; omega)] at this; exact this, HB6.out⟩
end Go.Proofs.YtjpjjddkbohbpaaX
