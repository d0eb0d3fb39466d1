/- points.Spread of no numbers; points.All of an inode that may not be. -/
import Derived.Test.YtjpjjddkbohbpaaSpread
namespace Go.Proofs.YtjpjjddkbohbpaaX
open Go.RowKit Go.Proofs.YtjpjjddkbohbpaaW.PrintWords
set_option linter.unusedVariables false
set_option linter.unusedSimpArgs false
set_option maxHeartbeats 4000000 in
set_option maxRecDepth 100000 in
theorem spread_nil (a k s l d0 d1 d2 d3 d4 d5 p : Int) (w : World) (hs : s ≤ 9223372036854775807) (hm : mayB a k s l [0, 0, 0, 0, 0, 0] 0 = true) (hb : blk s = 0) :
    Calls Try.prog 17 #[.agg (inoCells a k s l d0 d1 d2 d3 d4 d5 p), .slice none 0 0] w fun e w' => ∃ v, e = .returned (.tuple #[.agg (inoCells a k s l 0 0 0 0 0 0 0), v, .int .i64 0]) ∧ w'.ownsRow w.heap.size 38 1 v 0 [] ∧ Below w.heap.size w w' := by
  have hu41 := Aside0.mk Try.underlying41
  have HM := Aside0.mk hm
  have HBK := Aside0.mk hb
  obtain ⟨cs, hcs⟩ : ∃ cs, (inoCells a k s l 0 0 0 0 0 0 0).toList = cs := ⟨_, rfl⟩
  have hi : (Try.prog.info? 41).map (·.size) = some cs.length := by rw [← hcs]; exact sizeInode
  have hcl : cs.length = 11 := by rw [← hcs]; rfl
  have ho1 : ∀ v ∈ cs, v.oneCell' = true := by rw [← hcs]; exact ino_one a k s l _ _ _ _ _ _ 0
  have HCS := Aside0.mk hcs
  clear hcs hm hb
  go_enter Try.func17, Try.ntmps17
  go_wp2_with (first | ((with_reducible refine gate_dst (N := 2) rfl ?_); refine box_event ?hg (N := 2) ?hd (cs := inoCells a k s l d0 d1 d2 d3 d4 d5 p) (t := 41) ?hr ?_; (case hd => rfl); (case hg => rfl); (case hr => first | (go_simp; done) | (go_simp; rfl)); intro gb hg w1 hbox hb; have HB1 := Aside0.mk hb; have BK1 := Aside0.mk hbox; have GE1 := Aside0.mk (Nat.le_of_eq hg.symm); clear hb hbox hg) | ((with_reducible refine gate_dst (N := 4) rfl ?_); refine box_event ?hg (N := 4) ?hd (cs := inoCells 0 0 0 0 0 0 0 0 0 0 0) (t := 41) ?hr ?_; (case hd => rfl); (case hg => rfl); (case hr => first | (go_simp; done) | (go_simp; rfl)); intro ga hg w2 hbox hb; have NE := Aside0.mk (show ga ≠ gb from fun e => by have h1 := blk_lt BK1.out; omega); have GA := Aside0.mk (show w.heap.size ≤ ga from by have := HB1.out.size; omega); have HB2 := Aside0.mk (below_step HB1.out hb); have BA2 := Aside0.mk hbox; have BK2 := Aside0.mk (blk_below BK1.out hb); clear hb hbox hg HB1 BK1) | ((with_reducible refine gate_store (t := 39) (p := 9) (v := .tmp 8) rfl ?_); refine ev_store (by rfl) 39 (.tmp 9) (.tmp 8) (by rfl) gb 4 (inoCells a k s l d0 d1 d2 d3 d4 d5 p).toList (nums .u32 [0, 0, 0, 0, 0, 0]) (.agg (nums .u32 [0, 0, 0, 0, 0, 0]).toArray) (by rfl) (by rfl) (by rfl) 41 BK2.out sizeDirect (show 4 + 6 ≤ 11 from by decide) (one_nums _ _) ?_; intro w3 hbox hg; have BK3 := Aside0.mk (show w3.heap[gb]? = some (.cells (inoCells a k s l 0 0 0 0 0 0 p) 41 (0, 0)) from hbox); have HB3 := Aside0.mk (pw_below_grown HB2.out _ HB2.out.size hg (fun q e => by cases e; exact GE1.out)); have BA3 := Aside0.mk (blk_grown BA2.out hg (fun e => NE.out (Option.some.inj e))); clear hbox hg HB2 BK2 BA2) | ((with_reducible refine gate_store (t := 38) (p := 10) (v := .const (.int .u32 0)) rfl ?_); refine ev_store (by rfl) 38 (.tmp 10) (.const (.int .u32 0)) (by rfl) gb 10 (inoCells a k s l 0 0 0 0 0 0 p).toList (nums .u32 [0]) (.int .u32 0) (by rfl) (by rfl) (by rfl) 41 BK3.out sizeU32 (show 10 + 1 ≤ 11 from by decide) (one_nums _ _) ?_; intro w4 hbox hg; have BK4 := Aside0.mk (show w4.heap[gb]? = some (.cells (inoCells a k s l 0 0 0 0 0 0 0) 41 (0, 0)) from hbox); have HB4 := Aside0.mk (pw_below_grown HB3.out _ HB3.out.size hg (fun q e => by cases e; exact GE1.out)); have BA4 := Aside0.mk (blk_grown BA3.out hg (fun e => NE.out (Option.some.inj e))); clear hbox hg HB3 BK3 BA3) | ((with_reducible refine gate_dst (N := 11) rfl ?_); refine wpList_load_row rfl 41 (.tmp 2) rfl gb rfl _ _ _ _ BK4.out hu41.out rfl sizeInode ?_) | (go_at_call 24; refine (may_any a k s l 0 0 0 0 0 0 0 _ hs).mono ?_; rw [HM.out]; rintro e w5 ⟨rfl, hb⟩; have HB5 := Aside0.mk (below_step HB4.out hb); have BK5 := Aside0.mk (blk_below BK4.out hb); have BA5 := Aside0.mk (blk_below BA4.out hb); have c2 := (blk_cell (blk_below BK4.out hb) 2).trans (show (inoCells a k s l 0 0 0 0 0 0 0)[2]? = some (.int .i64 s) from rfl); clear hb HB4 BK4 BA4) | (go_at_call 25; refine (blocks_any s _ hs).mono ?_; rw [HBK.out]; rintro e w' ⟨rfl, rfl⟩) | ((with_reducible refine gate_dst (N := 26) rfl ?_); refine ev_copy rfl (.tmp 24) (.tmp 25) 42 42 rfl 38 Try.underlying42 sizeU32 (some ⟨gb, 4, none⟩) none 6 6 0 0 rfl rfl gb 4 (inoCells a k s l 0 0 0 0 0 0 0).toList 41 BK5.out [] rfl (fun h0 => absurd h0 (Nat.lt_irrefl 0)) (show 4 + 0 ≤ 11 from by decide) (fun v hv => by cases hv) ?_; intro w6 hid hg; have BK6 : w6.heap[gb]? = some (.cells cs.toArray 41 (0, 0)) := (by rw [← HCS.out]; exact hid); have BK7 := Aside0.mk BK6; have HB6 := Aside0.mk (pw_below_grown HB5.out _ HB5.out.size hg (fun q e => by cases e; exact GE1.out)); have BA6 := Aside0.mk (blk_grown BA5.out hg (fun e => NE.out (Option.some.inj e))); clear hid hg BK6 HB5 BA5 BK5))
  have HI := Aside0.mk hi
  have HO1 := Aside0.mk ho1
  have HCL := Aside0.mk hcl
  clear hi ho1 hcl
  refine wp_region_held_drew (S := fun W => Below w.heap.size w W ∧ W.heap[gb]? = some (.cells cs.toArray 41 (0, 0)) ∧ ∃ old : List Value, old.length = 11 ∧ W.heap[ga]? = some (.cells old.toArray 41 (0, 0))) (by kernel_rfl) ⟨below_drew HB6.out, BK7.out, (inoCells 0 0 0 0 0 0 0 0 0 0 0).toList, rfl, BA6.out⟩ (fun hHeld => ?_)
  refine wpAnyH_take (i := 0) rfl (by kernel_rfl) (by kernel_rfl) (by kernel_rfl) (fun _ _ _ h => h) (yieldsIf_load_mid (by rfl) 41 (.tmp 2) rfl gb 0 rfl cs _ (fun _ h => rangeAt_blk h.2.1) hu41.out rfl HI.out) hHeld ?_
  simp only [Act.put, List.setIfInBounds_toArray, List.set_cons_zero, List.set_cons_succ]
  refine wpAnyH_take (i := 1) (v := .slice none 0 0) rfl (by kernel_rfl) (by kernel_rfl) (by kernel_rfl) (fun _ _ _ h => h) (Or.inl ⟨by rfl, fun W hS => by go_simp⟩) hHeld ?_
  simp only [Act.put, List.setIfInBounds_toArray, List.set_cons_zero, List.set_cons_succ]
  refine wpAnyH_take (i := 2) (v := .int .i64 0) rfl (by kernel_rfl) (by kernel_rfl) (by kernel_rfl) (fun _ _ _ h => h) (Or.inl ⟨by rfl, fun W hS => by go_simp⟩) hHeld ?_
  simp only [Act.put, List.setIfInBounds_toArray, List.set_cons_zero, List.set_cons_succ]
  refine wpAnyH_take (i := 3) (v := .slice none 0 0) rfl (by kernel_rfl) (by kernel_rfl) (by kernel_rfl) (fun _ _ _ h => h) (Or.inl ⟨by rfl, fun W hS => by go_simp⟩) hHeld ?_
  simp only [Act.put, List.setIfInBounds_toArray, List.set_cons_zero, List.set_cons_succ]
  refine wpAnyH_ready (rs := [4]) (by kernel_rfl) (by simp) ?_
  refine AllReadyH.cons rfl (fun K hK => ?_) AllReadyH.nil
  go_simp
  refine (clone_any none 0 0 [] _ (ReadsInt.nil _ _) (by omega) (fun _ => ⟨rfl, rfl⟩)).mono ?_
  rintro e w7 ⟨v, rfl, ho, hb7⟩
  dsimp only
  refine hK.out _ _ ⟨below_step hHeld.1 hb7, blk_below hHeld.2.1 hb7, _, rfl, blk_below (w := w6.drew) BA6.out hb7⟩ (fun hHeld2 => ?_)
  have HO := Aside0.mk (own_less ho (below_drew HB6.out).size)
  have HB7 := Aside0.mk hHeld2.1
  have BA7 := Aside0.mk (blk_below (w := w6.drew) BA6.out hb7)
  clear hK K hb7 ho hHeld
  refine wpAnyH_ready (rs := [5]) (by kernel_rfl) (by simp) ?_
  refine AllReadyH.cons rfl (fun K hK => ?_) AllReadyH.nil
  rw [if_pos (by rfl)]
  refine wp_store_mid 41 _ _ rfl ga 0 cs.toArray rfl rfl (by simpa [HCL.out] using there_blk BA7.out rfl) (by simpa using HI.out) (by simpa using HO1.out) ?_
  have hset := setCells_all (vs := cs) (by rw [HCL.out]; rfl) BA7.out
  have hgr := grown_setCells (b := ga) cs 0 w7
  have HB8 := Aside0.mk (pw_below_grown HB7.out _ HB7.out.size hgr (fun q e => by cases e; exact GA.out))
  have HO8 := Aside0.mk (own_other HO.out hgr (.inr (fun e => own_ne HO.out BA7.out (by decide) e.symm)))
  have BG8 := blk_grown hHeld2.2.1 hgr (fun e => NE.out (Option.some.inj e).symm)
  have BA8 := Aside0.mk hset
  rw [List.toList_toArray]
  refine hK.out _ _ ⟨HB8.out, BG8, _, HCL.out, hset⟩ (fun hHeld3 => ?_)
  clear hK K hHeld2 hset hgr BG8
  generalize w7.setCells ga 0 cs = w8 at *
  (try simp only [Act.put, List.setIfInBounds_toArray, List.set_cons_zero, List.set_cons_succ])
  refine wpAnyH_take (i := 6) (oi := ⟨some 5, _, _, _, _, _⟩) (v := v) rfl (by kernel_rfl) (by kernel_rfl) (by kernel_rfl) (fun _ _ _ h => h) (Or.inl ⟨by rfl, fun W hS => by go_simp⟩) hHeld3 ?_
  (try simp only [Act.put, List.setIfInBounds_toArray, List.set_cons_zero, List.set_cons_succ])
  refine wpAnyH_take (i := 7) (oi := ⟨some 6, _, _, _, _, _⟩) (v := .int .i64 0) rfl (by kernel_rfl) (by kernel_rfl) (by kernel_rfl) (fun _ _ _ h => h) (Or.inl ⟨by rfl, fun W hS => by go_simp⟩) hHeld3 ?_
  (try simp only [Act.put, List.setIfInBounds_toArray, List.set_cons_zero, List.set_cons_succ])
  refine wpAnyH_done (by kernel_rfl) ?_ _
  go_wp2
  (try simp only [Exit.inBlock, Exit.then])
  refine bodyPost_ret (results_ctt rfl _ _ ga 41 cs.toArray (0, 0) _ (by simp [Act.put]) BA8.out hu41.out rfl (by simpa using HI.out)) rfl ?_
  refine ⟨v, ?_, ?_, HB8.out⟩
  · rw [← HCS.out]; simp [Act.put]
  · exact HO8.out
set_option maxHeartbeats 4000000 in
set_option maxRecDepth 100000 in
theorem all_no (a k s l d0 d1 d2 d3 d4 d5 p : Int) (A : Option Addr) (n c : Nat) (w : World) (hs : s ≤ 9223372036854775807) (hm : mayB a k s l [d0, d1, d2, d3, d4, d5] p = false) :
    Calls Try.prog 14 #[.agg (inoCells a k s l d0 d1 d2 d3 d4 d5 p), .slice A n c] w fun e w' => e = .returned (.tuple #[.slice none 0 0, .int .i64 1]) ∧ Below w.heap.size w w' := by
  have hu41 := Aside0.mk Try.underlying41
  have HM := Aside0.mk hm
  clear hm
  go_enter Try.func14, Try.ntmps14
  go_wp2_with (first | ((with_reducible refine gate_dst (N := 2) rfl ?_); refine box_event ?hg (N := 2) ?hd (cs := inoCells a k s l d0 d1 d2 d3 d4 d5 p) (t := 41) ?hr ?_; (case hd => rfl); (case hg => rfl); (case hr => first | (go_simp; done) | (go_simp; rfl)); intro gb hg w1 hbox hb; have HB1 := Aside0.mk hb; have BK1 := Aside0.mk hbox; clear hb hbox hg) | ((with_reducible refine gate_dst (N := 11) rfl ?_); refine wpList_load_row rfl 41 (.tmp 2) rfl gb rfl _ _ _ _ BK1.out hu41.out rfl sizeInode ?_) | (go_at_call 24; refine (may_any a k s l d0 d1 d2 d3 d4 d5 p _ hs).mono ?_; rw [HM.out]; rintro e w5 ⟨rfl, hb⟩; have HB5 := Aside0.mk (below_step HB1.out hb); clear hb))
  go_ret2
  exact ⟨rfl, HB5.out⟩
end Go.Proofs.YtjpjjddkbohbpaaX
