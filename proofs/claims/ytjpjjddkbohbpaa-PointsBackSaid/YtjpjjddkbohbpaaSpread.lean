/- points.Spread: numbers over an inode and what is left of them. -/
import Derived.Test.YtjpjjddkbohbpaaMayAny
import Derived.Test.YtjpjjddkbohbpaaClone
import Derived.Test.YtjpjjddkbohbpaaEv
import Derived.Deep.RegionHeld3
namespace Go.Proofs.YtjpjjddkbohbpaaX
open Go.RowKit Go.Proofs.YtjpjjddkbohbpaaW.PrintWords
set_option linter.unusedVariables false
set_option linter.unusedSimpArgs false
theorem sizeInode : (Try.prog.info? 41).map (·.size) = some 11 := by kernel_rfl
theorem sizeDirect : (Try.prog.info? 39).map (·.size) = some 6 := by kernel_rfl
theorem sizeU32 : (Try.prog.info? 38).map (·.size) = some 1 := by kernel_rfl
theorem rangeAt_below {w w1 : World} {b o : Nat} {cs : List Value} (h : w.rangeAt b o cs) (hb : Below w.heap.size w w1) : w1.rangeAt b o cs := fun j v hv => pw_cell_below hb (h j v hv)
theorem there_below {w w1 : World} {b o n : Nat} (h : w.there b o n) (hb : Below w.heap.size w w1) : w1.there b o n := fun j hj => by
  obtain ⟨h1, h2⟩ := h j hj
  obtain ⟨u, hu⟩ := Option.isSome_iff_exists.1 h1
  have hlt := World.block_lt_of_cell? w _ hu
  have hk := hb.block _ hlt
  refine ⟨by rw [pw_cell_below hb hu]; rfl, ?_⟩
  simp only [World.frozen?] at h2 ⊢
  rw [hk]; exact h2
theorem rangeAt_blk {w : World} {b t : Nat} {cs : List Value} (h : w.heap[b]? = some (.cells cs.toArray t (0, 0))) : w.rangeAt b 0 cs := fun j v hv => by
  rw [Nat.zero_add, blk_cell h]; simpa using hv
theorem there_blk {w : World} {b t n : Nat} {cs : List Value} (h : w.heap[b]? = some (.cells cs.toArray t (0, 0))) (hn : cs.length = n) : w.there b 0 n := fun j hj => by
  rw [Nat.zero_add, blk_cell h, blk_frozen h]; simp [hn, hj]
theorem setCells_blk {b t : Nat} : ∀ (vs old pre : List Value) (w : World), vs.length = old.length → w.heap[b]? = some (.cells (pre ++ old).toArray t (0, 0)) → (w.setCells b pre.length vs).heap[b]? = some (.cells (pre ++ vs).toArray t (0, 0))
  | [], old, pre, w, hl, h => by
    have : old = [] := List.eq_nil_of_length_eq_zero hl.symm
    subst this; exact h
  | v :: vs, [], pre, w, hl, h => by cases hl
  | v :: vs, x :: old, pre, w, hl, h => by
    have h2 := blk_set h pre.length v
    have e : ((pre ++ x :: old).toArray.setIfInBounds pre.length v) = ((pre ++ [v]) ++ old).toArray := by
      apply Array.ext'
      simp
    rw [e] at h2
    have := setCells_blk vs old (pre ++ [v]) _ (by simpa using hl) h2
    rw [World.setCells]
    simpa using this
theorem setCells_all {b t : Nat} {vs old : List Value} {w : World} (hl : vs.length = old.length) (h : w.heap[b]? = some (.cells old.toArray t (0, 0))) : (w.setCells b 0 vs).heap[b]? = some (.cells vs.toArray t (0, 0)) := setCells_blk vs old [] w hl h
theorem grown_cell (w : World) (b o : Nat) (v : Value) : w.grownBy (w.setCell ⟨b, o, none⟩ v) (some b) :=
  ⟨by simp [World.setCell], by simp [World.setCell], by simp [World.setCell], by simp [World.setCell], fun i _ hne => Below.heap_setCell w ⟨b, o, none⟩ v i (fun e => hne (by rw [e]))⟩
theorem grown_trans {a b c : World} {r : Option Nat} (h : a.grownBy b r) (k : b.grownBy c r) : a.grownBy c r :=
  ⟨k.os.trans h.os, k.tape.trans h.tape, k.output.trans h.output, Nat.le_trans h.size k.size, fun i hi hne => (k.block i (Nat.lt_of_lt_of_le hi h.size) hne).trans (h.block i hi hne)⟩
theorem grown_setCells {b : Nat} : ∀ (vs : List Value) (o : Nat) (w : World), w.grownBy (w.setCells b o vs) (some b)
  | [], _, w => grown_of_below (Below.refl _ _) _
  | v :: vs, o, w => grown_trans (grown_cell w b o v) (grown_setCells vs (o + 1) _)
theorem reads_take {w W : World} {k : IntKind} {ad : Addr} {n : Nat} {xs : List Int} (h : ReadsInt w k (some ad) n xs) (m : Nat) (hb : Below w.heap.size w W) : ∀ j v, (nums k (xs.take m))[j]? = some v → W.cell? (ad.add j) = some v := by
  intro j v hj
  have hlt : j < (nums k (xs.take m)).length := (List.getElem?_eq_some_iff.1 hj).1
  rw [nums_length, List.length_take] at hlt
  have hn : j < n := by have := h.1; omega
  obtain ⟨ad', e, hc⟩ := (h.below hb).2.2 (by omega)
  cases e
  rw [hc j hn, ← hj]
  have hx : j < xs.length := by have := h.1; omega
  simp [nums, show j < m from by omega, List.getElem?_eq_getElem hx, List.getD_eq_getElem?_getD]
theorem reads_from {w : World} {k : IntKind} {ad : Addr} {n c m : Nat} {xs : List Int} (h : ReadsInt w k (some ad) n xs) (hm : m ≤ n) (hc : n ≤ c) : ReadsInt w k (if c = m then some ad else some (ad.add m)) (n - m) (xs.drop m) := by
  refine ⟨by rw [List.length_drop, h.1], by have := h.2.1; omega, fun hp => ?_⟩
  obtain ⟨ad', e, hr⟩ := h.2.2 (by omega)
  cases e
  refine ⟨ad.add m, if_neg (by omega), fun j hj => ?_⟩
  rw [Addr.add_add, hr (m + j) (by omega)]
  simp [List.getD_eq_getElem?_getD, List.getElem?_drop]
theorem ino_one (a k s l d0 d1 d2 d3 d4 d5 p : Int) : ∀ v ∈ (inoCells a k s l d0 d1 d2 d3 d4 d5 p).toList, v.oneCell' = true := by
  intro v hv
  simp at hv
  rcases hv with rfl | rfl | rfl | rfl | rfl | rfl | rfl | rfl | rfl | rfl | rfl <;> rfl
theorem spread_cells (a k s l : Int) (xs : List Int) : splice (inoCells a k s l 0 0 0 0 0 0 0).toList 4 (nums .u32 (xs.take 6)) = (inoCells a k s l (xs.getD 0 0) (xs.getD 1 0) (xs.getD 2 0) (xs.getD 3 0) (xs.getD 4 0) (xs.getD 5 0) 0).toList := by
  rcases xs with _ | ⟨x0, _ | ⟨x1, _ | ⟨x2, _ | ⟨x3, _ | ⟨x4, _ | ⟨x5, xs⟩⟩⟩⟩⟩⟩ <;> rfl
set_option maxHeartbeats 4000000 in
set_option maxRecDepth 100000 in
theorem spread_no (a k s l d0 d1 d2 d3 d4 d5 p : Int) (A : Option Addr) (n c : Nat) (w : World) (hs : s ≤ 9223372036854775807) (hn : n ≤ 9223372036854775807) (hno : (mayB a k s l [0, 0, 0, 0, 0, 0] 0 && decide ((n : Int) = blk s)) = false) :
    Calls Try.prog 17 #[.agg (inoCells a k s l d0 d1 d2 d3 d4 d5 p), .slice A n c] w fun e w' => e = .returned (.tuple #[.agg (inoCells 0 0 0 0 0 0 0 0 0 0 0), .slice none 0 0, .int .i64 1]) ∧ Below w.heap.size w w' := by
  have hu41 := Aside0.mk Try.underlying41
  obtain ⟨m, hm⟩ : ∃ m, mayB a k s l [0, 0, 0, 0, 0, 0] 0 = m := ⟨_, rfl⟩
  rw [hm] at hno
  have HM := Aside0.mk hm
  have hne : m = true → ((n : Int) != blk s) = true := by
    rintro rfl
    simpa using hno
  clear hm hno
  cases m
  all_goals
    have hne' := hne
    clear hne
    simp only [forall_const, Bool.false_eq_true, false_implies] at hne'
    go_enter Try.func17, Try.ntmps17
    go_wp2_with (first | ((with_reducible refine gate_dst (N := 2) rfl ?_); refine box_event ?hg (N := 2) ?hd (cs := inoCells a k s l d0 d1 d2 d3 d4 d5 p) (t := 41) ?hr ?_; (case hd => rfl); (case hg => rfl); (case hr => first | (go_simp; done) | (go_simp; rfl)); intro gb hg w1 hbox hb; have HB1 := Aside0.mk hb; have BK1 := Aside0.mk hbox; have GE1 := Aside0.mk (Nat.le_of_eq hg.symm); clear hb hbox hg) | ((with_reducible refine gate_dst (N := 4) rfl ?_); refine box_event ?hg (N := 4) ?hd (cs := inoCells 0 0 0 0 0 0 0 0 0 0 0) (t := 41) ?hr ?_; (case hd => rfl); (case hg => rfl); (case hr => first | (go_simp; done) | (go_simp; rfl)); intro ga hg w2 hbox hb; have NE := Aside0.mk (show ga ≠ gb from fun e => by have h1 := blk_lt BK1.out; omega); have GA := Aside0.mk (show w.heap.size ≤ ga from by have := HB1.out.size; omega); have HB2 := Aside0.mk (below_step HB1.out hb); have BA2 := Aside0.mk hbox; have BK2 := Aside0.mk (blk_below BK1.out hb); clear hb hbox hg HB1 BK1) | ((with_reducible refine gate_store (t := 39) (p := 9) (v := .tmp 8) rfl ?_); refine ev_store (by rfl) 39 (.tmp 9) (.tmp 8) (by rfl) gb 4 (inoCells a k s l d0 d1 d2 d3 d4 d5 p).toList (nums .u32 [0, 0, 0, 0, 0, 0]) (.agg (nums .u32 [0, 0, 0, 0, 0, 0]).toArray) (by rfl) (by rfl) (by rfl) 41 BK2.out sizeDirect (show 4 + 6 ≤ 11 from by decide) (one_nums _ _) ?_; intro w3 hbox hg; have BK3 := Aside0.mk (show w3.heap[gb]? = some (.cells (inoCells a k s l 0 0 0 0 0 0 p) 41 (0, 0)) from hbox); have HB3 := Aside0.mk (pw_below_grown HB2.out _ HB2.out.size hg (fun q e => by cases e; exact GE1.out)); have BA3 := Aside0.mk (blk_grown BA2.out hg (fun e => NE.out (Option.some.inj e))); clear hbox hg HB2 BK2 BA2) | ((with_reducible refine gate_store (t := 38) (p := 10) (v := .const (.int .u32 0)) rfl ?_); refine ev_store (by rfl) 38 (.tmp 10) (.const (.int .u32 0)) (by rfl) gb 10 (inoCells a k s l 0 0 0 0 0 0 p).toList (nums .u32 [0]) (.int .u32 0) (by rfl) (by rfl) (by rfl) 41 BK3.out sizeU32 (show 10 + 1 ≤ 11 from by decide) (one_nums _ _) ?_; intro w4 hbox hg; have BK4 := Aside0.mk (show w4.heap[gb]? = some (.cells (inoCells a k s l 0 0 0 0 0 0 0) 41 (0, 0)) from hbox); have HB4 := Aside0.mk (pw_below_grown HB3.out _ HB3.out.size hg (fun q e => by cases e; exact GE1.out)); have BA4 := Aside0.mk (blk_grown BA3.out hg (fun e => NE.out (Option.some.inj e))); clear hbox hg HB3 BK3 BA3) | ((with_reducible refine gate_dst (N := 11) rfl ?_); refine wpList_load_row rfl 41 (.tmp 2) rfl gb rfl _ _ _ _ BK4.out hu41.out rfl sizeInode ?_) | (go_at_call 24; refine (may_any a k s l 0 0 0 0 0 0 0 _ hs).mono ?_; rw [HM.out]; rintro e w5 ⟨rfl, hb⟩; have HB5 := Aside0.mk (below_step HB4.out hb); have BK5 := Aside0.mk (blk_below BK4.out hb); have BA5 := Aside0.mk (blk_below BA4.out hb); have c2 := (blk_cell (blk_below BK4.out hb) 2).trans (show (inoCells a k s l 0 0 0 0 0 0 0)[2]? = some (.int .i64 s) from rfl); clear hb HB4 BK4 BA4) | (go_at_call 25; refine (blocks_any s _ hs).mono ?_; rintro e w' ⟨rfl, rfl⟩) | ((with_reducible refine gate_store (t := 41) (p := 4) (v := .tmp 22) rfl ?_); refine ev_store_row (by rfl) 41 (.tmp 4) (.tmp 22) (by rfl) ga (inoCells 0 0 0 0 0 0 0 0 0 0 0) (by rfl) (by rfl) 41 _ BA5.out sizeInode (by rfl) (by kernel_rfl) ?_; intro w6 hbox hg; have BA6 := Aside0.mk hbox; have HB6 := Aside0.mk (pw_below_grown HB5.out _ HB5.out.size hg (fun q e => by cases e; exact GA.out)); clear hbox hg))
    (try simp only [Exit.inBlock, Exit.then])
    refine bodyPost_ret (results_ctt rfl _ _ ga 41 (inoCells 0 0 0 0 0 0 0 0 0 0 0) (0, 0) _ rfl BA6.out hu41.out rfl sizeInode) rfl ?_
    exact ⟨rfl, HB6.out⟩
set_option maxHeartbeats 4000000 in
set_option maxRecDepth 100000 in
theorem spread_yes (a k s l d0 d1 d2 d3 d4 d5 p : Int) (ad : Addr) (n c : Nat) (xs : List Int) (w : World) (hs : s ≤ 9223372036854775807) (hr : ReadsInt w .u32 (some ad) n xs) (hn : n * 4 ≤ 140737488355328) (hc : n ≤ c) (hc63 : c ≤ 9223372036854775807) (hm : mayB a k s l [0, 0, 0, 0, 0, 0] 0 = true) (hb : blk s = (n : Int)) :
    Calls Try.prog 17 #[.agg (inoCells a k s l d0 d1 d2 d3 d4 d5 p), .slice (some ad) n c] w fun e w' => ∃ v, e = .returned (.tuple #[.agg (inoCells a k s l (xs.getD 0 0) (xs.getD 1 0) (xs.getD 2 0) (xs.getD 3 0) (xs.getD 4 0) (xs.getD 5 0) 0), v, .int .i64 0]) ∧ w'.ownsRow w.heap.size 38 1 v (n - 6) (nums .u32 (xs.drop 6)) ∧ Below w.heap.size w w' := by
  have hu41 := Aside0.mk Try.underlying41
  have HM := Aside0.mk hm
  have HBK := Aside0.mk hb
  have HR := Aside0.mk hr
  have HL := Aside0.mk hr.1
  have hlen : (nums .u32 (xs.take 6)).length = min n 6 := by rw [nums_length, List.length_take, HL.out]; omega
  have HLen := Aside0.mk hlen
  obtain ⟨cs, hcs⟩ : ∃ cs, (inoCells a k s l (xs.getD 0 0) (xs.getD 1 0) (xs.getD 2 0) (xs.getD 3 0) (xs.getD 4 0) (xs.getD 5 0) 0).toList = cs := ⟨_, rfl⟩
  have hsp := Aside0.mk ((spread_cells a k s l xs).trans hcs)
  have hi : (Try.prog.info? 41).map (·.size) = some cs.length := by rw [← hcs]; exact sizeInode
  have hcl : cs.length = 11 := by rw [← hcs]; rfl
  have ho1 : ∀ v ∈ cs, v.oneCell' = true := by rw [← hcs]; exact ino_one a k s l _ _ _ _ _ _ 0
  have HCS := Aside0.mk hcs
  clear hcs
  obtain ⟨m, hm6⟩ : ∃ m, m = min n 6 := ⟨_, rfl⟩
  have HM6 := Aside0.mk hm6
  clear hm hb hr hlen hm6
  go_enter Try.func17, Try.ntmps17
  go_wp2_with (first | ((with_reducible refine gate_dst (N := 2) rfl ?_); refine box_event ?hg (N := 2) ?hd (cs := inoCells a k s l d0 d1 d2 d3 d4 d5 p) (t := 41) ?hr ?_; (case hd => rfl); (case hg => rfl); (case hr => first | (go_simp; done) | (go_simp; rfl)); intro gb hg w1 hbox hb; have HB1 := Aside0.mk hb; have BK1 := Aside0.mk hbox; have GE1 := Aside0.mk (Nat.le_of_eq hg.symm); clear hb hbox hg) | ((with_reducible refine gate_dst (N := 4) rfl ?_); refine box_event ?hg (N := 4) ?hd (cs := inoCells 0 0 0 0 0 0 0 0 0 0 0) (t := 41) ?hr ?_; (case hd => rfl); (case hg => rfl); (case hr => first | (go_simp; done) | (go_simp; rfl)); intro ga hg w2 hbox hb; have NE := Aside0.mk (show ga ≠ gb from fun e => by have h1 := blk_lt BK1.out; omega); have GA := Aside0.mk (show w.heap.size ≤ ga from by have := HB1.out.size; omega); have HB2 := Aside0.mk (below_step HB1.out hb); have BA2 := Aside0.mk hbox; have BK2 := Aside0.mk (blk_below BK1.out hb); clear hb hbox hg HB1 BK1) | ((with_reducible refine gate_store (t := 39) (p := 9) (v := .tmp 8) rfl ?_); refine ev_store (by rfl) 39 (.tmp 9) (.tmp 8) (by rfl) gb 4 (inoCells a k s l d0 d1 d2 d3 d4 d5 p).toList (nums .u32 [0, 0, 0, 0, 0, 0]) (.agg (nums .u32 [0, 0, 0, 0, 0, 0]).toArray) (by rfl) (by rfl) (by rfl) 41 BK2.out sizeDirect (show 4 + 6 ≤ 11 from by decide) (one_nums _ _) ?_; intro w3 hbox hg; have BK3 := Aside0.mk (show w3.heap[gb]? = some (.cells (inoCells a k s l 0 0 0 0 0 0 p) 41 (0, 0)) from hbox); have HB3 := Aside0.mk (pw_below_grown HB2.out _ HB2.out.size hg (fun q e => by cases e; exact GE1.out)); have BA3 := Aside0.mk (blk_grown BA2.out hg (fun e => NE.out (Option.some.inj e))); clear hbox hg HB2 BK2 BA2) | ((with_reducible refine gate_store (t := 38) (p := 10) (v := .const (.int .u32 0)) rfl ?_); refine ev_store (by rfl) 38 (.tmp 10) (.const (.int .u32 0)) (by rfl) gb 10 (inoCells a k s l 0 0 0 0 0 0 p).toList (nums .u32 [0]) (.int .u32 0) (by rfl) (by rfl) (by rfl) 41 BK3.out sizeU32 (show 10 + 1 ≤ 11 from by decide) (one_nums _ _) ?_; intro w4 hbox hg; have BK4 := Aside0.mk (show w4.heap[gb]? = some (.cells (inoCells a k s l 0 0 0 0 0 0 0) 41 (0, 0)) from hbox); have HB4 := Aside0.mk (pw_below_grown HB3.out _ HB3.out.size hg (fun q e => by cases e; exact GE1.out)); have BA4 := Aside0.mk (blk_grown BA3.out hg (fun e => NE.out (Option.some.inj e))); clear hbox hg HB3 BK3 BA3) | ((with_reducible refine gate_dst (N := 11) rfl ?_); refine wpList_load_row rfl 41 (.tmp 2) rfl gb rfl _ _ _ _ BK4.out hu41.out rfl sizeInode ?_) | (go_at_call 24; refine (may_any a k s l 0 0 0 0 0 0 0 _ hs).mono ?_; rw [HM.out]; rintro e w5 ⟨rfl, hb⟩; have HB5 := Aside0.mk (below_step HB4.out hb); have BK5 := Aside0.mk (blk_below BK4.out hb); have BA5 := Aside0.mk (blk_below BA4.out hb); have c2 := (blk_cell (blk_below BK4.out hb) 2).trans (show (inoCells a k s l 0 0 0 0 0 0 0)[2]? = some (.int .i64 s) from rfl); clear hb HB4 BK4 BA4) | (go_at_call 25; refine (blocks_any s _ hs).mono ?_; rw [HBK.out]; rintro e w' ⟨rfl, rfl⟩) | ((with_reducible refine gate_dst (N := 26) rfl ?_); refine ev_copy rfl (.tmp 24) (.tmp 25) 42 42 rfl 38 Try.underlying42 sizeU32 (some ⟨gb, 4, none⟩) (some ad) 6 6 n c rfl rfl gb 4 (inoCells a k s l 0 0 0 0 0 0 0).toList 41 BK5.out (nums .u32 (xs.take 6)) HLen.out (fun h0 => ⟨rfl, ad, rfl, reads_take HR.out 6 HB5.out⟩) (by have := HLen.out; show 4 + _ ≤ 11; omega) (one_nums _ _) ?_; intro w6 hid hg; rw [HLen.out, ← HM6.out]; have BK6 := hid; rw [hsp.out] at BK6; have BK7 := Aside0.mk (show w6.heap[gb]? = _ from BK6); have HB6 := Aside0.mk (pw_below_grown HB5.out _ HB5.out.size hg (fun q e => by cases e; exact GE1.out)); have BA6 := Aside0.mk (blk_grown BA5.out hg (fun e => NE.out (Option.some.inj e))); clear hid hg BK6 HB5 BA5 BK5))
  have HI := Aside0.mk hi
  have HO1 := Aside0.mk ho1
  have HCL := Aside0.mk hcl
  clear hi ho1 hcl
  have hm1 : (0 : Int) ≤ (m : Int) := Int.natCast_nonneg _
  have hm2 : (m : Int) ≤ (n : Int) := by have := HM6.out; omega
  have hm3 : (n : Int) ≤ (c : Int) := by omega
  refine wp_region_held_drew (S := fun W => Below w.heap.size w W ∧ W.heap[gb]? = some (.cells cs.toArray 41 (0, 0)) ∧ ∃ old : List Value, old.length = 11 ∧ W.heap[ga]? = some (.cells old.toArray 41 (0, 0))) (by kernel_rfl) ⟨below_drew HB6.out, BK7.out, (inoCells 0 0 0 0 0 0 0 0 0 0 0).toList, rfl, BA6.out⟩ (fun hHeld => ?_)
  refine wpAnyH_take (i := 0) rfl (by kernel_rfl) (by kernel_rfl) (by kernel_rfl) (fun _ _ _ h => h) (yieldsIf_load_mid (by rfl) 41 (.tmp 2) rfl gb 0 rfl cs _ (fun _ h => rangeAt_blk h.2.1) hu41.out rfl HI.out) hHeld ?_
  simp only [Act.put, List.setIfInBounds_toArray, List.set_cons_zero, List.set_cons_succ]
  refine wpAnyH_take (i := 1) (v := .slice (some ad) n c) rfl (by kernel_rfl) (by kernel_rfl) (by kernel_rfl) (fun _ _ _ h => h) (Or.inl ⟨by rfl, fun W hS => by go_simp⟩) hHeld ?_
  simp only [Act.put, List.setIfInBounds_toArray, List.set_cons_zero, List.set_cons_succ]
  refine wpAnyH_take (i := 2) (v := .int .i64 (m : Int)) rfl (by kernel_rfl) (by kernel_rfl) (by kernel_rfl) (fun _ _ _ h => h) (Or.inl ⟨by rfl, fun W hS => by go_simp⟩) hHeld ?_
  simp only [Act.put, List.setIfInBounds_toArray, List.set_cons_zero, List.set_cons_succ]
  refine wpAnyH_take (i := 3) (v := .slice (if c = m then some ad else some (ad.add m)) (n - m) (c - m)) rfl (by kernel_rfl) (by kernel_rfl) (by kernel_rfl) (fun _ _ _ h => h) (Or.inl ⟨by rfl, fun W hS => by go_simp⟩) hHeld ?_
  simp only [Act.put, List.setIfInBounds_toArray, List.set_cons_zero, List.set_cons_succ]
  refine wpAnyH_ready (rs := [4]) (by kernel_rfl) (by simp) ?_
  refine AllReadyH.cons rfl (fun K hK => ?_) AllReadyH.nil
  go_simp
  refine (clone_any _ _ _ (xs.drop m) _ (reads_from (HR.out.below (below_drew HB6.out)) (by omega) hc) (by omega) (fun h => by split at h <;> cases h)).mono ?_
  rintro e w7 ⟨v, rfl, ho, hb7⟩
  dsimp only
  generalize (if c = m then some ad else some (ad.add m)) = A'
  refine hK.out _ _ ⟨below_step hHeld.1 hb7, blk_below hHeld.2.1 hb7, _, rfl, blk_below (w := w6.drew) BA6.out hb7⟩ (fun hHeld2 => ?_)
  have HO := Aside0.mk (own_less ho (below_drew HB6.out).size)
  have HB7 := Aside0.mk hHeld2.1
  have BA7 := Aside0.mk (blk_below (w := w6.drew) BA6.out hb7)
  clear hK K hb7 ho hHeld
  refine wpAnyH_ready (rs := [5]) (by kernel_rfl) (by simp) ?_
  refine AllReadyH.cons rfl (fun K hK => ?_) AllReadyH.nil
  rw [if_pos (by rfl)]
  refine wp_store_mid 41 _ _ rfl ga 0 cs.toArray rfl rfl (by simpa [HCL.out] using there_blk BA7.out rfl) (by simpa using HI.out) (by simpa using HO1.out) ?_
  have hset := setCells_all (vs := cs) (by rw [HCL.out]; rfl) BA7.out
  have hgr := grown_setCells (b := ga) cs 0 w7
  have HB8 := Aside0.mk (pw_below_grown HB7.out _ HB7.out.size hgr (fun q e => by cases e; exact GA.out))
  have HO8 := Aside0.mk (own_other HO.out hgr (.inr (fun e => own_ne HO.out BA7.out (by decide) e.symm)))
  have BG8 := blk_grown hHeld2.2.1 hgr (fun e => NE.out (Option.some.inj e).symm)
  have BA8 := Aside0.mk hset
  rw [List.toList_toArray]
  refine hK.out _ _ ⟨HB8.out, BG8, _, HCL.out, hset⟩ (fun hHeld3 => ?_)
  clear hK K hHeld2 hset hgr BG8
  generalize w7.setCells ga 0 cs = w8 at *
  (try simp only [Act.put, List.setIfInBounds_toArray, List.set_cons_zero, List.set_cons_succ])
  refine wpAnyH_take (i := 6) (oi := ⟨some 5, _, _, _, _, _⟩) (v := v) rfl (by kernel_rfl) (by kernel_rfl) (by kernel_rfl) (fun _ _ _ h => h) (Or.inl ⟨by rfl, fun W hS => by go_simp⟩) hHeld3 ?_
  (try simp only [Act.put, List.setIfInBounds_toArray, List.set_cons_zero, List.set_cons_succ])
  refine wpAnyH_take (i := 7) (oi := ⟨some 6, _, _, _, _, _⟩) (v := .int .i64 0) rfl (by kernel_rfl) (by kernel_rfl) (by kernel_rfl) (fun _ _ _ h => h) (Or.inl ⟨by rfl, fun W hS => by go_simp⟩) hHeld3 ?_
  (try simp only [Act.put, List.setIfInBounds_toArray, List.set_cons_zero, List.set_cons_succ])
  refine wpAnyH_done (by kernel_rfl) ?_ _
  go_wp2
  (try simp only [Exit.inBlock, Exit.then])
  refine bodyPost_ret (results_ctt rfl _ _ ga 41 cs.toArray (0, 0) _ (by simp [Act.put]) BA8.out hu41.out rfl (by simpa using HI.out)) rfl ?_
  refine ⟨v, ?_, ?_, HB8.out⟩
  · rw [← HCS.out]; simp [Act.put]
  · have := HO8.out
    have e1 : xs.drop m = xs.drop 6 := by
      by_cases h : n ≤ 6
      · rw [List.drop_of_length_le (by have := HL.out; have := HM6.out; omega), List.drop_of_length_le (by have := HL.out; omega)]
      · rw [HM6.out, Nat.min_eq_right (by omega)]
    rw [e1, show n - m = n - 6 from by have := HM6.out; omega] at this
    exact this
end Go.Proofs.YtjpjjddkbohbpaaX
