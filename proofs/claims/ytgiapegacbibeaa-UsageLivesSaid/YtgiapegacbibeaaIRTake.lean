/- The document's Take of an inode: its walk. -/
import Derived.Test.YtgiapegacbibeaaITakesLaw
namespace Go.Proofs.YtgiapegacbibeaaX
open Go.RowKit Go.Proofs.YtgiapegacbibeaaW.PrintWords
set_option linter.unusedVariables false
theorem cell_of_reads {W : World} {k : IntKind} {q : Addr} {n : Nat} {xs : List Int} (h : ReadsInt W k (some q) n xs) (j : Nat) (hj : j < n) : W.cell? (q.add j) = some (.int k (xs.getD j 0)) := by
  obtain ⟨ad, e, hc⟩ := h.2.2 (by omega)
  cases e
  exact hc j hj
set_option maxHeartbeats 1000000 in
set_option maxRecDepth 100000 in
theorem rtake_short (A : Option Addr) (n c : Nat) (w : World) (hn : n < 112) (hm : n ≤ 9223372036854775807) :
    Calls Try.prog 33 #[.slice A n c] w fun e w' => e = .returned (.tuple #[.agg (inoCells 0 0 0 0 0 0 0 0 0 0 0), .int .i64 4]) ∧ Below w.heap.size w w' := by
  have hu25 := Aside0.mk Try.underlying57
  go_enter Try.func33, Try.ntmps33
  go_wp2_with (first
    | ((with_reducible refine gate_dst (N := 2) rfl ?_); refine box_event ?hg (N := 2) ?hd (cs := inoCells 0 0 0 0 0 0 0 0 0 0 0) (t := 57) ?hr ?_; (case hd => rfl); (case hg => rfl); (case hr => first | (go_simp; done) | (go_simp; rfl) | kernel_rfl); intro ga hg w1 hbox hb; have Ga := Aside0.mk (Nat.le_of_eq hg.symm); have HB1 := Aside0.mk (hb); have Ba1 := Aside0.mk (hbox); clear hb hbox hg)
    | ((with_reducible refine gate_store (t := 57) (p := 2) (v := .tmp 10) rfl ?_); refine ev_store_row (by rfl) 57 (.tmp 2) (.tmp 10) (by rfl) ga (inoCells 0 0 0 0 0 0 0 0 0 0 0) (by kernel_rfl) (by kernel_rfl) 57 _ Ba1.out sizeInode (by rfl) (by kernel_rfl) ?_; intro w2 hbox hg; have HB2 := Aside0.mk (pw_below_grown HB1.out _ HB1.out.size hg (fun q e => by cases e; exact Ga.out)); have Ba2 := Aside0.mk (hbox); clear hbox hg))
  (try simp only [Exit.inBlock, Exit.then])
  refine bodyPost_ret (results_ct rfl _ _ ga 57 (inoCells 0 0 0 0 0 0 0 0 0 0 0) (0, 0) _ rfl Ba2.out hu25.out rfl sizeInode) rfl ?_
  exact ⟨rfl, HB2.out⟩
set_option maxHeartbeats 1000000 in
set_option maxRecDepth 100000 in
theorem rtake_long (A : Option Addr) (n c : Nat) (w : World) (hn : 112 < n) (hm : n ≤ 9223372036854775807) :
    Calls Try.prog 33 #[.slice A n c] w fun e w' => e = .returned (.tuple #[.agg (inoCells 0 0 0 0 0 0 0 0 0 0 0), .int .i64 3]) ∧ Below w.heap.size w w' := by
  have hu25 := Aside0.mk Try.underlying57
  have h1 : ¬ n < 112 := by omega
  go_enter Try.func33, Try.ntmps33
  go_wp2_with (first
    | ((with_reducible refine gate_dst (N := 2) rfl ?_); refine box_event ?hg (N := 2) ?hd (cs := inoCells 0 0 0 0 0 0 0 0 0 0 0) (t := 57) ?hr ?_; (case hd => rfl); (case hg => rfl); (case hr => first | (go_simp; done) | (go_simp; rfl) | kernel_rfl); intro ga hg w1 hbox hb; have Ga := Aside0.mk (Nat.le_of_eq hg.symm); have HB1 := Aside0.mk (hb); have Ba1 := Aside0.mk (hbox); clear hb hbox hg)
    | ((with_reducible refine gate_store (t := 57) (p := 2) (v := .tmp 14) rfl ?_); refine ev_store_row (by rfl) 57 (.tmp 2) (.tmp 14) (by rfl) ga (inoCells 0 0 0 0 0 0 0 0 0 0 0) (by kernel_rfl) (by kernel_rfl) 57 _ Ba1.out sizeInode (by rfl) (by kernel_rfl) ?_; intro w2 hbox hg; have HB2 := Aside0.mk (pw_below_grown HB1.out _ HB1.out.size hg (fun q e => by cases e; exact Ga.out)); have Ba2 := Aside0.mk (hbox); clear hbox hg))
  (try simp only [Exit.inBlock, Exit.then])
  refine bodyPost_ret (results_ct rfl _ _ ga 57 (inoCells 0 0 0 0 0 0 0 0 0 0 0) (0, 0) _ rfl Ba2.out hu25.out rfl sizeInode) rfl ?_
  exact ⟨rfl, HB2.out⟩
set_option maxHeartbeats 4000000 in
set_option maxRecDepth 100000 in
theorem rtake_yes (q : Addr) (c : Nat) (L : List Int) (w : World) (a k s l d0 d1 d2 d3 d4 d5 p : Int) (mb zb : Bool) (hc : 112 ≤ c) (hr : ReadsInt w .u8 (some q) 112 L) (hby : ∀ j, 0 ≤ L.getD j 0 ∧ L.getD j 0 < 256)
    (ea : accN (L.drop 0) 2 = a) (ek : accN (L.drop 2) 1 = k) (es : accN (L.drop 4) 2 = s) (el : accN (L.drop 3) 1 = l) (ep : accN (L.drop 30) 4 = p) (e0 : accN (L.drop 6) 4 = d0) (e1 : accN (L.drop 10) 4 = d1) (e2 : accN (L.drop 14) 4 = d2) (e3 : accN (L.drop 18) 4 = d3) (e4 : accN (L.drop 22) 4 = d4) (e5 : accN (L.drop 26) 4 = d5)
    (ha : 0 ≤ a ∧ a < 65536) (hk : 0 ≤ k ∧ k < 65536) (hs : 0 ≤ s ∧ s < 65536) (hl : 0 ≤ l ∧ l < 65536) (hd0 : 0 ≤ d0 ∧ d0 < 4294967296) (hd1 : 0 ≤ d1 ∧ d1 < 4294967296) (hd2 : 0 ≤ d2 ∧ d2 < 4294967296) (hd3 : 0 ≤ d3 ∧ d3 < 4294967296) (hd4 : 0 ≤ d4 ∧ d4 < 4294967296) (hd5 : 0 ≤ d5 ∧ d5 < 4294967296) (hp : 0 ≤ p ∧ p < 4294967296)
    (hm : mayB a k s l [d0, d1, d2, d3, d4, d5] p = mb) (hzb : (L.drop 34).all (fun x => x == 0) = zb) :
    Calls Try.prog 33 #[.slice (some q) 112 c] w fun e w' => e = .returned (if (zb && mb) = true then .tuple #[.agg (inoCells a k s l d0 d1 d2 d3 d4 d5 p), .int .i64 0] else .tuple #[.agg (inoCells 0 0 0 0 0 0 0 0 0 0 0), .int .i64 5]) ∧ Below w.heap.size w w' := by
  have hu25 := Aside0.mk Try.underlying57
  have HR := Aside0.mk hr
  have HBY := Aside0.mk hby
  have HC := Aside0.mk hc
  have HM := Aside0.mk hm
  have HZB := Aside0.mk hzb
  have EA := Aside0.mk ea
  have EK := Aside0.mk ek
  have ES := Aside0.mk es
  have EL := Aside0.mk el
  have EP := Aside0.mk ep
  have E0 := Aside0.mk e0
  have E1 := Aside0.mk e1
  have E2 := Aside0.mk e2
  have E3 := Aside0.mk e3
  have E4 := Aside0.mk e4
  have E5 := Aside0.mk e5
  have hL : L.length = 112 := hr.1
  obtain ⟨a0, a1⟩ := ha
  obtain ⟨k0, k1⟩ := hk
  obtain ⟨s0, s1⟩ := hs
  obtain ⟨l0, l1⟩ := hl
  obtain ⟨p0, p1⟩ := hp
  obtain ⟨x0, y0⟩ := hd0
  obtain ⟨x1, y1⟩ := hd1
  obtain ⟨x2, y2⟩ := hd2
  obtain ⟨x3, y3⟩ := hd3
  obtain ⟨x4, y4⟩ := hd4
  obtain ⟨x5, y5⟩ := hd5
  have HL := Aside0.mk hL
  clear hr hby hc hm hzb ea ek es el ep e0 e1 e2 e3 e4 e5 hL
  go_enter Try.func33, Try.ntmps33
  go_wp2_with (first
    | ((with_reducible refine gate_dst (N := 2) rfl ?_); refine box_event ?hg (N := 2) ?hd (cs := inoCells 0 0 0 0 0 0 0 0 0 0 0) (t := 57) ?hr ?_; (case hd => rfl); (case hg => rfl); (case hr => first | (go_simp; done) | (go_simp; rfl) | kernel_rfl); intro ga hg w1 hbox hb; have Ga := Aside0.mk (Nat.le_of_eq hg.symm); have HB1 := Aside0.mk (hb); have Ba1 := Aside0.mk (hbox); clear hb hbox hg)
    | (have hz := HB5.out; clear hz; go_at_call 46; refine (val_any (some q) c L _ (HR.out.below HB5.out) HC.out HBY.out 30 4 _ _ (by rfl) (by rfl) (by decide) (by decide)).mono ?_; rw [EP.out]; rintro e w6 ⟨rfl, hd⟩; have hb := hd.below; have HB6 := Aside0.mk (below_step HB5.out hb); have Ba6 := Aside0.mk (blk_below Ba5.out hb); clear hd; clear hb)
    | (have hz := HB4.out; clear hz; go_at_call 46; refine (val_any (some q) c L _ (HR.out.below HB4.out) HC.out HBY.out 4 2 _ _ (by rfl) (by rfl) (by decide) (by decide)).mono ?_; rw [ES.out]; rintro e w5 ⟨rfl, hd⟩; have hb := hd.below; have HB5 := Aside0.mk (below_step HB4.out hb); have Ba5 := Aside0.mk (blk_below Ba4.out hb); clear hd; clear hb)
    | (have hz := HB3.out; clear hz; go_at_call 46; refine (val_any (some q) c L _ (HR.out.below HB3.out) HC.out HBY.out 3 1 _ _ (by rfl) (by rfl) (by decide) (by decide)).mono ?_; rw [EL.out]; rintro e w4 ⟨rfl, hd⟩; have hb := hd.below; have HB4 := Aside0.mk (below_step HB3.out hb); have Ba4 := Aside0.mk (blk_below Ba3.out hb); clear hd; clear hb)
    | (have hz := HB2.out; clear hz; go_at_call 46; refine (val_any (some q) c L _ (HR.out.below HB2.out) HC.out HBY.out 2 1 _ _ (by rfl) (by rfl) (by decide) (by decide)).mono ?_; rw [EK.out]; rintro e w3 ⟨rfl, hd⟩; have hb := hd.below; have HB3 := Aside0.mk (below_step HB2.out hb); have Ba3 := Aside0.mk (blk_below Ba2.out hb); clear hd; clear hb)
    | (have hz := HB1.out; clear hz; go_at_call 46; refine (val_any (some q) c L _ (HR.out.below HB1.out) HC.out HBY.out 0 2 _ _ (by rfl) (by rfl) (by decide) (by decide)).mono ?_; rw [EA.out]; rintro e w2 ⟨rfl, hd⟩; have hb := hd.below; have HB2 := Aside0.mk (below_step HB1.out hb); have Ba2 := Aside0.mk (blk_below Ba1.out hb); clear hd; clear hb)
    | ((with_reducible refine gate_dst (N := 4) rfl ?_); refine box_event ?hg (N := 4) ?hd (cs := inoCells 0 0 0 0 0 0 0 0 0 0 0) (t := 57) ?hr ?_; (case hd => rfl); (case hg => rfl); (case hr => first | (go_simp; done) | (go_simp; rfl) | kernel_rfl); intro gf hg w7 hbox hb; have Gf := Aside0.mk (show w.heap.size ≤ gf from by have := HB6.out.size; omega); have HB7 := Aside0.mk (below_step HB6.out hb); have Nfa := Aside0.mk (show gf ≠ ga from fun e => by have h1 := blk_lt Ba6.out; omega); have Ba7 := Aside0.mk (blk_below Ba6.out hb); have Bf7 := Aside0.mk (hbox); clear hb hbox hg)
    | ((with_reducible refine gate_store (t := 57) (p := 4) (v := .tmp 30) rfl ?_); refine ev_store_row (by rfl) 57 (.tmp 4) (.tmp 30) (by rfl) gf (inoCells a k s l 0 0 0 0 0 0 p) (by kernel_rfl) (by kernel_rfl) 57 _ Bf7.out sizeInode (by rfl) (ino_all _ _ _ _ _ _ _ _ _ _ _) ?_; intro w8 hbox hg; have HB8 := Aside0.mk (pw_below_grown HB7.out _ HB7.out.size hg (fun q e => by cases e; exact Gf.out)); have Ba8 := Aside0.mk (blk_grown Ba7.out hg (fun e => by cases e; first | exact Nfa.out rfl | exact Naf.out rfl)); have Bf8 := Aside0.mk (hbox); clear hbox hg))
  go_loopw [5] (fun i wr => ∃ j : Nat, j ≤ 6 ∧ i = .int .i64 j ∧ Aside0 (wr.heap[gf]? = some (.cells (inoCells a k s l (if 0 < j then d0 else 0) (if 1 < j then d1 else 0) (if 2 < j then d2 else 0) (if 3 < j then d3 else 0) (if 4 < j then d4 else 0) (if 5 < j then d5 else 0) p) 57 (0, 0))) ∧ Aside0 (wr.heap[ga]? = some (.cells (inoCells 0 0 0 0 0 0 0 0 0 0 0) 57 (0, 0))) ∧ Aside0 (Below w.heap.size w wr)) (fun i _ => 6 - (intOf i).toNat)
  case atStart => exact ⟨0, Nat.zero_le _, rfl, Bf8, Ba8, HB8⟩
  case round =>
    obtain ⟨j, hj, rfl, Bf0, Ba0, HB0⟩ := hrel
    clear Bf8 Ba8 HB8
    by_cases hlt : j < 6
    · have hcase : j = 0 ∨ j = 1 ∨ j = 2 ∨ j = 3 ∨ j = 4 ∨ j = 5 := by omega
      clear hj hlt
      rcases hcase with rfl | rfl | rfl | rfl | rfl | rfl
      · go_wp2_with (first
    | (go_at_call 46; refine (val_any (some q) c L _ (HR.out.below HB0.out) HC.out HBY.out 6 4 _ _ (by first | rfl | decide | (simp; done)) (by rfl) (by decide) (by decide)).mono ?_; rw [E0.out]; rintro e w21 ⟨rfl, hd⟩; have hb := hd.below; have HB21 := Aside0.mk (below_step HB0.out hb); have Ba21 := Aside0.mk (blk_below Ba0.out hb); have Bf21 := Aside0.mk (blk_below Bf0.out hb); clear hd; clear hb)
    | ((with_reducible refine gate_store (t := 24) (p := 43) (v := .tmp 41) rfl ?_); refine ev_store (by rfl) 24 (.tmp 43) (.tmp 41) (by rfl) gf 4 (inoCells a k s l 0 0 0 0 0 0 p).toList (nums .u32 [d0]) (.int .u32 d0) (by kernel_rfl) (by kernel_rfl) (by rfl) 57 Bf21.out sizeU32 (show 4 + 1 ≤ 11 from by decide) (one_nums _ _) ?_; intro w22 hbox hg; have HB22 := Aside0.mk (pw_below_grown HB21.out _ HB21.out.size hg (fun q e => by cases e; exact Gf.out)); have Ba22 := Aside0.mk (blk_grown Ba21.out hg (fun e => by cases e; first | exact Nfa.out rfl | exact Naf.out rfl)); have Bf22 := Aside0.mk (show w22.heap[gf]? = some (.cells (inoCells a k s l d0 0 0 0 0 0 p) 57 (0, 0)) from hbox); clear hbox hg))
        go_roundw
        case rel => exact ⟨1, by omega, by go_num, Bf22, Ba22, HB22⟩
        case measure => simp [intOf]
      · go_wp2_with (first
    | (go_at_call 46; refine (val_any (some q) c L _ (HR.out.below HB0.out) HC.out HBY.out 10 4 _ _ (by first | rfl | decide | (simp; done)) (by rfl) (by decide) (by decide)).mono ?_; rw [E1.out]; rintro e w21 ⟨rfl, hd⟩; have hb := hd.below; have HB21 := Aside0.mk (below_step HB0.out hb); have Ba21 := Aside0.mk (blk_below Ba0.out hb); have Bf21 := Aside0.mk (blk_below Bf0.out hb); clear hd; clear hb)
    | ((with_reducible refine gate_store (t := 24) (p := 43) (v := .tmp 41) rfl ?_); refine ev_store (by rfl) 24 (.tmp 43) (.tmp 41) (by rfl) gf 5 (inoCells a k s l d0 0 0 0 0 0 p).toList (nums .u32 [d1]) (.int .u32 d1) (by kernel_rfl) (by kernel_rfl) (by rfl) 57 Bf21.out sizeU32 (show 5 + 1 ≤ 11 from by decide) (one_nums _ _) ?_; intro w22 hbox hg; have HB22 := Aside0.mk (pw_below_grown HB21.out _ HB21.out.size hg (fun q e => by cases e; exact Gf.out)); have Ba22 := Aside0.mk (blk_grown Ba21.out hg (fun e => by cases e; first | exact Nfa.out rfl | exact Naf.out rfl)); have Bf22 := Aside0.mk (show w22.heap[gf]? = some (.cells (inoCells a k s l d0 d1 0 0 0 0 p) 57 (0, 0)) from hbox); clear hbox hg))
        go_roundw
        case rel => exact ⟨2, by omega, by go_num, Bf22, Ba22, HB22⟩
        case measure => simp [intOf]
      · go_wp2_with (first
    | (go_at_call 46; refine (val_any (some q) c L _ (HR.out.below HB0.out) HC.out HBY.out 14 4 _ _ (by first | rfl | decide | (simp; done)) (by rfl) (by decide) (by decide)).mono ?_; rw [E2.out]; rintro e w21 ⟨rfl, hd⟩; have hb := hd.below; have HB21 := Aside0.mk (below_step HB0.out hb); have Ba21 := Aside0.mk (blk_below Ba0.out hb); have Bf21 := Aside0.mk (blk_below Bf0.out hb); clear hd; clear hb)
    | ((with_reducible refine gate_store (t := 24) (p := 43) (v := .tmp 41) rfl ?_); refine ev_store (by rfl) 24 (.tmp 43) (.tmp 41) (by rfl) gf 6 (inoCells a k s l d0 d1 0 0 0 0 p).toList (nums .u32 [d2]) (.int .u32 d2) (by kernel_rfl) (by kernel_rfl) (by rfl) 57 Bf21.out sizeU32 (show 6 + 1 ≤ 11 from by decide) (one_nums _ _) ?_; intro w22 hbox hg; have HB22 := Aside0.mk (pw_below_grown HB21.out _ HB21.out.size hg (fun q e => by cases e; exact Gf.out)); have Ba22 := Aside0.mk (blk_grown Ba21.out hg (fun e => by cases e; first | exact Nfa.out rfl | exact Naf.out rfl)); have Bf22 := Aside0.mk (show w22.heap[gf]? = some (.cells (inoCells a k s l d0 d1 d2 0 0 0 p) 57 (0, 0)) from hbox); clear hbox hg))
        go_roundw
        case rel => exact ⟨3, by omega, by go_num, Bf22, Ba22, HB22⟩
        case measure => simp [intOf]
      · go_wp2_with (first
    | (go_at_call 46; refine (val_any (some q) c L _ (HR.out.below HB0.out) HC.out HBY.out 18 4 _ _ (by first | rfl | decide | (simp; done)) (by rfl) (by decide) (by decide)).mono ?_; rw [E3.out]; rintro e w21 ⟨rfl, hd⟩; have hb := hd.below; have HB21 := Aside0.mk (below_step HB0.out hb); have Ba21 := Aside0.mk (blk_below Ba0.out hb); have Bf21 := Aside0.mk (blk_below Bf0.out hb); clear hd; clear hb)
    | ((with_reducible refine gate_store (t := 24) (p := 43) (v := .tmp 41) rfl ?_); refine ev_store (by rfl) 24 (.tmp 43) (.tmp 41) (by rfl) gf 7 (inoCells a k s l d0 d1 d2 0 0 0 p).toList (nums .u32 [d3]) (.int .u32 d3) (by kernel_rfl) (by kernel_rfl) (by rfl) 57 Bf21.out sizeU32 (show 7 + 1 ≤ 11 from by decide) (one_nums _ _) ?_; intro w22 hbox hg; have HB22 := Aside0.mk (pw_below_grown HB21.out _ HB21.out.size hg (fun q e => by cases e; exact Gf.out)); have Ba22 := Aside0.mk (blk_grown Ba21.out hg (fun e => by cases e; first | exact Nfa.out rfl | exact Naf.out rfl)); have Bf22 := Aside0.mk (show w22.heap[gf]? = some (.cells (inoCells a k s l d0 d1 d2 d3 0 0 p) 57 (0, 0)) from hbox); clear hbox hg))
        go_roundw
        case rel => exact ⟨4, by omega, by go_num, Bf22, Ba22, HB22⟩
        case measure => simp [intOf]
      · go_wp2_with (first
    | (go_at_call 46; refine (val_any (some q) c L _ (HR.out.below HB0.out) HC.out HBY.out 22 4 _ _ (by first | rfl | decide | (simp; done)) (by rfl) (by decide) (by decide)).mono ?_; rw [E4.out]; rintro e w21 ⟨rfl, hd⟩; have hb := hd.below; have HB21 := Aside0.mk (below_step HB0.out hb); have Ba21 := Aside0.mk (blk_below Ba0.out hb); have Bf21 := Aside0.mk (blk_below Bf0.out hb); clear hd; clear hb)
    | ((with_reducible refine gate_store (t := 24) (p := 43) (v := .tmp 41) rfl ?_); refine ev_store (by rfl) 24 (.tmp 43) (.tmp 41) (by rfl) gf 8 (inoCells a k s l d0 d1 d2 d3 0 0 p).toList (nums .u32 [d4]) (.int .u32 d4) (by kernel_rfl) (by kernel_rfl) (by rfl) 57 Bf21.out sizeU32 (show 8 + 1 ≤ 11 from by decide) (one_nums _ _) ?_; intro w22 hbox hg; have HB22 := Aside0.mk (pw_below_grown HB21.out _ HB21.out.size hg (fun q e => by cases e; exact Gf.out)); have Ba22 := Aside0.mk (blk_grown Ba21.out hg (fun e => by cases e; first | exact Nfa.out rfl | exact Naf.out rfl)); have Bf22 := Aside0.mk (show w22.heap[gf]? = some (.cells (inoCells a k s l d0 d1 d2 d3 d4 0 p) 57 (0, 0)) from hbox); clear hbox hg))
        go_roundw
        case rel => exact ⟨5, by omega, by go_num, Bf22, Ba22, HB22⟩
        case measure => simp [intOf]
      · go_wp2_with (first
    | (go_at_call 46; refine (val_any (some q) c L _ (HR.out.below HB0.out) HC.out HBY.out 26 4 _ _ (by first | rfl | decide | (simp; done)) (by rfl) (by decide) (by decide)).mono ?_; rw [E5.out]; rintro e w21 ⟨rfl, hd⟩; have hb := hd.below; have HB21 := Aside0.mk (below_step HB0.out hb); have Ba21 := Aside0.mk (blk_below Ba0.out hb); have Bf21 := Aside0.mk (blk_below Bf0.out hb); clear hd; clear hb)
    | ((with_reducible refine gate_store (t := 24) (p := 43) (v := .tmp 41) rfl ?_); refine ev_store (by rfl) 24 (.tmp 43) (.tmp 41) (by rfl) gf 9 (inoCells a k s l d0 d1 d2 d3 d4 0 p).toList (nums .u32 [d5]) (.int .u32 d5) (by kernel_rfl) (by kernel_rfl) (by rfl) 57 Bf21.out sizeU32 (show 9 + 1 ≤ 11 from by decide) (one_nums _ _) ?_; intro w22 hbox hg; have HB22 := Aside0.mk (pw_below_grown HB21.out _ HB21.out.size hg (fun q e => by cases e; exact Gf.out)); have Ba22 := Aside0.mk (blk_grown Ba21.out hg (fun e => by cases e; first | exact Nfa.out rfl | exact Naf.out rfl)); have Bf22 := Aside0.mk (show w22.heap[gf]? = some (.cells (inoCells a k s l d0 d1 d2 d3 d4 d5 p) 57 (0, 0)) from hbox); clear hbox hg))
        go_roundw
        case rel => exact ⟨6, by omega, by go_num, Bf22, Ba22, HB22⟩
        case measure => simp [intOf]
    · obtain rfl : j = 6 := by omega
      clear hlt hj
      go_wp2
      go_loopw [6] (fun i wr => ∃ j : Nat, 34 ≤ j ∧ j ≤ 112 ∧ i = .int .i64 j ∧ Aside0 (∀ t, 34 ≤ t → t < j → L.getD t 0 = 0) ∧ Aside0 (wr.heap[gf]? = some (.cells (inoCells a k s l d0 d1 d2 d3 d4 d5 p) 57 (0, 0))) ∧ Aside0 (wr.heap[ga]? = some (.cells (inoCells 0 0 0 0 0 0 0 0 0 0 0) 57 (0, 0))) ∧ Aside0 (Below w.heap.size w wr)) (fun i _ => 112 - (intOf i).toNat)
      case atStart => exact ⟨34, by omega, by omega, rfl, ⟨fun t h1 h2 => by omega⟩, Bf0, Ba0, HB0⟩
      case round =>
        obtain ⟨j, hj0, hj, rfl, HZ, Bf1, Ba1, HB1⟩ := hrel
        clear Bf0 Ba0 HB0
        by_cases hlt : j < 112
        · have hlt' : (j : Int) < 112 := by omega
          have hj1 : (0 : Int) ≤ (j : Int) := Int.natCast_nonneg _
          have hcell := cell_of_reads (HR.out.below HB1.out) j hlt
          obtain ⟨y, hy⟩ : ∃ y, L.getD j 0 = y := ⟨_, rfl⟩
          rw [hy] at hcell
          have HY := Aside0.mk hy
          clear hy
          by_cases hy0 : y = 0
          · subst hy0
            go_wp2
            go_roundw
            case rel => exact ⟨j + 1, by omega, by omega, by go_num, ⟨fun t h1 h2 => by rcases Nat.lt_succ_iff_lt_or_eq.1 h2 with h | rfl; exact HZ.out t h1 h; exact HY.out⟩, Bf1, Ba1, HB1⟩
            case measure => simp [intOf]; omega
          · have hyb : (y != 0) = true := bne_iff_ne.2 hy0
            obtain rfl : zb = false := by
              rw [← HZB.out]
              have : (L.drop 34).all (fun x => x == 0) = false := by
                rw [List.all_eq_false]
                have hl := HL.out
                refine ⟨L[j]'(by omega), List.mem_iff_getElem.2 ⟨j - 34, by rw [List.length_drop]; omega, by rw [List.getElem_drop]; congr 1; omega⟩, ?_⟩
                have h := HY.out
                rw [List.getD_eq_getElem?_getD, List.getElem?_eq_getElem (by omega)] at h
                simpa [← h] using hy0
              exact this
            clear hy0
            go_wp2_with (first
    | ((with_reducible refine gate_store (t := 57) (p := 2) (v := .tmp 53) rfl ?_); refine ev_store_row (by rfl) 57 (.tmp 2) (.tmp 53) (by rfl) ga (inoCells 0 0 0 0 0 0 0 0 0 0 0) (by kernel_rfl) (by kernel_rfl) 57 _ Ba1.out sizeInode (by rfl) (by kernel_rfl) ?_; intro w30 hbox hg; have HB30 := Aside0.mk (pw_below_grown HB1.out _ HB1.out.size hg (fun q e => by cases e; exact Ga.out)); have Ba30 := Aside0.mk (hbox); clear hbox hg))
            (try simp only [Exit.inBlock, Exit.then])
            refine bodyPost_ret (results_ct rfl _ _ ga 57 (inoCells 0 0 0 0 0 0 0 0 0 0 0) (0, 0) _ rfl Ba30.out hu25.out rfl sizeInode) rfl ?_
            exact ⟨rfl, HB30.out⟩
        · obtain rfl : j = 112 := by omega
          have hall : (L.drop 34).all (fun x => x == 0) = true := by
            rw [List.all_eq_true]
            intro x hx
            obtain ⟨i, hi, rfl⟩ := List.mem_iff_getElem.1 hx
            rw [List.getElem_drop]
            have h := HZ.out (34 + i) (by omega) (by rw [List.length_drop] at hi; have := HL.out; omega)
            rw [List.length_drop] at hi
            rw [List.getD_eq_getElem?_getD, List.getElem?_eq_getElem (by omega)] at h
            simpa using h
          obtain rfl : zb = true := HZB.out.symm.trans hall
          clear hlt hj hj0 hall
          cases mb
          · go_wp2_with (first
    | ((with_reducible refine gate_dst (N := 54) rfl ?_); refine wpList_load_row rfl 57 (.tmp 4) (by kernel_rfl) gf (by kernel_rfl) _ _ _ _ Bf1.out hu25.out rfl sizeInode ?_)
    | (have hz := HB1.out; clear hz; go_at_call 47; refine (refMay_any _ _ _ _ _ _ _ _ _ _ _ _).mono ?_; rw [HM.out]; rintro e w31 ⟨rfl, hb⟩; have HB31 := Aside0.mk (below_step HB1.out hb); have Ba31 := Aside0.mk (blk_below Ba1.out hb); have Bf31 := Aside0.mk (blk_below Bf1.out hb); clear hb)
    | ((with_reducible refine gate_store (t := 57) (p := 2) (v := .tmp 57) rfl ?_); refine ev_store_row (by rfl) 57 (.tmp 2) (.tmp 57) (by rfl) ga (inoCells 0 0 0 0 0 0 0 0 0 0 0) (by kernel_rfl) (by kernel_rfl) 57 _ Ba31.out sizeInode (by rfl) (by kernel_rfl) ?_; intro w32 hbox hg; have HB32 := Aside0.mk (pw_below_grown HB31.out _ HB31.out.size hg (fun q e => by cases e; exact Ga.out)); have Ba32 := Aside0.mk (hbox); clear hbox hg))
            (try simp only [Exit.inBlock, Exit.then])
            refine bodyPost_ret (results_ct rfl _ _ ga 57 (inoCells 0 0 0 0 0 0 0 0 0 0 0) (0, 0) _ rfl Ba32.out hu25.out rfl sizeInode) rfl ?_
            exact ⟨rfl, HB32.out⟩
          · go_wp2_with (first
    | ((with_reducible refine gate_dst (N := 54) rfl ?_); refine wpList_load_row rfl 57 (.tmp 4) (by kernel_rfl) gf (by kernel_rfl) _ _ _ _ Bf1.out hu25.out rfl sizeInode ?_)
    | (have hz := HB1.out; clear hz; go_at_call 47; refine (refMay_any _ _ _ _ _ _ _ _ _ _ _ _).mono ?_; rw [HM.out]; rintro e w31 ⟨rfl, hb⟩; have HB31 := Aside0.mk (below_step HB1.out hb); have Ba31 := Aside0.mk (blk_below Ba1.out hb); have Bf31 := Aside0.mk (blk_below Bf1.out hb); clear hb)
    | ((with_reducible refine gate_dst (N := 58) rfl ?_); refine wpList_load_row rfl 57 (.tmp 4) (by kernel_rfl) gf (by kernel_rfl) _ _ _ _ Bf31.out hu25.out rfl sizeInode ?_)
    | ((with_reducible refine gate_store (t := 57) (p := 2) (v := .tmp 58) rfl ?_); refine ev_store_row (by rfl) 57 (.tmp 2) (.tmp 58) (by rfl) ga (inoCells a k s l d0 d1 d2 d3 d4 d5 p) (by kernel_rfl) (by kernel_rfl) 57 _ Ba31.out sizeInode (by rfl) (ino_all _ _ _ _ _ _ _ _ _ _ _) ?_; intro w32 hbox hg; have HB32 := Aside0.mk (pw_below_grown HB31.out _ HB31.out.size hg (fun q e => by cases e; exact Ga.out)); have Ba32 := Aside0.mk (hbox); clear hbox hg))
            (try simp only [Exit.inBlock, Exit.then])
            refine bodyPost_ret (results_ct rfl _ _ ga 57 (inoCells a k s l d0 d1 d2 d3 d4 d5 p) (0, 0) _ rfl Ba32.out hu25.out rfl sizeInode) rfl ?_
            exact ⟨rfl, HB32.out⟩
end Go.Proofs.YtgiapegacbibeaaX
