/- What this claim uses of the texts that were printed for it. -/
import Derived.Test.YtcmcmkfoihlniaaDoorU8
section
namespace Go.Proofs.YtcmcmkfoihlniaaDoor.MM
open Go Go.RowKit Go.Maps Go.Proofs.YtcmcmkfoihlniaaDoorX Go.Proofs.YtcmcmkfoihlniaaDoor.NM Go.Proofs.YtcmcmkfoihlniaaDoor.EN Go.Proofs.YtcmcmkfoihlniaaDoorW.PrintWords Go.Proofs.YtcmcmkfoihlniaaDoorW.PrintLast Go.Proofs.YtcmcmkfoihlniaaDoorW.PrintMore Go.Proofs.YtcmcmkfoihlniaaDoor.PModelUndoes
set_option linter.unusedVariables false
set_option linter.unusedSimpArgs false
set_option maxRecDepth 100000
set_option maxHeartbeats 8000000
attribute [local go_sem] max2_int min2_int max_two min_two
@[go_sem] theorem eq30 (s : Int × Int × Int × Int) (w : World) : (binOp .eql 30 (.agg (stC s)) (.agg (stC s))).run Tryd.prog w = .ok (.bool true) w := by
  have hu := Tryd.underlying30
  go_simp
theorem Wide.below {w w' : World} (h : Wide w) (hb : Below w.heap.size w w') : Wide w' := ⟨pw_cell_below hb h.a, pw_cell_below hb h.b, pw_cell_below hb h.c⟩
theorem made_or {T : Tree} (h : Inv T) (p : ByteArray) : (∃ F, makeR 6720 T p (.file [] 1) = (F, 0) ∧ unlinkR F p = (T, 0)) ∨ ∃ y, makeR 6720 T p (.file [] 1) = (T, y) ∧ (y == 0) = false := by
  obtain ⟨F, y, e⟩ : ∃ F y, makeR 6720 T p (.file [] 1) = (F, y) := ⟨_, _, rfl⟩
  by_cases hy : y = 0
  · subst hy
    have := undo_create h p (q := 6720) (by rw [e])
    rw [e] at this
    exact .inl ⟨F, e, this⟩
  · have := make_bad h p (.file [] 1) (q := 6720) (by rw [e]; exact hy)
    rw [e] at this
    have this : F = T := this
    subst this
    exact .inr ⟨y, e, beq_eq_false_iff_ne.2 hy⟩
theorem mkdir_or {T : Tree} (h : Inv T) (p : ByteArray) : (∃ F, makeR 6720 T p (.dir []) = (F, 0) ∧ rmdirR F p = (T, 0)) ∨ ∃ y, makeR 6720 T p (.dir []) = (T, y) ∧ (y == 0) = false := by
  obtain ⟨F, y, e⟩ : ∃ F y, makeR 6720 T p (.dir []) = (F, y) := ⟨_, _, rfl⟩
  by_cases hy : y = 0
  · subst hy
    have := undo_mkdir h p (q := 6720) (by rw [e])
    rw [e] at this
    exact .inl ⟨F, e, this⟩
  · have := make_bad h p (.dir []) (q := 6720) (by rw [e]; exact hy)
    rw [e] at this
    have this : F = T := this
    subst this
    exact .inr ⟨y, e, beq_eq_false_iff_ne.2 hy⟩
theorem linked_or {T : Tree} (h : Inv T) (p s : ByteArray) : (∃ F, linkR 6720 T p s = (F, 0) ∧ unlinkR F s = (T, 0)) ∨ ∃ y, linkR 6720 T p s = (T, y) ∧ (y == 0) = false := by
  obtain ⟨F, y, e⟩ : ∃ F y, linkR 6720 T p s = (F, y) := ⟨_, _, rfl⟩
  by_cases hy : y = 0
  · subst hy
    have := undo_link h p s (q := 6720) (by rw [e])
    rw [e] at this
    exact .inl ⟨F, e, this⟩
  · have := link_bad h p s (q := 6720) (by rw [e]; exact hy)
    rw [e] at this
    have this : F = T := this
    subst this
    exact .inr ⟨y, e, beq_eq_false_iff_ne.2 hy⟩
abbrev St4 := Int × Int × Int × Int
theorem moved_or {T : Tree} (h : Good2 6720 T) (p s : ByteArray) : (∃ st, statR T s = (st, 0)) ∨ ∃ st y, statR T s = (st, y) ∧ (y == 0) = false ∧
    ((∃ F z, renameR 6720 T p s = (F, z) ∧ (z == 0) = false ∧ (z != 0) = true) ∨ ∃ (F : Tree) (x x' : St4), renameR 6720 T p s = (F, 0) ∧ statR F s = (x, 0) ∧ statR F p = (x', 32) ∧ statR T p = (x, 0) ∧ renameR 6720 F s p = (T, 0)) := by
  obtain ⟨st, y, e⟩ : ∃ st y, statR T s = (st, y) := ⟨_, _, rfl⟩
  by_cases hy : y = 0
  · subst hy; exact .inl ⟨st, e⟩
  · refine .inr ⟨st, y, e, beq_eq_false_iff_ne.2 hy, ?_⟩
    obtain ⟨F, z, e2⟩ : ∃ F z, renameR 6720 T p s = (F, z) := ⟨_, _, rfl⟩
    by_cases hz : z = 0
    · subst hz
      have ht := undo_rename h p s (by rw [e]; exact hy) (by rw [e2])
      rw [e2] at ht
      refine .inr ⟨F, (statR T p).1, (statR F p).1, e2, ?_, ?_, ?_, ht.back⟩
      · rw [← ht.same]; exact Prod.ext rfl ht.there
      · exact Prod.ext rfl ht.gone
      · exact Prod.ext rfl ht.was
    · exact .inl ⟨F, z, e2, beq_eq_false_iff_ne.2 hz, by simp [hz]⟩
theorem undoes_walk (A : Option Addr) (c : Nat) (l : List OpV) (p s : ByteArray) (w : World) (hl : OpsAt w A l) (hlen : l.length ≤ 9223372036854775807) (hW : Wide w) (hT : Lib.Utf8Tabs 2 3 w) :
    Calls Tryd.prog 4 #[.slice A l.length c, .string p, .string s] w fun e w' => e = .returned (.bool true) ∧ Below w.heap.size w w' := by
  have c0 := hW.a
  have c1 := hW.b
  have c2 := hW.c
  have hu27 := Tryd.underlying27
  have hu30 := Tryd.underlying30
  have HW := Aside0.mk hW
  have HT := Aside0.mk hT
  have HL := Aside0.mk hl
  have HLN := Aside0.mk hlen
  obtain ⟨T, hGT⟩ : ∃ T, grownR 6720 T0 (l.take 60) = T := ⟨_, rfl⟩
  have HG := Aside0.mk (show Good2 6720 T from hGT ▸ grown_good _ T0_good)
  have HGT := Aside0.mk hGT
  clear hW hT hl hlen hGT
  have k1 := made_or HG.out.1 p
  have k2 := mkdir_or HG.out.1 p
  have k3 := linked_or HG.out.1 p s
  have k4 := moved_or HG.out p s
  rcases k1 with ⟨F1, h1, u1⟩ | ⟨y1, n1, z1⟩ <;> rcases k2 with ⟨F2, h2, u2⟩ | ⟨y2, n2, z2⟩ <;> rcases k3 with ⟨F3, h3, u3⟩ | ⟨y3, n3, z3⟩ <;> rcases k4 with ⟨s1, st1⟩ | ⟨s1, y4, st1, z4, ⟨F4, z, rn, z5, z6⟩ | ⟨F4, x1, x2, ro, t1, t2, t3, rb⟩⟩
  all_goals (
    go_enter Tryd.func4, Tryd.ntmps4
    go_wp2_with (first
      | (have hz := D16.out; clear hz; go_at_call 14; refine (D16.out.same).mono ?_; rintro e w19 ⟨rfl, hb⟩; have D17 := Aside0.mk (D16.out.step hb); clear hb)
      | (have hz := D15.out; have hy := rb; clear hz hy; go_at_call 18; refine (D15.out.rename HT.out rb).mono ?_; rintro e w18 ⟨rfl, mb18, hs⟩; have D16 := Aside0.mk hs; clear hs)
      | (have hz := D15b.out; clear hz; (with_reducible refine gate_store (t := 30) (p := 15) (v := .tmp 108) rfl ?_); refine ev_store_row (by rfl) 30 (.tmp 15) (.tmp 108) (by rfl) g15 (stC x1) (by rfl) (by rfl) 30 _ K15.out (by kernel_rfl) (by rfl) (by simp [Value.oneCell']) ?_; intro w17 hbox hgr; have HX := Aside0.mk (pw_below_grown L15.out _ L15.out.size hgr (fun q e => by cases e; exact Nat.le_of_eq G15.out.symm)); have D15 := Aside0.mk (D15a.out.step HX.out); have B15 := Aside0.mk hbox; have B11y := Aside0.mk (blk_below B11ya.out HX.out); have q0 : w17.cell? ⟨g15, 0, none⟩ = some (.int .i64 x1.1) := (blk_cell hbox 0).trans rfl; have q1 : w17.cell? ⟨g15, 1, none⟩ = some (.int .i64 x1.2.1) := (blk_cell hbox 1).trans rfl; have q2 : w17.cell? ⟨g15, 2, none⟩ = some (.int .i64 x1.2.2.1) := (blk_cell hbox 2).trans rfl; have q3 : w17.cell? ⟨g15, 3, none⟩ = some (.int .i64 x1.2.2.2) := (blk_cell hbox 3).trans rfl; have r0 : w17.cell? ⟨g11, 0, none⟩ = some (.int .i64 x1.1) := (blk_cell B11y.out 0).trans rfl; have r1 : w17.cell? ⟨g11, 1, none⟩ = some (.int .i64 x1.2.1) := (blk_cell B11y.out 1).trans rfl; have r2 : w17.cell? ⟨g11, 2, none⟩ = some (.int .i64 x1.2.2.1) := (blk_cell B11y.out 2).trans rfl; have r3 : w17.cell? ⟨g11, 3, none⟩ = some (.int .i64 x1.2.2.2) := (blk_cell B11y.out 3).trans rfl; clear hbox hgr)
      | (have hz := D15a.out; clear hz; (with_reducible refine gate_dst (N := 15) rfl ?_); refine box_event ?hg (N := 15) ?hd (cs := stC (0, 0, 0, 0)) (t := 30) ?hr ?_; (case hd => rfl); (case hg => rfl); (case hr => first | (go_simp; done) | (go_simp; rfl) | kernel_rfl); intro g15 hg w17b hbox hb; have D15b := Aside0.mk (D15a.out.step hb); have K15 := Aside0.mk hbox; have L15 := Aside0.mk hb; have G15 := Aside0.mk hg; clear hg hb hbox)
      | (have hz := D14.out; clear hz; go_at_call 7; refine (D14.out.stat HT.out t3).mono ?_; rintro e w17a ⟨rfl, hb⟩; have D15a := Aside0.mk (D14.out.step hb); have B11ya := Aside0.mk (blk_below B11x.out hb); clear hb)
      | (have hz := D14b.out; clear hz; (with_reducible refine gate_store (t := 30) (p := 13) (v := .tmp 102) rfl ?_); refine ev_store_row (by rfl) 30 (.tmp 13) (.tmp 102) (by rfl) g13 (stC x2) (by rfl) (by rfl) 30 _ K13.out (by kernel_rfl) (by rfl) (by simp [Value.oneCell']) ?_; intro w16 hbox hgr; have HX := Aside0.mk (pw_below_grown L13.out _ L13.out.size hgr (fun q e => by cases e; exact Nat.le_of_eq G13.out.symm)); have D14 := Aside0.mk (D14a.out.step HX.out); have B13 := Aside0.mk hbox; have B11x := Aside0.mk (blk_below B11xa.out HX.out); clear hbox hgr)
      | (have hz := D14a.out; clear hz; (with_reducible refine gate_dst (N := 13) rfl ?_); refine box_event ?hg (N := 13) ?hd (cs := stC (0, 0, 0, 0)) (t := 30) ?hr ?_; (case hd => rfl); (case hg => rfl); (case hr => first | (go_simp; done) | (go_simp; rfl) | kernel_rfl); intro g13 hg w16b hbox hb; have D14b := Aside0.mk (D14a.out.step hb); have K13 := Aside0.mk hbox; have L13 := Aside0.mk hb; have G13 := Aside0.mk hg; clear hg hb hbox)
      | (have hz := D13.out; clear hz; go_at_call 7; refine (D13.out.s.stat HT.out t2).mono ?_; rintro e w16a ⟨rfl, hb⟩; have D14a := Aside0.mk (D13.out.step hb); have B11xa := Aside0.mk (blk_below B11.out hb); clear hb)
      | (have hz := D13b.out; clear hz; (with_reducible refine gate_store (t := 30) (p := 11) (v := .tmp 96) rfl ?_); refine ev_store_row (by rfl) 30 (.tmp 11) (.tmp 96) (by rfl) g11 (stC x1) (by rfl) (by rfl) 30 _ K11.out (by kernel_rfl) (by rfl) (by simp [Value.oneCell']) ?_; intro w15 hbox hgr; have HX := Aside0.mk (pw_below_grown L11.out _ L11.out.size hgr (fun q e => by cases e; exact Nat.le_of_eq G11.out.symm)); have D13 := Aside0.mk (D13a.out.step HX.out); have B11 := Aside0.mk hbox; clear hbox hgr)
      | (have hz := D13a.out; clear hz; (with_reducible refine gate_dst (N := 11) rfl ?_); refine box_event ?hg (N := 11) ?hd (cs := stC (0, 0, 0, 0)) (t := 30) ?hr ?_; (case hd => rfl); (case hg => rfl); (case hr => first | (go_simp; done) | (go_simp; rfl) | kernel_rfl); intro g11 hg w15b hbox hb; have D13b := Aside0.mk (D13a.out.step hb); have K11 := Aside0.mk hbox; have L11 := Aside0.mk hb; have G11 := Aside0.mk hg; clear hg hb hbox)
      | (have hz := D12.out; clear hz; go_at_call 7; refine (D12.out.s.stat HT.out t1).mono ?_; rintro e w15a ⟨rfl, hb⟩; have D13a := Aside0.mk (D12.out.step hb); clear hb)
      | (have hz := D11.out; have hy := ro; clear hz hy; go_at_call 18; refine (D11.out.rename HT.out ro).mono ?_; rintro e w14 ⟨rfl, mb14, hs⟩; have D12 := Aside0.mk hs; clear hs)
      | (have hz := D11.out; have hy := rn; clear hz hy; go_at_call 18; refine (D11.out.rename HT.out rn).mono ?_; rintro e w14 ⟨rfl, mb14, hs⟩; have D12 := Aside0.mk hs; clear hs)
      | (have hz := D11b.out; clear hz; (with_reducible refine gate_store (t := 30) (p := 9) (v := .tmp 81) rfl ?_); refine ev_store_row (by rfl) 30 (.tmp 9) (.tmp 81) (by rfl) g9 (stC s1) (by rfl) (by rfl) 30 _ K9.out (by kernel_rfl) (by rfl) (by simp [Value.oneCell']) ?_; intro w13 hbox hgr; have HX := Aside0.mk (pw_below_grown L9.out _ L9.out.size hgr (fun q e => by cases e; exact Nat.le_of_eq G9.out.symm)); have D11 := Aside0.mk (D11a.out.step HX.out); have B9 := Aside0.mk hbox; clear hbox hgr)
      | (have hz := D11a.out; clear hz; (with_reducible refine gate_dst (N := 9) rfl ?_); refine box_event ?hg (N := 9) ?hd (cs := stC (0, 0, 0, 0)) (t := 30) ?hr ?_; (case hd => rfl); (case hg => rfl); (case hr => first | (go_simp; done) | (go_simp; rfl) | kernel_rfl); intro g9 hg w13b hbox hb; have D11b := Aside0.mk (D11a.out.step hb); have K9 := Aside0.mk hbox; have L9 := Aside0.mk hb; have G9 := Aside0.mk hg; clear hg hb hbox)
      | (have hz := D10.out; clear hz; go_at_call 7; refine (D10.out.s.stat HT.out st1).mono ?_; rintro e w13a ⟨rfl, hb⟩; have D11a := Aside0.mk (D10.out.step hb); clear hb)
      | (have hz := D9.out; clear hz; go_at_call 14; refine (D9.out.same).mono ?_; rintro e w12 ⟨rfl, hb⟩; have D10 := Aside0.mk (D9.out.step hb); clear hb)
      | (have hz := D8.out; have hy := u3; clear hz hy; go_at_call 13; refine (D8.out.unlink HT.out u3).mono ?_; rintro e w11 ⟨rfl, mb11, hs⟩; have D9 := Aside0.mk hs; clear hs)
      | (have hz := D7.out; have hy := n3; clear hz hy; go_at_call 17; refine (D7.out.link HT.out n3).mono ?_; rintro e w10 ⟨rfl, mb10, hs⟩; have D9 := Aside0.mk hs; clear hs)
      | (have hz := D7.out; have hy := h3; clear hz hy; go_at_call 17; refine (D7.out.link HT.out h3).mono ?_; rintro e w10 ⟨rfl, mb10, hs⟩; have D8 := Aside0.mk hs; clear hs)
      | (have hz := D6.out; clear hz; go_at_call 14; refine (D6.out.same).mono ?_; rintro e w9 ⟨rfl, hb⟩; have D7 := Aside0.mk (D6.out.step hb); clear hb)
      | (have hz := D5.out; have hy := u2; clear hz hy; go_at_call 16; refine (D5.out.rmdir HT.out u2).mono ?_; rintro e w8 ⟨rfl, mb8, hs⟩; have D6 := Aside0.mk hs; clear hs)
      | (have hz := D4.out; have hy := n2; clear hz hy; go_at_call 15; refine (D4.out.mkdir HT.out n2).mono ?_; rintro e w7 ⟨rfl, mb7, hs⟩; have D6 := Aside0.mk hs; clear hs)
      | (have hz := D4.out; have hy := h2; clear hz hy; go_at_call 15; refine (D4.out.mkdir HT.out h2).mono ?_; rintro e w7 ⟨rfl, mb7, hs⟩; have D5 := Aside0.mk hs; clear hs)
      | (have hz := D3.out; clear hz; go_at_call 14; refine (D3.out.same).mono ?_; rintro e w6 ⟨rfl, hb⟩; have D4 := Aside0.mk (D3.out.step hb); clear hb)
      | (have hz := D2.out; have hy := u1; clear hz hy; go_at_call 13; refine (D2.out.unlink HT.out u1).mono ?_; rintro e w5 ⟨rfl, mb5, hs⟩; have D3 := Aside0.mk hs; clear hs)
      | (have hz := D1.out; have hy := n1; clear hz hy; go_at_call 12; refine (D1.out.create HT.out n1).mono ?_; rintro e w4 ⟨rfl, mb4, hs⟩; have D3 := Aside0.mk hs; clear hs)
      | (have hz := D1.out; have hy := h1; clear hz hy; go_at_call 12; refine (D1.out.create HT.out h1).mono ?_; rintro e w4 ⟨rfl, mb4, hs⟩; have D2 := Aside0.mk hs; clear hs)
      | (have hz := S2.out; clear hz; go_at_call 11; refine (S2.out.copy).mono ?_; rintro e w3 ⟨pw, mw, rfl, hs⟩; have D1 := Aside0.mk hs; clear hs)
      | (have hz := S1.out; clear hz; go_at_call 6; refine (wakes_any w1 (HW.out.below S1.out.b) (S1.out.tabs HT.out)).mono ?_; rintro e w2 ⟨rfl, hb⟩; have S2 := Aside0.mk (S1.out.step hb); clear hb)
      | (go_at_call 5; refine (grown_any w A c l HL.out HT.out HLN.out).mono ?_; rw [HGT.out]; rintro e w1 ⟨pb, mb1, rfl, hp, hm, hM, hb⟩; have S1 := Aside0.mk (show Stt w w1 pb mb1 T from ⟨hM, hb, hp, hm, HG.out⟩); clear hp hm hM hb))
    go_ret
    first | exact ⟨rfl, D17.out.s.b⟩ | exact ⟨rfl, D12.out.s.b⟩ | exact ⟨rfl, D11.out.s.b⟩)
end Go.Proofs.YtcmcmkfoihlniaaDoor.MM
end
