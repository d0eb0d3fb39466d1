/- What this claim uses of the texts that were printed for it. -/
import Derived.Test.YtcmcmkfoihlniaaDoorV8
section
namespace Go.Proofs.YtcmcmkfoihlniaaDoor.MM
open Go Go.RowKit Go.Maps Go.Proofs.YtcmcmkfoihlniaaDoorX Go.Proofs.YtcmcmkfoihlniaaDoor.NM Go.Proofs.YtcmcmkfoihlniaaDoor.EN Go.Proofs.YtcmcmkfoihlniaaDoorW.PrintWords Go.Proofs.YtcmcmkfoihlniaaDoorW.PrintLast Go.Proofs.YtcmcmkfoihlniaaDoorW.PrintMore Go.Proofs.YtcmcmkfoihlniaaDoor.PModelUndoes
set_option linter.unusedVariables false
set_option linter.unusedSimpArgs false
set_option maxRecDepth 100000
set_option maxHeartbeats 8000000
attribute [local go_sem] max2_int min2_int max_two min_two
theorem Wide.below' {w w' : World} (h : Wide w) (hb : Below w.heap.size w w') : Wide w' := ⟨pw_cell_below hb h.a, pw_cell_below hb h.b, pw_cell_below hb h.c⟩
abbrev Sx := Int × Int × Int × Int
theorem blk_turn {W W' : World} {g pb mb : Nat} {cs : Array Value} {q : Int} {T : Tree} (h : W.heap[g]? = some (.cells cs 30 (0, 0))) (hm : Mdl W pb mb q T) (ht : Turn (fun k => k = pb ∨ k = mb) W W') : W'.heap[g]? = some (.cells cs 30 (0, 0)) := by
  refine (ht.block g (blk_lt h) (fun e => ?_)).trans h
  rcases e with rfl | rfl
  · rw [hm.1] at h; injection h with h; injection h with _ h _; exact absurd h (by decide)
  · obtain ⟨es, c, e⟩ := hm.2.obj
    rw [e] at h; cases h
structure Cx (W : World) (g14 g16 : Nat) (sp sq : Sx) (B : Option Addr) (c0 : List Int) (A : Option Addr) (d : List Int) : Prop where
  b14 : W.heap[g14]? = some (.cells (stC sp) 30 (0, 0))
  b16 : W.heap[g16]? = some (.cells (stC sq) 30 (0, 0))
  r20 : ReadsInt W .u8 B c0.length c0
  rd : ReadsInt W .u8 A d.length d
section
variable {W W' : World} {g14 g16 : Nat} {sp sq : Sx} {B A : Option Addr} {c0 d : List Int} (h : Cx W g14 g16 sp sq B c0 A d)
include h
theorem Cx.below (hb : Below W.heap.size W W') : Cx W' g14 g16 sp sq B c0 A d := ⟨blk_below h.b14 hb, blk_below h.b16 hb, h.r20.below hb, h.rd.below hb⟩
theorem Cx.turn {pb mb : Nat} {q : Int} {T : Tree} (hm : Mdl W pb mb q T) (ht : Turn (fun k => k = pb ∨ k = mb) W W') : Cx W' g14 g16 sp sq B c0 A d := ⟨blk_turn h.b14 hm ht, blk_turn h.b16 hm ht, reads_turn h.r20 ht hm.both, reads_turn h.rd ht hm.both⟩
end
theorem Stt.out2 {w wi w' : World} {pb mb : Nat} {T F : Tree} (h : Stt w wi pb mb T) {y : Int} {e : Ending} (hg : Good2 6720 F) (ho : Out wi pb mb 6720 (F, y) e w') : e = .returned (.int .i64 y) ∧ ∃ mb', Stt w w' pb mb' F ∧ Turn (fun k => k = pb ∨ k = mb) wi w' := by
  obtain ⟨he, mb', hs⟩ := h.out hg ho
  obtain ⟨_, _, _, _, ht⟩ := ho
  exact ⟨he, mb', hs, ht⟩
theorem Stt.write2 {w wi : World} {pb mb : Nat} {T F : Tree} (h : Stt w wi pb mb T) (hT : Lib.Utf8Tabs 2 3 w) {y : Int} {p : ByteArray} {off : Int} {A : Option Addr} {c : Nat} {d : List Int} (hd : ReadsInt wi .u8 A d.length d) (hc : d.length ≤ c) (hR : writeR 6720 T p off d = (F, y)) :
    Calls Tryd.prog 9 #[mp pb, .string p, .int .i64 off, .slice A d.length c] wi fun e w' => e = .returned (.int .i64 y) ∧ ∃ mb', Stt w w' pb mb' F ∧ Turn (fun k => k = pb ∨ k = mb) wi w' :=
  (write_any h.m h.g.1.ok p off A c d hd hc (h.tabs hT)).mono fun e w' ho => h.out2 (by have := write_good h.g p off d; rw [hR] at this; exact this) (by rw [hR] at ho; exact ho)
theorem Stt.trunc2 {w wi : World} {pb mb : Nat} {T F : Tree} (h : Stt w wi pb mb T) (hT : Lib.Utf8Tabs 2 3 w) {y : Int} {p : ByteArray} {n : Int} (hR : truncR 6720 T p n = (F, y)) :
    Calls Tryd.prog 10 #[mp pb, .string p, .int .i64 n] wi fun e w' => e = .returned (.int .i64 y) ∧ ∃ mb', Stt w w' pb mb' F ∧ Turn (fun k => k = pb ∨ k = mb) wi w' :=
  (trunc_any h.m h.g.1.ok p n (h.tabs hT)).mono fun e w' ho => h.out2 (by have := trunc_good h.g p n; rw [hR] at this; exact this) (by rw [hR] at ho; exact ho)
theorem str_of {w : World} {A : Option Addr} {n c : Nat} {xs : List Int} (h : ReadsInt w .u8 A n xs) : (convert 23 9 (.slice A n c)).run Tryd.prog w = .ok (.string (strOfNums xs)) w := string_of_reads Tryd.underlying23 Tryd.underlying5 Tryd.underlying9 h
theorem reads_take {w : World} {A : Option Addr} {n : Nat} {xs : List Int} (h : ReadsInt w .u8 A n xs) {m : Nat} (hm : m ≤ n) : ReadsInt w .u8 A m (xs.take m) := by
  refine ⟨by rw [List.length_take, h.1]; omega, Nat.le_trans hm h.2.1, fun hp => ?_⟩
  obtain ⟨ad, e, hc⟩ := h.2.2 (by omega)
  refine ⟨ad, e, fun j hj => ?_⟩
  rw [hc j (by omega)]
  simp [List.getD_eq_getElem?_getD, List.getElem?_take, hj]
theorem drop_zeros {b : List Int} {n m : Nat} (h : n ≤ m) : (cutB (cutB b n) m).drop n = List.replicate (m - n) 0 := by
  have e := cutB_length b n
  rw [cutB_long (by omega), List.drop_append_of_le_length (by omega), List.drop_eq_nil_of_le (by omega), List.nil_append, e]
theorem splice_take {α : Type} (L : List α) (o n : Nat) (cs : List α) (h : o + cs.length ≤ n) (hn : n ≤ L.length) : (splice L o cs).take n = splice (L.take n) o cs := by
  obtain ⟨A, B, rfl, hA⟩ : ∃ A B, L = A ++ B ∧ A.length = n := ⟨L.take n, L.drop n, (List.take_append_drop n L).symm, by rw [List.length_take]; omega⟩
  rw [List.take_left' hA]
  unfold splice
  have e1 : (A ++ B).take o = A.take o := List.take_append_of_le_length (by omega)
  have e2 : (A ++ B).drop (o + cs.length) = A.drop (o + cs.length) ++ B := List.drop_append_of_le_length (by omega)
  rw [e1, e2, ← List.append_assoc cs, ← List.append_assoc (A.take o)]
  exact List.take_left' (by rw [List.length_append, List.length_append, List.length_take, List.length_drop]; omega)
theorem splice_reads {w : World} {g n o : Nat} {cur : Array Value} {G d b1 : List Int} (h : w.heap[g]? = some (.cells (splice cur.toList o (nu d)).toArray 5 (0, 0))) (hc : n ≤ cur.size) (ht : cur.toList.take n = nu G) (hl : splice (nu G) o (nu d) = nu b1) (hno : o + d.length ≤ n) (hn : b1.length = n) (hb : n ≤ 9223372036854775807) : ReadsInt w .u8 (some ⟨g, 0, none⟩) n b1 := by
  have e : (splice cur.toList o (nu d)).take n = nu b1 := by
    rw [splice_take _ _ _ _ (by rw [nu_length]; exact hno) (by rw [Array.length_toList]; exact hc), ht, hl]
  refine ⟨hn, hb, fun _ => ⟨_, rfl, fun j hj => ?_⟩⟩
  have hx : (splice cur.toList o (nu d))[j]? = (nu b1)[j]? := by rw [← e, List.getElem?_take_of_lt hj]
  rw [add_plain, blk_cell h j]
  have hx2 : (splice cur.toList o (nu d)).toArray[j]? = (splice cur.toList o (nu d))[j]? := by simp
  rw [hx2, hx]
  obtain ⟨v, hv⟩ : ∃ v, (nu b1)[j]? = some v := ⟨_, List.getElem?_eq_getElem (by rw [nu_length, hn]; exact hj)⟩
  rw [hv, (nu_get hv).2]
def lenV : Value → Nat
  | .slice _ n _ => n
  | _ => 0
theorem bytes_walk (A : Option Addr) (c : Nat) (l : List OpV) (p s : ByteArray) (off : Int) (A4 : Option Addr) (c4 : Nat) (d : List Int) (size : Int) (w : World) (hl : OpsAt w A l) (hlen : l.length ≤ 9223372036854775807) (hd : ReadsInt w .u8 A4 d.length d) (hdc : d.length ≤ c4) (hW : Wide w) (hT : Lib.Utf8Tabs 2 3 w) :
    Calls Tryd.prog 3 #[.slice A l.length c, .string p, .string s, .int .i64 off, .slice A4 d.length c4, .int .i64 size] w fun e w' => e = .returned (.bool true) ∧ Below w.heap.size w w' := by
  have cw0 := hW.a
  have cw1 := hW.b
  have cw2 := hW.c
  have hu27 := Tryd.underlying27
  have hu30 := Tryd.underlying30
  have HW := Aside0.mk hW
  have HT := Aside0.mk hT
  have HL := Aside0.mk hl
  have HLN := Aside0.mk hlen
  have HD := Aside0.mk hd
  have HDC := Aside0.mk hdc
  obtain ⟨T, hGT⟩ : ∃ T, grownR 6720 T0 (l.take 60) = T := ⟨_, rfl⟩
  have HG := Aside0.mk (show Good2 6720 T from hGT ▸ grown_good _ T0_good)
  have HGT := Aside0.mk hGT
  obtain ⟨sp, yp, hsp⟩ : ∃ sp yp, statR T p = (sp, yp) := ⟨_, _, rfl⟩
  obtain ⟨sq, yq, hsq⟩ : ∃ sq yq, statR T s = (sq, yq) := ⟨_, _, rfl⟩
  clear hW hT hl hlen hGT hd hdc
  by_cases h1 : yp = 0
  case neg =>
    have z1 : (yp != 0) = true := by simp [h1]
    clear h1
    go_enter Tryd.func3, Tryd.ntmps3
    go_wp2_with (first
      | (have hz := S4b.out; clear hz; (with_reducible refine gate_store (t := 30) (p := 16) (v := .tmp 50) rfl ?_); refine ev_store_row (by rfl) 30 (.tmp 16) (.tmp 50) (by rfl) g16 (stC sq) (by rfl) (by rfl) 30 _ K16.out (by kernel_rfl) (by rfl) (by simp [Value.oneCell']) ?_; intro w4 hbox hgr; have HX := Aside0.mk (pw_below_grown L16.out _ L16.out.size hgr (fun q e => by cases e; exact Nat.le_of_eq G16.out.symm)); have S4 := Aside0.mk (S4a.out.step HX.out); have B16 := Aside0.mk hbox; have B14x := Aside0.mk (blk_below B14xa.out HX.out); have k1 : w4.cell? ⟨g14, 1, none⟩ = some (.int .i64 sp.2.1) := (blk_cell B14x.out 1).trans rfl; have k2 : w4.cell? ⟨g16, 1, none⟩ = some (.int .i64 sq.2.1) := (blk_cell hbox 1).trans rfl; clear hbox hgr)
      | (have hz := S4a.out; clear hz; (with_reducible refine gate_dst (N := 16) rfl ?_); refine box_event ?hg (N := 16) ?hd (cs := stC (0, 0, 0, 0)) (t := 30) ?hr ?_; (case hd => rfl); (case hg => rfl); (case hr => first | (go_simp; done) | (go_simp; rfl) | kernel_rfl); intro g16 hg w4b hbox hb; have S4b := Aside0.mk (S4a.out.step hb); have K16 := Aside0.mk hbox; have L16 := Aside0.mk hb; have G16 := Aside0.mk hg; clear hg hb hbox)
      | (have hz := S3.out; clear hz; go_at_call 7; refine (S3.out.stat HT.out hsq).mono ?_; rintro e w4a ⟨rfl, hb⟩; have S4a := Aside0.mk (S3.out.step hb); have B14xa := Aside0.mk (blk_below B14.out hb); clear hb)
      | (have hz := S3b.out; clear hz; (with_reducible refine gate_store (t := 30) (p := 14) (v := .tmp 44) rfl ?_); refine ev_store_row (by rfl) 30 (.tmp 14) (.tmp 44) (by rfl) g14 (stC sp) (by rfl) (by rfl) 30 _ K14.out (by kernel_rfl) (by rfl) (by simp [Value.oneCell']) ?_; intro w3 hbox hgr; have HX := Aside0.mk (pw_below_grown L14.out _ L14.out.size hgr (fun q e => by cases e; exact Nat.le_of_eq G14.out.symm)); have S3 := Aside0.mk (S3a.out.step HX.out); have B14 := Aside0.mk hbox; clear hbox hgr)
      | (have hz := S3a.out; clear hz; (with_reducible refine gate_dst (N := 14) rfl ?_); refine box_event ?hg (N := 14) ?hd (cs := stC (0, 0, 0, 0)) (t := 30) ?hr ?_; (case hd => rfl); (case hg => rfl); (case hr => first | (go_simp; done) | (go_simp; rfl) | kernel_rfl); intro g14 hg w3b hbox hb; have S3b := Aside0.mk (S3a.out.step hb); have K14 := Aside0.mk hbox; have L14 := Aside0.mk hb; have G14 := Aside0.mk hg; clear hg hb hbox)
      | (have hz := S2.out; clear hz; go_at_call 7; refine (S2.out.stat HT.out hsp).mono ?_; rintro e w3a ⟨rfl, hb⟩; have S3a := Aside0.mk (S2.out.step hb); clear hb)
      | (have hz := S1.out; clear hz; go_at_call 6; refine (wakes_any w1 (HW.out.below' S1.out.b) (S1.out.tabs HT.out)).mono ?_; rintro e w2 ⟨rfl, hb⟩; have S2 := Aside0.mk (S1.out.step hb); clear hb)
      | (go_at_call 5; refine (grown_any w A c l HL.out HT.out HLN.out).mono ?_; rw [HGT.out]; rintro e w1 ⟨pb, mb1, rfl, hp, hm, hM, hb⟩; have S1 := Aside0.mk (show Stt w w1 pb mb1 T from ⟨hM, hb, hp, hm, HG.out⟩); clear hp hm hM hb))
    go_ret
    exact ⟨rfl, S4.out.b⟩
  subst h1
  by_cases h2 : yq = 0
  case neg =>
    have z2 : (yq != 0) = true := by simp [h2]
    clear h2
    go_enter Tryd.func3, Tryd.ntmps3
    go_wp2_with (first
      | (have hz := S4b.out; clear hz; (with_reducible refine gate_store (t := 30) (p := 16) (v := .tmp 50) rfl ?_); refine ev_store_row (by rfl) 30 (.tmp 16) (.tmp 50) (by rfl) g16 (stC sq) (by rfl) (by rfl) 30 _ K16.out (by kernel_rfl) (by rfl) (by simp [Value.oneCell']) ?_; intro w4 hbox hgr; have HX := Aside0.mk (pw_below_grown L16.out _ L16.out.size hgr (fun q e => by cases e; exact Nat.le_of_eq G16.out.symm)); have S4 := Aside0.mk (S4a.out.step HX.out); have B16 := Aside0.mk hbox; have B14x := Aside0.mk (blk_below B14xa.out HX.out); have k1 : w4.cell? ⟨g14, 1, none⟩ = some (.int .i64 sp.2.1) := (blk_cell B14x.out 1).trans rfl; have k2 : w4.cell? ⟨g16, 1, none⟩ = some (.int .i64 sq.2.1) := (blk_cell hbox 1).trans rfl; clear hbox hgr)
      | (have hz := S4a.out; clear hz; (with_reducible refine gate_dst (N := 16) rfl ?_); refine box_event ?hg (N := 16) ?hd (cs := stC (0, 0, 0, 0)) (t := 30) ?hr ?_; (case hd => rfl); (case hg => rfl); (case hr => first | (go_simp; done) | (go_simp; rfl) | kernel_rfl); intro g16 hg w4b hbox hb; have S4b := Aside0.mk (S4a.out.step hb); have K16 := Aside0.mk hbox; have L16 := Aside0.mk hb; have G16 := Aside0.mk hg; clear hg hb hbox)
      | (have hz := S3.out; clear hz; go_at_call 7; refine (S3.out.stat HT.out hsq).mono ?_; rintro e w4a ⟨rfl, hb⟩; have S4a := Aside0.mk (S3.out.step hb); have B14xa := Aside0.mk (blk_below B14.out hb); clear hb)
      | (have hz := S3b.out; clear hz; (with_reducible refine gate_store (t := 30) (p := 14) (v := .tmp 44) rfl ?_); refine ev_store_row (by rfl) 30 (.tmp 14) (.tmp 44) (by rfl) g14 (stC sp) (by rfl) (by rfl) 30 _ K14.out (by kernel_rfl) (by rfl) (by simp [Value.oneCell']) ?_; intro w3 hbox hgr; have HX := Aside0.mk (pw_below_grown L14.out _ L14.out.size hgr (fun q e => by cases e; exact Nat.le_of_eq G14.out.symm)); have S3 := Aside0.mk (S3a.out.step HX.out); have B14 := Aside0.mk hbox; clear hbox hgr)
      | (have hz := S3a.out; clear hz; (with_reducible refine gate_dst (N := 14) rfl ?_); refine box_event ?hg (N := 14) ?hd (cs := stC (0, 0, 0, 0)) (t := 30) ?hr ?_; (case hd => rfl); (case hg => rfl); (case hr => first | (go_simp; done) | (go_simp; rfl) | kernel_rfl); intro g14 hg w3b hbox hb; have S3b := Aside0.mk (S3a.out.step hb); have K14 := Aside0.mk hbox; have L14 := Aside0.mk hb; have G14 := Aside0.mk hg; clear hg hb hbox)
      | (have hz := S2.out; clear hz; go_at_call 7; refine (S2.out.stat HT.out hsp).mono ?_; rintro e w3a ⟨rfl, hb⟩; have S3a := Aside0.mk (S2.out.step hb); clear hb)
      | (have hz := S1.out; clear hz; go_at_call 6; refine (wakes_any w1 (HW.out.below' S1.out.b) (S1.out.tabs HT.out)).mono ?_; rintro e w2 ⟨rfl, hb⟩; have S2 := Aside0.mk (S1.out.step hb); clear hb)
      | (go_at_call 5; refine (grown_any w A c l HL.out HT.out HLN.out).mono ?_; rw [HGT.out]; rintro e w1 ⟨pb, mb1, rfl, hp, hm, hM, hb⟩; have S1 := Aside0.mk (show Stt w w1 pb mb1 T from ⟨hM, hb, hp, hm, HG.out⟩); clear hp hm hM hb))
    go_ret
    exact ⟨rfl, S4.out.b⟩
  subst h2
  by_cases h3 : sp.2.1 = 1
  case neg =>
    have z3 : (sp.2.1 != 1) = true := by simp [h3]
    clear h3
    go_enter Tryd.func3, Tryd.ntmps3
    go_wp2_with (first
      | (have hz := S4b.out; clear hz; (with_reducible refine gate_store (t := 30) (p := 16) (v := .tmp 50) rfl ?_); refine ev_store_row (by rfl) 30 (.tmp 16) (.tmp 50) (by rfl) g16 (stC sq) (by rfl) (by rfl) 30 _ K16.out (by kernel_rfl) (by rfl) (by simp [Value.oneCell']) ?_; intro w4 hbox hgr; have HX := Aside0.mk (pw_below_grown L16.out _ L16.out.size hgr (fun q e => by cases e; exact Nat.le_of_eq G16.out.symm)); have S4 := Aside0.mk (S4a.out.step HX.out); have B16 := Aside0.mk hbox; have B14x := Aside0.mk (blk_below B14xa.out HX.out); have k1 : w4.cell? ⟨g14, 1, none⟩ = some (.int .i64 sp.2.1) := (blk_cell B14x.out 1).trans rfl; have k2 : w4.cell? ⟨g16, 1, none⟩ = some (.int .i64 sq.2.1) := (blk_cell hbox 1).trans rfl; clear hbox hgr)
      | (have hz := S4a.out; clear hz; (with_reducible refine gate_dst (N := 16) rfl ?_); refine box_event ?hg (N := 16) ?hd (cs := stC (0, 0, 0, 0)) (t := 30) ?hr ?_; (case hd => rfl); (case hg => rfl); (case hr => first | (go_simp; done) | (go_simp; rfl) | kernel_rfl); intro g16 hg w4b hbox hb; have S4b := Aside0.mk (S4a.out.step hb); have K16 := Aside0.mk hbox; have L16 := Aside0.mk hb; have G16 := Aside0.mk hg; clear hg hb hbox)
      | (have hz := S3.out; clear hz; go_at_call 7; refine (S3.out.stat HT.out hsq).mono ?_; rintro e w4a ⟨rfl, hb⟩; have S4a := Aside0.mk (S3.out.step hb); have B14xa := Aside0.mk (blk_below B14.out hb); clear hb)
      | (have hz := S3b.out; clear hz; (with_reducible refine gate_store (t := 30) (p := 14) (v := .tmp 44) rfl ?_); refine ev_store_row (by rfl) 30 (.tmp 14) (.tmp 44) (by rfl) g14 (stC sp) (by rfl) (by rfl) 30 _ K14.out (by kernel_rfl) (by rfl) (by simp [Value.oneCell']) ?_; intro w3 hbox hgr; have HX := Aside0.mk (pw_below_grown L14.out _ L14.out.size hgr (fun q e => by cases e; exact Nat.le_of_eq G14.out.symm)); have S3 := Aside0.mk (S3a.out.step HX.out); have B14 := Aside0.mk hbox; clear hbox hgr)
      | (have hz := S3a.out; clear hz; (with_reducible refine gate_dst (N := 14) rfl ?_); refine box_event ?hg (N := 14) ?hd (cs := stC (0, 0, 0, 0)) (t := 30) ?hr ?_; (case hd => rfl); (case hg => rfl); (case hr => first | (go_simp; done) | (go_simp; rfl) | kernel_rfl); intro g14 hg w3b hbox hb; have S3b := Aside0.mk (S3a.out.step hb); have K14 := Aside0.mk hbox; have L14 := Aside0.mk hb; have G14 := Aside0.mk hg; clear hg hb hbox)
      | (have hz := S2.out; clear hz; go_at_call 7; refine (S2.out.stat HT.out hsp).mono ?_; rintro e w3a ⟨rfl, hb⟩; have S3a := Aside0.mk (S2.out.step hb); clear hb)
      | (have hz := S1.out; clear hz; go_at_call 6; refine (wakes_any w1 (HW.out.below' S1.out.b) (S1.out.tabs HT.out)).mono ?_; rintro e w2 ⟨rfl, hb⟩; have S2 := Aside0.mk (S1.out.step hb); clear hb)
      | (go_at_call 5; refine (grown_any w A c l HL.out HT.out HLN.out).mono ?_; rw [HGT.out]; rintro e w1 ⟨pb, mb1, rfl, hp, hm, hM, hb⟩; have S1 := Aside0.mk (show Stt w w1 pb mb1 T from ⟨hM, hb, hp, hm, HG.out⟩); clear hp hm hM hb))
    go_ret
    exact ⟨rfl, S4.out.b⟩
  have z3 : (sp.2.1 != 1) = false := by simp [h3]
  by_cases h4 : sq.2.1 = 1
  case neg =>
    have z4 : (sq.2.1 != 1) = true := by simp [h4]
    clear h4 h3
    go_enter Tryd.func3, Tryd.ntmps3
    go_wp2_with (first
      | (have hz := S4b.out; clear hz; (with_reducible refine gate_store (t := 30) (p := 16) (v := .tmp 50) rfl ?_); refine ev_store_row (by rfl) 30 (.tmp 16) (.tmp 50) (by rfl) g16 (stC sq) (by rfl) (by rfl) 30 _ K16.out (by kernel_rfl) (by rfl) (by simp [Value.oneCell']) ?_; intro w4 hbox hgr; have HX := Aside0.mk (pw_below_grown L16.out _ L16.out.size hgr (fun q e => by cases e; exact Nat.le_of_eq G16.out.symm)); have S4 := Aside0.mk (S4a.out.step HX.out); have B16 := Aside0.mk hbox; have B14x := Aside0.mk (blk_below B14xa.out HX.out); have k1 : w4.cell? ⟨g14, 1, none⟩ = some (.int .i64 sp.2.1) := (blk_cell B14x.out 1).trans rfl; have k2 : w4.cell? ⟨g16, 1, none⟩ = some (.int .i64 sq.2.1) := (blk_cell hbox 1).trans rfl; clear hbox hgr)
      | (have hz := S4a.out; clear hz; (with_reducible refine gate_dst (N := 16) rfl ?_); refine box_event ?hg (N := 16) ?hd (cs := stC (0, 0, 0, 0)) (t := 30) ?hr ?_; (case hd => rfl); (case hg => rfl); (case hr => first | (go_simp; done) | (go_simp; rfl) | kernel_rfl); intro g16 hg w4b hbox hb; have S4b := Aside0.mk (S4a.out.step hb); have K16 := Aside0.mk hbox; have L16 := Aside0.mk hb; have G16 := Aside0.mk hg; clear hg hb hbox)
      | (have hz := S3.out; clear hz; go_at_call 7; refine (S3.out.stat HT.out hsq).mono ?_; rintro e w4a ⟨rfl, hb⟩; have S4a := Aside0.mk (S3.out.step hb); have B14xa := Aside0.mk (blk_below B14.out hb); clear hb)
      | (have hz := S3b.out; clear hz; (with_reducible refine gate_store (t := 30) (p := 14) (v := .tmp 44) rfl ?_); refine ev_store_row (by rfl) 30 (.tmp 14) (.tmp 44) (by rfl) g14 (stC sp) (by rfl) (by rfl) 30 _ K14.out (by kernel_rfl) (by rfl) (by simp [Value.oneCell']) ?_; intro w3 hbox hgr; have HX := Aside0.mk (pw_below_grown L14.out _ L14.out.size hgr (fun q e => by cases e; exact Nat.le_of_eq G14.out.symm)); have S3 := Aside0.mk (S3a.out.step HX.out); have B14 := Aside0.mk hbox; clear hbox hgr)
      | (have hz := S3a.out; clear hz; (with_reducible refine gate_dst (N := 14) rfl ?_); refine box_event ?hg (N := 14) ?hd (cs := stC (0, 0, 0, 0)) (t := 30) ?hr ?_; (case hd => rfl); (case hg => rfl); (case hr => first | (go_simp; done) | (go_simp; rfl) | kernel_rfl); intro g14 hg w3b hbox hb; have S3b := Aside0.mk (S3a.out.step hb); have K14 := Aside0.mk hbox; have L14 := Aside0.mk hb; have G14 := Aside0.mk hg; clear hg hb hbox)
      | (have hz := S2.out; clear hz; go_at_call 7; refine (S2.out.stat HT.out hsp).mono ?_; rintro e w3a ⟨rfl, hb⟩; have S3a := Aside0.mk (S2.out.step hb); clear hb)
      | (have hz := S1.out; clear hz; go_at_call 6; refine (wakes_any w1 (HW.out.below' S1.out.b) (S1.out.tabs HT.out)).mono ?_; rintro e w2 ⟨rfl, hb⟩; have S2 := Aside0.mk (S1.out.step hb); clear hb)
      | (go_at_call 5; refine (grown_any w A c l HL.out HT.out HLN.out).mono ?_; rw [HGT.out]; rintro e w1 ⟨pb, mb1, rfl, hp, hm, hM, hb⟩; have S1 := Aside0.mk (show Stt w w1 pb mb1 T from ⟨hM, hb, hp, hm, HG.out⟩); clear hp hm hM hb))
    go_ret
    exact ⟨rfl, S4.out.b⟩
  have z4 : (sq.2.1 != 1) = false := by simp [h4]
  obtain ⟨b, nb, hop⟩ := stat_opn hsp h3 HG.out.1
  obtain ⟨c0, nq, hoq⟩ := stat_opn hsq h4 HG.out.1
  have HB := Aside0.mk (show Bth T p s sp.1 sq.1 b c0 c0 from ⟨HG.out, ⟨nb, hop⟩, ⟨nq, hoq⟩, fun _ => rfl⟩)
  clear h3 h4 hop hoq
  have hE : (sp.1 == sq.1) = true ∨ (sp.1 == sq.1) = false ∧ sp.1 ≠ sq.1 := by
    by_cases h : sp.1 = sq.1
    · exact .inl (beq_iff_eq.2 h)
    · exact .inr ⟨beq_eq_false_iff_ne.2 h, h⟩
  rcases HB.out.write off d with ⟨y1, hw, zw⟩ | ⟨hw, hd0⟩ | ⟨o0, o1, hd0, F1, c1', hw, hB1⟩
  · go_enter Tryd.func3, Tryd.ntmps3
    rcases HB.out.trunc size with ⟨y2, hx, z2⟩ | ⟨z0, z1, F2, c2, hx, hB2⟩
    · have HBX := HB
      rcases hE with hE | hE
      · skip
        go_wp2_with (first
          | (have hz := S8.out; clear hz; go_at_call 8; refine (S8.out.read HT.out HBX.out.readQ).mono ?_; rintro e we ⟨B29, c29, rfl, hr, hc, hb⟩; have SE := Aside0.mk (S8.out.step hb); have XE := Aside0.mk (X8.out.below hb); have t0 : we.cell? ⟨g14, 0, none⟩ = some (.int .i64 sp.1) := (blk_cell XE.out.b14 0).trans rfl; have t1 : we.cell? ⟨g16, 0, none⟩ = some (.int .i64 sq.1) := (blk_cell XE.out.b16 0).trans rfl; have kb29 := str_of (c := c29) hr; have kb20 := str_of (c := c20) XE.out.r20; clear hr hc hb)
          | (have hz := S7.out; clear hz; go_at_call 10; refine (S7.out.trunc2 HT.out hx).mono ?_; rintro e w8 ⟨rfl, mbS8, hs, ht⟩; have S8 := Aside0.mk hs; have X8 := Aside0.mk (X7.out.turn S7.out.m ht); clear hs ht)
          | (have hz := S6.out; clear hz; go_at_call 9; refine (S6.out.write2 HT.out X6.out.rd HDC.out hw).mono ?_; rintro e w7 ⟨rfl, mb7, hs, ht⟩; have S7 := Aside0.mk hs; have X7 := Aside0.mk (X6.out.turn S6.out.m ht); have R7 := Aside0.mk (reads_turn R6.out ht S6.out.m.both); clear hs ht)
          | (have hz := S5.out; clear hz; go_at_call 8; refine (S5.out.read HT.out HB.out.readQ).mono ?_; rintro e w6 ⟨B20, c20, rfl, hr, hc, hb⟩; have S6 := Aside0.mk (S5.out.step hb); have R6 := Aside0.mk (R5.out.below hb); have X6 := Aside0.mk (show Cx w6 g14 g16 sp sq B20 c0 A4 d from ⟨blk_below B14y.out hb, blk_below B16y.out hb, hr, HD.out.below S6.out.b⟩); clear hr hc hb)
          | (have hz := S4.out; clear hz; go_at_call 8; refine (S4.out.read HT.out HB.out.read).mono ?_; rintro e w5 ⟨B18, c18, rfl, hr, hc, hb⟩; have S5 := Aside0.mk (S4.out.step hb); have R5 := Aside0.mk hr; have C18 := Aside0.mk hc; have B14y := Aside0.mk (blk_below B14x.out hb); have B16y := Aside0.mk (blk_below B16.out hb); clear hr hc hb)
          | (have hz := S4b.out; clear hz; (with_reducible refine gate_store (t := 30) (p := 16) (v := .tmp 50) rfl ?_); refine ev_store_row (by rfl) 30 (.tmp 16) (.tmp 50) (by rfl) g16 (stC sq) (by rfl) (by rfl) 30 _ K16.out (by kernel_rfl) (by rfl) (by simp [Value.oneCell']) ?_; intro w4 hbox hgr; have HX := Aside0.mk (pw_below_grown L16.out _ L16.out.size hgr (fun q e => by cases e; exact Nat.le_of_eq G16.out.symm)); have S4 := Aside0.mk (S4a.out.step HX.out); have B16 := Aside0.mk hbox; have B14x := Aside0.mk (blk_below B14xa.out HX.out); have k1 : w4.cell? ⟨g14, 1, none⟩ = some (.int .i64 sp.2.1) := (blk_cell B14x.out 1).trans rfl; have k2 : w4.cell? ⟨g16, 1, none⟩ = some (.int .i64 sq.2.1) := (blk_cell hbox 1).trans rfl; clear hbox hgr)
          | (have hz := S4a.out; clear hz; (with_reducible refine gate_dst (N := 16) rfl ?_); refine box_event ?hg (N := 16) ?hd (cs := stC (0, 0, 0, 0)) (t := 30) ?hr ?_; (case hd => rfl); (case hg => rfl); (case hr => first | (go_simp; done) | (go_simp; rfl) | kernel_rfl); intro g16 hg w4b hbox hb; have S4b := Aside0.mk (S4a.out.step hb); have K16 := Aside0.mk hbox; have L16 := Aside0.mk hb; have G16 := Aside0.mk hg; clear hg hb hbox)
          | (have hz := S3.out; clear hz; go_at_call 7; refine (S3.out.stat HT.out hsq).mono ?_; rintro e w4a ⟨rfl, hb⟩; have S4a := Aside0.mk (S3.out.step hb); have B14xa := Aside0.mk (blk_below B14.out hb); clear hb)
          | (have hz := S3b.out; clear hz; (with_reducible refine gate_store (t := 30) (p := 14) (v := .tmp 44) rfl ?_); refine ev_store_row (by rfl) 30 (.tmp 14) (.tmp 44) (by rfl) g14 (stC sp) (by rfl) (by rfl) 30 _ K14.out (by kernel_rfl) (by rfl) (by simp [Value.oneCell']) ?_; intro w3 hbox hgr; have HX := Aside0.mk (pw_below_grown L14.out _ L14.out.size hgr (fun q e => by cases e; exact Nat.le_of_eq G14.out.symm)); have S3 := Aside0.mk (S3a.out.step HX.out); have B14 := Aside0.mk hbox; clear hbox hgr)
          | (have hz := S3a.out; clear hz; (with_reducible refine gate_dst (N := 14) rfl ?_); refine box_event ?hg (N := 14) ?hd (cs := stC (0, 0, 0, 0)) (t := 30) ?hr ?_; (case hd => rfl); (case hg => rfl); (case hr => first | (go_simp; done) | (go_simp; rfl) | kernel_rfl); intro g14 hg w3b hbox hb; have S3b := Aside0.mk (S3a.out.step hb); have K14 := Aside0.mk hbox; have L14 := Aside0.mk hb; have G14 := Aside0.mk hg; clear hg hb hbox)
          | (have hz := S2.out; clear hz; go_at_call 7; refine (S2.out.stat HT.out hsp).mono ?_; rintro e w3a ⟨rfl, hb⟩; have S3a := Aside0.mk (S2.out.step hb); clear hb)
          | (have hz := S1.out; clear hz; go_at_call 6; refine (wakes_any w1 (HW.out.below' S1.out.b) (S1.out.tabs HT.out)).mono ?_; rintro e w2 ⟨rfl, hb⟩; have S2 := Aside0.mk (S1.out.step hb); clear hb)
          | (go_at_call 5; refine (grown_any w A c l HL.out HT.out HLN.out).mono ?_; rw [HGT.out]; rintro e w1 ⟨pb, mb1, rfl, hp, hm, hM, hb⟩; have S1 := Aside0.mk (show Stt w w1 pb mb1 T from ⟨hM, hb, hp, hm, HG.out⟩); clear hp hm hM hb))
        go_ret
        exact ⟨rfl, SE.out.b⟩
      · have hcc := HBX.out.k hE.2
        first | subst hcc | clear hcc
        have hE := hE.1
        go_wp2_with (first
          | (have hz := S8.out; clear hz; go_at_call 8; refine (S8.out.read HT.out HBX.out.readQ).mono ?_; rintro e we ⟨B29, c29, rfl, hr, hc, hb⟩; have SE := Aside0.mk (S8.out.step hb); have XE := Aside0.mk (X8.out.below hb); have t0 : we.cell? ⟨g14, 0, none⟩ = some (.int .i64 sp.1) := (blk_cell XE.out.b14 0).trans rfl; have t1 : we.cell? ⟨g16, 0, none⟩ = some (.int .i64 sq.1) := (blk_cell XE.out.b16 0).trans rfl; have kb29 := str_of (c := c29) hr; have kb20 := str_of (c := c20) XE.out.r20; clear hr hc hb)
          | (have hz := S7.out; clear hz; go_at_call 10; refine (S7.out.trunc2 HT.out hx).mono ?_; rintro e w8 ⟨rfl, mbS8, hs, ht⟩; have S8 := Aside0.mk hs; have X8 := Aside0.mk (X7.out.turn S7.out.m ht); clear hs ht)
          | (have hz := S6.out; clear hz; go_at_call 9; refine (S6.out.write2 HT.out X6.out.rd HDC.out hw).mono ?_; rintro e w7 ⟨rfl, mb7, hs, ht⟩; have S7 := Aside0.mk hs; have X7 := Aside0.mk (X6.out.turn S6.out.m ht); have R7 := Aside0.mk (reads_turn R6.out ht S6.out.m.both); clear hs ht)
          | (have hz := S5.out; clear hz; go_at_call 8; refine (S5.out.read HT.out HB.out.readQ).mono ?_; rintro e w6 ⟨B20, c20, rfl, hr, hc, hb⟩; have S6 := Aside0.mk (S5.out.step hb); have R6 := Aside0.mk (R5.out.below hb); have X6 := Aside0.mk (show Cx w6 g14 g16 sp sq B20 c0 A4 d from ⟨blk_below B14y.out hb, blk_below B16y.out hb, hr, HD.out.below S6.out.b⟩); clear hr hc hb)
          | (have hz := S4.out; clear hz; go_at_call 8; refine (S4.out.read HT.out HB.out.read).mono ?_; rintro e w5 ⟨B18, c18, rfl, hr, hc, hb⟩; have S5 := Aside0.mk (S4.out.step hb); have R5 := Aside0.mk hr; have C18 := Aside0.mk hc; have B14y := Aside0.mk (blk_below B14x.out hb); have B16y := Aside0.mk (blk_below B16.out hb); clear hr hc hb)
          | (have hz := S4b.out; clear hz; (with_reducible refine gate_store (t := 30) (p := 16) (v := .tmp 50) rfl ?_); refine ev_store_row (by rfl) 30 (.tmp 16) (.tmp 50) (by rfl) g16 (stC sq) (by rfl) (by rfl) 30 _ K16.out (by kernel_rfl) (by rfl) (by simp [Value.oneCell']) ?_; intro w4 hbox hgr; have HX := Aside0.mk (pw_below_grown L16.out _ L16.out.size hgr (fun q e => by cases e; exact Nat.le_of_eq G16.out.symm)); have S4 := Aside0.mk (S4a.out.step HX.out); have B16 := Aside0.mk hbox; have B14x := Aside0.mk (blk_below B14xa.out HX.out); have k1 : w4.cell? ⟨g14, 1, none⟩ = some (.int .i64 sp.2.1) := (blk_cell B14x.out 1).trans rfl; have k2 : w4.cell? ⟨g16, 1, none⟩ = some (.int .i64 sq.2.1) := (blk_cell hbox 1).trans rfl; clear hbox hgr)
          | (have hz := S4a.out; clear hz; (with_reducible refine gate_dst (N := 16) rfl ?_); refine box_event ?hg (N := 16) ?hd (cs := stC (0, 0, 0, 0)) (t := 30) ?hr ?_; (case hd => rfl); (case hg => rfl); (case hr => first | (go_simp; done) | (go_simp; rfl) | kernel_rfl); intro g16 hg w4b hbox hb; have S4b := Aside0.mk (S4a.out.step hb); have K16 := Aside0.mk hbox; have L16 := Aside0.mk hb; have G16 := Aside0.mk hg; clear hg hb hbox)
          | (have hz := S3.out; clear hz; go_at_call 7; refine (S3.out.stat HT.out hsq).mono ?_; rintro e w4a ⟨rfl, hb⟩; have S4a := Aside0.mk (S3.out.step hb); have B14xa := Aside0.mk (blk_below B14.out hb); clear hb)
          | (have hz := S3b.out; clear hz; (with_reducible refine gate_store (t := 30) (p := 14) (v := .tmp 44) rfl ?_); refine ev_store_row (by rfl) 30 (.tmp 14) (.tmp 44) (by rfl) g14 (stC sp) (by rfl) (by rfl) 30 _ K14.out (by kernel_rfl) (by rfl) (by simp [Value.oneCell']) ?_; intro w3 hbox hgr; have HX := Aside0.mk (pw_below_grown L14.out _ L14.out.size hgr (fun q e => by cases e; exact Nat.le_of_eq G14.out.symm)); have S3 := Aside0.mk (S3a.out.step HX.out); have B14 := Aside0.mk hbox; clear hbox hgr)
          | (have hz := S3a.out; clear hz; (with_reducible refine gate_dst (N := 14) rfl ?_); refine box_event ?hg (N := 14) ?hd (cs := stC (0, 0, 0, 0)) (t := 30) ?hr ?_; (case hd => rfl); (case hg => rfl); (case hr => first | (go_simp; done) | (go_simp; rfl) | kernel_rfl); intro g14 hg w3b hbox hb; have S3b := Aside0.mk (S3a.out.step hb); have K14 := Aside0.mk hbox; have L14 := Aside0.mk hb; have G14 := Aside0.mk hg; clear hg hb hbox)
          | (have hz := S2.out; clear hz; go_at_call 7; refine (S2.out.stat HT.out hsp).mono ?_; rintro e w3a ⟨rfl, hb⟩; have S3a := Aside0.mk (S2.out.step hb); clear hb)
          | (have hz := S1.out; clear hz; go_at_call 6; refine (wakes_any w1 (HW.out.below' S1.out.b) (S1.out.tabs HT.out)).mono ?_; rintro e w2 ⟨rfl, hb⟩; have S2 := Aside0.mk (S1.out.step hb); clear hb)
          | (go_at_call 5; refine (grown_any w A c l HL.out HT.out HLN.out).mono ?_; rw [HGT.out]; rintro e w1 ⟨pb, mb1, rfl, hp, hm, hM, hb⟩; have S1 := Aside0.mk (show Stt w w1 pb mb1 T from ⟨hM, hb, hp, hm, HG.out⟩); clear hp hm hM hb))
        go_ret
        exact ⟨rfl, SE.out.b⟩
    · obtain ⟨z, rfl⟩ : ∃ z : Nat, size = (z : Int) := ⟨size.toNat, by omega⟩
      rw [Int.toNat_natCast] at hB2
      have hfirst := cutB_take b z
      have hzero := fun k (h1 : b.length ≤ k) (h2 : k < z) => cutB_zero (b := b) (n := z) (k := k) (Nat.le_trans (Nat.le_of_eq (show b.length = b.length from rfl)) h1) h2
      have hzz := fun m (h : z ≤ m) => drop_zeros (b := b) h
      obtain ⟨b2, hb2⟩ : ∃ b2, cutB b z = b2 := ⟨_, rfl⟩
      have hb2l := cutB_length b z
      rw [hb2] at hB2 hfirst hzero hzz hb2l
      obtain rfl := hb2l
      have hm1 : b.length = b.length := rfl
      rw [hm1] at hfirst
      have HB2 := Aside0.mk hB2
      have HFI := Aside0.mk hfirst
      have HZE := Aside0.mk hzero
      have HZZ := Aside0.mk hzz
      obtain ⟨mn, hmn⟩ : ∃ mn : Nat, mn = min b2.length b.length := ⟨_, rfl⟩
      have emn : (if b.length < b2.length then ((b.length : Nat) : Int) else (b2.length : Int)) = (mn : Int) := by split <;> omega
      have HM1 := Aside0.mk (show mn ≤ b2.length by omega)
      have HM2 := Aside0.mk (show mn ≤ b.length by omega)
      rw [← hmn] at hfirst
      have HFI := Aside0.mk hfirst
      have HZ1 := Aside0.mk z1
      have HML := Aside0.mk (show b.length ≤ 3808 from hm1 ▸ HB.out.len)
      have HMB := Aside0.mk hm1
      clear hB2 hfirst hzero hzz hb2 hmn z0 z1 hm1
      go_wp2_with (first
        | (have hz := S8.out; clear hz; go_at_call 8; refine (S8.out.read HT.out HB2.out.read).mono ?_; rintro e w9 ⟨B25, c25, rfl, hr, hc, hb⟩; have S9 := Aside0.mk (S8.out.step hb); have X9 := Aside0.mk (X8.out.below hb); have R9 := Aside0.mk (R8.out.below hb); have R25 := Aside0.mk hr; have C25 := Aside0.mk hc; clear hr hc hb)
        | (have hz := S7.out; clear hz; go_at_call 10; refine (S7.out.trunc2 HT.out hx).mono ?_; rintro e w8 ⟨rfl, mbS8, hs, ht⟩; have S8 := Aside0.mk hs; have X8 := Aside0.mk (X7.out.turn S7.out.m ht); have R8 := Aside0.mk (reads_turn R7.out ht S7.out.m.both); clear hs ht)
        | (have hz := S6.out; clear hz; go_at_call 9; refine (S6.out.write2 HT.out X6.out.rd HDC.out hw).mono ?_; rintro e w7 ⟨rfl, mb7, hs, ht⟩; have S7 := Aside0.mk hs; have X7 := Aside0.mk (X6.out.turn S6.out.m ht); have R7 := Aside0.mk (reads_turn R6.out ht S6.out.m.both); clear hs ht)
        | (have hz := S5.out; clear hz; go_at_call 8; refine (S5.out.read HT.out HB.out.readQ).mono ?_; rintro e w6 ⟨B20, c20, rfl, hr, hc, hb⟩; have S6 := Aside0.mk (S5.out.step hb); have R6 := Aside0.mk (R5.out.below hb); have X6 := Aside0.mk (show Cx w6 g14 g16 sp sq B20 c0 A4 d from ⟨blk_below B14y.out hb, blk_below B16y.out hb, hr, HD.out.below S6.out.b⟩); clear hr hc hb)
        | (have hz := S4.out; clear hz; go_at_call 8; refine (S4.out.read HT.out HB.out.read).mono ?_; rintro e w5 ⟨B18, c18, rfl, hr, hc, hb⟩; have S5 := Aside0.mk (S4.out.step hb); have R5 := Aside0.mk hr; have C18 := Aside0.mk hc; have B14y := Aside0.mk (blk_below B14x.out hb); have B16y := Aside0.mk (blk_below B16.out hb); clear hr hc hb)
        | (have hz := S4b.out; clear hz; (with_reducible refine gate_store (t := 30) (p := 16) (v := .tmp 50) rfl ?_); refine ev_store_row (by rfl) 30 (.tmp 16) (.tmp 50) (by rfl) g16 (stC sq) (by rfl) (by rfl) 30 _ K16.out (by kernel_rfl) (by rfl) (by simp [Value.oneCell']) ?_; intro w4 hbox hgr; have HX := Aside0.mk (pw_below_grown L16.out _ L16.out.size hgr (fun q e => by cases e; exact Nat.le_of_eq G16.out.symm)); have S4 := Aside0.mk (S4a.out.step HX.out); have B16 := Aside0.mk hbox; have B14x := Aside0.mk (blk_below B14xa.out HX.out); have k1 : w4.cell? ⟨g14, 1, none⟩ = some (.int .i64 sp.2.1) := (blk_cell B14x.out 1).trans rfl; have k2 : w4.cell? ⟨g16, 1, none⟩ = some (.int .i64 sq.2.1) := (blk_cell hbox 1).trans rfl; clear hbox hgr)
        | (have hz := S4a.out; clear hz; (with_reducible refine gate_dst (N := 16) rfl ?_); refine box_event ?hg (N := 16) ?hd (cs := stC (0, 0, 0, 0)) (t := 30) ?hr ?_; (case hd => rfl); (case hg => rfl); (case hr => first | (go_simp; done) | (go_simp; rfl) | kernel_rfl); intro g16 hg w4b hbox hb; have S4b := Aside0.mk (S4a.out.step hb); have K16 := Aside0.mk hbox; have L16 := Aside0.mk hb; have G16 := Aside0.mk hg; clear hg hb hbox)
        | (have hz := S3.out; clear hz; go_at_call 7; refine (S3.out.stat HT.out hsq).mono ?_; rintro e w4a ⟨rfl, hb⟩; have S4a := Aside0.mk (S3.out.step hb); have B14xa := Aside0.mk (blk_below B14.out hb); clear hb)
        | (have hz := S3b.out; clear hz; (with_reducible refine gate_store (t := 30) (p := 14) (v := .tmp 44) rfl ?_); refine ev_store_row (by rfl) 30 (.tmp 14) (.tmp 44) (by rfl) g14 (stC sp) (by rfl) (by rfl) 30 _ K14.out (by kernel_rfl) (by rfl) (by simp [Value.oneCell']) ?_; intro w3 hbox hgr; have HX := Aside0.mk (pw_below_grown L14.out _ L14.out.size hgr (fun q e => by cases e; exact Nat.le_of_eq G14.out.symm)); have S3 := Aside0.mk (S3a.out.step HX.out); have B14 := Aside0.mk hbox; clear hbox hgr)
        | (have hz := S3a.out; clear hz; (with_reducible refine gate_dst (N := 14) rfl ?_); refine box_event ?hg (N := 14) ?hd (cs := stC (0, 0, 0, 0)) (t := 30) ?hr ?_; (case hd => rfl); (case hg => rfl); (case hr => first | (go_simp; done) | (go_simp; rfl) | kernel_rfl); intro g14 hg w3b hbox hb; have S3b := Aside0.mk (S3a.out.step hb); have K14 := Aside0.mk hbox; have L14 := Aside0.mk hb; have G14 := Aside0.mk hg; clear hg hb hbox)
        | (have hz := S2.out; clear hz; go_at_call 7; refine (S2.out.stat HT.out hsp).mono ?_; rintro e w3a ⟨rfl, hb⟩; have S3a := Aside0.mk (S2.out.step hb); clear hb)
        | (have hz := S1.out; clear hz; go_at_call 6; refine (wakes_any w1 (HW.out.below' S1.out.b) (S1.out.tabs HT.out)).mono ?_; rintro e w2 ⟨rfl, hb⟩; have S2 := Aside0.mk (S1.out.step hb); clear hb)
        | (go_at_call 5; refine (grown_any w A c l HL.out HT.out HLN.out).mono ?_; rw [HGT.out]; rintro e w1 ⟨pb, mb1, rfl, hp, hm, hM, hb⟩; have S1 := Aside0.mk (show Stt w w1 pb mb1 T from ⟨hM, hb, hp, hm, HG.out⟩); clear hp hm hM hb))
      have hc25 : (mn : Int) ≤ (c25 : Int) := by have := C25.out; have := HM1.out; omega
      have hc18 : (mn : Int) ≤ (c18 : Int) := by have := C18.out; have := HM2.out; omega
      have hmn0 : (0 : Int) ≤ (mn : Int) := Int.natCast_nonneg _
      refine wp_region_held_drew (S := fun W => Below w9.heap.size w9 W) (by kernel_rfl) (below_drew (Below.refl _ _)) (fun hHeld => ?_)
      refine wpAnyH_take (i := 0) (oi := ⟨some 141, _, _, _, _, _⟩) (v := (.int .i64 0)) rfl (by kernel_rfl) (by kernel_rfl) (by kernel_rfl) (fun _ _ _ h => h) (Or.inl ⟨by rfl, fun W hS => by go_simp⟩) hHeld ?_
      (try simp only [Act.put, List.setIfInBounds_toArray, List.set_cons_zero, List.set_cons_succ])
      refine wpAnyH_take (i := 1) (oi := ⟨some 142, _, _, _, _, _⟩) (v := (.bool false)) rfl (by kernel_rfl) (by kernel_rfl) (by kernel_rfl) (fun _ _ _ h => h) (Or.inl ⟨by rfl, fun W hS => by go_simp⟩) hHeld ?_
      (try simp only [Act.put, List.setIfInBounds_toArray, List.set_cons_zero, List.set_cons_succ])
      refine wpAnyH_take (i := 2) (oi := ⟨some 143, _, _, _, _, _⟩) (v := (.bool false)) rfl (by kernel_rfl) (by kernel_rfl) (by kernel_rfl) (fun _ _ _ h => h) (Or.inl ⟨by rfl, fun W hS => by go_simp⟩) hHeld ?_
      (try simp only [Act.put, List.setIfInBounds_toArray, List.set_cons_zero, List.set_cons_succ])
      refine wpAnyH_take (i := 3) (oi := ⟨some 144, _, _, _, _, _⟩) (v := (.slice B25 b2.length c25)) rfl (by kernel_rfl) (by kernel_rfl) (by kernel_rfl) (fun _ _ _ h => h) (Or.inl ⟨by rfl, fun W hS => by go_simp⟩) hHeld ?_
      (try simp only [Act.put, List.setIfInBounds_toArray, List.set_cons_zero, List.set_cons_succ])
      refine wpAnyH_take (i := 4) (oi := ⟨some 145, _, _, _, _, _⟩) (v := (.int .i64 (b2.length : Int))) rfl (by kernel_rfl) (by kernel_rfl) (by kernel_rfl) (fun _ _ _ h => h) (Or.inl ⟨by rfl, fun W hS => by go_simp⟩) hHeld ?_
      (try simp only [Act.put, List.setIfInBounds_toArray, List.set_cons_zero, List.set_cons_succ])
      refine wpAnyH_take (i := 5) (oi := ⟨some 146, _, _, _, _, _⟩) (v := (.int .i64 (b2.length : Int))) rfl (by kernel_rfl) (by kernel_rfl) (by kernel_rfl) (fun _ _ _ h => h) (Or.inl ⟨by rfl, fun W hS => by go_simp⟩) hHeld ?_
      (try simp only [Act.put, List.setIfInBounds_toArray, List.set_cons_zero, List.set_cons_succ])
      refine wpAnyH_take (i := 6) (oi := ⟨some 147, _, _, _, _, _⟩) (v := (.bool false)) rfl (by kernel_rfl) (by kernel_rfl) (by kernel_rfl) (fun _ _ _ h => h) (Or.inl ⟨by rfl, fun W hS => by go_simp⟩) hHeld ?_
      (try simp only [Act.put, List.setIfInBounds_toArray, List.set_cons_zero, List.set_cons_succ])
      refine wpAnyH_take (i := 7) (oi := ⟨some 148, _, _, _, _, _⟩) (v := (.bool false)) rfl (by kernel_rfl) (by kernel_rfl) (by kernel_rfl) (fun _ _ _ h => h) (Or.inl ⟨by rfl, fun W hS => by go_simp⟩) hHeld ?_
      (try simp only [Act.put, List.setIfInBounds_toArray, List.set_cons_zero, List.set_cons_succ])
      refine wpAnyH_take (i := 8) (oi := ⟨some 149, _, _, _, _, _⟩) (v := (.bool false)) rfl (by kernel_rfl) (by kernel_rfl) (by kernel_rfl) (fun _ _ _ h => h) (Or.inl ⟨by rfl, fun W hS => by go_simp⟩) hHeld ?_
      (try simp only [Act.put, List.setIfInBounds_toArray, List.set_cons_zero, List.set_cons_succ])
      refine wpAnyH_take (i := 9) (oi := ⟨some 150, _, _, _, _, _⟩) (v := (.slice B25 b2.length c25)) rfl (by kernel_rfl) (by kernel_rfl) (by kernel_rfl) (fun _ _ _ h => h) (Or.inl ⟨by rfl, fun W hS => by go_simp⟩) hHeld ?_
      (try simp only [Act.put, List.setIfInBounds_toArray, List.set_cons_zero, List.set_cons_succ])
      refine wpAnyH_take (i := 10) (oi := ⟨some 151, _, _, _, _, _⟩) (v := (.int .i64 (b2.length : Int))) rfl (by kernel_rfl) (by kernel_rfl) (by kernel_rfl) (fun _ _ _ h => h) (Or.inl ⟨by rfl, fun W hS => by go_simp⟩) hHeld ?_
      (try simp only [Act.put, List.setIfInBounds_toArray, List.set_cons_zero, List.set_cons_succ])
      refine wpAnyH_take (i := 11) (oi := ⟨some 152, _, _, _, _, _⟩) (v := (.slice B18 b.length c18)) rfl (by kernel_rfl) (by kernel_rfl) (by kernel_rfl) (fun _ _ _ h => h) (Or.inl ⟨by rfl, fun W hS => by go_simp⟩) hHeld ?_
      (try simp only [Act.put, List.setIfInBounds_toArray, List.set_cons_zero, List.set_cons_succ])
      refine wpAnyH_take (i := 12) (oi := ⟨some 153, _, _, _, _, _⟩) (v := (.int .i64 (b.length : Int))) rfl (by kernel_rfl) (by kernel_rfl) (by kernel_rfl) (fun _ _ _ h => h) (Or.inl ⟨by rfl, fun W hS => by go_simp⟩) hHeld ?_
      (try simp only [Act.put, List.setIfInBounds_toArray, List.set_cons_zero, List.set_cons_succ])
      refine wpAnyH_take (i := 13) (oi := ⟨some 154, _, _, _, _, _⟩) (v := (.int .i64 (mn : Int))) rfl (by kernel_rfl) (by kernel_rfl) (by kernel_rfl) (fun _ _ _ h => h) (Or.inl ⟨by rfl, fun W hS => by go_simp⟩) hHeld ?_
      (try simp only [Act.put, List.setIfInBounds_toArray, List.set_cons_zero, List.set_cons_succ])
      refine wpAnyH_take (i := 14) (oi := ⟨some 155, _, _, _, _, _⟩) (v := (.slice B25 mn c25)) rfl (by kernel_rfl) (by kernel_rfl) (by kernel_rfl) (fun _ _ _ h => h) (Or.inl ⟨by rfl, fun W hS => by go_simp⟩) hHeld ?_
      (try simp only [Act.put, List.setIfInBounds_toArray, List.set_cons_zero, List.set_cons_succ])
      refine wpAnyH_take (i := 15) (oi := ⟨some 156, _, _, _, _, _⟩) (v := (.string (strOfNums (b2.take mn)))) rfl (by kernel_rfl) (by kernel_rfl) (by kernel_rfl) (fun _ _ _ h => h) (Or.inl ⟨by rfl, fun W hS => by have kk := str_of (c := c25) (reads_take (R25.out.below hS) HM1.out); go_simp⟩) hHeld ?_
      (try simp only [Act.put, List.setIfInBounds_toArray, List.set_cons_zero, List.set_cons_succ])
      refine wpAnyH_take (i := 16) (oi := ⟨some 157, _, _, _, _, _⟩) (v := (.slice B18 b.length c18)) rfl (by kernel_rfl) (by kernel_rfl) (by kernel_rfl) (fun _ _ _ h => h) (Or.inl ⟨by rfl, fun W hS => by go_simp⟩) hHeld ?_
      (try simp only [Act.put, List.setIfInBounds_toArray, List.set_cons_zero, List.set_cons_succ])
      refine wpAnyH_take (i := 17) (oi := ⟨some 158, _, _, _, _, _⟩) (v := (.int .i64 (b2.length : Int))) rfl (by kernel_rfl) (by kernel_rfl) (by kernel_rfl) (fun _ _ _ h => h) (Or.inl ⟨by rfl, fun W hS => by go_simp⟩) hHeld ?_
      (try simp only [Act.put, List.setIfInBounds_toArray, List.set_cons_zero, List.set_cons_succ])
      refine wpAnyH_take (i := 18) (oi := ⟨some 159, _, _, _, _, _⟩) (v := (.slice B18 b.length c18)) rfl (by kernel_rfl) (by kernel_rfl) (by kernel_rfl) (fun _ _ _ h => h) (Or.inl ⟨by rfl, fun W hS => by go_simp⟩) hHeld ?_
      (try simp only [Act.put, List.setIfInBounds_toArray, List.set_cons_zero, List.set_cons_succ])
      refine wpAnyH_take (i := 19) (oi := ⟨some 160, _, _, _, _, _⟩) (v := (.int .i64 (b.length : Int))) rfl (by kernel_rfl) (by kernel_rfl) (by kernel_rfl) (fun _ _ _ h => h) (Or.inl ⟨by rfl, fun W hS => by go_simp⟩) hHeld ?_
      (try simp only [Act.put, List.setIfInBounds_toArray, List.set_cons_zero, List.set_cons_succ])
      refine wpAnyH_take (i := 20) (oi := ⟨some 161, _, _, _, _, _⟩) (v := (.int .i64 (mn : Int))) rfl (by kernel_rfl) (by kernel_rfl) (by kernel_rfl) (fun _ _ _ h => h) (Or.inl ⟨by rfl, fun W hS => by go_simp⟩) hHeld ?_
      (try simp only [Act.put, List.setIfInBounds_toArray, List.set_cons_zero, List.set_cons_succ])
      refine wpAnyH_take (i := 21) (oi := ⟨some 162, _, _, _, _, _⟩) (v := (.slice B18 mn c18)) rfl (by kernel_rfl) (by kernel_rfl) (by kernel_rfl) (fun _ _ _ h => h) (Or.inl ⟨by rfl, fun W hS => by go_simp⟩) hHeld ?_
      (try simp only [Act.put, List.setIfInBounds_toArray, List.set_cons_zero, List.set_cons_succ])
      refine wpAnyH_take (i := 22) (oi := ⟨some 163, _, _, _, _, _⟩) (v := (.string (strOfNums (b2.take mn)))) rfl (by kernel_rfl) (by kernel_rfl) (by kernel_rfl) (fun _ _ _ h => h) (Or.inl ⟨by rfl, fun W hS => by have kk := str_of (c := c18) (reads_take (R9.out.below hS) HM2.out); rw [← HFI.out] at kk; go_simp⟩) hHeld ?_
      (try simp only [Act.put, List.setIfInBounds_toArray, List.set_cons_zero, List.set_cons_succ])
      refine wpAnyH_take (i := 23) (oi := ⟨some 164, _, _, _, _, _⟩) (v := (.bool false)) rfl (by kernel_rfl) (by kernel_rfl) (by kernel_rfl) (fun _ _ _ h => h) (Or.inl ⟨by rfl, fun W hS => by go_simp⟩) hHeld ?_
      (try simp only [Act.put, List.setIfInBounds_toArray, List.set_cons_zero, List.set_cons_succ])
      refine wpAnyH_take (i := 24) (oi := ⟨some 165, _, _, _, _, _⟩) (v := (.bool false)) rfl (by kernel_rfl) (by kernel_rfl) (by kernel_rfl) (fun _ _ _ h => h) (Or.inl ⟨by rfl, fun W hS => by go_simp⟩) hHeld ?_
      (try simp only [Act.put, List.setIfInBounds_toArray, List.set_cons_zero, List.set_cons_succ])
      refine wpAnyH_done (by kernel_rfl) ?_ _
      have SA := Aside0.mk (S9.out.step hHeld)
      have XA := Aside0.mk (X9.out.below hHeld)
      have RA := Aside0.mk (R9.out.below hHeld)
      have R25A := Aside0.mk (R25.out.below hHeld)
      clear hHeld
      (try simp only [Exit.then])
      go_wp2
      go_loopw [27] (fun v wr => ∃ k : Nat, v = .int .i64 k ∧ Aside0 (b.length ≤ k) ∧ Aside0 (Stt w wr pb mbS8 F2) ∧ Aside0 (Cx wr g14 g16 sp sq B20 c0 A4 d) ∧ Aside0 (ReadsInt wr .u8 B18 b.length b) ∧ Aside0 (ReadsInt wr .u8 B25 b2.length b2)) (fun v _ => b2.length - (intOf v).toNat)
      case atStart => exact ⟨b.length, rfl, ⟨Nat.le_refl _⟩, SA, XA, RA, R25A⟩
      case round =>
        obtain ⟨k, rfl, HK, SK, XK, RK, R25K⟩ := hrel
        by_cases hk : k < b2.length
        · have k0 : (0 : Int) ≤ (k : Int) := Int.natCast_nonneg _
          have k1 : (k : Int) < (b2.length : Int) := by omega
          obtain ⟨ad, rfl, hq⟩ := R25K.out.at_ (k : Int) k0 k1
          have hz : rd b2 (k : Int) = 0 := by have := HZE.out k HK.out hk; unfold rd; rw [Int.toNat_natCast]; exact this
          rw [hz, Int.toNat_natCast] at hq
          have HKK := Aside0.mk hk
          have kw := HZ1.out
          clear hz hk
          go_wp2
          go_roundw
          case rel =>
            have hk := HKK.out
            refine ⟨k + 1, ?_, ⟨Nat.le_trans HK.out (Nat.le_succ _)⟩, SK, XK, RK, R25K⟩
            first | rfl | (congr 1; done) | (congr 1; omega) | (simp; done)
          case measure => have hk := HKK.out; simp only [intOf]; omega
        · have k1 : ¬ (k : Int) < (b2.length : Int) := by omega
          clear hk HK
          rcases HB2.out.trunc (b.length : Int) with ⟨y3, hy, z3⟩ | ⟨_, _, F3, c3, hy, hB3⟩
          · have HBY := HB2
            rcases hE with hE | hE
            · skip
              go_wp2_with (first
                | (have hz := SY.out; clear hz; go_at_call 8; refine (SY.out.read HT.out HBY.out.readQ).mono ?_; rintro e we ⟨B29, c29, rfl, hr, hc, hb⟩; have SE := Aside0.mk (SY.out.step hb); have XE := Aside0.mk (XY.out.below hb); have t0 : we.cell? ⟨g14, 0, none⟩ = some (.int .i64 sp.1) := (blk_cell XE.out.b14 0).trans rfl; have t1 : we.cell? ⟨g16, 0, none⟩ = some (.int .i64 sq.1) := (blk_cell XE.out.b16 0).trans rfl; have kb29 := str_of (c := c29) hr; have kb20 := str_of (c := c20) XE.out.r20; clear hr hc hb)
                | (have hz := SK.out; clear hz; go_at_call 10; refine (SK.out.trunc2 HT.out hy).mono ?_; rintro e wy ⟨rfl, mbSY, hs, ht⟩; have SY := Aside0.mk hs; have XY := Aside0.mk (XK.out.turn SK.out.m ht); clear hs ht))
              go_ret
              exact ⟨rfl, SE.out.b⟩
            · have hcc := HBY.out.k hE.2
              first | subst hcc | clear hcc
              have hE := hE.1
              go_wp2_with (first
                | (have hz := SY.out; clear hz; go_at_call 8; refine (SY.out.read HT.out HBY.out.readQ).mono ?_; rintro e we ⟨B29, c29, rfl, hr, hc, hb⟩; have SE := Aside0.mk (SY.out.step hb); have XE := Aside0.mk (XY.out.below hb); have t0 : we.cell? ⟨g14, 0, none⟩ = some (.int .i64 sp.1) := (blk_cell XE.out.b14 0).trans rfl; have t1 : we.cell? ⟨g16, 0, none⟩ = some (.int .i64 sq.1) := (blk_cell XE.out.b16 0).trans rfl; have kb29 := str_of (c := c29) hr; have kb20 := str_of (c := c20) XE.out.r20; clear hr hc hb)
                | (have hz := SK.out; clear hz; go_at_call 10; refine (SK.out.trunc2 HT.out hy).mono ?_; rintro e wy ⟨rfl, mbSY, hs, ht⟩; have SY := Aside0.mk hs; have XY := Aside0.mk (XK.out.turn SK.out.m ht); clear hs ht))
              go_ret
              exact ⟨rfl, SE.out.b⟩
          · rw [Int.toNat_natCast] at hB3
            have HBY := Aside0.mk hB3
            clear hB3
            by_cases hs : b2.length < b.length
            · have hs1 : (b2.length : Int) < (b.length : Int) := by omega
              have hrd := HBY.out.readAt (off := (b2.length : Int)) (Int.natCast_nonneg _)
              rw [Int.toNat_natCast, HZZ.out b.length (Nat.le_of_lt hs)] at hrd
              obtain ⟨Z, hZ⟩ : ∃ Z, List.replicate (b.length - b2.length) (0 : Int) = Z := ⟨_, rfl⟩
              rw [hZ] at hrd
              have HZL := Aside0.mk (show ∀ k : Nat, rd Z (k : Int) = 0 from fun k => by rw [← hZ]; unfold rd; rw [Int.toNat_natCast, List.getD_eq_getElem?_getD, List.getElem?_replicate]; split <;> rfl)
              have HZW := Aside0.mk (show Z.length ≤ 3808 from by rw [← hZ, List.length_replicate]; have := HML.out; omega)
              clear hZ hs
              go_wp2_with (first
                | (have hz := SY.out; clear hz; go_at_call 8; refine (SY.out.read HT.out hrd).mono ?_; rintro e wz ⟨BZ, cZ, rfl, hr, hc, hb⟩; have SZ := Aside0.mk (SY.out.step hb); have XZ := Aside0.mk (XY.out.below hb); have RZ := Aside0.mk hr; clear hr hc hb)
                | (have hz := SK.out; clear hz; go_at_call 10; refine (SK.out.trunc2 HT.out hy).mono ?_; rintro e wy ⟨rfl, mbSY, hs, ht⟩; have SY := Aside0.mk hs; have XY := Aside0.mk (XK.out.turn SK.out.m ht); clear hs ht))
              go_loopw [28] (fun v wr => ∃ k : Nat, v = .int .i64 k ∧ Aside0 (Stt w wr pb mbSY F3) ∧ Aside0 (Cx wr g14 g16 sp sq B20 c0 A4 d) ∧ Aside0 (ReadsInt wr .u8 BZ Z.length Z)) (fun v _ => Z.length - (intOf v).toNat)
              case atStart => exact ⟨0, rfl, SZ, XZ, RZ⟩
              case round =>
                obtain ⟨j, rfl, SJ, XJ, RJ⟩ := hrel
                by_cases hj : j < Z.length
                · have j0 : (0 : Int) ≤ (j : Int) := Int.natCast_nonneg _
                  have j1 : (j : Int) < (Z.length : Int) := by omega
                  obtain ⟨ad, rfl, hq⟩ := RJ.out.at_ (j : Int) j0 j1
                  rw [HZL.out j, Int.toNat_natCast] at hq
                  have HJJ := Aside0.mk hj
                  have jw := HZW.out
                  clear hj
                  go_wp2
                  go_roundw
                  case rel =>
                    refine ⟨j + 1, ?_, SJ, XJ, RJ⟩
                    have hj := HJJ.out
                    first | rfl | (congr 1; done) | (congr 1; omega) | (simp; done)
                  case measure => have hj := HJJ.out; simp only [intOf]; omega
                · have j1 : ¬ (j : Int) < (Z.length : Int) := by omega
                  clear hj
                  rcases hE with hE | hE
                  · skip
                    go_wp2_with (first
                      | (have hz := SJ.out; clear hz; go_at_call 8; refine (SJ.out.read HT.out HBY.out.readQ).mono ?_; rintro e we ⟨B29, c29, rfl, hr, hc, hb⟩; have SE := Aside0.mk (SJ.out.step hb); have XE := Aside0.mk (XJ.out.below hb); have t0 : we.cell? ⟨g14, 0, none⟩ = some (.int .i64 sp.1) := (blk_cell XE.out.b14 0).trans rfl; have t1 : we.cell? ⟨g16, 0, none⟩ = some (.int .i64 sq.1) := (blk_cell XE.out.b16 0).trans rfl; have kb29 := str_of (c := c29) hr; have kb20 := str_of (c := c20) XE.out.r20; clear hr hc hb))
                    go_ret
                    exact ⟨rfl, SE.out.b⟩
                  · have hcc := HBY.out.k hE.2
                    first | subst hcc | clear hcc
                    have hE := hE.1
                    go_wp2_with (first
                      | (have hz := SJ.out; clear hz; go_at_call 8; refine (SJ.out.read HT.out HBY.out.readQ).mono ?_; rintro e we ⟨B29, c29, rfl, hr, hc, hb⟩; have SE := Aside0.mk (SJ.out.step hb); have XE := Aside0.mk (XJ.out.below hb); have t0 : we.cell? ⟨g14, 0, none⟩ = some (.int .i64 sp.1) := (blk_cell XE.out.b14 0).trans rfl; have t1 : we.cell? ⟨g16, 0, none⟩ = some (.int .i64 sq.1) := (blk_cell XE.out.b16 0).trans rfl; have kb29 := str_of (c := c29) hr; have kb20 := str_of (c := c20) XE.out.r20; clear hr hc hb))
                    go_ret
                    exact ⟨rfl, SE.out.b⟩
            · have hs1 : ¬ (b2.length : Int) < (b.length : Int) := by omega
              clear hs
              rcases hE with hE | hE
              · skip
                go_wp2_with (first
                  | (have hz := SY.out; clear hz; go_at_call 8; refine (SY.out.read HT.out HBY.out.readQ).mono ?_; rintro e we ⟨B29, c29, rfl, hr, hc, hb⟩; have SE := Aside0.mk (SY.out.step hb); have XE := Aside0.mk (XY.out.below hb); have t0 : we.cell? ⟨g14, 0, none⟩ = some (.int .i64 sp.1) := (blk_cell XE.out.b14 0).trans rfl; have t1 : we.cell? ⟨g16, 0, none⟩ = some (.int .i64 sq.1) := (blk_cell XE.out.b16 0).trans rfl; have kb29 := str_of (c := c29) hr; have kb20 := str_of (c := c20) XE.out.r20; clear hr hc hb)
                  | (have hz := SK.out; clear hz; go_at_call 10; refine (SK.out.trunc2 HT.out hy).mono ?_; rintro e wy ⟨rfl, mbSY, hs, ht⟩; have SY := Aside0.mk hs; have XY := Aside0.mk (XK.out.turn SK.out.m ht); clear hs ht))
                go_ret
                exact ⟨rfl, SE.out.b⟩
              · have hcc := HBY.out.k hE.2
                first | subst hcc | clear hcc
                have hE := hE.1
                go_wp2_with (first
                  | (have hz := SY.out; clear hz; go_at_call 8; refine (SY.out.read HT.out HBY.out.readQ).mono ?_; rintro e we ⟨B29, c29, rfl, hr, hc, hb⟩; have SE := Aside0.mk (SY.out.step hb); have XE := Aside0.mk (XY.out.below hb); have t0 : we.cell? ⟨g14, 0, none⟩ = some (.int .i64 sp.1) := (blk_cell XE.out.b14 0).trans rfl; have t1 : we.cell? ⟨g16, 0, none⟩ = some (.int .i64 sq.1) := (blk_cell XE.out.b16 0).trans rfl; have kb29 := str_of (c := c29) hr; have kb20 := str_of (c := c20) XE.out.r20; clear hr hc hb)
                  | (have hz := SK.out; clear hz; go_at_call 10; refine (SK.out.trunc2 HT.out hy).mono ?_; rintro e wy ⟨rfl, mbSY, hs, ht⟩; have SY := Aside0.mk hs; have XY := Aside0.mk (XK.out.turn SK.out.m ht); clear hs ht))
                go_ret
                exact ⟨rfl, SE.out.b⟩
  · have zd : ¬ (0 : Int) < (d.length : Int) := by omega
    have zd2 : decide ((d.length : Int) > 0) = false := decide_eq_false zd
    clear hd0
    go_enter Tryd.func3, Tryd.ntmps3
    rcases HB.out.trunc size with ⟨y2, hx, z2⟩ | ⟨z0, z1, F2, c2, hx, hB2⟩
    · have HBX := HB
      rcases hE with hE | hE
      · skip
        go_wp2_with (first
          | (have hz := S8.out; clear hz; go_at_call 8; refine (S8.out.read HT.out HBX.out.readQ).mono ?_; rintro e we ⟨B29, c29, rfl, hr, hc, hb⟩; have SE := Aside0.mk (S8.out.step hb); have XE := Aside0.mk (X8.out.below hb); have t0 : we.cell? ⟨g14, 0, none⟩ = some (.int .i64 sp.1) := (blk_cell XE.out.b14 0).trans rfl; have t1 : we.cell? ⟨g16, 0, none⟩ = some (.int .i64 sq.1) := (blk_cell XE.out.b16 0).trans rfl; have kb29 := str_of (c := c29) hr; have kb20 := str_of (c := c20) XE.out.r20; clear hr hc hb)
          | (have hz := S7.out; clear hz; go_at_call 10; refine (S7.out.trunc2 HT.out hx).mono ?_; rintro e w8 ⟨rfl, mbS8, hs, ht⟩; have S8 := Aside0.mk hs; have X8 := Aside0.mk (X7.out.turn S7.out.m ht); clear hs ht)
          | (have hz := S6.out; clear hz; go_at_call 9; refine (S6.out.write2 HT.out X6.out.rd HDC.out hw).mono ?_; rintro e w7 ⟨rfl, mb7, hs, ht⟩; have S7 := Aside0.mk hs; have X7 := Aside0.mk (X6.out.turn S6.out.m ht); have R7 := Aside0.mk (reads_turn R6.out ht S6.out.m.both); clear hs ht)
          | (have hz := S5.out; clear hz; go_at_call 8; refine (S5.out.read HT.out HB.out.readQ).mono ?_; rintro e w6 ⟨B20, c20, rfl, hr, hc, hb⟩; have S6 := Aside0.mk (S5.out.step hb); have R6 := Aside0.mk (R5.out.below hb); have X6 := Aside0.mk (show Cx w6 g14 g16 sp sq B20 c0 A4 d from ⟨blk_below B14y.out hb, blk_below B16y.out hb, hr, HD.out.below S6.out.b⟩); clear hr hc hb)
          | (have hz := S4.out; clear hz; go_at_call 8; refine (S4.out.read HT.out HB.out.read).mono ?_; rintro e w5 ⟨B18, c18, rfl, hr, hc, hb⟩; have S5 := Aside0.mk (S4.out.step hb); have R5 := Aside0.mk hr; have C18 := Aside0.mk hc; have B14y := Aside0.mk (blk_below B14x.out hb); have B16y := Aside0.mk (blk_below B16.out hb); clear hr hc hb)
          | (have hz := S4b.out; clear hz; (with_reducible refine gate_store (t := 30) (p := 16) (v := .tmp 50) rfl ?_); refine ev_store_row (by rfl) 30 (.tmp 16) (.tmp 50) (by rfl) g16 (stC sq) (by rfl) (by rfl) 30 _ K16.out (by kernel_rfl) (by rfl) (by simp [Value.oneCell']) ?_; intro w4 hbox hgr; have HX := Aside0.mk (pw_below_grown L16.out _ L16.out.size hgr (fun q e => by cases e; exact Nat.le_of_eq G16.out.symm)); have S4 := Aside0.mk (S4a.out.step HX.out); have B16 := Aside0.mk hbox; have B14x := Aside0.mk (blk_below B14xa.out HX.out); have k1 : w4.cell? ⟨g14, 1, none⟩ = some (.int .i64 sp.2.1) := (blk_cell B14x.out 1).trans rfl; have k2 : w4.cell? ⟨g16, 1, none⟩ = some (.int .i64 sq.2.1) := (blk_cell hbox 1).trans rfl; clear hbox hgr)
          | (have hz := S4a.out; clear hz; (with_reducible refine gate_dst (N := 16) rfl ?_); refine box_event ?hg (N := 16) ?hd (cs := stC (0, 0, 0, 0)) (t := 30) ?hr ?_; (case hd => rfl); (case hg => rfl); (case hr => first | (go_simp; done) | (go_simp; rfl) | kernel_rfl); intro g16 hg w4b hbox hb; have S4b := Aside0.mk (S4a.out.step hb); have K16 := Aside0.mk hbox; have L16 := Aside0.mk hb; have G16 := Aside0.mk hg; clear hg hb hbox)
          | (have hz := S3.out; clear hz; go_at_call 7; refine (S3.out.stat HT.out hsq).mono ?_; rintro e w4a ⟨rfl, hb⟩; have S4a := Aside0.mk (S3.out.step hb); have B14xa := Aside0.mk (blk_below B14.out hb); clear hb)
          | (have hz := S3b.out; clear hz; (with_reducible refine gate_store (t := 30) (p := 14) (v := .tmp 44) rfl ?_); refine ev_store_row (by rfl) 30 (.tmp 14) (.tmp 44) (by rfl) g14 (stC sp) (by rfl) (by rfl) 30 _ K14.out (by kernel_rfl) (by rfl) (by simp [Value.oneCell']) ?_; intro w3 hbox hgr; have HX := Aside0.mk (pw_below_grown L14.out _ L14.out.size hgr (fun q e => by cases e; exact Nat.le_of_eq G14.out.symm)); have S3 := Aside0.mk (S3a.out.step HX.out); have B14 := Aside0.mk hbox; clear hbox hgr)
          | (have hz := S3a.out; clear hz; (with_reducible refine gate_dst (N := 14) rfl ?_); refine box_event ?hg (N := 14) ?hd (cs := stC (0, 0, 0, 0)) (t := 30) ?hr ?_; (case hd => rfl); (case hg => rfl); (case hr => first | (go_simp; done) | (go_simp; rfl) | kernel_rfl); intro g14 hg w3b hbox hb; have S3b := Aside0.mk (S3a.out.step hb); have K14 := Aside0.mk hbox; have L14 := Aside0.mk hb; have G14 := Aside0.mk hg; clear hg hb hbox)
          | (have hz := S2.out; clear hz; go_at_call 7; refine (S2.out.stat HT.out hsp).mono ?_; rintro e w3a ⟨rfl, hb⟩; have S3a := Aside0.mk (S2.out.step hb); clear hb)
          | (have hz := S1.out; clear hz; go_at_call 6; refine (wakes_any w1 (HW.out.below' S1.out.b) (S1.out.tabs HT.out)).mono ?_; rintro e w2 ⟨rfl, hb⟩; have S2 := Aside0.mk (S1.out.step hb); clear hb)
          | (go_at_call 5; refine (grown_any w A c l HL.out HT.out HLN.out).mono ?_; rw [HGT.out]; rintro e w1 ⟨pb, mb1, rfl, hp, hm, hM, hb⟩; have S1 := Aside0.mk (show Stt w w1 pb mb1 T from ⟨hM, hb, hp, hm, HG.out⟩); clear hp hm hM hb))
        go_ret
        exact ⟨rfl, SE.out.b⟩
      · have hcc := HBX.out.k hE.2
        first | subst hcc | clear hcc
        have hE := hE.1
        go_wp2_with (first
          | (have hz := S8.out; clear hz; go_at_call 8; refine (S8.out.read HT.out HBX.out.readQ).mono ?_; rintro e we ⟨B29, c29, rfl, hr, hc, hb⟩; have SE := Aside0.mk (S8.out.step hb); have XE := Aside0.mk (X8.out.below hb); have t0 : we.cell? ⟨g14, 0, none⟩ = some (.int .i64 sp.1) := (blk_cell XE.out.b14 0).trans rfl; have t1 : we.cell? ⟨g16, 0, none⟩ = some (.int .i64 sq.1) := (blk_cell XE.out.b16 0).trans rfl; have kb29 := str_of (c := c29) hr; have kb20 := str_of (c := c20) XE.out.r20; clear hr hc hb)
          | (have hz := S7.out; clear hz; go_at_call 10; refine (S7.out.trunc2 HT.out hx).mono ?_; rintro e w8 ⟨rfl, mbS8, hs, ht⟩; have S8 := Aside0.mk hs; have X8 := Aside0.mk (X7.out.turn S7.out.m ht); clear hs ht)
          | (have hz := S6.out; clear hz; go_at_call 9; refine (S6.out.write2 HT.out X6.out.rd HDC.out hw).mono ?_; rintro e w7 ⟨rfl, mb7, hs, ht⟩; have S7 := Aside0.mk hs; have X7 := Aside0.mk (X6.out.turn S6.out.m ht); have R7 := Aside0.mk (reads_turn R6.out ht S6.out.m.both); clear hs ht)
          | (have hz := S5.out; clear hz; go_at_call 8; refine (S5.out.read HT.out HB.out.readQ).mono ?_; rintro e w6 ⟨B20, c20, rfl, hr, hc, hb⟩; have S6 := Aside0.mk (S5.out.step hb); have R6 := Aside0.mk (R5.out.below hb); have X6 := Aside0.mk (show Cx w6 g14 g16 sp sq B20 c0 A4 d from ⟨blk_below B14y.out hb, blk_below B16y.out hb, hr, HD.out.below S6.out.b⟩); clear hr hc hb)
          | (have hz := S4.out; clear hz; go_at_call 8; refine (S4.out.read HT.out HB.out.read).mono ?_; rintro e w5 ⟨B18, c18, rfl, hr, hc, hb⟩; have S5 := Aside0.mk (S4.out.step hb); have R5 := Aside0.mk hr; have C18 := Aside0.mk hc; have B14y := Aside0.mk (blk_below B14x.out hb); have B16y := Aside0.mk (blk_below B16.out hb); clear hr hc hb)
          | (have hz := S4b.out; clear hz; (with_reducible refine gate_store (t := 30) (p := 16) (v := .tmp 50) rfl ?_); refine ev_store_row (by rfl) 30 (.tmp 16) (.tmp 50) (by rfl) g16 (stC sq) (by rfl) (by rfl) 30 _ K16.out (by kernel_rfl) (by rfl) (by simp [Value.oneCell']) ?_; intro w4 hbox hgr; have HX := Aside0.mk (pw_below_grown L16.out _ L16.out.size hgr (fun q e => by cases e; exact Nat.le_of_eq G16.out.symm)); have S4 := Aside0.mk (S4a.out.step HX.out); have B16 := Aside0.mk hbox; have B14x := Aside0.mk (blk_below B14xa.out HX.out); have k1 : w4.cell? ⟨g14, 1, none⟩ = some (.int .i64 sp.2.1) := (blk_cell B14x.out 1).trans rfl; have k2 : w4.cell? ⟨g16, 1, none⟩ = some (.int .i64 sq.2.1) := (blk_cell hbox 1).trans rfl; clear hbox hgr)
          | (have hz := S4a.out; clear hz; (with_reducible refine gate_dst (N := 16) rfl ?_); refine box_event ?hg (N := 16) ?hd (cs := stC (0, 0, 0, 0)) (t := 30) ?hr ?_; (case hd => rfl); (case hg => rfl); (case hr => first | (go_simp; done) | (go_simp; rfl) | kernel_rfl); intro g16 hg w4b hbox hb; have S4b := Aside0.mk (S4a.out.step hb); have K16 := Aside0.mk hbox; have L16 := Aside0.mk hb; have G16 := Aside0.mk hg; clear hg hb hbox)
          | (have hz := S3.out; clear hz; go_at_call 7; refine (S3.out.stat HT.out hsq).mono ?_; rintro e w4a ⟨rfl, hb⟩; have S4a := Aside0.mk (S3.out.step hb); have B14xa := Aside0.mk (blk_below B14.out hb); clear hb)
          | (have hz := S3b.out; clear hz; (with_reducible refine gate_store (t := 30) (p := 14) (v := .tmp 44) rfl ?_); refine ev_store_row (by rfl) 30 (.tmp 14) (.tmp 44) (by rfl) g14 (stC sp) (by rfl) (by rfl) 30 _ K14.out (by kernel_rfl) (by rfl) (by simp [Value.oneCell']) ?_; intro w3 hbox hgr; have HX := Aside0.mk (pw_below_grown L14.out _ L14.out.size hgr (fun q e => by cases e; exact Nat.le_of_eq G14.out.symm)); have S3 := Aside0.mk (S3a.out.step HX.out); have B14 := Aside0.mk hbox; clear hbox hgr)
          | (have hz := S3a.out; clear hz; (with_reducible refine gate_dst (N := 14) rfl ?_); refine box_event ?hg (N := 14) ?hd (cs := stC (0, 0, 0, 0)) (t := 30) ?hr ?_; (case hd => rfl); (case hg => rfl); (case hr => first | (go_simp; done) | (go_simp; rfl) | kernel_rfl); intro g14 hg w3b hbox hb; have S3b := Aside0.mk (S3a.out.step hb); have K14 := Aside0.mk hbox; have L14 := Aside0.mk hb; have G14 := Aside0.mk hg; clear hg hb hbox)
          | (have hz := S2.out; clear hz; go_at_call 7; refine (S2.out.stat HT.out hsp).mono ?_; rintro e w3a ⟨rfl, hb⟩; have S3a := Aside0.mk (S2.out.step hb); clear hb)
          | (have hz := S1.out; clear hz; go_at_call 6; refine (wakes_any w1 (HW.out.below' S1.out.b) (S1.out.tabs HT.out)).mono ?_; rintro e w2 ⟨rfl, hb⟩; have S2 := Aside0.mk (S1.out.step hb); clear hb)
          | (go_at_call 5; refine (grown_any w A c l HL.out HT.out HLN.out).mono ?_; rw [HGT.out]; rintro e w1 ⟨pb, mb1, rfl, hp, hm, hM, hb⟩; have S1 := Aside0.mk (show Stt w w1 pb mb1 T from ⟨hM, hb, hp, hm, HG.out⟩); clear hp hm hM hb))
        go_ret
        exact ⟨rfl, SE.out.b⟩
    · obtain ⟨z, rfl⟩ : ∃ z : Nat, size = (z : Int) := ⟨size.toNat, by omega⟩
      rw [Int.toNat_natCast] at hB2
      have hfirst := cutB_take b z
      have hzero := fun k (h1 : b.length ≤ k) (h2 : k < z) => cutB_zero (b := b) (n := z) (k := k) (Nat.le_trans (Nat.le_of_eq (show b.length = b.length from rfl)) h1) h2
      have hzz := fun m (h : z ≤ m) => drop_zeros (b := b) h
      obtain ⟨b2, hb2⟩ : ∃ b2, cutB b z = b2 := ⟨_, rfl⟩
      have hb2l := cutB_length b z
      rw [hb2] at hB2 hfirst hzero hzz hb2l
      obtain rfl := hb2l
      have hm1 : b.length = b.length := rfl
      rw [hm1] at hfirst
      have HB2 := Aside0.mk hB2
      have HFI := Aside0.mk hfirst
      have HZE := Aside0.mk hzero
      have HZZ := Aside0.mk hzz
      obtain ⟨mn, hmn⟩ : ∃ mn : Nat, mn = min b2.length b.length := ⟨_, rfl⟩
      have emn : (if b.length < b2.length then ((b.length : Nat) : Int) else (b2.length : Int)) = (mn : Int) := by split <;> omega
      have HM1 := Aside0.mk (show mn ≤ b2.length by omega)
      have HM2 := Aside0.mk (show mn ≤ b.length by omega)
      rw [← hmn] at hfirst
      have HFI := Aside0.mk hfirst
      have HZ1 := Aside0.mk z1
      have HML := Aside0.mk (show b.length ≤ 3808 from hm1 ▸ HB.out.len)
      have HMB := Aside0.mk hm1
      clear hB2 hfirst hzero hzz hb2 hmn z0 z1 hm1
      go_wp2_with (first
        | (have hz := S8.out; clear hz; go_at_call 8; refine (S8.out.read HT.out HB2.out.read).mono ?_; rintro e w9 ⟨B25, c25, rfl, hr, hc, hb⟩; have S9 := Aside0.mk (S8.out.step hb); have X9 := Aside0.mk (X8.out.below hb); have R9 := Aside0.mk (R8.out.below hb); have R25 := Aside0.mk hr; have C25 := Aside0.mk hc; clear hr hc hb)
        | (have hz := S7.out; clear hz; go_at_call 10; refine (S7.out.trunc2 HT.out hx).mono ?_; rintro e w8 ⟨rfl, mbS8, hs, ht⟩; have S8 := Aside0.mk hs; have X8 := Aside0.mk (X7.out.turn S7.out.m ht); have R8 := Aside0.mk (reads_turn R7.out ht S7.out.m.both); clear hs ht)
        | (have hz := S6.out; clear hz; go_at_call 9; refine (S6.out.write2 HT.out X6.out.rd HDC.out hw).mono ?_; rintro e w7 ⟨rfl, mb7, hs, ht⟩; have S7 := Aside0.mk hs; have X7 := Aside0.mk (X6.out.turn S6.out.m ht); have R7 := Aside0.mk (reads_turn R6.out ht S6.out.m.both); clear hs ht)
        | (have hz := S5.out; clear hz; go_at_call 8; refine (S5.out.read HT.out HB.out.readQ).mono ?_; rintro e w6 ⟨B20, c20, rfl, hr, hc, hb⟩; have S6 := Aside0.mk (S5.out.step hb); have R6 := Aside0.mk (R5.out.below hb); have X6 := Aside0.mk (show Cx w6 g14 g16 sp sq B20 c0 A4 d from ⟨blk_below B14y.out hb, blk_below B16y.out hb, hr, HD.out.below S6.out.b⟩); clear hr hc hb)
        | (have hz := S4.out; clear hz; go_at_call 8; refine (S4.out.read HT.out HB.out.read).mono ?_; rintro e w5 ⟨B18, c18, rfl, hr, hc, hb⟩; have S5 := Aside0.mk (S4.out.step hb); have R5 := Aside0.mk hr; have C18 := Aside0.mk hc; have B14y := Aside0.mk (blk_below B14x.out hb); have B16y := Aside0.mk (blk_below B16.out hb); clear hr hc hb)
        | (have hz := S4b.out; clear hz; (with_reducible refine gate_store (t := 30) (p := 16) (v := .tmp 50) rfl ?_); refine ev_store_row (by rfl) 30 (.tmp 16) (.tmp 50) (by rfl) g16 (stC sq) (by rfl) (by rfl) 30 _ K16.out (by kernel_rfl) (by rfl) (by simp [Value.oneCell']) ?_; intro w4 hbox hgr; have HX := Aside0.mk (pw_below_grown L16.out _ L16.out.size hgr (fun q e => by cases e; exact Nat.le_of_eq G16.out.symm)); have S4 := Aside0.mk (S4a.out.step HX.out); have B16 := Aside0.mk hbox; have B14x := Aside0.mk (blk_below B14xa.out HX.out); have k1 : w4.cell? ⟨g14, 1, none⟩ = some (.int .i64 sp.2.1) := (blk_cell B14x.out 1).trans rfl; have k2 : w4.cell? ⟨g16, 1, none⟩ = some (.int .i64 sq.2.1) := (blk_cell hbox 1).trans rfl; clear hbox hgr)
        | (have hz := S4a.out; clear hz; (with_reducible refine gate_dst (N := 16) rfl ?_); refine box_event ?hg (N := 16) ?hd (cs := stC (0, 0, 0, 0)) (t := 30) ?hr ?_; (case hd => rfl); (case hg => rfl); (case hr => first | (go_simp; done) | (go_simp; rfl) | kernel_rfl); intro g16 hg w4b hbox hb; have S4b := Aside0.mk (S4a.out.step hb); have K16 := Aside0.mk hbox; have L16 := Aside0.mk hb; have G16 := Aside0.mk hg; clear hg hb hbox)
        | (have hz := S3.out; clear hz; go_at_call 7; refine (S3.out.stat HT.out hsq).mono ?_; rintro e w4a ⟨rfl, hb⟩; have S4a := Aside0.mk (S3.out.step hb); have B14xa := Aside0.mk (blk_below B14.out hb); clear hb)
        | (have hz := S3b.out; clear hz; (with_reducible refine gate_store (t := 30) (p := 14) (v := .tmp 44) rfl ?_); refine ev_store_row (by rfl) 30 (.tmp 14) (.tmp 44) (by rfl) g14 (stC sp) (by rfl) (by rfl) 30 _ K14.out (by kernel_rfl) (by rfl) (by simp [Value.oneCell']) ?_; intro w3 hbox hgr; have HX := Aside0.mk (pw_below_grown L14.out _ L14.out.size hgr (fun q e => by cases e; exact Nat.le_of_eq G14.out.symm)); have S3 := Aside0.mk (S3a.out.step HX.out); have B14 := Aside0.mk hbox; clear hbox hgr)
        | (have hz := S3a.out; clear hz; (with_reducible refine gate_dst (N := 14) rfl ?_); refine box_event ?hg (N := 14) ?hd (cs := stC (0, 0, 0, 0)) (t := 30) ?hr ?_; (case hd => rfl); (case hg => rfl); (case hr => first | (go_simp; done) | (go_simp; rfl) | kernel_rfl); intro g14 hg w3b hbox hb; have S3b := Aside0.mk (S3a.out.step hb); have K14 := Aside0.mk hbox; have L14 := Aside0.mk hb; have G14 := Aside0.mk hg; clear hg hb hbox)
        | (have hz := S2.out; clear hz; go_at_call 7; refine (S2.out.stat HT.out hsp).mono ?_; rintro e w3a ⟨rfl, hb⟩; have S3a := Aside0.mk (S2.out.step hb); clear hb)
        | (have hz := S1.out; clear hz; go_at_call 6; refine (wakes_any w1 (HW.out.below' S1.out.b) (S1.out.tabs HT.out)).mono ?_; rintro e w2 ⟨rfl, hb⟩; have S2 := Aside0.mk (S1.out.step hb); clear hb)
        | (go_at_call 5; refine (grown_any w A c l HL.out HT.out HLN.out).mono ?_; rw [HGT.out]; rintro e w1 ⟨pb, mb1, rfl, hp, hm, hM, hb⟩; have S1 := Aside0.mk (show Stt w w1 pb mb1 T from ⟨hM, hb, hp, hm, HG.out⟩); clear hp hm hM hb))
      have hc25 : (mn : Int) ≤ (c25 : Int) := by have := C25.out; have := HM1.out; omega
      have hc18 : (mn : Int) ≤ (c18 : Int) := by have := C18.out; have := HM2.out; omega
      have hmn0 : (0 : Int) ≤ (mn : Int) := Int.natCast_nonneg _
      refine wp_region_held_drew (S := fun W => Below w9.heap.size w9 W) (by kernel_rfl) (below_drew (Below.refl _ _)) (fun hHeld => ?_)
      refine wpAnyH_take (i := 0) (oi := ⟨some 141, _, _, _, _, _⟩) (v := (.int .i64 0)) rfl (by kernel_rfl) (by kernel_rfl) (by kernel_rfl) (fun _ _ _ h => h) (Or.inl ⟨by rfl, fun W hS => by go_simp⟩) hHeld ?_
      (try simp only [Act.put, List.setIfInBounds_toArray, List.set_cons_zero, List.set_cons_succ])
      refine wpAnyH_take (i := 1) (oi := ⟨some 142, _, _, _, _, _⟩) (v := (.bool false)) rfl (by kernel_rfl) (by kernel_rfl) (by kernel_rfl) (fun _ _ _ h => h) (Or.inl ⟨by rfl, fun W hS => by go_simp⟩) hHeld ?_
      (try simp only [Act.put, List.setIfInBounds_toArray, List.set_cons_zero, List.set_cons_succ])
      refine wpAnyH_take (i := 2) (oi := ⟨some 143, _, _, _, _, _⟩) (v := (.bool false)) rfl (by kernel_rfl) (by kernel_rfl) (by kernel_rfl) (fun _ _ _ h => h) (Or.inl ⟨by rfl, fun W hS => by go_simp⟩) hHeld ?_
      (try simp only [Act.put, List.setIfInBounds_toArray, List.set_cons_zero, List.set_cons_succ])
      refine wpAnyH_take (i := 3) (oi := ⟨some 144, _, _, _, _, _⟩) (v := (.slice B25 b2.length c25)) rfl (by kernel_rfl) (by kernel_rfl) (by kernel_rfl) (fun _ _ _ h => h) (Or.inl ⟨by rfl, fun W hS => by go_simp⟩) hHeld ?_
      (try simp only [Act.put, List.setIfInBounds_toArray, List.set_cons_zero, List.set_cons_succ])
      refine wpAnyH_take (i := 4) (oi := ⟨some 145, _, _, _, _, _⟩) (v := (.int .i64 (b2.length : Int))) rfl (by kernel_rfl) (by kernel_rfl) (by kernel_rfl) (fun _ _ _ h => h) (Or.inl ⟨by rfl, fun W hS => by go_simp⟩) hHeld ?_
      (try simp only [Act.put, List.setIfInBounds_toArray, List.set_cons_zero, List.set_cons_succ])
      refine wpAnyH_take (i := 5) (oi := ⟨some 146, _, _, _, _, _⟩) (v := (.int .i64 (b2.length : Int))) rfl (by kernel_rfl) (by kernel_rfl) (by kernel_rfl) (fun _ _ _ h => h) (Or.inl ⟨by rfl, fun W hS => by go_simp⟩) hHeld ?_
      (try simp only [Act.put, List.setIfInBounds_toArray, List.set_cons_zero, List.set_cons_succ])
      refine wpAnyH_take (i := 6) (oi := ⟨some 147, _, _, _, _, _⟩) (v := (.bool false)) rfl (by kernel_rfl) (by kernel_rfl) (by kernel_rfl) (fun _ _ _ h => h) (Or.inl ⟨by rfl, fun W hS => by go_simp⟩) hHeld ?_
      (try simp only [Act.put, List.setIfInBounds_toArray, List.set_cons_zero, List.set_cons_succ])
      refine wpAnyH_take (i := 7) (oi := ⟨some 148, _, _, _, _, _⟩) (v := (.bool false)) rfl (by kernel_rfl) (by kernel_rfl) (by kernel_rfl) (fun _ _ _ h => h) (Or.inl ⟨by rfl, fun W hS => by go_simp⟩) hHeld ?_
      (try simp only [Act.put, List.setIfInBounds_toArray, List.set_cons_zero, List.set_cons_succ])
      refine wpAnyH_take (i := 8) (oi := ⟨some 149, _, _, _, _, _⟩) (v := (.bool false)) rfl (by kernel_rfl) (by kernel_rfl) (by kernel_rfl) (fun _ _ _ h => h) (Or.inl ⟨by rfl, fun W hS => by go_simp⟩) hHeld ?_
      (try simp only [Act.put, List.setIfInBounds_toArray, List.set_cons_zero, List.set_cons_succ])
      refine wpAnyH_take (i := 9) (oi := ⟨some 150, _, _, _, _, _⟩) (v := (.slice B25 b2.length c25)) rfl (by kernel_rfl) (by kernel_rfl) (by kernel_rfl) (fun _ _ _ h => h) (Or.inl ⟨by rfl, fun W hS => by go_simp⟩) hHeld ?_
      (try simp only [Act.put, List.setIfInBounds_toArray, List.set_cons_zero, List.set_cons_succ])
      refine wpAnyH_take (i := 10) (oi := ⟨some 151, _, _, _, _, _⟩) (v := (.int .i64 (b2.length : Int))) rfl (by kernel_rfl) (by kernel_rfl) (by kernel_rfl) (fun _ _ _ h => h) (Or.inl ⟨by rfl, fun W hS => by go_simp⟩) hHeld ?_
      (try simp only [Act.put, List.setIfInBounds_toArray, List.set_cons_zero, List.set_cons_succ])
      refine wpAnyH_take (i := 11) (oi := ⟨some 152, _, _, _, _, _⟩) (v := (.slice B18 b.length c18)) rfl (by kernel_rfl) (by kernel_rfl) (by kernel_rfl) (fun _ _ _ h => h) (Or.inl ⟨by rfl, fun W hS => by go_simp⟩) hHeld ?_
      (try simp only [Act.put, List.setIfInBounds_toArray, List.set_cons_zero, List.set_cons_succ])
      refine wpAnyH_take (i := 12) (oi := ⟨some 153, _, _, _, _, _⟩) (v := (.int .i64 (b.length : Int))) rfl (by kernel_rfl) (by kernel_rfl) (by kernel_rfl) (fun _ _ _ h => h) (Or.inl ⟨by rfl, fun W hS => by go_simp⟩) hHeld ?_
      (try simp only [Act.put, List.setIfInBounds_toArray, List.set_cons_zero, List.set_cons_succ])
      refine wpAnyH_take (i := 13) (oi := ⟨some 154, _, _, _, _, _⟩) (v := (.int .i64 (mn : Int))) rfl (by kernel_rfl) (by kernel_rfl) (by kernel_rfl) (fun _ _ _ h => h) (Or.inl ⟨by rfl, fun W hS => by go_simp⟩) hHeld ?_
      (try simp only [Act.put, List.setIfInBounds_toArray, List.set_cons_zero, List.set_cons_succ])
      refine wpAnyH_take (i := 14) (oi := ⟨some 155, _, _, _, _, _⟩) (v := (.slice B25 mn c25)) rfl (by kernel_rfl) (by kernel_rfl) (by kernel_rfl) (fun _ _ _ h => h) (Or.inl ⟨by rfl, fun W hS => by go_simp⟩) hHeld ?_
      (try simp only [Act.put, List.setIfInBounds_toArray, List.set_cons_zero, List.set_cons_succ])
      refine wpAnyH_take (i := 15) (oi := ⟨some 156, _, _, _, _, _⟩) (v := (.string (strOfNums (b2.take mn)))) rfl (by kernel_rfl) (by kernel_rfl) (by kernel_rfl) (fun _ _ _ h => h) (Or.inl ⟨by rfl, fun W hS => by have kk := str_of (c := c25) (reads_take (R25.out.below hS) HM1.out); go_simp⟩) hHeld ?_
      (try simp only [Act.put, List.setIfInBounds_toArray, List.set_cons_zero, List.set_cons_succ])
      refine wpAnyH_take (i := 16) (oi := ⟨some 157, _, _, _, _, _⟩) (v := (.slice B18 b.length c18)) rfl (by kernel_rfl) (by kernel_rfl) (by kernel_rfl) (fun _ _ _ h => h) (Or.inl ⟨by rfl, fun W hS => by go_simp⟩) hHeld ?_
      (try simp only [Act.put, List.setIfInBounds_toArray, List.set_cons_zero, List.set_cons_succ])
      refine wpAnyH_take (i := 17) (oi := ⟨some 158, _, _, _, _, _⟩) (v := (.int .i64 (b2.length : Int))) rfl (by kernel_rfl) (by kernel_rfl) (by kernel_rfl) (fun _ _ _ h => h) (Or.inl ⟨by rfl, fun W hS => by go_simp⟩) hHeld ?_
      (try simp only [Act.put, List.setIfInBounds_toArray, List.set_cons_zero, List.set_cons_succ])
      refine wpAnyH_take (i := 18) (oi := ⟨some 159, _, _, _, _, _⟩) (v := (.slice B18 b.length c18)) rfl (by kernel_rfl) (by kernel_rfl) (by kernel_rfl) (fun _ _ _ h => h) (Or.inl ⟨by rfl, fun W hS => by go_simp⟩) hHeld ?_
      (try simp only [Act.put, List.setIfInBounds_toArray, List.set_cons_zero, List.set_cons_succ])
      refine wpAnyH_take (i := 19) (oi := ⟨some 160, _, _, _, _, _⟩) (v := (.int .i64 (b.length : Int))) rfl (by kernel_rfl) (by kernel_rfl) (by kernel_rfl) (fun _ _ _ h => h) (Or.inl ⟨by rfl, fun W hS => by go_simp⟩) hHeld ?_
      (try simp only [Act.put, List.setIfInBounds_toArray, List.set_cons_zero, List.set_cons_succ])
      refine wpAnyH_take (i := 20) (oi := ⟨some 161, _, _, _, _, _⟩) (v := (.int .i64 (mn : Int))) rfl (by kernel_rfl) (by kernel_rfl) (by kernel_rfl) (fun _ _ _ h => h) (Or.inl ⟨by rfl, fun W hS => by go_simp⟩) hHeld ?_
      (try simp only [Act.put, List.setIfInBounds_toArray, List.set_cons_zero, List.set_cons_succ])
      refine wpAnyH_take (i := 21) (oi := ⟨some 162, _, _, _, _, _⟩) (v := (.slice B18 mn c18)) rfl (by kernel_rfl) (by kernel_rfl) (by kernel_rfl) (fun _ _ _ h => h) (Or.inl ⟨by rfl, fun W hS => by go_simp⟩) hHeld ?_
      (try simp only [Act.put, List.setIfInBounds_toArray, List.set_cons_zero, List.set_cons_succ])
      refine wpAnyH_take (i := 22) (oi := ⟨some 163, _, _, _, _, _⟩) (v := (.string (strOfNums (b2.take mn)))) rfl (by kernel_rfl) (by kernel_rfl) (by kernel_rfl) (fun _ _ _ h => h) (Or.inl ⟨by rfl, fun W hS => by have kk := str_of (c := c18) (reads_take (R9.out.below hS) HM2.out); rw [← HFI.out] at kk; go_simp⟩) hHeld ?_
      (try simp only [Act.put, List.setIfInBounds_toArray, List.set_cons_zero, List.set_cons_succ])
      refine wpAnyH_take (i := 23) (oi := ⟨some 164, _, _, _, _, _⟩) (v := (.bool false)) rfl (by kernel_rfl) (by kernel_rfl) (by kernel_rfl) (fun _ _ _ h => h) (Or.inl ⟨by rfl, fun W hS => by go_simp⟩) hHeld ?_
      (try simp only [Act.put, List.setIfInBounds_toArray, List.set_cons_zero, List.set_cons_succ])
      refine wpAnyH_take (i := 24) (oi := ⟨some 165, _, _, _, _, _⟩) (v := (.bool false)) rfl (by kernel_rfl) (by kernel_rfl) (by kernel_rfl) (fun _ _ _ h => h) (Or.inl ⟨by rfl, fun W hS => by go_simp⟩) hHeld ?_
      (try simp only [Act.put, List.setIfInBounds_toArray, List.set_cons_zero, List.set_cons_succ])
      refine wpAnyH_done (by kernel_rfl) ?_ _
      have SA := Aside0.mk (S9.out.step hHeld)
      have XA := Aside0.mk (X9.out.below hHeld)
      have RA := Aside0.mk (R9.out.below hHeld)
      have R25A := Aside0.mk (R25.out.below hHeld)
      clear hHeld
      (try simp only [Exit.then])
      go_wp2
      go_loopw [27] (fun v wr => ∃ k : Nat, v = .int .i64 k ∧ Aside0 (b.length ≤ k) ∧ Aside0 (Stt w wr pb mbS8 F2) ∧ Aside0 (Cx wr g14 g16 sp sq B20 c0 A4 d) ∧ Aside0 (ReadsInt wr .u8 B18 b.length b) ∧ Aside0 (ReadsInt wr .u8 B25 b2.length b2)) (fun v _ => b2.length - (intOf v).toNat)
      case atStart => exact ⟨b.length, rfl, ⟨Nat.le_refl _⟩, SA, XA, RA, R25A⟩
      case round =>
        obtain ⟨k, rfl, HK, SK, XK, RK, R25K⟩ := hrel
        by_cases hk : k < b2.length
        · have k0 : (0 : Int) ≤ (k : Int) := Int.natCast_nonneg _
          have k1 : (k : Int) < (b2.length : Int) := by omega
          obtain ⟨ad, rfl, hq⟩ := R25K.out.at_ (k : Int) k0 k1
          have hz : rd b2 (k : Int) = 0 := by have := HZE.out k HK.out hk; unfold rd; rw [Int.toNat_natCast]; exact this
          rw [hz, Int.toNat_natCast] at hq
          have HKK := Aside0.mk hk
          have kw := HZ1.out
          clear hz hk
          go_wp2
          go_roundw
          case rel =>
            have hk := HKK.out
            refine ⟨k + 1, ?_, ⟨Nat.le_trans HK.out (Nat.le_succ _)⟩, SK, XK, RK, R25K⟩
            first | rfl | (congr 1; done) | (congr 1; omega) | (simp; done)
          case measure => have hk := HKK.out; simp only [intOf]; omega
        · have k1 : ¬ (k : Int) < (b2.length : Int) := by omega
          clear hk HK
          rcases HB2.out.trunc (b.length : Int) with ⟨y3, hy, z3⟩ | ⟨_, _, F3, c3, hy, hB3⟩
          · have HBY := HB2
            rcases hE with hE | hE
            · skip
              go_wp2_with (first
                | (have hz := SY.out; clear hz; go_at_call 8; refine (SY.out.read HT.out HBY.out.readQ).mono ?_; rintro e we ⟨B29, c29, rfl, hr, hc, hb⟩; have SE := Aside0.mk (SY.out.step hb); have XE := Aside0.mk (XY.out.below hb); have t0 : we.cell? ⟨g14, 0, none⟩ = some (.int .i64 sp.1) := (blk_cell XE.out.b14 0).trans rfl; have t1 : we.cell? ⟨g16, 0, none⟩ = some (.int .i64 sq.1) := (blk_cell XE.out.b16 0).trans rfl; have kb29 := str_of (c := c29) hr; have kb20 := str_of (c := c20) XE.out.r20; clear hr hc hb)
                | (have hz := SK.out; clear hz; go_at_call 10; refine (SK.out.trunc2 HT.out hy).mono ?_; rintro e wy ⟨rfl, mbSY, hs, ht⟩; have SY := Aside0.mk hs; have XY := Aside0.mk (XK.out.turn SK.out.m ht); clear hs ht))
              go_ret
              exact ⟨rfl, SE.out.b⟩
            · have hcc := HBY.out.k hE.2
              first | subst hcc | clear hcc
              have hE := hE.1
              go_wp2_with (first
                | (have hz := SY.out; clear hz; go_at_call 8; refine (SY.out.read HT.out HBY.out.readQ).mono ?_; rintro e we ⟨B29, c29, rfl, hr, hc, hb⟩; have SE := Aside0.mk (SY.out.step hb); have XE := Aside0.mk (XY.out.below hb); have t0 : we.cell? ⟨g14, 0, none⟩ = some (.int .i64 sp.1) := (blk_cell XE.out.b14 0).trans rfl; have t1 : we.cell? ⟨g16, 0, none⟩ = some (.int .i64 sq.1) := (blk_cell XE.out.b16 0).trans rfl; have kb29 := str_of (c := c29) hr; have kb20 := str_of (c := c20) XE.out.r20; clear hr hc hb)
                | (have hz := SK.out; clear hz; go_at_call 10; refine (SK.out.trunc2 HT.out hy).mono ?_; rintro e wy ⟨rfl, mbSY, hs, ht⟩; have SY := Aside0.mk hs; have XY := Aside0.mk (XK.out.turn SK.out.m ht); clear hs ht))
              go_ret
              exact ⟨rfl, SE.out.b⟩
          · rw [Int.toNat_natCast] at hB3
            have HBY := Aside0.mk hB3
            clear hB3
            by_cases hs : b2.length < b.length
            · have hs1 : (b2.length : Int) < (b.length : Int) := by omega
              have hrd := HBY.out.readAt (off := (b2.length : Int)) (Int.natCast_nonneg _)
              rw [Int.toNat_natCast, HZZ.out b.length (Nat.le_of_lt hs)] at hrd
              obtain ⟨Z, hZ⟩ : ∃ Z, List.replicate (b.length - b2.length) (0 : Int) = Z := ⟨_, rfl⟩
              rw [hZ] at hrd
              have HZL := Aside0.mk (show ∀ k : Nat, rd Z (k : Int) = 0 from fun k => by rw [← hZ]; unfold rd; rw [Int.toNat_natCast, List.getD_eq_getElem?_getD, List.getElem?_replicate]; split <;> rfl)
              have HZW := Aside0.mk (show Z.length ≤ 3808 from by rw [← hZ, List.length_replicate]; have := HML.out; omega)
              clear hZ hs
              go_wp2_with (first
                | (have hz := SY.out; clear hz; go_at_call 8; refine (SY.out.read HT.out hrd).mono ?_; rintro e wz ⟨BZ, cZ, rfl, hr, hc, hb⟩; have SZ := Aside0.mk (SY.out.step hb); have XZ := Aside0.mk (XY.out.below hb); have RZ := Aside0.mk hr; clear hr hc hb)
                | (have hz := SK.out; clear hz; go_at_call 10; refine (SK.out.trunc2 HT.out hy).mono ?_; rintro e wy ⟨rfl, mbSY, hs, ht⟩; have SY := Aside0.mk hs; have XY := Aside0.mk (XK.out.turn SK.out.m ht); clear hs ht))
              go_loopw [28] (fun v wr => ∃ k : Nat, v = .int .i64 k ∧ Aside0 (Stt w wr pb mbSY F3) ∧ Aside0 (Cx wr g14 g16 sp sq B20 c0 A4 d) ∧ Aside0 (ReadsInt wr .u8 BZ Z.length Z)) (fun v _ => Z.length - (intOf v).toNat)
              case atStart => exact ⟨0, rfl, SZ, XZ, RZ⟩
              case round =>
                obtain ⟨j, rfl, SJ, XJ, RJ⟩ := hrel
                by_cases hj : j < Z.length
                · have j0 : (0 : Int) ≤ (j : Int) := Int.natCast_nonneg _
                  have j1 : (j : Int) < (Z.length : Int) := by omega
                  obtain ⟨ad, rfl, hq⟩ := RJ.out.at_ (j : Int) j0 j1
                  rw [HZL.out j, Int.toNat_natCast] at hq
                  have HJJ := Aside0.mk hj
                  have jw := HZW.out
                  clear hj
                  go_wp2
                  go_roundw
                  case rel =>
                    refine ⟨j + 1, ?_, SJ, XJ, RJ⟩
                    have hj := HJJ.out
                    first | rfl | (congr 1; done) | (congr 1; omega) | (simp; done)
                  case measure => have hj := HJJ.out; simp only [intOf]; omega
                · have j1 : ¬ (j : Int) < (Z.length : Int) := by omega
                  clear hj
                  rcases hE with hE | hE
                  · skip
                    go_wp2_with (first
                      | (have hz := SJ.out; clear hz; go_at_call 8; refine (SJ.out.read HT.out HBY.out.readQ).mono ?_; rintro e we ⟨B29, c29, rfl, hr, hc, hb⟩; have SE := Aside0.mk (SJ.out.step hb); have XE := Aside0.mk (XJ.out.below hb); have t0 : we.cell? ⟨g14, 0, none⟩ = some (.int .i64 sp.1) := (blk_cell XE.out.b14 0).trans rfl; have t1 : we.cell? ⟨g16, 0, none⟩ = some (.int .i64 sq.1) := (blk_cell XE.out.b16 0).trans rfl; have kb29 := str_of (c := c29) hr; have kb20 := str_of (c := c20) XE.out.r20; clear hr hc hb))
                    go_ret
                    exact ⟨rfl, SE.out.b⟩
                  · have hcc := HBY.out.k hE.2
                    first | subst hcc | clear hcc
                    have hE := hE.1
                    go_wp2_with (first
                      | (have hz := SJ.out; clear hz; go_at_call 8; refine (SJ.out.read HT.out HBY.out.readQ).mono ?_; rintro e we ⟨B29, c29, rfl, hr, hc, hb⟩; have SE := Aside0.mk (SJ.out.step hb); have XE := Aside0.mk (XJ.out.below hb); have t0 : we.cell? ⟨g14, 0, none⟩ = some (.int .i64 sp.1) := (blk_cell XE.out.b14 0).trans rfl; have t1 : we.cell? ⟨g16, 0, none⟩ = some (.int .i64 sq.1) := (blk_cell XE.out.b16 0).trans rfl; have kb29 := str_of (c := c29) hr; have kb20 := str_of (c := c20) XE.out.r20; clear hr hc hb))
                    go_ret
                    exact ⟨rfl, SE.out.b⟩
            · have hs1 : ¬ (b2.length : Int) < (b.length : Int) := by omega
              clear hs
              rcases hE with hE | hE
              · skip
                go_wp2_with (first
                  | (have hz := SY.out; clear hz; go_at_call 8; refine (SY.out.read HT.out HBY.out.readQ).mono ?_; rintro e we ⟨B29, c29, rfl, hr, hc, hb⟩; have SE := Aside0.mk (SY.out.step hb); have XE := Aside0.mk (XY.out.below hb); have t0 : we.cell? ⟨g14, 0, none⟩ = some (.int .i64 sp.1) := (blk_cell XE.out.b14 0).trans rfl; have t1 : we.cell? ⟨g16, 0, none⟩ = some (.int .i64 sq.1) := (blk_cell XE.out.b16 0).trans rfl; have kb29 := str_of (c := c29) hr; have kb20 := str_of (c := c20) XE.out.r20; clear hr hc hb)
                  | (have hz := SK.out; clear hz; go_at_call 10; refine (SK.out.trunc2 HT.out hy).mono ?_; rintro e wy ⟨rfl, mbSY, hs, ht⟩; have SY := Aside0.mk hs; have XY := Aside0.mk (XK.out.turn SK.out.m ht); clear hs ht))
                go_ret
                exact ⟨rfl, SE.out.b⟩
              · have hcc := HBY.out.k hE.2
                first | subst hcc | clear hcc
                have hE := hE.1
                go_wp2_with (first
                  | (have hz := SY.out; clear hz; go_at_call 8; refine (SY.out.read HT.out HBY.out.readQ).mono ?_; rintro e we ⟨B29, c29, rfl, hr, hc, hb⟩; have SE := Aside0.mk (SY.out.step hb); have XE := Aside0.mk (XY.out.below hb); have t0 : we.cell? ⟨g14, 0, none⟩ = some (.int .i64 sp.1) := (blk_cell XE.out.b14 0).trans rfl; have t1 : we.cell? ⟨g16, 0, none⟩ = some (.int .i64 sq.1) := (blk_cell XE.out.b16 0).trans rfl; have kb29 := str_of (c := c29) hr; have kb20 := str_of (c := c20) XE.out.r20; clear hr hc hb)
                  | (have hz := SK.out; clear hz; go_at_call 10; refine (SK.out.trunc2 HT.out hy).mono ?_; rintro e wy ⟨rfl, mbSY, hs, ht⟩; have SY := Aside0.mk hs; have XY := Aside0.mk (XK.out.turn SK.out.m ht); clear hs ht))
                go_ret
                exact ⟨rfl, SE.out.b⟩
  · obtain ⟨o, rfl⟩ : ∃ o : Nat, off = (o : Int) := ⟨off.toNat, by omega⟩
    rw [Int.toNat_natCast] at hB1
    have o2 : decide ((o : Int) < 0) = false := decide_eq_false (by omega)
    have o3 : decide ((o : Int) > 3808) = false := decide_eq_false (by omega)
    have o4 : ¬ (3808 : Int) < (o : Int) := by omega
    have zd : (0 : Int) < (d.length : Int) := by omega
    have zd2 : decide ((d.length : Int) > 0) = true := decide_eq_true zd
    have HO1 := Aside0.mk (show o + d.length ≤ 3808 by omega)
    have HD0 := Aside0.mk hd0
    have HBW := Aside0.mk hB1
    have HBLN := Aside0.mk HB.out.len
    clear hB1 o0 o1 hd0
    go_enter Tryd.func3, Tryd.ntmps3
    go_wp2_with (first
      | (have hz := S7.out; clear hz; (with_reducible refine gate_dst (N := 98) rfl ?_); at_builtin; refine Kd.R_append_row (w0 := w7) (Value.int .u8) (0 : Int) w7.heap.size rfl (.const (.slice none 0 0)) (.tmp 97) 23 5 (.int .u8 0) 1 rfl Tryd.underlying23 info5 rfl (by decide) (.slice none 0 0) [] b B18 b.length c18 (fun _ => True) rfl rfl (fun _ _ => trivial) (Kd.R_nil _ _ _ _ _) (Kd.C_of_reads (enc := Value.int .u8) (d := (0 : Int)) (h1 := fun _ => rfl) R7.out) (Below.refl _ _) (Nat.le_refl _) (by have := HBLN.out; simp; omega) ?_; intro v1 w8 ho hb hg hat; rw [List.nil_append] at ho; have R8 := Aside0.mk ho; have FB8 := Aside0.mk hb; clear ho hb hg hat)
      | (have hz := S6.out; clear hz; go_at_call 9; refine (S6.out.write2 HT.out X6.out.rd HDC.out hw).mono ?_; rintro e w7 ⟨rfl, mb7, hs, ht⟩; have S7 := Aside0.mk hs; have X7 := Aside0.mk (X6.out.turn S6.out.m ht); have R7 := Aside0.mk (reads_turn R6.out ht S6.out.m.both); clear hs ht)
      | (have hz := S5.out; clear hz; go_at_call 8; refine (S5.out.read HT.out HB.out.readQ).mono ?_; rintro e w6 ⟨B20, c20, rfl, hr, hc, hb⟩; have S6 := Aside0.mk (S5.out.step hb); have R6 := Aside0.mk (R5.out.below hb); have X6 := Aside0.mk (show Cx w6 g14 g16 sp sq B20 c0 A4 d from ⟨blk_below B14y.out hb, blk_below B16y.out hb, hr, HD.out.below S6.out.b⟩); clear hr hc hb)
      | (have hz := S4.out; clear hz; go_at_call 8; refine (S4.out.read HT.out HB.out.read).mono ?_; rintro e w5 ⟨B18, c18, rfl, hr, hc, hb⟩; have S5 := Aside0.mk (S4.out.step hb); have R5 := Aside0.mk hr; have C18 := Aside0.mk hc; have B14y := Aside0.mk (blk_below B14x.out hb); have B16y := Aside0.mk (blk_below B16.out hb); clear hr hc hb)
      | (have hz := S4b.out; clear hz; (with_reducible refine gate_store (t := 30) (p := 16) (v := .tmp 50) rfl ?_); refine ev_store_row (by rfl) 30 (.tmp 16) (.tmp 50) (by rfl) g16 (stC sq) (by rfl) (by rfl) 30 _ K16.out (by kernel_rfl) (by rfl) (by simp [Value.oneCell']) ?_; intro w4 hbox hgr; have HX := Aside0.mk (pw_below_grown L16.out _ L16.out.size hgr (fun q e => by cases e; exact Nat.le_of_eq G16.out.symm)); have S4 := Aside0.mk (S4a.out.step HX.out); have B16 := Aside0.mk hbox; have B14x := Aside0.mk (blk_below B14xa.out HX.out); have k1 : w4.cell? ⟨g14, 1, none⟩ = some (.int .i64 sp.2.1) := (blk_cell B14x.out 1).trans rfl; have k2 : w4.cell? ⟨g16, 1, none⟩ = some (.int .i64 sq.2.1) := (blk_cell hbox 1).trans rfl; clear hbox hgr)
      | (have hz := S4a.out; clear hz; (with_reducible refine gate_dst (N := 16) rfl ?_); refine box_event ?hg (N := 16) ?hd (cs := stC (0, 0, 0, 0)) (t := 30) ?hr ?_; (case hd => rfl); (case hg => rfl); (case hr => first | (go_simp; done) | (go_simp; rfl) | kernel_rfl); intro g16 hg w4b hbox hb; have S4b := Aside0.mk (S4a.out.step hb); have K16 := Aside0.mk hbox; have L16 := Aside0.mk hb; have G16 := Aside0.mk hg; clear hg hb hbox)
      | (have hz := S3.out; clear hz; go_at_call 7; refine (S3.out.stat HT.out hsq).mono ?_; rintro e w4a ⟨rfl, hb⟩; have S4a := Aside0.mk (S3.out.step hb); have B14xa := Aside0.mk (blk_below B14.out hb); clear hb)
      | (have hz := S3b.out; clear hz; (with_reducible refine gate_store (t := 30) (p := 14) (v := .tmp 44) rfl ?_); refine ev_store_row (by rfl) 30 (.tmp 14) (.tmp 44) (by rfl) g14 (stC sp) (by rfl) (by rfl) 30 _ K14.out (by kernel_rfl) (by rfl) (by simp [Value.oneCell']) ?_; intro w3 hbox hgr; have HX := Aside0.mk (pw_below_grown L14.out _ L14.out.size hgr (fun q e => by cases e; exact Nat.le_of_eq G14.out.symm)); have S3 := Aside0.mk (S3a.out.step HX.out); have B14 := Aside0.mk hbox; clear hbox hgr)
      | (have hz := S3a.out; clear hz; (with_reducible refine gate_dst (N := 14) rfl ?_); refine box_event ?hg (N := 14) ?hd (cs := stC (0, 0, 0, 0)) (t := 30) ?hr ?_; (case hd => rfl); (case hg => rfl); (case hr => first | (go_simp; done) | (go_simp; rfl) | kernel_rfl); intro g14 hg w3b hbox hb; have S3b := Aside0.mk (S3a.out.step hb); have K14 := Aside0.mk hbox; have L14 := Aside0.mk hb; have G14 := Aside0.mk hg; clear hg hb hbox)
      | (have hz := S2.out; clear hz; go_at_call 7; refine (S2.out.stat HT.out hsp).mono ?_; rintro e w3a ⟨rfl, hb⟩; have S3a := Aside0.mk (S2.out.step hb); clear hb)
      | (have hz := S1.out; clear hz; go_at_call 6; refine (wakes_any w1 (HW.out.below' S1.out.b) (S1.out.tabs HT.out)).mono ?_; rintro e w2 ⟨rfl, hb⟩; have S2 := Aside0.mk (S1.out.step hb); clear hb)
      | (go_at_call 5; refine (grown_any w A c l HL.out HT.out HLN.out).mono ?_; rw [HGT.out]; rintro e w1 ⟨pb, mb1, rfl, hp, hm, hM, hb⟩; have S1 := Aside0.mk (show Stt w w1 pb mb1 T from ⟨hM, hb, hp, hm, HG.out⟩); clear hp hm hM hb))
    go_loopw [22] (fun v wr => ∃ k : Nat, Aside0 (k = 0 ∨ b.length + k ≤ o + d.length) ∧ Aside0 (Kd.R (Kd.int .u8) 5 wr w7.heap.size (fun _ => True) v (b ++ List.replicate k 0)) ∧ Aside0 (Below w7.heap.size w7 wr)) (fun v _ => o + d.length - lenV v)
    case atStart => exact ⟨0, ⟨.inl rfl⟩, ⟨show Kd.R (Kd.int .u8) 5 w8 w7.heap.size (fun _ => True) v1 (b ++ List.replicate 0 0) by rw [List.replicate_zero, List.append_nil]; exact R8.out⟩, FB8⟩
    case round =>
      obtain ⟨k, HK, HR, HF⟩ := hrel
      obtain ⟨G, hG⟩ : ∃ G, b ++ List.replicate k (0 : Int) = G := ⟨_, rfl⟩
      have hGl : G.length = b.length + k := by rw [← hG, List.length_append, List.length_replicate]
      rw [hG] at HR
      obtain ⟨Ax, cx, hv, hcx, hrx⟩ := Kd.R_reads HR.out
      obtain ⟨n, hn⟩ : ∃ n, G.length = n := ⟨_, rfl⟩
      have hn2 : n = b.length + k := hn.symm.trans hGl
      have HGL := Aside0.mk hn
      rw [hn] at hv hcx hrx
      subst hv
      have HN2 := Aside0.mk hn2
      have HGG := Aside0.mk hG
      have bo := HO1.out
      have bb := HBLN.out
      by_cases hk : n < o + d.length
      · have k1 : (n : Int) < (o : Int) + (d.length : Int) := by omega
        have HKK := Aside0.mk hk
        clear hk hn hGl hG hn2 hrx hcx
        go_wp2_with ((with_reducible refine gate_builtin (b := .append) (xs := #[.tmp 106, .tmp 107]) rfl ?_); at_builtin; refine Kd.R_append (Kd.int .u8) (w0 := w7) w7.heap.size rfl (.tmp 106) (.tmp 107) 23 5 (.int .u8 0) 1 rfl Tryd.underlying23 info5 rfl (by decide) (by omega) (.slice Ax n cx) G (0 : Int) [.int .u8 0] (fun _ => True) (fun _ => False) rfl rfl ?aP (fun _ hk => hk.elim) ?aF ?aO ?aB ?aS ?aL ?_; (case aP => exact rfl); (case aB => exact HF.out); (case aF => exact (fun _ _ => trivial)); (case aO => exact HR.out); (case aS => exact HF.out.size); (case aL => have := HGL.out; omega); intro v1 w9 ho hb hg hat; have HR9 := Aside0.mk ho; have HF9 := Aside0.mk hb; clear ho hb hg hat)
        go_roundw
        case rel =>
          refine ⟨k + 1, ⟨.inr ?_⟩, ⟨?_⟩, HF9⟩
          · have := HKK.out; have := HN2.out; omega
          · have := HR9.out
            rw [← HGG.out, List.append_assoc, show List.replicate k (0 : Int) ++ [0] = List.replicate (k + 1) 0 from List.replicate_succ'.symm] at this
            exact this
        case measure =>
          have := HKK.out
          have h9 := HR9.out
          obtain ⟨A9, c9, hv9⟩ := Kd.R_slice h9
          subst hv9
          simp only [lenV, List.length_append, List.length_cons, List.length_nil]
          have := HGL.out
          omega
      · have k1 : ¬ (n : Int) < (o : Int) + (d.length : Int) := by omega
        have hlay : G = cutB b (max b.length (o + d.length)) := by
          rw [cutB_long (by omega), ← hG]
          congr 2
          rcases HK.out with h | h
          · subst h; omega
          · have := hn2; omega
        have hnx : n = max b.length (o + d.length) := by rw [← hn, hlay, cutB_length]
        have hd0 := HD0.out
        have hown := Kd.own_of_R HR.out
        obtain ⟨g, cap, cur, hv2, hbg, hhg, hnc, hcm, hcs, htake⟩ : ∃ g cap cur, Value.slice Ax n cx = .slice (some ⟨g, 0, none⟩) n cap ∧ w7.heap.size ≤ g ∧ wr.heap[g]? = some (.cells cur 5 (0, 0)) ∧ n ≤ cap ∧ cap ≤ maxLen ∧ cur.size = cap ∧ cur.toList.take n = nu G := by
          rcases hown.2 with ⟨_, hx0⟩ | ⟨g, cap, cur, hv, hb, hh, hnc, hcm, hcs, htake⟩
          · omega
          · rw [hn] at hnc htake
            refine ⟨g, cap, cur, ?_, hb, hh, hnc, hcm, by omega, by have := htake; rw [Nat.mul_one] at this; exact this⟩
            injection hv with e1 e2 e3
            rw [e1, e3]
        injection hv2 with e1 e2 e3
        subst e1 e3
        have HGE := Aside0.mk hbg
        have HCUR := Aside0.mk hhg
        have HCS := Aside0.mk hcs
        have HNC := Aside0.mk hnc
        have HTK := Aside0.mk htake
        obtain ⟨b1, hb1⟩ : ∃ b1, layB b o d = b1 := ⟨_, rfl⟩
        have hb1l : b1.length = n := by rw [← hb1, layB_length, hnx]
        have HLAY := Aside0.mk (show splice (nu G) o (nu d) = nu b1 by rw [nu_splice, hlay]; show nu (layB b o d) = _; rw [hb1])
        have HB1 := HBW
        rw [hb1] at HB1
        have HB1L := Aside0.mk hb1l
        have e2 : (o : Int) ≤ (n : Int) := by omega
        have e3 : ¬ cx = o := by omega
        have HNO := Aside0.mk (show d.length ≤ n - o by omega)
        have HNO2 := Aside0.mk (show o + d.length ≤ n by omega)
        have HNB := Aside0.mk (show n ≤ 9223372036854775807 by omega)
        have ST := Aside0.mk (S7.out.step HF.out)
        have XT := Aside0.mk (X7.out.below HF.out)
        have hcxl : n ≤ cx := hnc
        clear hn hGl hG hn2 hrx hcx hlay hnx hown hbg hhg hnc hcm hcs htake hb1 hb1l hk
        rcases HB1.out.trunc size with ⟨y2, hx, z2⟩ | ⟨z0, z1, F2, c2, hx, hB2⟩
        · have HBX := HB1
          rcases hE with hE | hE
          · skip
            go_wp2_with (first
              | (have hz := S8.out; clear hz; go_at_call 8; refine (S8.out.read HT.out HBX.out.readQ).mono ?_; rintro e we ⟨B29, c29, rfl, hr, hc, hb⟩; have SE := Aside0.mk (S8.out.step hb); have XE := Aside0.mk (X8.out.below hb); have t0 : we.cell? ⟨g14, 0, none⟩ = some (.int .i64 sp.1) := (blk_cell XE.out.b14 0).trans rfl; have t1 : we.cell? ⟨g16, 0, none⟩ = some (.int .i64 sq.1) := (blk_cell XE.out.b16 0).trans rfl; have kb29 := str_of (c := c29) hr; have kb20 := str_of (c := c20) XE.out.r20; clear hr hc hb)
              | (have hz := SD.out; clear hz; go_at_call 10; refine (SD.out.trunc2 HT.out hx).mono ?_; rintro e w8 ⟨rfl, mbS8, hs, ht⟩; have S8 := Aside0.mk hs; have X8 := Aside0.mk (XD.out.turn SD.out.m ht); clear hs ht)
              | (have hz := SC.out; clear hz; go_at_call 8; refine (SC.out.read HT.out HB1.out.read).mono ?_; rintro e wd ⟨B23, c23, rfl, hr, hc, hb⟩; have SD := Aside0.mk (SC.out.step hb); have XD := Aside0.mk (XC.out.below hb); have RD := Aside0.mk (RC.out.below hb); have kb23 := str_of (c := c23) hr; have kb22 := str_of (c := cx) RD.out; clear hr hc hb)
              | (have hz := HCUR.out; clear hz; (with_reducible refine gate_dst (N := 113) rfl ?_); refine ev_copy rfl (.tmp 111) (.tmp 112) 23 23 rfl 5 Tryd.underlying23 sizeU8 (some ⟨g, o, none⟩) A4 (n - o) (cx - o) d.length c4 (by kernel_rfl) (by kernel_rfl) g o cur.toList 5 HCUR.out (nu d) (by rw [nu_length]; exact (Nat.min_eq_left HNO.out).symm) (fun h0 => ⟨rfl, reads_all XT.out.rd h0⟩) (by have h1 : cur.toList.length = cx := (Array.length_toList).trans HCS.out; rw [nu_length, h1]; have := HNO2.out; have := HNC.out; omega) (one_nums _ _) ?_; intro wc hbox hg; have FC := Aside0.mk (HF.out.grown hg HF.out.size (fun q e => by cases e; exact HGE.out)); have SC := Aside0.mk (S7.out.step FC.out); have XC := Aside0.mk (X7.out.below FC.out); have RC := Aside0.mk (splice_reads hbox (by rw [HCS.out]; exact HNC.out) HTK.out HLAY.out HNO2.out HB1L.out HNB.out); clear hbox hg))
            go_ret
            exact ⟨rfl, SE.out.b⟩
          · have hcc := HBX.out.k hE.2
            first | subst hcc | clear hcc
            have hE := hE.1
            go_wp2_with (first
              | (have hz := S8.out; clear hz; go_at_call 8; refine (S8.out.read HT.out HBX.out.readQ).mono ?_; rintro e we ⟨B29, c29, rfl, hr, hc, hb⟩; have SE := Aside0.mk (S8.out.step hb); have XE := Aside0.mk (X8.out.below hb); have t0 : we.cell? ⟨g14, 0, none⟩ = some (.int .i64 sp.1) := (blk_cell XE.out.b14 0).trans rfl; have t1 : we.cell? ⟨g16, 0, none⟩ = some (.int .i64 sq.1) := (blk_cell XE.out.b16 0).trans rfl; have kb29 := str_of (c := c29) hr; have kb20 := str_of (c := c20) XE.out.r20; clear hr hc hb)
              | (have hz := SD.out; clear hz; go_at_call 10; refine (SD.out.trunc2 HT.out hx).mono ?_; rintro e w8 ⟨rfl, mbS8, hs, ht⟩; have S8 := Aside0.mk hs; have X8 := Aside0.mk (XD.out.turn SD.out.m ht); clear hs ht)
              | (have hz := SC.out; clear hz; go_at_call 8; refine (SC.out.read HT.out HB1.out.read).mono ?_; rintro e wd ⟨B23, c23, rfl, hr, hc, hb⟩; have SD := Aside0.mk (SC.out.step hb); have XD := Aside0.mk (XC.out.below hb); have RD := Aside0.mk (RC.out.below hb); have kb23 := str_of (c := c23) hr; have kb22 := str_of (c := cx) RD.out; clear hr hc hb)
              | (have hz := HCUR.out; clear hz; (with_reducible refine gate_dst (N := 113) rfl ?_); refine ev_copy rfl (.tmp 111) (.tmp 112) 23 23 rfl 5 Tryd.underlying23 sizeU8 (some ⟨g, o, none⟩) A4 (n - o) (cx - o) d.length c4 (by kernel_rfl) (by kernel_rfl) g o cur.toList 5 HCUR.out (nu d) (by rw [nu_length]; exact (Nat.min_eq_left HNO.out).symm) (fun h0 => ⟨rfl, reads_all XT.out.rd h0⟩) (by have h1 : cur.toList.length = cx := (Array.length_toList).trans HCS.out; rw [nu_length, h1]; have := HNO2.out; have := HNC.out; omega) (one_nums _ _) ?_; intro wc hbox hg; have FC := Aside0.mk (HF.out.grown hg HF.out.size (fun q e => by cases e; exact HGE.out)); have SC := Aside0.mk (S7.out.step FC.out); have XC := Aside0.mk (X7.out.below FC.out); have RC := Aside0.mk (splice_reads hbox (by rw [HCS.out]; exact HNC.out) HTK.out HLAY.out HNO2.out HB1L.out HNB.out); clear hbox hg))
            go_ret
            exact ⟨rfl, SE.out.b⟩
        · obtain ⟨z, rfl⟩ : ∃ z : Nat, size = (z : Int) := ⟨size.toNat, by omega⟩
          rw [Int.toNat_natCast] at hB2
          have hfirst := cutB_take b1 z
          have hzero := fun k (h1 : n ≤ k) (h2 : k < z) => cutB_zero (b := b1) (n := z) (k := k) (Nat.le_trans (Nat.le_of_eq (show b1.length = n from HB1L.out)) h1) h2
          have hzz := fun m (h : z ≤ m) => drop_zeros (b := b1) h
          obtain ⟨b2, hb2⟩ : ∃ b2, cutB b1 z = b2 := ⟨_, rfl⟩
          have hb2l := cutB_length b1 z
          rw [hb2] at hB2 hfirst hzero hzz hb2l
          obtain rfl := hb2l
          have hm1 : b1.length = n := HB1L.out
          rw [hm1] at hfirst
          have HB2 := Aside0.mk hB2
          have HFI := Aside0.mk hfirst
          have HZE := Aside0.mk hzero
          have HZZ := Aside0.mk hzz
          obtain ⟨mn, hmn⟩ : ∃ mn : Nat, mn = min b2.length n := ⟨_, rfl⟩
          have emn : (if n < b2.length then ((n : Nat) : Int) else (b2.length : Int)) = (mn : Int) := by split <;> omega
          have HM1 := Aside0.mk (show mn ≤ b2.length by omega)
          have HM2 := Aside0.mk (show mn ≤ n by omega)
          rw [← hmn] at hfirst
          have HFI := Aside0.mk hfirst
          have HZ1 := Aside0.mk z1
          have HML := Aside0.mk (show n ≤ 3808 from hm1 ▸ HB1.out.len)
          have HMB := Aside0.mk hm1
          clear hB2 hfirst hzero hzz hb2 hmn z0 z1 hm1
          go_wp2_with (first
            | (have hz := S8.out; clear hz; go_at_call 8; refine (S8.out.read HT.out HB2.out.read).mono ?_; rintro e w9 ⟨B25, c25, rfl, hr, hc, hb⟩; have S9 := Aside0.mk (S8.out.step hb); have X9 := Aside0.mk (X8.out.below hb); have R9 := Aside0.mk (R8.out.below hb); have R25 := Aside0.mk hr; have C25 := Aside0.mk hc; clear hr hc hb)
            | (have hz := SD.out; clear hz; go_at_call 10; refine (SD.out.trunc2 HT.out hx).mono ?_; rintro e w8 ⟨rfl, mbS8, hs, ht⟩; have S8 := Aside0.mk hs; have X8 := Aside0.mk (XD.out.turn SD.out.m ht); have R8 := Aside0.mk (reads_turn RD.out ht SD.out.m.both); clear hs ht)
            | (have hz := SC.out; clear hz; go_at_call 8; refine (SC.out.read HT.out HB1.out.read).mono ?_; rintro e wd ⟨B23, c23, rfl, hr, hc, hb⟩; have SD := Aside0.mk (SC.out.step hb); have XD := Aside0.mk (XC.out.below hb); have RD := Aside0.mk (RC.out.below hb); have kb23 := str_of (c := c23) hr; have kb22 := str_of (c := cx) RD.out; clear hr hc hb)
            | (have hz := HCUR.out; clear hz; (with_reducible refine gate_dst (N := 113) rfl ?_); refine ev_copy rfl (.tmp 111) (.tmp 112) 23 23 rfl 5 Tryd.underlying23 sizeU8 (some ⟨g, o, none⟩) A4 (n - o) (cx - o) d.length c4 (by kernel_rfl) (by kernel_rfl) g o cur.toList 5 HCUR.out (nu d) (by rw [nu_length]; exact (Nat.min_eq_left HNO.out).symm) (fun h0 => ⟨rfl, reads_all XT.out.rd h0⟩) (by have h1 : cur.toList.length = cx := (Array.length_toList).trans HCS.out; rw [nu_length, h1]; have := HNO2.out; have := HNC.out; omega) (one_nums _ _) ?_; intro wc hbox hg; have FC := Aside0.mk (HF.out.grown hg HF.out.size (fun q e => by cases e; exact HGE.out)); have SC := Aside0.mk (S7.out.step FC.out); have XC := Aside0.mk (X7.out.below FC.out); have RC := Aside0.mk (splice_reads hbox (by rw [HCS.out]; exact HNC.out) HTK.out HLAY.out HNO2.out HB1L.out HNB.out); clear hbox hg))
          have hc25 : (mn : Int) ≤ (c25 : Int) := by have := C25.out; have := HM1.out; omega
          have hc18 : (mn : Int) ≤ (cx : Int) := by have := hcxl; have := HM2.out; omega
          have hmn0 : (0 : Int) ≤ (mn : Int) := Int.natCast_nonneg _
          refine wp_region_held_drew (S := fun W => Below w9.heap.size w9 W) (by kernel_rfl) (below_drew (Below.refl _ _)) (fun hHeld => ?_)
          refine wpAnyH_take (i := 0) (oi := ⟨some 141, _, _, _, _, _⟩) (v := (.int .i64 0)) rfl (by kernel_rfl) (by kernel_rfl) (by kernel_rfl) (fun _ _ _ h => h) (Or.inl ⟨by rfl, fun W hS => by go_simp⟩) hHeld ?_
          (try simp only [Act.put, List.setIfInBounds_toArray, List.set_cons_zero, List.set_cons_succ])
          refine wpAnyH_take (i := 1) (oi := ⟨some 142, _, _, _, _, _⟩) (v := (.bool false)) rfl (by kernel_rfl) (by kernel_rfl) (by kernel_rfl) (fun _ _ _ h => h) (Or.inl ⟨by rfl, fun W hS => by go_simp⟩) hHeld ?_
          (try simp only [Act.put, List.setIfInBounds_toArray, List.set_cons_zero, List.set_cons_succ])
          refine wpAnyH_take (i := 2) (oi := ⟨some 143, _, _, _, _, _⟩) (v := (.bool false)) rfl (by kernel_rfl) (by kernel_rfl) (by kernel_rfl) (fun _ _ _ h => h) (Or.inl ⟨by rfl, fun W hS => by go_simp⟩) hHeld ?_
          (try simp only [Act.put, List.setIfInBounds_toArray, List.set_cons_zero, List.set_cons_succ])
          refine wpAnyH_take (i := 3) (oi := ⟨some 144, _, _, _, _, _⟩) (v := (.slice B25 b2.length c25)) rfl (by kernel_rfl) (by kernel_rfl) (by kernel_rfl) (fun _ _ _ h => h) (Or.inl ⟨by rfl, fun W hS => by go_simp⟩) hHeld ?_
          (try simp only [Act.put, List.setIfInBounds_toArray, List.set_cons_zero, List.set_cons_succ])
          refine wpAnyH_take (i := 4) (oi := ⟨some 145, _, _, _, _, _⟩) (v := (.int .i64 (b2.length : Int))) rfl (by kernel_rfl) (by kernel_rfl) (by kernel_rfl) (fun _ _ _ h => h) (Or.inl ⟨by rfl, fun W hS => by go_simp⟩) hHeld ?_
          (try simp only [Act.put, List.setIfInBounds_toArray, List.set_cons_zero, List.set_cons_succ])
          refine wpAnyH_take (i := 5) (oi := ⟨some 146, _, _, _, _, _⟩) (v := (.int .i64 (b2.length : Int))) rfl (by kernel_rfl) (by kernel_rfl) (by kernel_rfl) (fun _ _ _ h => h) (Or.inl ⟨by rfl, fun W hS => by go_simp⟩) hHeld ?_
          (try simp only [Act.put, List.setIfInBounds_toArray, List.set_cons_zero, List.set_cons_succ])
          refine wpAnyH_take (i := 6) (oi := ⟨some 147, _, _, _, _, _⟩) (v := (.bool false)) rfl (by kernel_rfl) (by kernel_rfl) (by kernel_rfl) (fun _ _ _ h => h) (Or.inl ⟨by rfl, fun W hS => by go_simp⟩) hHeld ?_
          (try simp only [Act.put, List.setIfInBounds_toArray, List.set_cons_zero, List.set_cons_succ])
          refine wpAnyH_take (i := 7) (oi := ⟨some 148, _, _, _, _, _⟩) (v := (.bool false)) rfl (by kernel_rfl) (by kernel_rfl) (by kernel_rfl) (fun _ _ _ h => h) (Or.inl ⟨by rfl, fun W hS => by go_simp⟩) hHeld ?_
          (try simp only [Act.put, List.setIfInBounds_toArray, List.set_cons_zero, List.set_cons_succ])
          refine wpAnyH_take (i := 8) (oi := ⟨some 149, _, _, _, _, _⟩) (v := (.bool false)) rfl (by kernel_rfl) (by kernel_rfl) (by kernel_rfl) (fun _ _ _ h => h) (Or.inl ⟨by rfl, fun W hS => by go_simp⟩) hHeld ?_
          (try simp only [Act.put, List.setIfInBounds_toArray, List.set_cons_zero, List.set_cons_succ])
          refine wpAnyH_take (i := 9) (oi := ⟨some 150, _, _, _, _, _⟩) (v := (.slice B25 b2.length c25)) rfl (by kernel_rfl) (by kernel_rfl) (by kernel_rfl) (fun _ _ _ h => h) (Or.inl ⟨by rfl, fun W hS => by go_simp⟩) hHeld ?_
          (try simp only [Act.put, List.setIfInBounds_toArray, List.set_cons_zero, List.set_cons_succ])
          refine wpAnyH_take (i := 10) (oi := ⟨some 151, _, _, _, _, _⟩) (v := (.int .i64 (b2.length : Int))) rfl (by kernel_rfl) (by kernel_rfl) (by kernel_rfl) (fun _ _ _ h => h) (Or.inl ⟨by rfl, fun W hS => by go_simp⟩) hHeld ?_
          (try simp only [Act.put, List.setIfInBounds_toArray, List.set_cons_zero, List.set_cons_succ])
          refine wpAnyH_take (i := 11) (oi := ⟨some 152, _, _, _, _, _⟩) (v := (.slice (some ⟨g, 0, none⟩) n cx)) rfl (by kernel_rfl) (by kernel_rfl) (by kernel_rfl) (fun _ _ _ h => h) (Or.inl ⟨by rfl, fun W hS => by go_simp⟩) hHeld ?_
          (try simp only [Act.put, List.setIfInBounds_toArray, List.set_cons_zero, List.set_cons_succ])
          refine wpAnyH_take (i := 12) (oi := ⟨some 153, _, _, _, _, _⟩) (v := (.int .i64 (n : Int))) rfl (by kernel_rfl) (by kernel_rfl) (by kernel_rfl) (fun _ _ _ h => h) (Or.inl ⟨by rfl, fun W hS => by go_simp⟩) hHeld ?_
          (try simp only [Act.put, List.setIfInBounds_toArray, List.set_cons_zero, List.set_cons_succ])
          refine wpAnyH_take (i := 13) (oi := ⟨some 154, _, _, _, _, _⟩) (v := (.int .i64 (mn : Int))) rfl (by kernel_rfl) (by kernel_rfl) (by kernel_rfl) (fun _ _ _ h => h) (Or.inl ⟨by rfl, fun W hS => by go_simp⟩) hHeld ?_
          (try simp only [Act.put, List.setIfInBounds_toArray, List.set_cons_zero, List.set_cons_succ])
          refine wpAnyH_take (i := 14) (oi := ⟨some 155, _, _, _, _, _⟩) (v := (.slice B25 mn c25)) rfl (by kernel_rfl) (by kernel_rfl) (by kernel_rfl) (fun _ _ _ h => h) (Or.inl ⟨by rfl, fun W hS => by go_simp⟩) hHeld ?_
          (try simp only [Act.put, List.setIfInBounds_toArray, List.set_cons_zero, List.set_cons_succ])
          refine wpAnyH_take (i := 15) (oi := ⟨some 156, _, _, _, _, _⟩) (v := (.string (strOfNums (b2.take mn)))) rfl (by kernel_rfl) (by kernel_rfl) (by kernel_rfl) (fun _ _ _ h => h) (Or.inl ⟨by rfl, fun W hS => by have kk := str_of (c := c25) (reads_take (R25.out.below hS) HM1.out); go_simp⟩) hHeld ?_
          (try simp only [Act.put, List.setIfInBounds_toArray, List.set_cons_zero, List.set_cons_succ])
          refine wpAnyH_take (i := 16) (oi := ⟨some 157, _, _, _, _, _⟩) (v := (.slice (some ⟨g, 0, none⟩) n cx)) rfl (by kernel_rfl) (by kernel_rfl) (by kernel_rfl) (fun _ _ _ h => h) (Or.inl ⟨by rfl, fun W hS => by go_simp⟩) hHeld ?_
          (try simp only [Act.put, List.setIfInBounds_toArray, List.set_cons_zero, List.set_cons_succ])
          refine wpAnyH_take (i := 17) (oi := ⟨some 158, _, _, _, _, _⟩) (v := (.int .i64 (b2.length : Int))) rfl (by kernel_rfl) (by kernel_rfl) (by kernel_rfl) (fun _ _ _ h => h) (Or.inl ⟨by rfl, fun W hS => by go_simp⟩) hHeld ?_
          (try simp only [Act.put, List.setIfInBounds_toArray, List.set_cons_zero, List.set_cons_succ])
          refine wpAnyH_take (i := 18) (oi := ⟨some 159, _, _, _, _, _⟩) (v := (.slice (some ⟨g, 0, none⟩) n cx)) rfl (by kernel_rfl) (by kernel_rfl) (by kernel_rfl) (fun _ _ _ h => h) (Or.inl ⟨by rfl, fun W hS => by go_simp⟩) hHeld ?_
          (try simp only [Act.put, List.setIfInBounds_toArray, List.set_cons_zero, List.set_cons_succ])
          refine wpAnyH_take (i := 19) (oi := ⟨some 160, _, _, _, _, _⟩) (v := (.int .i64 (n : Int))) rfl (by kernel_rfl) (by kernel_rfl) (by kernel_rfl) (fun _ _ _ h => h) (Or.inl ⟨by rfl, fun W hS => by go_simp⟩) hHeld ?_
          (try simp only [Act.put, List.setIfInBounds_toArray, List.set_cons_zero, List.set_cons_succ])
          refine wpAnyH_take (i := 20) (oi := ⟨some 161, _, _, _, _, _⟩) (v := (.int .i64 (mn : Int))) rfl (by kernel_rfl) (by kernel_rfl) (by kernel_rfl) (fun _ _ _ h => h) (Or.inl ⟨by rfl, fun W hS => by go_simp⟩) hHeld ?_
          (try simp only [Act.put, List.setIfInBounds_toArray, List.set_cons_zero, List.set_cons_succ])
          refine wpAnyH_take (i := 21) (oi := ⟨some 162, _, _, _, _, _⟩) (v := (.slice (some ⟨g, 0, none⟩) mn cx)) rfl (by kernel_rfl) (by kernel_rfl) (by kernel_rfl) (fun _ _ _ h => h) (Or.inl ⟨by rfl, fun W hS => by go_simp⟩) hHeld ?_
          (try simp only [Act.put, List.setIfInBounds_toArray, List.set_cons_zero, List.set_cons_succ])
          refine wpAnyH_take (i := 22) (oi := ⟨some 163, _, _, _, _, _⟩) (v := (.string (strOfNums (b2.take mn)))) rfl (by kernel_rfl) (by kernel_rfl) (by kernel_rfl) (fun _ _ _ h => h) (Or.inl ⟨by rfl, fun W hS => by have kk := str_of (c := cx) (reads_take (R9.out.below hS) HM2.out); rw [← HFI.out] at kk; go_simp⟩) hHeld ?_
          (try simp only [Act.put, List.setIfInBounds_toArray, List.set_cons_zero, List.set_cons_succ])
          refine wpAnyH_take (i := 23) (oi := ⟨some 164, _, _, _, _, _⟩) (v := (.bool false)) rfl (by kernel_rfl) (by kernel_rfl) (by kernel_rfl) (fun _ _ _ h => h) (Or.inl ⟨by rfl, fun W hS => by go_simp⟩) hHeld ?_
          (try simp only [Act.put, List.setIfInBounds_toArray, List.set_cons_zero, List.set_cons_succ])
          refine wpAnyH_take (i := 24) (oi := ⟨some 165, _, _, _, _, _⟩) (v := (.bool false)) rfl (by kernel_rfl) (by kernel_rfl) (by kernel_rfl) (fun _ _ _ h => h) (Or.inl ⟨by rfl, fun W hS => by go_simp⟩) hHeld ?_
          (try simp only [Act.put, List.setIfInBounds_toArray, List.set_cons_zero, List.set_cons_succ])
          refine wpAnyH_done (by kernel_rfl) ?_ _
          have SA := Aside0.mk (S9.out.step hHeld)
          have XA := Aside0.mk (X9.out.below hHeld)
          have RA := Aside0.mk (R9.out.below hHeld)
          have R25A := Aside0.mk (R25.out.below hHeld)
          clear hHeld
          (try simp only [Exit.then])
          go_wp2
          go_loopw [27] (fun v wr => ∃ k : Nat, v = .int .i64 k ∧ Aside0 (n ≤ k) ∧ Aside0 (Stt w wr pb mbS8 F2) ∧ Aside0 (Cx wr g14 g16 sp sq B20 c0 A4 d) ∧ Aside0 (ReadsInt wr .u8 (some ⟨g, 0, none⟩) n b1) ∧ Aside0 (ReadsInt wr .u8 B25 b2.length b2)) (fun v _ => b2.length - (intOf v).toNat)
          case atStart => exact ⟨n, rfl, ⟨Nat.le_refl _⟩, SA, XA, RA, R25A⟩
          case round =>
            obtain ⟨k, rfl, HK, SK, XK, RK, R25K⟩ := hrel
            by_cases hk : k < b2.length
            · have k0 : (0 : Int) ≤ (k : Int) := Int.natCast_nonneg _
              have k1 : (k : Int) < (b2.length : Int) := by omega
              obtain ⟨ad, rfl, hq⟩ := R25K.out.at_ (k : Int) k0 k1
              have hz : rd b2 (k : Int) = 0 := by have := HZE.out k HK.out hk; unfold rd; rw [Int.toNat_natCast]; exact this
              rw [hz, Int.toNat_natCast] at hq
              have HKK := Aside0.mk hk
              have kw := HZ1.out
              clear hz hk
              go_wp2
              go_roundw
              case rel =>
                have hk := HKK.out
                refine ⟨k + 1, ?_, ⟨Nat.le_trans HK.out (Nat.le_succ _)⟩, SK, XK, RK, R25K⟩
                first | rfl | (congr 1; done) | (congr 1; omega) | (simp; done)
              case measure => have hk := HKK.out; simp only [intOf]; omega
            · have k1 : ¬ (k : Int) < (b2.length : Int) := by omega
              clear hk HK
              rcases HB2.out.trunc (n : Int) with ⟨y3, hy, z3⟩ | ⟨_, _, F3, c3, hy, hB3⟩
              · have HBY := HB2
                rcases hE with hE | hE
                · skip
                  go_wp2_with (first
                    | (have hz := SY.out; clear hz; go_at_call 8; refine (SY.out.read HT.out HBY.out.readQ).mono ?_; rintro e we ⟨B29, c29, rfl, hr, hc, hb⟩; have SE := Aside0.mk (SY.out.step hb); have XE := Aside0.mk (XY.out.below hb); have t0 : we.cell? ⟨g14, 0, none⟩ = some (.int .i64 sp.1) := (blk_cell XE.out.b14 0).trans rfl; have t1 : we.cell? ⟨g16, 0, none⟩ = some (.int .i64 sq.1) := (blk_cell XE.out.b16 0).trans rfl; have kb29 := str_of (c := c29) hr; have kb20 := str_of (c := c20) XE.out.r20; clear hr hc hb)
                    | (have hz := SK.out; clear hz; go_at_call 10; refine (SK.out.trunc2 HT.out hy).mono ?_; rintro e wy ⟨rfl, mbSY, hs, ht⟩; have SY := Aside0.mk hs; have XY := Aside0.mk (XK.out.turn SK.out.m ht); clear hs ht))
                  go_ret
                  exact ⟨rfl, SE.out.b⟩
                · have hcc := HBY.out.k hE.2
                  first | subst hcc | clear hcc
                  have hE := hE.1
                  go_wp2_with (first
                    | (have hz := SY.out; clear hz; go_at_call 8; refine (SY.out.read HT.out HBY.out.readQ).mono ?_; rintro e we ⟨B29, c29, rfl, hr, hc, hb⟩; have SE := Aside0.mk (SY.out.step hb); have XE := Aside0.mk (XY.out.below hb); have t0 : we.cell? ⟨g14, 0, none⟩ = some (.int .i64 sp.1) := (blk_cell XE.out.b14 0).trans rfl; have t1 : we.cell? ⟨g16, 0, none⟩ = some (.int .i64 sq.1) := (blk_cell XE.out.b16 0).trans rfl; have kb29 := str_of (c := c29) hr; have kb20 := str_of (c := c20) XE.out.r20; clear hr hc hb)
                    | (have hz := SK.out; clear hz; go_at_call 10; refine (SK.out.trunc2 HT.out hy).mono ?_; rintro e wy ⟨rfl, mbSY, hs, ht⟩; have SY := Aside0.mk hs; have XY := Aside0.mk (XK.out.turn SK.out.m ht); clear hs ht))
                  go_ret
                  exact ⟨rfl, SE.out.b⟩
              · rw [Int.toNat_natCast] at hB3
                have HBY := Aside0.mk hB3
                clear hB3
                by_cases hs : b2.length < n
                · have hs1 : (b2.length : Int) < (n : Int) := by omega
                  have hrd := HBY.out.readAt (off := (b2.length : Int)) (Int.natCast_nonneg _)
                  rw [Int.toNat_natCast, HZZ.out n (Nat.le_of_lt hs)] at hrd
                  obtain ⟨Z, hZ⟩ : ∃ Z, List.replicate (n - b2.length) (0 : Int) = Z := ⟨_, rfl⟩
                  rw [hZ] at hrd
                  have HZL := Aside0.mk (show ∀ k : Nat, rd Z (k : Int) = 0 from fun k => by rw [← hZ]; unfold rd; rw [Int.toNat_natCast, List.getD_eq_getElem?_getD, List.getElem?_replicate]; split <;> rfl)
                  have HZW := Aside0.mk (show Z.length ≤ 3808 from by rw [← hZ, List.length_replicate]; have := HML.out; omega)
                  clear hZ hs
                  go_wp2_with (first
                    | (have hz := SY.out; clear hz; go_at_call 8; refine (SY.out.read HT.out hrd).mono ?_; rintro e wz ⟨BZ, cZ, rfl, hr, hc, hb⟩; have SZ := Aside0.mk (SY.out.step hb); have XZ := Aside0.mk (XY.out.below hb); have RZ := Aside0.mk hr; clear hr hc hb)
                    | (have hz := SK.out; clear hz; go_at_call 10; refine (SK.out.trunc2 HT.out hy).mono ?_; rintro e wy ⟨rfl, mbSY, hs, ht⟩; have SY := Aside0.mk hs; have XY := Aside0.mk (XK.out.turn SK.out.m ht); clear hs ht))
                  go_loopw [28] (fun v wr => ∃ k : Nat, v = .int .i64 k ∧ Aside0 (Stt w wr pb mbSY F3) ∧ Aside0 (Cx wr g14 g16 sp sq B20 c0 A4 d) ∧ Aside0 (ReadsInt wr .u8 BZ Z.length Z)) (fun v _ => Z.length - (intOf v).toNat)
                  case atStart => exact ⟨0, rfl, SZ, XZ, RZ⟩
                  case round =>
                    obtain ⟨j, rfl, SJ, XJ, RJ⟩ := hrel
                    by_cases hj : j < Z.length
                    · have j0 : (0 : Int) ≤ (j : Int) := Int.natCast_nonneg _
                      have j1 : (j : Int) < (Z.length : Int) := by omega
                      obtain ⟨ad, rfl, hq⟩ := RJ.out.at_ (j : Int) j0 j1
                      rw [HZL.out j, Int.toNat_natCast] at hq
                      have HJJ := Aside0.mk hj
                      have jw := HZW.out
                      clear hj
                      go_wp2
                      go_roundw
                      case rel =>
                        refine ⟨j + 1, ?_, SJ, XJ, RJ⟩
                        have hj := HJJ.out
                        first | rfl | (congr 1; done) | (congr 1; omega) | (simp; done)
                      case measure => have hj := HJJ.out; simp only [intOf]; omega
                    · have j1 : ¬ (j : Int) < (Z.length : Int) := by omega
                      clear hj
                      rcases hE with hE | hE
                      · skip
                        go_wp2_with (first
                          | (have hz := SJ.out; clear hz; go_at_call 8; refine (SJ.out.read HT.out HBY.out.readQ).mono ?_; rintro e we ⟨B29, c29, rfl, hr, hc, hb⟩; have SE := Aside0.mk (SJ.out.step hb); have XE := Aside0.mk (XJ.out.below hb); have t0 : we.cell? ⟨g14, 0, none⟩ = some (.int .i64 sp.1) := (blk_cell XE.out.b14 0).trans rfl; have t1 : we.cell? ⟨g16, 0, none⟩ = some (.int .i64 sq.1) := (blk_cell XE.out.b16 0).trans rfl; have kb29 := str_of (c := c29) hr; have kb20 := str_of (c := c20) XE.out.r20; clear hr hc hb))
                        go_ret
                        exact ⟨rfl, SE.out.b⟩
                      · have hcc := HBY.out.k hE.2
                        first | subst hcc | clear hcc
                        have hE := hE.1
                        go_wp2_with (first
                          | (have hz := SJ.out; clear hz; go_at_call 8; refine (SJ.out.read HT.out HBY.out.readQ).mono ?_; rintro e we ⟨B29, c29, rfl, hr, hc, hb⟩; have SE := Aside0.mk (SJ.out.step hb); have XE := Aside0.mk (XJ.out.below hb); have t0 : we.cell? ⟨g14, 0, none⟩ = some (.int .i64 sp.1) := (blk_cell XE.out.b14 0).trans rfl; have t1 : we.cell? ⟨g16, 0, none⟩ = some (.int .i64 sq.1) := (blk_cell XE.out.b16 0).trans rfl; have kb29 := str_of (c := c29) hr; have kb20 := str_of (c := c20) XE.out.r20; clear hr hc hb))
                        go_ret
                        exact ⟨rfl, SE.out.b⟩
                · have hs1 : ¬ (b2.length : Int) < (n : Int) := by omega
                  clear hs
                  rcases hE with hE | hE
                  · skip
                    go_wp2_with (first
                      | (have hz := SY.out; clear hz; go_at_call 8; refine (SY.out.read HT.out HBY.out.readQ).mono ?_; rintro e we ⟨B29, c29, rfl, hr, hc, hb⟩; have SE := Aside0.mk (SY.out.step hb); have XE := Aside0.mk (XY.out.below hb); have t0 : we.cell? ⟨g14, 0, none⟩ = some (.int .i64 sp.1) := (blk_cell XE.out.b14 0).trans rfl; have t1 : we.cell? ⟨g16, 0, none⟩ = some (.int .i64 sq.1) := (blk_cell XE.out.b16 0).trans rfl; have kb29 := str_of (c := c29) hr; have kb20 := str_of (c := c20) XE.out.r20; clear hr hc hb)
                      | (have hz := SK.out; clear hz; go_at_call 10; refine (SK.out.trunc2 HT.out hy).mono ?_; rintro e wy ⟨rfl, mbSY, hs, ht⟩; have SY := Aside0.mk hs; have XY := Aside0.mk (XK.out.turn SK.out.m ht); clear hs ht))
                    go_ret
                    exact ⟨rfl, SE.out.b⟩
                  · have hcc := HBY.out.k hE.2
                    first | subst hcc | clear hcc
                    have hE := hE.1
                    go_wp2_with (first
                      | (have hz := SY.out; clear hz; go_at_call 8; refine (SY.out.read HT.out HBY.out.readQ).mono ?_; rintro e we ⟨B29, c29, rfl, hr, hc, hb⟩; have SE := Aside0.mk (SY.out.step hb); have XE := Aside0.mk (XY.out.below hb); have t0 : we.cell? ⟨g14, 0, none⟩ = some (.int .i64 sp.1) := (blk_cell XE.out.b14 0).trans rfl; have t1 : we.cell? ⟨g16, 0, none⟩ = some (.int .i64 sq.1) := (blk_cell XE.out.b16 0).trans rfl; have kb29 := str_of (c := c29) hr; have kb20 := str_of (c := c20) XE.out.r20; clear hr hc hb)
                      | (have hz := SK.out; clear hz; go_at_call 10; refine (SK.out.trunc2 HT.out hy).mono ?_; rintro e wy ⟨rfl, mbSY, hs, ht⟩; have SY := Aside0.mk hs; have XY := Aside0.mk (XK.out.turn SK.out.m ht); clear hs ht))
                    go_ret
                    exact ⟨rfl, SE.out.b⟩
end Go.Proofs.YtcmcmkfoihlniaaDoor.MM
end
