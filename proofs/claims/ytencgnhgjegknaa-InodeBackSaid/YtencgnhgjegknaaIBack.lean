/- InodeBack. -/
import Derived.Test.YtencgnhgjegknaaIWakes
namespace Go.Proofs.YtencgnhgjegknaaX
open Go.RowKit Go.Proofs.YtencgnhgjegknaaW.PrintWords
set_option linter.unusedVariables false
theorem may_small {a k s l p : Int} {ds : List Int} (h : mayB a k s l ds p = true) : (1 ≤ a ∧ a ≤ 64) ∧ (k = 1 ∨ k = 2) ∧ (0 ≤ s ∧ s ≤ 3808) ∧ (1 ≤ l ∧ l ≤ 64) := by
  have hr : RangeOk a k s l := by
    by_cases hr : RangeOk a k s l
    · exact hr
    · rw [may_no hr] at h; cases h
  obtain ⟨h1, h2, h3, h4, h5, h6, h7⟩ := hr
  unfold maxSize at h4
  unfold maxLinks at h6
  refine ⟨⟨h1, h2⟩, ?_, ⟨h3, ?_⟩, ⟨h5, ?_⟩⟩
  · rcases h7 with h | ⟨h, _⟩
    · exact .inl h
    · exact .inr h
  · split at h4 <;> omega
  · split at h6 <;> omega
section
variable (a k s l d0 d1 d2 d3 d4 d5 p : Int)
theorem fld0 : accN (encI a k s l d0 d1 d2 d3 d4 d5 p) 2 = ((0 * 256 + (a % 4294967296) / 256 % 256) * 256 + (a % 4294967296) / 1 % 256) := by rfl
theorem fld1 : accN ((encI a k s l d0 d1 d2 d3 d4 d5 p).drop 2) 1 = (0 * 256 + (k % 4294967296) / 1 % 256) := by rfl
theorem fld2 : accN ((encI a k s l d0 d1 d2 d3 d4 d5 p).drop 3) 1 = (0 * 256 + (l % 4294967296) / 1 % 256) := by rfl
theorem fld3 : accN ((encI a k s l d0 d1 d2 d3 d4 d5 p).drop 4) 2 = ((0 * 256 + (s % 4294967296) / 256 % 256) * 256 + (s % 4294967296) / 1 % 256) := by rfl
theorem fld4 : accN ((encI a k s l d0 d1 d2 d3 d4 d5 p).drop 6) 4 = ((((0 * 256 + d0 / 16777216 % 256) * 256 + d0 / 65536 % 256) * 256 + d0 / 256 % 256) * 256 + d0 / 1 % 256) := by rfl
theorem fld5 : accN ((encI a k s l d0 d1 d2 d3 d4 d5 p).drop 10) 4 = ((((0 * 256 + d1 / 16777216 % 256) * 256 + d1 / 65536 % 256) * 256 + d1 / 256 % 256) * 256 + d1 / 1 % 256) := by rfl
theorem fld6 : accN ((encI a k s l d0 d1 d2 d3 d4 d5 p).drop 14) 4 = ((((0 * 256 + d2 / 16777216 % 256) * 256 + d2 / 65536 % 256) * 256 + d2 / 256 % 256) * 256 + d2 / 1 % 256) := by rfl
theorem fld7 : accN ((encI a k s l d0 d1 d2 d3 d4 d5 p).drop 18) 4 = ((((0 * 256 + d3 / 16777216 % 256) * 256 + d3 / 65536 % 256) * 256 + d3 / 256 % 256) * 256 + d3 / 1 % 256) := by rfl
theorem fld8 : accN ((encI a k s l d0 d1 d2 d3 d4 d5 p).drop 22) 4 = ((((0 * 256 + d4 / 16777216 % 256) * 256 + d4 / 65536 % 256) * 256 + d4 / 256 % 256) * 256 + d4 / 1 % 256) := by rfl
theorem fld9 : accN ((encI a k s l d0 d1 d2 d3 d4 d5 p).drop 26) 4 = ((((0 * 256 + d5 / 16777216 % 256) * 256 + d5 / 65536 % 256) * 256 + d5 / 256 % 256) * 256 + d5 / 1 % 256) := by rfl
theorem fld10 : accN ((encI a k s l d0 d1 d2 d3 d4 d5 p).drop 30) 4 = ((((0 * 256 + p / 16777216 % 256) * 256 + p / 65536 % 256) * 256 + p / 256 % 256) * 256 + p / 1 % 256) := by rfl
theorem take_put (hm : mayB a k s l [d0, d1, d2, d3, d4, d5] p = true) (hx : (0 ≤ d0 ∧ d0 < 4294967296) ∧ (0 ≤ d1 ∧ d1 < 4294967296) ∧ (0 ≤ d2 ∧ d2 < 4294967296) ∧ (0 ≤ d3 ∧ d3 < 4294967296) ∧ (0 ≤ d4 ∧ d4 < 4294967296) ∧ (0 ≤ d5 ∧ d5 < 4294967296) ∧ (0 ≤ p ∧ p < 4294967296)) : takeR (encI a k s l d0 d1 d2 d3 d4 d5 p) = (inoCells a k s l d0 d1 d2 d3 d4 d5 p, 0) := by
  obtain ⟨h1, h2, h3, h4⟩ := may_small hm
  obtain ⟨x0, x1, x2, x3, x4, x5, x6⟩ := hx
  have e0 : accN (encI a k s l d0 d1 d2 d3 d4 d5 p) 2 = a := by rw [fld0]; omega
  have e1 : accN ((encI a k s l d0 d1 d2 d3 d4 d5 p).drop 2) 1 = k := by rw [fld1]; omega
  have e2 : accN ((encI a k s l d0 d1 d2 d3 d4 d5 p).drop 3) 1 = l := by rw [fld2]; omega
  have e3 : accN ((encI a k s l d0 d1 d2 d3 d4 d5 p).drop 4) 2 = s := by rw [fld3]; omega
  have e4 : accN ((encI a k s l d0 d1 d2 d3 d4 d5 p).drop 6) 4 % 4294967296 = d0 := by rw [fld4]; omega
  have e5 : accN ((encI a k s l d0 d1 d2 d3 d4 d5 p).drop 10) 4 % 4294967296 = d1 := by rw [fld5]; omega
  have e6 : accN ((encI a k s l d0 d1 d2 d3 d4 d5 p).drop 14) 4 % 4294967296 = d2 := by rw [fld6]; omega
  have e7 : accN ((encI a k s l d0 d1 d2 d3 d4 d5 p).drop 18) 4 % 4294967296 = d3 := by rw [fld7]; omega
  have e8 : accN ((encI a k s l d0 d1 d2 d3 d4 d5 p).drop 22) 4 % 4294967296 = d4 := by rw [fld8]; omega
  have e9 : accN ((encI a k s l d0 d1 d2 d3 d4 d5 p).drop 26) 4 % 4294967296 = d5 := by rw [fld9]; omega
  have e10 : accN ((encI a k s l d0 d1 d2 d3 d4 d5 p).drop 30) 4 % 4294967296 = p := by rw [fld10]; omega
  unfold takeR
  rw [if_neg (by rw [encI_length]; decide), if_neg (by rw [encI_length]; decide), e0, e1, e2, e3, e4, e5, e6, e7, e8, e9, e10, hm, decide_eq_true rfl]
  rfl
end
theorem take_cases (L : List Int) (h : ∀ x ∈ L, 0 ≤ x ∧ x < 256) :
    (L.length < 112 ∧ takeR L = (inoCells 0 0 0 0 0 0 0 0 0 0 0, 4)) ∨ (112 < L.length ∧ takeR L = (inoCells 0 0 0 0 0 0 0 0 0 0 0, 3)) ∨ (L.length = 112 ∧ takeR L = (inoCells 0 0 0 0 0 0 0 0 0 0 0, 5)) ∨
    (L.length = 112 ∧ ∃ a k s l d0 d1 d2 d3 d4 d5 p, takeR L = (inoCells a k s l d0 d1 d2 d3 d4 d5 p, 0) ∧ mayB a k s l [d0, d1, d2, d3, d4, d5] p = true ∧ encI a k s l d0 d1 d2 d3 d4 d5 p = L ∧ ((0 ≤ d0 ∧ d0 < 4294967296) ∧ (0 ≤ d1 ∧ d1 < 4294967296) ∧ (0 ≤ d2 ∧ d2 < 4294967296) ∧ (0 ≤ d3 ∧ d3 < 4294967296) ∧ (0 ≤ d4 ∧ d4 < 4294967296) ∧ (0 ≤ d5 ∧ d5 < 4294967296) ∧ (0 ≤ p ∧ p < 4294967296))) := by
  by_cases h1 : L.length < 112
  · exact .inl ⟨h1, by unfold takeR; rw [if_pos h1]⟩
  · by_cases h2 : 112 < L.length
    · exact .inr (.inl ⟨h2, by unfold takeR; rw [if_neg h1, if_pos h2]⟩)
    · have h3 : L.length = 112 := by omega
      by_cases h4 : (mayB (accN L 2) (accN (L.drop 2) 1) (accN (L.drop 4) 2) (accN (L.drop 3) 1) [(accN (L.drop 6) 4 % 4294967296), (accN (L.drop 10) 4 % 4294967296), (accN (L.drop 14) 4 % 4294967296), (accN (L.drop 18) 4 % 4294967296), (accN (L.drop 22) 4 % 4294967296), (accN (L.drop 26) 4 % 4294967296)] (accN (L.drop 30) 4 % 4294967296) && decide (encI (accN L 2) (accN (L.drop 2) 1) (accN (L.drop 4) 2) (accN (L.drop 3) 1) (accN (L.drop 6) 4 % 4294967296) (accN (L.drop 10) 4 % 4294967296) (accN (L.drop 14) 4 % 4294967296) (accN (L.drop 18) 4 % 4294967296) (accN (L.drop 22) 4 % 4294967296) (accN (L.drop 26) 4 % 4294967296) (accN (L.drop 30) 4 % 4294967296) = L)) = true
      · refine .inr (.inr (.inr ⟨h3, _, _, _, _, _, _, _, _, _, _, _, by unfold takeR; rw [if_neg h1, if_neg h2, if_pos h4], ?_, ?_, ?_⟩))
        · exact (Bool.and_eq_true_iff.1 h4).1
        · exact of_decide_eq_true (Bool.and_eq_true_iff.1 h4).2
        · refine ⟨?_, ?_, ?_, ?_, ?_, ?_, ?_⟩ <;> constructor <;> omega
      · exact .inr (.inr (.inl ⟨h3, by unfold takeR; rw [if_neg h1, if_neg h2, if_neg h4]⟩))
theorem may_s {a k s l p : Int} {ds : List Int} (h : mayB a k s l ds p = true) : s ≤ 9223372036854775807 := by have := (may_small h).2.2.1; omega
set_option maxHeartbeats 2000000 in
set_option maxRecDepth 100000 in
theorem iback_no (a k s l d0 d1 d2 d3 d4 d5 p : Int)     (c : Nat) (n : Nat) (A : Option Addr) (L : List Int) (w : World) (hc : n ≤ c) (hc63 : c ≤ 9223372036854775807) (hr : ReadsInt w .u8 A n L) (hL : ∀ x ∈ L, 0 ≤ x ∧ x < 256) (hs : s ≤ 9223372036854775807) (hm : mayB a k s l [d0, d1, d2, d3, d4, d5] p = false) :
    Calls Try.prog 5 #[.agg (inoCells a k s l d0 d1 d2 d3 d4 d5 p), .slice A n c] w fun e w' => e = .returned (.bool true) ∧ Below w.heap.size w w' := by
  have hu25 := Aside0.mk Try.underlying25
  have HC := Aside0.mk hc
  have HC63 := Aside0.mk hc63
  have R0 := Aside0.mk hr
  have HL := Aside0.mk hL
  clear hc hc63 hr hL
  have HM := Aside0.mk hm
  clear hm
  go_enter Try.func5, Try.ntmps5
  go_wp2_with (first | ((with_reducible refine gate_dst (N := 2) rfl ?_); refine box_event ?hg (N := 2) ?hd (cs := inoCells a k s l d0 d1 d2 d3 d4 d5 p) (t := 25) ?hr ?_; (case hd => rfl); (case hg => rfl); (case hr => first | (go_simp; done) | (go_simp; rfl)); intro gb hg w1 hbox hb; have HB1 := Aside0.mk (hb); have BK1 := Aside0.mk (hbox); have GB := Aside0.mk (Nat.le_of_eq hg.symm); clear hb hbox hg) | ((with_reducible refine gate_dst (N := 14) rfl ?_); refine wpList_load_row rfl 25 (.tmp 2) (by kernel_rfl) gb (by kernel_rfl) _ _ _ _ BK1.out hu25.out rfl sizeInode ?_) | (go_at_call 8; refine (put_no a k s l d0 d1 d2 d3 d4 d5 p _ hs HM.out).mono ?_; rintro e w2 ⟨rfl, hb⟩; have HB2 := Aside0.mk (below_step HB1.out hb); have BK2 := Aside0.mk (blk_below BK1.out hb); clear hb) | ((with_reducible refine gate_dst (N := 20) rfl ?_); refine wpList_load_row rfl 25 (.tmp 2) (by kernel_rfl) gb (by kernel_rfl) _ _ _ _ BK2.out hu25.out rfl sizeInode ?_) | (go_at_call 12; refine (may_any a k s l d0 d1 d2 d3 d4 d5 p _ hs).mono ?_; rw [HM.out]; rintro e w3 ⟨rfl, hb⟩; have HB3 := Aside0.mk (below_step HB2.out hb); clear hb))
  rcases take_cases L HL.out with ⟨hl, ht⟩ | ⟨hl, ht⟩ | ⟨hl, ht⟩ | ⟨hl, fa, fk, fs, fl, f0, f1, f2, f3, f4, f5, fp, ht, fm, fe, fx⟩
  · refine (itake_any A n c L _ HC.out HC63.out (R0.out.below HB3.out) HL.out).mono ?_
    rw [ht]
    rintro e wt ⟨rfl, hb⟩
    have HBt := Aside0.mk (below_step HB3.out hb)
    rw [R0.out.1] at hl
    clear hb ht
    have f1 : (n : Int) < 112 := by omega
    have f2 : decide ((n : Int) < 112) = true := decide_eq_true f1
    have f3 : decide ((112 : Int) < (n : Int)) = false := decide_eq_false (by omega)
    have EZ := fun W : World => (ino_eql W 0 0 0 0 0 0 0 0 0 0 0 0 0 0 0 0 0 0 0 0 0 0).trans (show _ = Result.ok (Value.bool true) W from rfl)
    clear hl
    go_wp2_with (first | ((with_reducible refine gate_dst (N := 9) rfl ?_); refine box_event ?hg (N := 9) ?hd (cs := inoCells 0 0 0 0 0 0 0 0 0 0 0) (t := 25) ?hr ?_; (case hd => rfl); (case hg => rfl); (case hr => first | (go_simp; done) | (go_simp; rfl)); intro g9 hg wa hbox hb; have G9 := Aside0.mk (show w.heap.size ≤ g9 from by have := HBt.out.size; omega); have H9 := Aside0.mk (show wt.heap.size ≤ g9 from by omega); have HBa := Aside0.mk (below_step HBt.out hb); have KBa := Aside0.mk (hb); have B9 := Aside0.mk (hbox); clear hb hbox hg) | ((with_reducible refine gate_store (t := 25) (p := 9) (v := .tmp 58) rfl ?_); refine ev_store_row (by rfl) 25 (.tmp 9) (.tmp 58) (by rfl) g9 (inoCells 0 0 0 0 0 0 0 0 0 0 0) (by kernel_rfl) (by kernel_rfl) 25 _ B9.out sizeInode (by rfl) (ino_all _ _ _ _ _ _ _ _ _ _ _) ?_; intro wb hbox hg; have HBb := Aside0.mk (pw_below_grown HBa.out _ HBa.out.size hg (fun q e => by cases e; exact G9.out)); have B9b := Aside0.mk (hbox); clear hbox hg) | ((with_reducible refine gate_dst (N := 62) rfl ?_); refine wpList_load_row rfl 25 (.tmp 9) (by kernel_rfl) g9 (by kernel_rfl) _ _ _ _ B9b.out hu25.out rfl sizeInode ?_) | (go_at_call 16; refine (wakes_true _).mono ?_; rintro e wz ⟨rfl, hb⟩; have HBz := Aside0.mk (below_step HBb.out hb); clear hb))
    go_ret
    exact ⟨rfl, HBz.out⟩
  · refine (itake_any A n c L _ HC.out HC63.out (R0.out.below HB3.out) HL.out).mono ?_
    rw [ht]
    rintro e wt ⟨rfl, hb⟩
    have HBt := Aside0.mk (below_step HB3.out hb)
    rw [R0.out.1] at hl
    clear hb ht
    have f1 : (112 : Int) < (n : Int) := by omega
    have f2 : decide ((112 : Int) < (n : Int)) = true := decide_eq_true f1
    have f3 : decide ((n : Int) < 112) = false := decide_eq_false (by omega)
    have EZ := fun W : World => (ino_eql W 0 0 0 0 0 0 0 0 0 0 0 0 0 0 0 0 0 0 0 0 0 0).trans (show _ = Result.ok (Value.bool true) W from rfl)
    clear hl
    go_wp2_with (first | ((with_reducible refine gate_dst (N := 9) rfl ?_); refine box_event ?hg (N := 9) ?hd (cs := inoCells 0 0 0 0 0 0 0 0 0 0 0) (t := 25) ?hr ?_; (case hd => rfl); (case hg => rfl); (case hr => first | (go_simp; done) | (go_simp; rfl)); intro g9 hg wa hbox hb; have G9 := Aside0.mk (show w.heap.size ≤ g9 from by have := HBt.out.size; omega); have H9 := Aside0.mk (show wt.heap.size ≤ g9 from by omega); have HBa := Aside0.mk (below_step HBt.out hb); have KBa := Aside0.mk (hb); have B9 := Aside0.mk (hbox); clear hb hbox hg) | ((with_reducible refine gate_store (t := 25) (p := 9) (v := .tmp 58) rfl ?_); refine ev_store_row (by rfl) 25 (.tmp 9) (.tmp 58) (by rfl) g9 (inoCells 0 0 0 0 0 0 0 0 0 0 0) (by kernel_rfl) (by kernel_rfl) 25 _ B9.out sizeInode (by rfl) (ino_all _ _ _ _ _ _ _ _ _ _ _) ?_; intro wb hbox hg; have HBb := Aside0.mk (pw_below_grown HBa.out _ HBa.out.size hg (fun q e => by cases e; exact G9.out)); have B9b := Aside0.mk (hbox); clear hbox hg) | ((with_reducible refine gate_dst (N := 62) rfl ?_); refine wpList_load_row rfl 25 (.tmp 9) (by kernel_rfl) g9 (by kernel_rfl) _ _ _ _ B9b.out hu25.out rfl sizeInode ?_) | (go_at_call 16; refine (wakes_true _).mono ?_; rintro e wz ⟨rfl, hb⟩; have HBz := Aside0.mk (below_step HBb.out hb); clear hb))
    go_ret
    exact ⟨rfl, HBz.out⟩
  · refine (itake_any A n c L _ HC.out HC63.out (R0.out.below HB3.out) HL.out).mono ?_
    rw [ht]
    rintro e wt ⟨rfl, hb⟩
    have HBt := Aside0.mk (below_step HB3.out hb)
    rw [R0.out.1] at hl
    clear hb ht
    subst hl
    have EZ := fun W : World => (ino_eql W 0 0 0 0 0 0 0 0 0 0 0 0 0 0 0 0 0 0 0 0 0 0).trans (show _ = Result.ok (Value.bool true) W from rfl)
    go_wp2_with (first | ((with_reducible refine gate_dst (N := 9) rfl ?_); refine box_event ?hg (N := 9) ?hd (cs := inoCells 0 0 0 0 0 0 0 0 0 0 0) (t := 25) ?hr ?_; (case hd => rfl); (case hg => rfl); (case hr => first | (go_simp; done) | (go_simp; rfl)); intro g9 hg wa hbox hb; have G9 := Aside0.mk (show w.heap.size ≤ g9 from by have := HBt.out.size; omega); have H9 := Aside0.mk (show wt.heap.size ≤ g9 from by omega); have HBa := Aside0.mk (below_step HBt.out hb); have KBa := Aside0.mk (hb); have B9 := Aside0.mk (hbox); clear hb hbox hg) | ((with_reducible refine gate_store (t := 25) (p := 9) (v := .tmp 58) rfl ?_); refine ev_store_row (by rfl) 25 (.tmp 9) (.tmp 58) (by rfl) g9 (inoCells 0 0 0 0 0 0 0 0 0 0 0) (by kernel_rfl) (by kernel_rfl) 25 _ B9.out sizeInode (by rfl) (ino_all _ _ _ _ _ _ _ _ _ _ _) ?_; intro wb hbox hg; have HBb := Aside0.mk (pw_below_grown HBa.out _ HBa.out.size hg (fun q e => by cases e; exact G9.out)); have B9b := Aside0.mk (hbox); clear hbox hg) | ((with_reducible refine gate_dst (N := 62) rfl ?_); refine wpList_load_row rfl 25 (.tmp 9) (by kernel_rfl) g9 (by kernel_rfl) _ _ _ _ B9b.out hu25.out rfl sizeInode ?_) | (go_at_call 16; refine (wakes_true _).mono ?_; rintro e wz ⟨rfl, hb⟩; have HBz := Aside0.mk (below_step HBb.out hb); clear hb))
    go_ret
    exact ⟨rfl, HBz.out⟩
  · refine (itake_any A n c L _ HC.out HC63.out (R0.out.below HB3.out) HL.out).mono ?_
    rw [ht]
    rintro e wt ⟨rfl, hb⟩
    have HBt := Aside0.mk (below_step HB3.out hb)
    rw [R0.out.1] at hl
    clear hb ht
    subst hl
    have FM := Aside0.mk fm
    have FE := Aside0.mk fe
    have FX := Aside0.mk fx
    clear fm fe fx
    go_wp2_with (first | ((with_reducible refine gate_dst (N := 9) rfl ?_); refine box_event ?hg (N := 9) ?hd (cs := inoCells 0 0 0 0 0 0 0 0 0 0 0) (t := 25) ?hr ?_; (case hd => rfl); (case hg => rfl); (case hr => first | (go_simp; done) | (go_simp; rfl)); intro g9 hg wa hbox hb; have G9 := Aside0.mk (show w.heap.size ≤ g9 from by have := HBt.out.size; omega); have H9 := Aside0.mk (show wt.heap.size ≤ g9 from by omega); have HBa := Aside0.mk (below_step HBt.out hb); have KBa := Aside0.mk (hb); have B9 := Aside0.mk (hbox); clear hb hbox hg) | ((with_reducible refine gate_store (t := 25) (p := 9) (v := .tmp 58) rfl ?_); refine ev_store_row (by rfl) 25 (.tmp 9) (.tmp 58) (by rfl) g9 (inoCells fa fk fs fl f0 f1 f2 f3 f4 f5 fp) (by kernel_rfl) (by kernel_rfl) 25 _ B9.out sizeInode (by rfl) (ino_all _ _ _ _ _ _ _ _ _ _ _) ?_; intro wb hbox hg; have HBb := Aside0.mk (pw_below_grown HBa.out _ HBa.out.size hg (fun q e => by cases e; exact G9.out)); have B9b := Aside0.mk (hbox); clear hbox hg) | ((with_reducible refine gate_dst (N := 85) rfl ?_); refine wpList_load_row rfl 25 (.tmp 9) (by kernel_rfl) g9 (by kernel_rfl) _ _ _ _ B9b.out hu25.out rfl sizeInode ?_) | (go_at_call 8; refine (iput_rd fa fk fs fl f0 f1 f2 f3 f4 f5 fp _ (may_s FM.out) FM.out FX.out L FE.out).mono ?_; rintro e wc ⟨adq, cq, rfl, hrq, hcq, _, hb⟩; have HBc := Aside0.mk (below_step HBb.out hb); have B9c := Aside0.mk (blk_below B9b.out hb); have s1 := string_of_reads (P := Try.prog) (src := 26) (dst := 9) Try.underlying26 Try.underlying5 Try.underlying9 (c := cq) hrq; have s2 := string_of_reads (P := Try.prog) (src := 26) (dst := 9) Try.underlying26 Try.underlying5 Try.underlying9 (c := c) (R0.out.below HBc.out); clear hb hrq hcq) | ((with_reducible refine gate_dst (N := 99) rfl ?_); refine BigFrame.wpList_want (by kernel_rfl) (fun K hK => ?_); refine wp_load_row 25 (.tmp 9) rfl g9 (by kernel_rfl) _ _ _ _ B9c.out hu25.out rfl sizeInode ?_; refine hK _ _ ?_; clear hK) | (go_at_call 12; refine (may_any fa fk fs fl f0 f1 f2 f3 f4 f5 fp _ (may_s FM.out)).mono ?_; rw [FM.out]; rintro e wd ⟨rfl, hb⟩; have HBd := Aside0.mk (below_step HBc.out hb); clear hb s1 s2) | (go_at_call 16; refine (wakes_true _).mono ?_; rintro e wz ⟨rfl, hb⟩; have HBz := Aside0.mk (below_step HBd.out hb); clear hb))
    go_ret
    exact ⟨rfl, HBz.out⟩
theorem bufN_bytes (N : List (Int × Nat)) (t : Nat) : ∀ x ∈ bufN N t, 0 ≤ x ∧ x < 256 := by
  intro x hx
  unfold bufN at hx
  rcases List.mem_append.1 hx with h | h
  · unfold preN at h
    obtain ⟨q, _, hq⟩ := List.mem_flatMap.1 h
    unfold encB at hq
    obtain ⟨j, _, rfl⟩ := List.mem_map.1 hq
    omega
  · rw [(List.mem_replicate.1 h).2]; decide
theorem encI_bytes (a k s l d0 d1 d2 d3 d4 d5 p : Int) : ∀ x ∈ encI a k s l d0 d1 d2 d3 d4 d5 p, 0 ≤ x ∧ x < 256 := bufN_bytes _ _
set_option maxHeartbeats 2000000 in
set_option maxRecDepth 100000 in
theorem iback_yes (a k s l d0 d1 d2 d3 d4 d5 p : Int)     (c : Nat) (n : Nat) (A : Option Addr) (L : List Int) (w : World) (hc : n ≤ c) (hc63 : c ≤ 9223372036854775807) (hr : ReadsInt w .u8 A n L) (hL : ∀ x ∈ L, 0 ≤ x ∧ x < 256) (hs : s ≤ 9223372036854775807) (hm : mayB a k s l [d0, d1, d2, d3, d4, d5] p = true) (hx : (0 ≤ d0 ∧ d0 < 4294967296) ∧ (0 ≤ d1 ∧ d1 < 4294967296) ∧ (0 ≤ d2 ∧ d2 < 4294967296) ∧ (0 ≤ d3 ∧ d3 < 4294967296) ∧ (0 ≤ d4 ∧ d4 < 4294967296) ∧ (0 ≤ d5 ∧ d5 < 4294967296) ∧ (0 ≤ p ∧ p < 4294967296)) :
    Calls Try.prog 5 #[.agg (inoCells a k s l d0 d1 d2 d3 d4 d5 p), .slice A n c] w fun e w' => e = .returned (.bool true) ∧ Below w.heap.size w w' := by
  have hu25 := Aside0.mk Try.underlying25
  have HC := Aside0.mk hc
  have HC63 := Aside0.mk hc63
  have R0 := Aside0.mk hr
  have HL := Aside0.mk hL
  clear hc hc63 hr hL
  have HM := Aside0.mk hm
  have HX := Aside0.mk hx
  clear hm hx
  have HEB := Aside0.mk (encI_bytes a k s l d0 d1 d2 d3 d4 d5 p)
  have HTP := Aside0.mk (take_put a k s l d0 d1 d2 d3 d4 d5 p HM.out HX.out)
  have EQ := fun W : World => (ino_neq W a k s l d0 d1 d2 d3 d4 d5 p a k s l d0 d1 d2 d3 d4 d5 p).trans (show _ = Result.ok (Value.bool false) W from by rw [inoB_self]; rfl)
  go_enter Try.func5, Try.ntmps5
  go_wp2_with (first | ((with_reducible refine gate_dst (N := 2) rfl ?_); refine box_event ?hg (N := 2) ?hd (cs := inoCells a k s l d0 d1 d2 d3 d4 d5 p) (t := 25) ?hr ?_; (case hd => rfl); (case hg => rfl); (case hr => first | (go_simp; done) | (go_simp; rfl)); intro gb hg w1 hbox hb; have HB1 := Aside0.mk (hb); have BK1 := Aside0.mk (hbox); have GB := Aside0.mk (Nat.le_of_eq hg.symm); clear hb hbox hg) | ((with_reducible refine gate_dst (N := 14) rfl ?_); refine wpList_load_row rfl 25 (.tmp 2) (by kernel_rfl) gb (by kernel_rfl) _ _ _ _ BK1.out hu25.out rfl sizeInode ?_) | (go_at_call 8; refine (iput_rd a k s l d0 d1 d2 d3 d4 d5 p _ hs HM.out HX.out _ rfl).mono ?_; rintro e w2 ⟨ad, cp, rfl, hrp, hcp, hcp63, hb⟩; have HB2 := Aside0.mk (below_step HB1.out hb); have BK2 := Aside0.mk (blk_below BK1.out hb); have RP := Aside0.mk (hrp); have CP := Aside0.mk (hcp); have CP63 := Aside0.mk (hcp63); clear hb hrp hcp hcp63) | ((with_reducible refine gate_dst (N := 20) rfl ?_); refine wpList_load_row rfl 25 (.tmp 2) (by kernel_rfl) gb (by kernel_rfl) _ _ _ _ BK2.out hu25.out rfl sizeInode ?_) | (go_at_call 12; refine (may_any a k s l d0 d1 d2 d3 d4 d5 p _ hs).mono ?_; rw [HM.out]; rintro e w3 ⟨rfl, hb⟩; have HB3 := Aside0.mk (below_step HB2.out hb); have BK3 := Aside0.mk (blk_below BK2.out hb); have RP3 := Aside0.mk (RP.out.below hb); clear hb) | (go_at_call_of 17 ad; refine (itake_any (some ad) 112 cp _ _ CP.out CP63.out RP3.out HEB.out).mono ?_; rw [HTP.out]; rintro e w4 ⟨rfl, hb⟩; have HB4 := Aside0.mk (below_step HB3.out hb); have BK4 := Aside0.mk (blk_below BK3.out hb); clear hb) | ((with_reducible refine gate_dst (N := 7) rfl ?_); refine box_event ?hg (N := 7) ?hd (cs := inoCells 0 0 0 0 0 0 0 0 0 0 0) (t := 25) ?hr ?_; (case hd => rfl); (case hg => rfl); (case hr => first | (go_simp; done) | (go_simp; rfl)); intro g7 hg w5 hbox hb; have G7 := Aside0.mk (show w.heap.size ≤ g7 from by have := HB4.out.size; omega); have N7 := Aside0.mk (show g7 ≠ gb from fun e => by have h1 := blk_lt BK4.out; omega); have HB5 := Aside0.mk (below_step HB4.out hb); have BK5 := Aside0.mk (blk_below BK4.out hb); have B75 := Aside0.mk (hbox); clear hb hbox hg) | ((with_reducible refine gate_store (t := 25) (p := 7) (v := .tmp 41) rfl ?_); refine ev_store_row (by rfl) 25 (.tmp 7) (.tmp 41) (by rfl) g7 (inoCells a k s l d0 d1 d2 d3 d4 d5 p) (by kernel_rfl) (by kernel_rfl) 25 _ B75.out sizeInode (by rfl) (ino_all _ _ _ _ _ _ _ _ _ _ _) ?_; intro w6 hbox hg; have HB6 := Aside0.mk (pw_below_grown HB5.out _ HB5.out.size hg (fun q e => by cases e; exact G7.out)); have BK6 := Aside0.mk (blk_grown BK5.out hg (fun e => N7.out (Option.some.inj e).symm)); have B76 := Aside0.mk (hbox); clear hbox hg) | ((with_reducible refine gate_dst (N := 46) rfl ?_); refine BigFrame.wpList_want (by kernel_rfl) (fun K hK => ?_); refine wp_load_row 25 (.tmp 7) rfl g7 (by kernel_rfl) _ _ _ _ B76.out hu25.out rfl sizeInode ?_; refine hK _ _ ?_; clear hK) | ((with_reducible refine gate_dst (N := 47) rfl ?_); refine BigFrame.wpList_want (by kernel_rfl) (fun K hK => ?_); refine wp_load_row 25 (.tmp 2) rfl gb (by kernel_rfl) _ _ _ _ BK6.out hu25.out rfl sizeInode ?_; refine hK _ _ ?_; clear hK))
  rcases take_cases L HL.out with ⟨hl, ht⟩ | ⟨hl, ht⟩ | ⟨hl, ht⟩ | ⟨hl, fa, fk, fs, fl, f0, f1, f2, f3, f4, f5, fp, ht, fm, fe, fx⟩
  · refine (itake_any A n c L _ HC.out HC63.out (R0.out.below HB6.out) HL.out).mono ?_
    rw [ht]
    rintro e wt ⟨rfl, hb⟩
    have HBt := Aside0.mk (below_step HB6.out hb)
    rw [R0.out.1] at hl
    clear hb ht
    have f1 : (n : Int) < 112 := by omega
    have f2 : decide ((n : Int) < 112) = true := decide_eq_true f1
    have f3 : decide ((112 : Int) < (n : Int)) = false := decide_eq_false (by omega)
    have EZ := fun W : World => (ino_eql W 0 0 0 0 0 0 0 0 0 0 0 0 0 0 0 0 0 0 0 0 0 0).trans (show _ = Result.ok (Value.bool true) W from rfl)
    clear hl
    go_wp2_with (first | ((with_reducible refine gate_dst (N := 9) rfl ?_); refine box_event ?hg (N := 9) ?hd (cs := inoCells 0 0 0 0 0 0 0 0 0 0 0) (t := 25) ?hr ?_; (case hd => rfl); (case hg => rfl); (case hr => first | (go_simp; done) | (go_simp; rfl)); intro g9 hg wa hbox hb; have G9 := Aside0.mk (show w.heap.size ≤ g9 from by have := HBt.out.size; omega); have H9 := Aside0.mk (show wt.heap.size ≤ g9 from by omega); have HBa := Aside0.mk (below_step HBt.out hb); have KBa := Aside0.mk (hb); have B9 := Aside0.mk (hbox); clear hb hbox hg) | ((with_reducible refine gate_store (t := 25) (p := 9) (v := .tmp 58) rfl ?_); refine ev_store_row (by rfl) 25 (.tmp 9) (.tmp 58) (by rfl) g9 (inoCells 0 0 0 0 0 0 0 0 0 0 0) (by kernel_rfl) (by kernel_rfl) 25 _ B9.out sizeInode (by rfl) (ino_all _ _ _ _ _ _ _ _ _ _ _) ?_; intro wb hbox hg; have HBb := Aside0.mk (pw_below_grown HBa.out _ HBa.out.size hg (fun q e => by cases e; exact G9.out)); have B9b := Aside0.mk (hbox); clear hbox hg) | ((with_reducible refine gate_dst (N := 62) rfl ?_); refine wpList_load_row rfl 25 (.tmp 9) (by kernel_rfl) g9 (by kernel_rfl) _ _ _ _ B9b.out hu25.out rfl sizeInode ?_) | (go_at_call 16; refine (wakes_true _).mono ?_; rintro e wz ⟨rfl, hb⟩; have HBz := Aside0.mk (below_step HBb.out hb); clear hb))
    go_ret
    exact ⟨rfl, HBz.out⟩
  · refine (itake_any A n c L _ HC.out HC63.out (R0.out.below HB6.out) HL.out).mono ?_
    rw [ht]
    rintro e wt ⟨rfl, hb⟩
    have HBt := Aside0.mk (below_step HB6.out hb)
    rw [R0.out.1] at hl
    clear hb ht
    have f1 : (112 : Int) < (n : Int) := by omega
    have f2 : decide ((112 : Int) < (n : Int)) = true := decide_eq_true f1
    have f3 : decide ((n : Int) < 112) = false := decide_eq_false (by omega)
    have EZ := fun W : World => (ino_eql W 0 0 0 0 0 0 0 0 0 0 0 0 0 0 0 0 0 0 0 0 0 0).trans (show _ = Result.ok (Value.bool true) W from rfl)
    clear hl
    go_wp2_with (first | ((with_reducible refine gate_dst (N := 9) rfl ?_); refine box_event ?hg (N := 9) ?hd (cs := inoCells 0 0 0 0 0 0 0 0 0 0 0) (t := 25) ?hr ?_; (case hd => rfl); (case hg => rfl); (case hr => first | (go_simp; done) | (go_simp; rfl)); intro g9 hg wa hbox hb; have G9 := Aside0.mk (show w.heap.size ≤ g9 from by have := HBt.out.size; omega); have H9 := Aside0.mk (show wt.heap.size ≤ g9 from by omega); have HBa := Aside0.mk (below_step HBt.out hb); have KBa := Aside0.mk (hb); have B9 := Aside0.mk (hbox); clear hb hbox hg) | ((with_reducible refine gate_store (t := 25) (p := 9) (v := .tmp 58) rfl ?_); refine ev_store_row (by rfl) 25 (.tmp 9) (.tmp 58) (by rfl) g9 (inoCells 0 0 0 0 0 0 0 0 0 0 0) (by kernel_rfl) (by kernel_rfl) 25 _ B9.out sizeInode (by rfl) (ino_all _ _ _ _ _ _ _ _ _ _ _) ?_; intro wb hbox hg; have HBb := Aside0.mk (pw_below_grown HBa.out _ HBa.out.size hg (fun q e => by cases e; exact G9.out)); have B9b := Aside0.mk (hbox); clear hbox hg) | ((with_reducible refine gate_dst (N := 62) rfl ?_); refine wpList_load_row rfl 25 (.tmp 9) (by kernel_rfl) g9 (by kernel_rfl) _ _ _ _ B9b.out hu25.out rfl sizeInode ?_) | (go_at_call 16; refine (wakes_true _).mono ?_; rintro e wz ⟨rfl, hb⟩; have HBz := Aside0.mk (below_step HBb.out hb); clear hb))
    go_ret
    exact ⟨rfl, HBz.out⟩
  · refine (itake_any A n c L _ HC.out HC63.out (R0.out.below HB6.out) HL.out).mono ?_
    rw [ht]
    rintro e wt ⟨rfl, hb⟩
    have HBt := Aside0.mk (below_step HB6.out hb)
    rw [R0.out.1] at hl
    clear hb ht
    subst hl
    have EZ := fun W : World => (ino_eql W 0 0 0 0 0 0 0 0 0 0 0 0 0 0 0 0 0 0 0 0 0 0).trans (show _ = Result.ok (Value.bool true) W from rfl)
    go_wp2_with (first | ((with_reducible refine gate_dst (N := 9) rfl ?_); refine box_event ?hg (N := 9) ?hd (cs := inoCells 0 0 0 0 0 0 0 0 0 0 0) (t := 25) ?hr ?_; (case hd => rfl); (case hg => rfl); (case hr => first | (go_simp; done) | (go_simp; rfl)); intro g9 hg wa hbox hb; have G9 := Aside0.mk (show w.heap.size ≤ g9 from by have := HBt.out.size; omega); have H9 := Aside0.mk (show wt.heap.size ≤ g9 from by omega); have HBa := Aside0.mk (below_step HBt.out hb); have KBa := Aside0.mk (hb); have B9 := Aside0.mk (hbox); clear hb hbox hg) | ((with_reducible refine gate_store (t := 25) (p := 9) (v := .tmp 58) rfl ?_); refine ev_store_row (by rfl) 25 (.tmp 9) (.tmp 58) (by rfl) g9 (inoCells 0 0 0 0 0 0 0 0 0 0 0) (by kernel_rfl) (by kernel_rfl) 25 _ B9.out sizeInode (by rfl) (ino_all _ _ _ _ _ _ _ _ _ _ _) ?_; intro wb hbox hg; have HBb := Aside0.mk (pw_below_grown HBa.out _ HBa.out.size hg (fun q e => by cases e; exact G9.out)); have B9b := Aside0.mk (hbox); clear hbox hg) | ((with_reducible refine gate_dst (N := 62) rfl ?_); refine wpList_load_row rfl 25 (.tmp 9) (by kernel_rfl) g9 (by kernel_rfl) _ _ _ _ B9b.out hu25.out rfl sizeInode ?_) | (go_at_call 16; refine (wakes_true _).mono ?_; rintro e wz ⟨rfl, hb⟩; have HBz := Aside0.mk (below_step HBb.out hb); clear hb))
    go_ret
    exact ⟨rfl, HBz.out⟩
  · refine (itake_any A n c L _ HC.out HC63.out (R0.out.below HB6.out) HL.out).mono ?_
    rw [ht]
    rintro e wt ⟨rfl, hb⟩
    have HBt := Aside0.mk (below_step HB6.out hb)
    rw [R0.out.1] at hl
    clear hb ht
    subst hl
    have FM := Aside0.mk fm
    have FE := Aside0.mk fe
    have FX := Aside0.mk fx
    clear fm fe fx
    go_wp2_with (first | ((with_reducible refine gate_dst (N := 9) rfl ?_); refine box_event ?hg (N := 9) ?hd (cs := inoCells 0 0 0 0 0 0 0 0 0 0 0) (t := 25) ?hr ?_; (case hd => rfl); (case hg => rfl); (case hr => first | (go_simp; done) | (go_simp; rfl)); intro g9 hg wa hbox hb; have G9 := Aside0.mk (show w.heap.size ≤ g9 from by have := HBt.out.size; omega); have H9 := Aside0.mk (show wt.heap.size ≤ g9 from by omega); have HBa := Aside0.mk (below_step HBt.out hb); have KBa := Aside0.mk (hb); have B9 := Aside0.mk (hbox); clear hb hbox hg) | ((with_reducible refine gate_store (t := 25) (p := 9) (v := .tmp 58) rfl ?_); refine ev_store_row (by rfl) 25 (.tmp 9) (.tmp 58) (by rfl) g9 (inoCells fa fk fs fl f0 f1 f2 f3 f4 f5 fp) (by kernel_rfl) (by kernel_rfl) 25 _ B9.out sizeInode (by rfl) (ino_all _ _ _ _ _ _ _ _ _ _ _) ?_; intro wb hbox hg; have HBb := Aside0.mk (pw_below_grown HBa.out _ HBa.out.size hg (fun q e => by cases e; exact G9.out)); have B9b := Aside0.mk (hbox); clear hbox hg) | ((with_reducible refine gate_dst (N := 85) rfl ?_); refine wpList_load_row rfl 25 (.tmp 9) (by kernel_rfl) g9 (by kernel_rfl) _ _ _ _ B9b.out hu25.out rfl sizeInode ?_) | (go_at_call 8; refine (iput_rd fa fk fs fl f0 f1 f2 f3 f4 f5 fp _ (may_s FM.out) FM.out FX.out L FE.out).mono ?_; rintro e wc ⟨adq, cq, rfl, hrq, hcq, _, hb⟩; have HBc := Aside0.mk (below_step HBb.out hb); have B9c := Aside0.mk (blk_below B9b.out hb); have s1 := string_of_reads (P := Try.prog) (src := 26) (dst := 9) Try.underlying26 Try.underlying5 Try.underlying9 (c := cq) hrq; have s2 := string_of_reads (P := Try.prog) (src := 26) (dst := 9) Try.underlying26 Try.underlying5 Try.underlying9 (c := c) (R0.out.below HBc.out); clear hb hrq hcq) | ((with_reducible refine gate_dst (N := 99) rfl ?_); refine BigFrame.wpList_want (by kernel_rfl) (fun K hK => ?_); refine wp_load_row 25 (.tmp 9) rfl g9 (by kernel_rfl) _ _ _ _ B9c.out hu25.out rfl sizeInode ?_; refine hK _ _ ?_; clear hK) | (go_at_call 12; refine (may_any fa fk fs fl f0 f1 f2 f3 f4 f5 fp _ (may_s FM.out)).mono ?_; rw [FM.out]; rintro e wd ⟨rfl, hb⟩; have HBd := Aside0.mk (below_step HBc.out hb); clear hb s1 s2) | (go_at_call 16; refine (wakes_true _).mono ?_; rintro e wz ⟨rfl, hb⟩; have HBz := Aside0.mk (below_step HBd.out hb); clear hb))
    go_ret
    exact ⟨rfl, HBz.out⟩
theorem iback_law (a k s l d0 d1 d2 d3 d4 d5 p : Int)     (c : Nat) (n : Nat) (A : Option Addr) (L : List Int) (w : World) (hc : n ≤ c) (hc63 : c ≤ 9223372036854775807) (hr : ReadsInt w .u8 A n L) (hL : ∀ x ∈ L, 0 ≤ x ∧ x < 256) (hs : s ≤ 9223372036854775807) (hx : (0 ≤ d0 ∧ d0 < 4294967296) ∧ (0 ≤ d1 ∧ d1 < 4294967296) ∧ (0 ≤ d2 ∧ d2 < 4294967296) ∧ (0 ≤ d3 ∧ d3 < 4294967296) ∧ (0 ≤ d4 ∧ d4 < 4294967296) ∧ (0 ≤ d5 ∧ d5 < 4294967296) ∧ (0 ≤ p ∧ p < 4294967296)) :
    Calls Try.prog 5 #[.agg (inoCells a k s l d0 d1 d2 d3 d4 d5 p), .slice A n c] w fun e w' => e = .returned (.bool true) ∧ Below w.heap.size w w' := by
  cases hm : mayB a k s l [d0, d1, d2, d3, d4, d5] p with
  | true => exact iback_yes a k s l d0 d1 d2 d3 d4 d5 p c n A L w hc hc63 hr hL hs hm hx
  | false => exact iback_no a k s l d0 d1 d2 d3 d4 d5 p c n A L w hc hc63 hr hL hs hm
end Go.Proofs.YtencgnhgjegknaaX
