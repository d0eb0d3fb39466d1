/- The document's Put of an inode. -/
import Derived.Test.YtencgnhgjegknaaIRPtr
import Derived.Test.YtencgnhgjegknaaPInodePutsx1
namespace Go.Proofs.YtencgnhgjegknaaX
open Go.RowKit Go.Proofs.YtencgnhgjegknaaW.PrintWords
set_option linter.unusedVariables false
theorem num_step (k : Nat) (L : List Int) (at_ x i : Int) (h0 : at_ ≤ i) (h1 : 0 ≤ i) (h2 : i < (L.length : Int)) (h3 : L.length = 112) (x0 : 0 ≤ x) (x1 : x < 18446744073709551616) :
    Ytencgnhgjegknaa.PInodePuts.hayrickref11_num.l0 (k + 1) L at_ x i = Ytencgnhgjegknaa.PInodePuts.hayrickref11_num.l0 k (L.set i.toNat (x % 256)) at_ (x / 256) (i - 1) := by
  rw [Ytencgnhgjegknaa.PInodePuts.hayrickref11_num.l0, if_pos h0, if_pos h1, if_pos h2, Int.tmod_eq_emod_of_nonneg x0, Int.tdiv_eq_ediv_of_nonneg x0, IntWalk.u64_in _ (by omega), IntWalk.wrap64_in _ (by omega), Int.emod_emod_of_dvd x (Int.dvd_refl 256)]
theorem num_stop (k : Nat) (L : List Int) (at_ x i : Int) (h0 : i < at_) : Ytencgnhgjegknaa.PInodePuts.hayrickref11_num.l0 (k + 1) L at_ x i = some L := by
  rw [Ytencgnhgjegknaa.PInodePuts.hayrickref11_num.l0, if_neg (by omega)]
theorem num_1 (L : List Int) (o : Nat) (oi x : Int) (ho : oi = o) (h : L.length = 112) (hz : o + 1 ≤ 112) (x0 : 0 ≤ x) (x1 : x < 18446744073709551616) : Ytencgnhgjegknaa.PInodePuts.hayrickref11_num.f 5 L oi 1 x = some (L.set o (x % 256)) := by
  subst ho
  rw [Ytencgnhgjegknaa.PInodePuts.hayrickref11_num.f, IntWalk.wrap64_in (o + 1 : Int) (by omega), IntWalk.wrap64_in _ (by omega), num_step _ _ _ _ _ (by omega) (by omega) (by omega) h x0 x1, num_stop _ _ _ _ _ (by omega)]
  rw [show ((o : Int) + 1 - 1).toNat = o from by omega]
theorem num_2 (L : List Int) (o : Nat) (oi x : Int) (ho : oi = o) (h : L.length = 112) (hz : o + 2 ≤ 112) (x0 : 0 ≤ x) (x1 : x < 18446744073709551616) : Ytencgnhgjegknaa.PInodePuts.hayrickref11_num.f 5 L oi 2 x = some ((L.set (o + 1) (x % 256)).set o (x / 256 % 256)) := by
  subst ho
  rw [Ytencgnhgjegknaa.PInodePuts.hayrickref11_num.f, IntWalk.wrap64_in (o + 2 : Int) (by omega), IntWalk.wrap64_in _ (by omega), num_step _ _ _ _ _ (by omega) (by omega) (by omega) h x0 x1,
    num_step _ _ _ _ _ (by omega) (by omega) (by rw [List.length_set]; omega) (by rw [List.length_set]; exact h) (by omega) (by omega), num_stop _ _ _ _ _ (by omega)]
  rw [show ((o : Int) + 2 - 1).toNat = o + 1 from by omega, show ((o : Int) + 2 - 1 - 1).toNat = o from by omega]
theorem num_4 (L : List Int) (o : Nat) (oi x : Int) (ho : oi = o) (h : L.length = 112) (hz : o + 4 ≤ 112) (x0 : 0 ≤ x) (x1 : x < 18446744073709551616) :
    Ytencgnhgjegknaa.PInodePuts.hayrickref11_num.f 5 L oi 4 x = some ((((L.set (o + 3) (x % 256)).set (o + 2) (x / 256 % 256)).set (o + 1) (x / 65536 % 256)).set o (x / 16777216 % 256)) := by
  subst ho
  rw [Ytencgnhgjegknaa.PInodePuts.hayrickref11_num.f, IntWalk.wrap64_in (o + 4 : Int) (by omega), IntWalk.wrap64_in _ (by omega), num_step _ _ _ _ _ (by omega) (by omega) (by omega) h x0 x1,
    num_step _ _ _ _ _ (by omega) (by omega) (by rw [List.length_set]; omega) (by rw [List.length_set]; exact h) (by omega) (by omega),
    num_step _ _ _ _ _ (by omega) (by omega) (by rw [List.length_set, List.length_set]; omega) (by rw [List.length_set, List.length_set]; exact h) (by omega) (by omega),
    num_step _ _ _ _ _ (by omega) (by omega) (by rw [List.length_set, List.length_set, List.length_set]; omega) (by rw [List.length_set, List.length_set, List.length_set]; exact h) (by omega) (by omega), num_stop _ _ _ _ _ (by omega)]
  rw [show ((o : Int) + 4 - 1).toNat = o + 3 from by omega, show ((o : Int) + 4 - 1 - 1).toNat = o + 2 from by omega, show ((o : Int) + 4 - 1 - 1 - 1).toNat = o + 1 from by omega, show ((o : Int) + 4 - 1 - 1 - 1 - 1).toNat = o from by omega,
    Int.ediv_ediv_of_nonneg (by decide), Int.ediv_ediv_of_nonneg (by decide)]
  rfl
theorem rput_no (a k s l d0 d1 d2 d3 d4 d5 p : Int) (w : World) (hm : mayB a k s l [d0, d1, d2, d3, d4, d5] p = false) :
    Calls Try.prog 9 #[.agg (inoCells a k s l d0 d1 d2 d3 d4 d5 p)] w fun e w' => e = .returned (.tuple #[.slice none 0 0, .int .i64 1]) ∧ Below w.heap.size w w' := by
  have hu25 := Aside0.mk Try.underlying25
  have HM := Aside0.mk hm
  clear hm
  go_enter Try.func9, Try.ntmps9
  go_wp2_with (first
    | ((with_reducible refine gate_dst (N := 1) rfl ?_); refine box_event ?hg (N := 1) ?hd (cs := inoCells a k s l d0 d1 d2 d3 d4 d5 p) (t := 25) ?hr ?_; (case hd => rfl); (case hg => rfl); (case hr => first | (go_simp; done) | (go_simp; rfl) | kernel_rfl); intro gb hg w1 hbox hb; have Gb := Aside0.mk (Nat.le_of_eq hg.symm); have HB1 := Aside0.mk (hb); have Bb1 := Aside0.mk (hbox); clear hb hbox hg)
    | ((with_reducible refine gate_dst (N := 6) rfl ?_); refine wpList_load_row rfl 25 (.tmp 1) (by kernel_rfl) gb (by kernel_rfl) _ _ _ _ Bb1.out hu25.out rfl sizeInode ?_)
    | (have hz := HB1.out; clear hz; go_at_call 13; refine (refMay_any _ _ _ _ _ _ _ _ _ _ _ _).mono ?_; rw [HM.out]; rintro e w2 ⟨rfl, hb⟩; have HB2 := Aside0.mk (below_step HB1.out hb); clear hb))
  go_ret2
  exact ⟨rfl, HB2.out⟩
set_option maxHeartbeats 4000000 in
set_option maxRecDepth 100000 in
theorem rput_walk (a k s l d0 d1 d2 d3 d4 d5 p : Int) (w : World) (L1 L2 L3 L4 L5 L6 L7 L8 L9 L10 L11 : List Int) (hm : mayB a k s l [d0, d1, d2, d3, d4, d5] p = true)
    (a0 : 0 ≤ a) (a1 : a ≤ 64) (k0 : 0 ≤ k) (k1 : k ≤ 64) (l0 : 0 ≤ l) (l1 : l ≤ 64) (s0 : 0 ≤ s) (s1 : s ≤ 3808) (x0 : 0 ≤ d0) (y0 : d0 < 4294967296) (x1 : 0 ≤ d1) (y1 : d1 < 4294967296) (x2 : 0 ≤ d2) (y2 : d2 < 4294967296) (x3 : 0 ≤ d3) (y3 : d3 < 4294967296) (x4 : 0 ≤ d4) (y4 : d4 < 4294967296) (x5 : 0 ≤ d5) (y5 : d5 < 4294967296) (p0 : 0 ≤ p) (p1 : p < 4294967296) (h0 : Ytencgnhgjegknaa.PInodePuts.hayrickref11_num.f 5 (List.replicate 112 0) 0 2 a = some L1) (h1 : Ytencgnhgjegknaa.PInodePuts.hayrickref11_num.f 5 L1 2 1 k = some L2) (h2 : Ytencgnhgjegknaa.PInodePuts.hayrickref11_num.f 5 L2 3 1 l = some L3) (h3 : Ytencgnhgjegknaa.PInodePuts.hayrickref11_num.f 5 L3 4 2 s = some L4) (h4 : Ytencgnhgjegknaa.PInodePuts.hayrickref11_num.f 5 L4 6 4 d0 = some L5) (h5 : Ytencgnhgjegknaa.PInodePuts.hayrickref11_num.f 5 L5 10 4 d1 = some L6) (h6 : Ytencgnhgjegknaa.PInodePuts.hayrickref11_num.f 5 L6 14 4 d2 = some L7) (h7 : Ytencgnhgjegknaa.PInodePuts.hayrickref11_num.f 5 L7 18 4 d3 = some L8) (h8 : Ytencgnhgjegknaa.PInodePuts.hayrickref11_num.f 5 L8 22 4 d4 = some L9) (h9 : Ytencgnhgjegknaa.PInodePuts.hayrickref11_num.f 5 L9 26 4 d5 = some L10) (h10 : Ytencgnhgjegknaa.PInodePuts.hayrickref11_num.f 5 L10 30 4 p = some L11) :
    Calls Try.prog 9 #[.agg (inoCells a k s l d0 d1 d2 d3 d4 d5 p)] w fun e w' => ∃ A c, e = .returned (.tuple #[.slice A 112 c, .int .i64 0]) ∧ Kd.R (Kd.int .u8) 5 w' w.heap.size (fun k => some k = (Value.slice A 112 c).ownBlock) (.slice A 112 c) L11 ∧ Below w.heap.size w w' := by
  have hu25 := Aside0.mk Try.underlying25
  have HM := Aside0.mk hm
  have H0 := Aside0.mk h0
  have H1 := Aside0.mk h1
  have H2 := Aside0.mk h2
  have H3 := Aside0.mk h3
  have H4 := Aside0.mk h4
  have H5 := Aside0.mk h5
  have H6 := Aside0.mk h6
  have H7 := Aside0.mk h7
  have H8 := Aside0.mk h8
  have H9 := Aside0.mk h9
  have H10 := Aside0.mk h10
  clear hm h0 h1 h2 h3 h4 h5 h6 h7 h8 h9 h10
  go_enter Try.func9, Try.ntmps9
  go_wp2_with (first
    | ((with_reducible refine gate_dst (N := 1) rfl ?_); refine box_event ?hg (N := 1) ?hd (cs := inoCells a k s l d0 d1 d2 d3 d4 d5 p) (t := 25) ?hr ?_; (case hd => rfl); (case hg => rfl); (case hr => first | (go_simp; done) | (go_simp; rfl) | kernel_rfl); intro gb hg w1 hbox hb; have Gb := Aside0.mk (Nat.le_of_eq hg.symm); have HB1 := Aside0.mk (hb); have Bb1 := Aside0.mk (hbox); clear hb hbox hg)
    | ((with_reducible refine gate_dst (N := 6) rfl ?_); refine wpList_load_row rfl 25 (.tmp 1) (by kernel_rfl) gb (by kernel_rfl) _ _ _ _ Bb1.out hu25.out rfl sizeInode ?_)
    | (have hz := HB1.out; clear hz; go_at_call 13; refine (refMay_any _ _ _ _ _ _ _ _ _ _ _ _).mono ?_; rw [HM.out]; rintro e w2 ⟨rfl, hb⟩; have HB2 := Aside0.mk (below_step HB1.out hb); have Bb2 := Aside0.mk (blk_below Bb1.out hb); clear hb)
    | ((with_reducible refine gate_dst (N := 9) rfl ?_); refine Kd.R_make (Kd.int .u8) (w0 := w) (W := w2) w.heap.size 5 rfl rfl 26 (.const (.int .i64 112)) (.const (.int .i64 112)) rfl 112 rfl rfl Try.underlying26 (.int .u8 0) 1 infoU8 rfl (by decide) (by decide) (0 : Int) (ok := fun k => w2.heap.size ≤ k) (okp := fun _ => False) (by exact rfl) (fun _ h => h.elim) (Nat.le_refl _) (by decide) (by decide) HB2.out HB2.out.size ?_; intro vm w3 hr hb hg ho; obtain ⟨A, cm, rfl, hl, hC⟩ := Kd.R_reads hr; have NB := Aside0.mk (show ¬ some gb = (Value.slice A 112 cm).ownBlock from fun e => by obtain ⟨b, e2, h2⟩ := ho; have h3 := blk_lt Bb2.out; have e3 := e.trans e2; cases e3; omega); have HB3 := Aside0.mk (hb); have HR3 := Aside0.mk (show Kd.R (Kd.int .u8) 5 w3 w.heap.size (fun k => some k = (Value.slice A 112 cm).ownBlock) (.slice A 112 cm) (List.replicate 112 (0 : Int)) from Kd.R_tight rfl hr); have Bb3 := Aside0.mk (blk_grown Bb2.out hg (fun e => by cases e)); have c03 := (blk_cell Bb3.out 0).trans (show (inoCells a k s l d0 d1 d2 d3 d4 d5 p)[0]? = _ from rfl); clear hr hb hg ho hl hC)
    | (have hz := HB6.out; clear hz; go_at_call 20; refine (Ytencgnhgjegknaa.PInodePuts.hayrickref11_num.calls 5 (fun k => some k = (Value.slice A 112 cm).ownBlock) (.slice A 112 cm) L3 4 2 s L4 w _ HB6.out HR6.out H3.out).mono ?_; rintro e w7 ⟨rfl, hr, hb, hk⟩; have HB7 := Aside0.mk (hb); have HR7 := Aside0.mk (Kd.R_tight rfl hr); have Bb7 := Aside0.mk (blk_kept Bb6.out hk NB.out); clear hr hb hk)
    | (have hz := HB5.out; clear hz; go_at_call 20; refine (Ytencgnhgjegknaa.PInodePuts.hayrickref11_num.calls 5 (fun k => some k = (Value.slice A 112 cm).ownBlock) (.slice A 112 cm) L2 3 1 l L3 w _ HB5.out HR5.out H2.out).mono ?_; rintro e w6 ⟨rfl, hr, hb, hk⟩; have HB6 := Aside0.mk (hb); have HR6 := Aside0.mk (Kd.R_tight rfl hr); have Bb6 := Aside0.mk (blk_kept Bb5.out hk NB.out); have c26 := (blk_cell Bb6.out 2).trans (show (inoCells a k s l d0 d1 d2 d3 d4 d5 p)[2]? = _ from rfl); clear hr hb hk)
    | (have hz := HB4.out; clear hz; go_at_call 20; refine (Ytencgnhgjegknaa.PInodePuts.hayrickref11_num.calls 5 (fun k => some k = (Value.slice A 112 cm).ownBlock) (.slice A 112 cm) L1 2 1 k L2 w _ HB4.out HR4.out H1.out).mono ?_; rintro e w5 ⟨rfl, hr, hb, hk⟩; have HB5 := Aside0.mk (hb); have HR5 := Aside0.mk (Kd.R_tight rfl hr); have Bb5 := Aside0.mk (blk_kept Bb4.out hk NB.out); have c35 := (blk_cell Bb5.out 3).trans (show (inoCells a k s l d0 d1 d2 d3 d4 d5 p)[3]? = _ from rfl); clear hr hb hk)
    | (have hz := HB3.out; clear hz; go_at_call 20; refine (Ytencgnhgjegknaa.PInodePuts.hayrickref11_num.calls 5 (fun k => some k = (Value.slice A 112 cm).ownBlock) (.slice A 112 cm) (List.replicate 112 (0 : Int)) 0 2 a L1 w _ HB3.out HR3.out H0.out).mono ?_; rintro e w4 ⟨rfl, hr, hb, hk⟩; have HB4 := Aside0.mk (hb); have HR4 := Aside0.mk (Kd.R_tight rfl hr); have Bb4 := Aside0.mk (blk_kept Bb3.out hk NB.out); have c14 := (blk_cell Bb4.out 1).trans (show (inoCells a k s l d0 d1 d2 d3 d4 d5 p)[1]? = _ from rfl); clear hr hb hk))
  go_loopw [5] (fun i wr => ∃ j : Nat, j ≤ 6 ∧ i = .int .i64 j ∧ Aside0 (Kd.R (Kd.int .u8) 5 wr w.heap.size (fun k => some k = (Value.slice A 112 cm).ownBlock) (.slice A 112 cm) (if j = 0 then L4 else if j = 1 then L5 else if j = 2 then L6 else if j = 3 then L7 else if j = 4 then L8 else if j = 5 then L9 else L10)) ∧ Aside0 (wr.heap[gb]? = some (.cells (inoCells a k s l d0 d1 d2 d3 d4 d5 p) 25 (0, 0))) ∧ Aside0 (Below w.heap.size w wr)) (fun i _ => 6 - (intOf i).toNat)
  case atStart => exact ⟨0, Nat.zero_le _, rfl, HR7, Bb7, HB7⟩
  case round =>
    obtain ⟨j, hj, rfl, HR0, Bb0, HB0⟩ := hrel
    clear HR7 Bb7 HB7
    by_cases hlt : j < 6
    · have hcase : j = 0 ∨ j = 1 ∨ j = 2 ∨ j = 3 ∨ j = 4 ∨ j = 5 := by omega
      clear hj hlt
      rcases hcase with rfl | rfl | rfl | rfl | rfl | rfl
      · have c0 := (blk_cell Bb0.out 4).trans (show (inoCells a k s l d0 d1 d2 d3 d4 d5 p)[4]? = _ from rfl)
        go_wp2_with (go_at_call 20; refine (Ytencgnhgjegknaa.PInodePuts.hayrickref11_num.calls 5 (fun k => some k = (Value.slice A 112 cm).ownBlock) (.slice A 112 cm) L4 6 4 d0 L5 w _ HB0.out HR0.out H4.out).mono ?_; rintro e w21 ⟨rfl, hr, hb, hk⟩; have HB21 := Aside0.mk (hb); have HR21 := Aside0.mk (Kd.R_tight rfl hr); have Bb21 := Aside0.mk (blk_kept Bb0.out hk NB.out); clear hr hb hk)
        go_roundw
        case rel => exact ⟨1, by omega, by go_num, HR21, Bb21, HB21⟩
        case measure => simp [intOf]
      · have c0 := (blk_cell Bb0.out 5).trans (show (inoCells a k s l d0 d1 d2 d3 d4 d5 p)[5]? = _ from rfl)
        go_wp2_with (go_at_call 20; refine (Ytencgnhgjegknaa.PInodePuts.hayrickref11_num.calls 5 (fun k => some k = (Value.slice A 112 cm).ownBlock) (.slice A 112 cm) L5 10 4 d1 L6 w _ HB0.out HR0.out H5.out).mono ?_; rintro e w21 ⟨rfl, hr, hb, hk⟩; have HB21 := Aside0.mk (hb); have HR21 := Aside0.mk (Kd.R_tight rfl hr); have Bb21 := Aside0.mk (blk_kept Bb0.out hk NB.out); clear hr hb hk)
        go_roundw
        case rel => exact ⟨2, by omega, by go_num, HR21, Bb21, HB21⟩
        case measure => simp [intOf]
      · have c0 := (blk_cell Bb0.out 6).trans (show (inoCells a k s l d0 d1 d2 d3 d4 d5 p)[6]? = _ from rfl)
        go_wp2_with (go_at_call 20; refine (Ytencgnhgjegknaa.PInodePuts.hayrickref11_num.calls 5 (fun k => some k = (Value.slice A 112 cm).ownBlock) (.slice A 112 cm) L6 14 4 d2 L7 w _ HB0.out HR0.out H6.out).mono ?_; rintro e w21 ⟨rfl, hr, hb, hk⟩; have HB21 := Aside0.mk (hb); have HR21 := Aside0.mk (Kd.R_tight rfl hr); have Bb21 := Aside0.mk (blk_kept Bb0.out hk NB.out); clear hr hb hk)
        go_roundw
        case rel => exact ⟨3, by omega, by go_num, HR21, Bb21, HB21⟩
        case measure => simp [intOf]
      · have c0 := (blk_cell Bb0.out 7).trans (show (inoCells a k s l d0 d1 d2 d3 d4 d5 p)[7]? = _ from rfl)
        go_wp2_with (go_at_call 20; refine (Ytencgnhgjegknaa.PInodePuts.hayrickref11_num.calls 5 (fun k => some k = (Value.slice A 112 cm).ownBlock) (.slice A 112 cm) L7 18 4 d3 L8 w _ HB0.out HR0.out H7.out).mono ?_; rintro e w21 ⟨rfl, hr, hb, hk⟩; have HB21 := Aside0.mk (hb); have HR21 := Aside0.mk (Kd.R_tight rfl hr); have Bb21 := Aside0.mk (blk_kept Bb0.out hk NB.out); clear hr hb hk)
        go_roundw
        case rel => exact ⟨4, by omega, by go_num, HR21, Bb21, HB21⟩
        case measure => simp [intOf]
      · have c0 := (blk_cell Bb0.out 8).trans (show (inoCells a k s l d0 d1 d2 d3 d4 d5 p)[8]? = _ from rfl)
        go_wp2_with (go_at_call 20; refine (Ytencgnhgjegknaa.PInodePuts.hayrickref11_num.calls 5 (fun k => some k = (Value.slice A 112 cm).ownBlock) (.slice A 112 cm) L8 22 4 d4 L9 w _ HB0.out HR0.out H8.out).mono ?_; rintro e w21 ⟨rfl, hr, hb, hk⟩; have HB21 := Aside0.mk (hb); have HR21 := Aside0.mk (Kd.R_tight rfl hr); have Bb21 := Aside0.mk (blk_kept Bb0.out hk NB.out); clear hr hb hk)
        go_roundw
        case rel => exact ⟨5, by omega, by go_num, HR21, Bb21, HB21⟩
        case measure => simp [intOf]
      · have c0 := (blk_cell Bb0.out 9).trans (show (inoCells a k s l d0 d1 d2 d3 d4 d5 p)[9]? = _ from rfl)
        go_wp2_with (go_at_call 20; refine (Ytencgnhgjegknaa.PInodePuts.hayrickref11_num.calls 5 (fun k => some k = (Value.slice A 112 cm).ownBlock) (.slice A 112 cm) L9 26 4 d5 L10 w _ HB0.out HR0.out H9.out).mono ?_; rintro e w21 ⟨rfl, hr, hb, hk⟩; have HB21 := Aside0.mk (hb); have HR21 := Aside0.mk (Kd.R_tight rfl hr); have Bb21 := Aside0.mk (blk_kept Bb0.out hk NB.out); clear hr hb hk)
        go_roundw
        case rel => exact ⟨6, by omega, by go_num, HR21, Bb21, HB21⟩
        case measure => simp [intOf]
    · obtain rfl : j = 6 := by omega
      clear hlt hj
      have c0 := (blk_cell Bb0.out 10).trans (show (inoCells a k s l d0 d1 d2 d3 d4 d5 p)[10]? = _ from rfl)
      go_wp2_with (go_at_call 20; refine (Ytencgnhgjegknaa.PInodePuts.hayrickref11_num.calls 5 (fun k => some k = (Value.slice A 112 cm).ownBlock) (.slice A 112 cm) L10 30 4 p L11 w _ HB0.out HR0.out H10.out).mono ?_; rintro e w21 ⟨rfl, hr, hb, hk⟩; have HB21 := Aside0.mk (hb); have HR21 := Aside0.mk (Kd.R_tight rfl hr); have Bb21 := Aside0.mk (blk_kept Bb0.out hk NB.out); clear hr hb hk)
      go_ret2
      exact ⟨A, cm, rfl, HR21.out, HB21.out⟩
theorem reads_of_C8 {w : World} {A : Option Addr} {n : Nat} {xs : List Int} (h : Kd.C (Kd.int .u8) w A n xs) (hl : xs.length = n) (hn : n ≤ 9223372036854775807) : ReadsInt w .u8 A n xs := by
  exact Kd.reads_of_C (enc := Value.int .u8) (d := (0 : Int)) (h1 := fun _ => rfl) h
end Go.Proofs.YtencgnhgjegknaaX
