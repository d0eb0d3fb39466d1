/- The document's Pointers of an inode. -/
import Derived.Test.YtgiapegacbibeaaIRefMay
namespace Go.Proofs.YtgiapegacbibeaaX
open Go.RowKit Go.Proofs.YtgiapegacbibeaaW.PrintWords
set_option linter.unusedVariables false
theorem filt_take_succ (l : List Int) (j : Nat) (h : j < l.length) : filt (l.take (j + 1)) = filt (l.take j) ++ (if l.getD j 0 = 0 then [] else [l.getD j 0]) := by
  rw [filt_snoc l j h]
  congr 1
  by_cases h0 : l.getD j 0 = 0
  · rw [if_pos (by simpa using h0), if_pos h0]
  · rw [if_neg (by simpa using h0), if_neg h0]
theorem filt_seven (d0 d1 d2 d3 d4 d5 p : Int) : filt [d0, d1, d2, d3, d4, d5, p] = filt [d0, d1, d2, d3, d4, d5] ++ (if p = 0 then [] else [p]) := filt_take_succ [d0, d1, d2, d3, d4, d5, p] 6 (by show 6 < 7; decide)
set_option maxHeartbeats 2000000 in
set_option maxRecDepth 100000 in
theorem rptr_own (a k s l d0 d1 d2 d3 d4 d5 p : Int) (w : World) :
    Calls Try.prog 35 #[.agg (inoCells a k s l d0 d1 d2 d3 d4 d5 p)] w fun e w' => ∃ A c, e = .returned (.slice A (filt [d0, d1, d2, d3, d4, d5, p]).length c) ∧ w'.ownsRow w.heap.size 24 1 (.slice A (filt [d0, d1, d2, d3, d4, d5, p]).length c) (filt [d0, d1, d2, d3, d4, d5, p]).length (nums .u32 (filt [d0, d1, d2, d3, d4, d5, p])) ∧ Below w.heap.size w w' := by
  obtain ⟨R, hR⟩ : ∃ R, filt [d0, d1, d2, d3, d4, d5, p] = R := ⟨_, rfl⟩
  have HR := Aside0.mk hR
  rw [hR]
  clear hR
  go_enter Try.func35, Try.ntmps35
  go_wp2_with (first
    | ((with_reducible refine gate_dst (N := 1) rfl ?_); refine box_event ?hg (N := 1) ?hd (cs := inoCells a k s l d0 d1 d2 d3 d4 d5 p) (t := 57) ?hr ?_; (case hd => rfl); (case hg => rfl); (case hr => first | (go_simp; done) | (go_simp; rfl) | kernel_rfl); intro gb hg w1 hbox hb; have Gb := Aside0.mk (Nat.le_of_eq hg.symm); have HB1 := Aside0.mk (hb); have Bb1 := Aside0.mk (hbox); clear hb hbox hg))
  go_loopw [3, 4] (fun v i wr => ∃ j : Nat, j ≤ 6 ∧ i = .int .i64 j ∧ Aside0 (wr.ownsRow w.heap.size 24 1 v (filt ([d0, d1, d2, d3, d4, d5].take j)).length (nums .u32 (filt ([d0, d1, d2, d3, d4, d5].take j)))) ∧ Aside0 (wr.heap[gb]? = some (.cells (inoCells a k s l d0 d1 d2 d3 d4 d5 p) 57 (0, 0))) ∧ Aside0 (Below w.heap.size w wr)) (fun _ i _ => 6 - (intOf i).toNat)
  case atStart => exact ⟨0, Nat.zero_le _, rfl, ⟨own_nil _ _ _ _⟩, Bb1, HB1⟩
  case round =>
    obtain ⟨j, hj, rfl, HO, BK, HB⟩ := hrel
    clear Bb1 HB1
    by_cases hlt : j < 6
    · have hj0 : (0 : Int) ≤ (j : Int) := Int.natCast_nonneg _
      have hj6 : (j : Int) < 6 := by omega
      have hstep := filt_take_succ [d0, d1, d2, d3, d4, d5] j hlt
      have hc := (blk_cell BK.out (4 + j)).trans (ino_cell a k s l d0 d1 d2 d3 d4 d5 p j hlt)
      have HLE := Aside0.mk (Nat.le_trans (filt_le [d0, d1, d2, d3, d4, d5] j) (Nat.le_of_lt hlt))
      obtain ⟨y, hy⟩ : ∃ y, [d0, d1, d2, d3, d4, d5].getD j 0 = y := ⟨_, rfl⟩
      rw [hy] at hstep hc
      clear hy
      by_cases hy0 : y = 0
      · subst hy0
        rw [if_pos rfl, List.append_nil] at hstep
        have HST := Aside0.mk hstep
        clear hstep
        go_wp2
        go_roundw
        case rel => exact ⟨j + 1, by omega, by go_num, ⟨by rw [HST.out]; exact HO.out⟩, BK, HB⟩
        case measure => simp [intOf]; omega
      · rw [if_neg hy0] at hstep
        have HST := Aside0.mk hstep.symm
        have hyb : (y != 0) = true := bne_iff_ne.2 hy0
        clear hstep hy0
        obtain ⟨acc, hacc⟩ : ∃ acc, filt ([d0, d1, d2, d3, d4, d5].take j) = acc := ⟨_, rfl⟩
        rw [hacc] at HO HST HLE
        clear hacc
        go_wp2_with (first
    | (at_builtin; with_reducible refine gate_dst (N := 20) rfl ?_; refine print_append_num (w0 := w) w.heap.size rfl (.tmp 14) (.tmp 19) 71 24 .u32 4 rfl Try.underlying71 infoU32 (by omega) u3 (acc) y rfl rfl HO.out HB.out HB.out.size (by have := HLE.out; omega) ?_; intro v2 w4 ho hb4 hg4 _; rw [HST.out] at ho; have HO4 := Aside0.mk (ho); have HB4 := Aside0.mk (hb4); have BK4 := Aside0.mk (blk_grown BK.out hg4 (own_ne HO.out BK.out (by decide))); clear ho hb4 hg4))
        go_roundw
        case rel => exact ⟨j + 1, by omega, by go_num, HO4, BK4, HB4⟩
        case measure => simp [intOf]; omega
    · obtain rfl : j = 6 := by omega
      have hstep := filt_seven d0 d1 d2 d3 d4 d5 p
      rw [HR.out] at hstep
      have HLE := Aside0.mk (filt_le [d0, d1, d2, d3, d4, d5] 6)
      have hc := (blk_cell BK.out 10).trans (show (inoCells a k s l d0 d1 d2 d3 d4 d5 p)[10]? = some (.int .u32 p) from rfl)
      obtain ⟨acc, hacc⟩ : ∃ acc, filt [d0, d1, d2, d3, d4, d5] = acc := ⟨_, rfl⟩
      have HO1 : Aside0 (wr.ownsRow w.heap.size 24 1 u3 (filt [d0, d1, d2, d3, d4, d5]).length (nums .u32 (filt [d0, d1, d2, d3, d4, d5]))) := HO
      have HLE1 : Aside0 ((filt [d0, d1, d2, d3, d4, d5]).length ≤ 6) := HLE
      rw [hacc] at HO1 HLE1 hstep
      clear HO HLE hacc hlt hj
      have HO := HO1
      have HLE := HLE1
      clear HO1 HLE1
      by_cases hp0 : p = 0
      · subst hp0
        rw [if_pos rfl, List.append_nil] at hstep
        subst hstep
        go_wp2
        obtain ⟨A, c, rfl, hr⟩ := own_reads HO.out
        go_ret
        exact ⟨A, c, rfl, HO.out, HB.out⟩
      · rw [if_neg hp0] at hstep
        have HST := Aside0.mk hstep.symm
        have hyb : (p != 0) = true := bne_iff_ne.2 hp0
        clear hstep hp0
        go_wp2_with (first
    | (at_builtin; with_reducible refine gate_dst (N := 28) rfl ?_; refine print_append_num (w0 := w) w.heap.size rfl (.tmp 24) (.tmp 27) 71 24 .u32 4 rfl Try.underlying71 infoU32 (by omega) u3 (acc) p rfl rfl HO.out HB.out HB.out.size (by have := HLE.out; omega) ?_; intro v2 w4 ho hb4 hg4 _; rw [HST.out] at ho; have HO4 := Aside0.mk (ho); have HB4 := Aside0.mk (hb4); have BK4 := Aside0.mk (blk_grown BK.out hg4 (own_ne HO.out BK.out (by decide))); clear ho hb4 hg4))
        obtain ⟨A, c, rfl, hr⟩ := own_reads HO4.out
        go_ret
        exact ⟨A, c, rfl, HO4.out, HB4.out⟩
theorem rptr_any (a k s l d0 d1 d2 d3 d4 d5 p : Int) (w : World) :
    Calls Try.prog 35 #[.agg (inoCells a k s l d0 d1 d2 d3 d4 d5 p)] w fun e w' => ∃ A c, e = .returned (.slice A (filt [d0, d1, d2, d3, d4, d5, p]).length c) ∧ ReadsInt w' .u32 A (filt [d0, d1, d2, d3, d4, d5, p]).length (filt [d0, d1, d2, d3, d4, d5, p]) ∧ (filt [d0, d1, d2, d3, d4, d5, p]).length ≤ c ∧ Below w.heap.size w w' := by
  refine (rptr_own a k s l d0 d1 d2 d3 d4 d5 p w).mono ?_
  rintro e w' ⟨A, c, rfl, ho, hb⟩
  exact ⟨A, c, rfl, own_reads' ho, own_le ho, hb⟩
end Go.Proofs.YtgiapegacbibeaaX
