/- The document's All. -/
import Derived.Test.YtjpjjddkbohbpaaRefMay
namespace Go.Proofs.YtjpjjddkbohbpaaX
open Go.RowKit Go.Proofs.YtjpjjddkbohbpaaW.PrintWords
set_option linter.unusedVariables false
set_option maxHeartbeats 400000 in
set_option maxRecDepth 100000 in
theorem refAll_no (a k s l d0 d1 d2 d3 d4 d5 p : Int) (A : Option Addr) (n c : Nat) (w : World) (hm : mayB a k s l [d0, d1, d2, d3, d4, d5] p = false) :
    Calls Try.prog 15 #[.agg (inoCells a k s l d0 d1 d2 d3 d4 d5 p), .slice A n c] w fun e w' => e = .returned (.tuple #[.slice none 0 0, .int .i64 1]) ∧ Below w.heap.size w w' := by
  have hu41 := Aside0.mk Try.underlying41
  have HM := Aside0.mk hm
  clear hm
  go_enter Try.func15, Try.ntmps15
  go_wp2_with (first | ((with_reducible refine gate_dst (N := 2) rfl ?_); refine box_event ?hg (N := 2) ?hd (cs := inoCells a k s l d0 d1 d2 d3 d4 d5 p) (t := 41) ?hr ?_; (case hd => rfl); (case hg => rfl); (case hr => first | (go_simp; done) | (go_simp; rfl)); intro gb hg w1 hbox hb; have HB1 := Aside0.mk hb; have BK1 := Aside0.mk hbox; have GE1 := Aside0.mk (Nat.le_of_eq hg.symm); clear hb hbox hg) | ((with_reducible refine gate_dst (N := 9) rfl ?_); refine wpList_load_row rfl 41 (.tmp 2) rfl gb rfl _ _ _ _ BK1.out hu41.out rfl sizeInode ?_) | (go_at_call 26; refine (refMay_any a k s l d0 d1 d2 d3 d4 d5 p _).mono ?_; rw [HM.out]; rintro e w5 ⟨rfl, hb⟩; have HB5 := Aside0.mk (below_step HB1.out hb); have BK5 := Aside0.mk (blk_below BK1.out hb); clear hb HB1 BK1))
  go_ret2
  exact ⟨rfl, HB5.out⟩
set_option maxHeartbeats 400000 in
set_option maxRecDepth 100000 in
theorem refAll_yes (a k s l d0 d1 d2 d3 d4 d5 p : Int) (A : Option Addr) (n c : Nat) (xs : List Int) (m : Nat) (w : World) (hs : s ≤ 9223372036854775807) (hr : ReadsInt w .u32 A n xs) (hc : n ≤ c) (hm : mayB a k s l [d0, d1, d2, d3, d4, d5] p = true) (hb : blk s = (m : Int)) (hm34 : m ≤ 34) :
    Calls Try.prog 15 #[.agg (inoCells a k s l d0 d1 d2 d3 d4 d5 p), .slice A n c] w fun e w' => ∃ v, e = .returned (.tuple #[v, .int .i64 0]) ∧ w'.ownsRow w.heap.size 38 1 v m (nums .u32 (allN [d0, d1, d2, d3, d4, d5] xs m)) ∧ Below w.heap.size w w' := by
  have hu41 := Aside0.mk Try.underlying41
  have HM := Aside0.mk hm
  have HBK := Aside0.mk hb
  have HR := Aside0.mk hr
  clear hm hb hr
  go_enter Try.func15, Try.ntmps15
  go_wp2_with (first | ((with_reducible refine gate_dst (N := 2) rfl ?_); refine box_event ?hg (N := 2) ?hd (cs := inoCells a k s l d0 d1 d2 d3 d4 d5 p) (t := 41) ?hr ?_; (case hd => rfl); (case hg => rfl); (case hr => first | (go_simp; done) | (go_simp; rfl)); intro gb hg w1 hbox hb; have HB1 := Aside0.mk hb; have BK1 := Aside0.mk hbox; have GE1 := Aside0.mk (Nat.le_of_eq hg.symm); clear hb hbox hg) | ((with_reducible refine gate_dst (N := 9) rfl ?_); refine wpList_load_row rfl 41 (.tmp 2) rfl gb rfl _ _ _ _ BK1.out hu41.out rfl sizeInode ?_) | (go_at_call 26; refine (refMay_any a k s l d0 d1 d2 d3 d4 d5 p _).mono ?_; rw [HM.out]; rintro e w5 ⟨rfl, hb⟩; have HB5 := Aside0.mk (below_step HB1.out hb); have BK5 := Aside0.mk (blk_below BK1.out hb); clear hb HB1 BK1))
  go_loopw [6, 7] (fun v i wr => ∃ j : Nat, j ≤ m ∧ i = .int .i64 j ∧ Aside0 (wr.ownsRow w.heap.size 38 1 v j (nums .u32 (allN [d0, d1, d2, d3, d4, d5] xs j))) ∧ Aside0 (wr.heap[gb]? = some (.cells (inoCells a k s l d0 d1 d2 d3 d4 d5 p) 41 (0, 0))) ∧ Aside0 (Below w.heap.size w wr)) (fun _ i _ => m - (intOf i).toNat)
  case atStart => exact ⟨0, Nat.zero_le _, rfl, ⟨own_nil _ _ _ _⟩, BK5, HB5⟩
  case round =>
    obtain ⟨j, hj, rfl, HO, BK, HB⟩ := hrel
    clear BK5 HB5
    have c2 := (blk_cell BK.out 2).trans (show (inoCells a k s l d0 d1 d2 d3 d4 d5 p)[2]? = some (.int .i64 s) from rfl)
    by_cases hlt : j < m
    · have hj0 : (0 : Int) ≤ (j : Int) := Int.natCast_nonneg _
      have hlt' : (j : Int) < (m : Int) := by omega
      have hstep := allN_step [d0, d1, d2, d3, d4, d5] xs j
      have HO2 : Aside0 (wr.ownsRow w.heap.size 38 1 u6 (allN [d0, d1, d2, d3, d4, d5] xs j).length (nums .u32 (allN [d0, d1, d2, d3, d4, d5] xs j))) := ⟨by rw [allN_length]; exact HO.out⟩
      by_cases h6 : j < 6
      · rw [if_pos h6] at hstep
        have hc6 := (blk_cell BK.out (4 + j)).trans (ino_cell a k s l d0 d1 d2 d3 d4 d5 p j h6)
        obtain ⟨y, hy⟩ : ∃ y, [d0, d1, d2, d3, d4, d5].getD j 0 = y := ⟨_, rfl⟩
        rw [hy] at hstep hc6
        have HST := Aside0.mk hstep
        clear hstep hy
        have hj6 : (j : Int) < 6 := by omega
        go_wp2_with (first | (go_at_call 27; refine (refBlocks_any s _ hs).mono ?_; rw [HBK.out]; rintro e w' ⟨rfl, ⟨nd, rfl⟩⟩) | (at_builtin; with_reducible refine gate_dst (N := 38) rfl ?_; refine print_append_num (w0 := w) w.heap.size rfl (.tmp 35) (.tmp 37) 42 38 .u32 4 rfl Try.underlying42 infoU32 (by omega) u6 (allN [d0, d1, d2, d3, d4, d5] xs j) y rfl rfl (pw_own_drewN HO2.out nd) (pw_below_drewN HB.out nd) (pw_below_drewN HB.out nd).size (by rw [allN_length]; omega) ?_; intro v2 w4 ho hb4 hg4 _; rw [← HST.out] at ho; rw [allN_length] at ho; have HO4 := Aside0.mk ho; have HB4 := Aside0.mk hb4; have BK4 := Aside0.mk (blk_grown (blk_drewN BK.out nd) hg4 (own_ne HO.out BK.out (by decide))); clear ho hb4 hg4))
        go_roundw
        case rel => exact ⟨j + 1, by omega, by go_num, HO4, BK4, HB4⟩
        case measure => simp [intOf]; omega
      · rw [if_neg h6] at hstep
        obtain ⟨t, ht⟩ : ∃ t : Nat, j = 6 + t := ⟨j - 6, by omega⟩
        have htt : j - 6 = t := by omega
        have hjt : (j : Int) - 6 = (t : Int) := by omega
        have hj6 : ¬ (j : Int) < 6 := by omega
        rw [htt] at hstep
        have HT := Aside0.mk ht
        clear ht
        by_cases hl : t < n
        · obtain ⟨ad, rfl, hcx⟩ := (HR.out.below HB.out).at_ t (by omega) (by omega)
          rw [Int.toNat_natCast] at hcx
          have hx0 : rd xs t = xs.getD t 0 := by unfold rd; rw [Int.toNat_natCast]
          rw [hx0] at hcx
          obtain ⟨y, hy⟩ : ∃ y, xs.getD t 0 = y := ⟨_, rfl⟩
          rw [hy] at hstep hcx
          have HST := Aside0.mk hstep
          have hl' : (t : Int) < (n : Int) := by omega
          clear hstep hy hx0 htt h6
          go_wp2_with (first | (go_at_call 27; refine (refBlocks_any s _ hs).mono ?_; rw [HBK.out]; rintro e w' ⟨rfl, ⟨nd, rfl⟩⟩) | (at_builtin; with_reducible refine gate_dst (N := 38) rfl ?_; refine print_append_num (w0 := w) w.heap.size rfl (.tmp 35) (.tmp 37) 42 38 .u32 4 rfl Try.underlying42 infoU32 (by omega) u6 (allN [d0, d1, d2, d3, d4, d5] xs j) y rfl rfl (pw_own_drewN HO2.out nd) (pw_below_drewN HB.out nd) (pw_below_drewN HB.out nd).size (by rw [allN_length]; omega) ?_; intro v2 w4 ho hb4 hg4 _; rw [← HST.out] at ho; rw [allN_length] at ho; have HO4 := Aside0.mk ho; have HB4 := Aside0.mk hb4; have BK4 := Aside0.mk (blk_grown (blk_drewN BK.out nd) hg4 (own_ne HO.out BK.out (by decide))); clear ho hb4 hg4))
          go_roundw
          case rel => exact ⟨j + 1, by omega, by go_num, HO4, BK4, HB4⟩
          case measure => simp [intOf]; omega
        · have hy : xs.getD t 0 = 0 := by
            rw [List.getD_eq_getElem?_getD, List.getElem?_eq_none (by have := HR.out.1; omega)]; rfl
          rw [hy] at hstep
          have HST := Aside0.mk hstep
          have hl' : ¬ (t : Int) < (n : Int) := by omega
          clear hstep hy htt h6
          go_wp2_with (first | (go_at_call 27; refine (refBlocks_any s _ hs).mono ?_; rw [HBK.out]; rintro e w' ⟨rfl, ⟨nd, rfl⟩⟩) | (at_builtin; with_reducible refine gate_dst (N := 38) rfl ?_; refine print_append_num (w0 := w) w.heap.size rfl (.tmp 35) (.tmp 37) 42 38 .u32 4 rfl Try.underlying42 infoU32 (by omega) u6 (allN [d0, d1, d2, d3, d4, d5] xs j) 0 rfl rfl (pw_own_drewN HO2.out nd) (pw_below_drewN HB.out nd) (pw_below_drewN HB.out nd).size (by rw [allN_length]; omega) ?_; intro v2 w4 ho hb4 hg4 _; rw [← HST.out] at ho; rw [allN_length] at ho; have HO4 := Aside0.mk ho; have HB4 := Aside0.mk hb4; have BK4 := Aside0.mk (blk_grown (blk_drewN BK.out nd) hg4 (own_ne HO.out BK.out (by decide))); clear ho hb4 hg4))
          go_roundw
          case rel => exact ⟨j + 1, by omega, by go_num, HO4, BK4, HB4⟩
          case measure => simp [intOf]; omega
    · have hjn : j = m := by omega
      subst hjn
      go_wp2_with (first | (go_at_call 27; refine (refBlocks_any s _ hs).mono ?_; rw [HBK.out]; rintro e w' ⟨rfl, ⟨nd, rfl⟩⟩))
      go_ret2
      exact ⟨_, rfl, pw_own_drewN HO.out _, pw_below_drewN HB.out _⟩
end Go.Proofs.YtjpjjddkbohbpaaX
