/- InodeCounts. -/
import Derived.Test.YtencgnhgjegknaaIWakes
namespace Go.Proofs.YtencgnhgjegknaaX
open Go.RowKit Go.Proofs.YtencgnhgjegknaaW.PrintWords
set_option linter.unusedVariables false
theorem filt_ne (l : List Int) (j : Nat) (h : j < (filt l).length) : ((filt l).getD j 0 == 0) = false := by
  rw [List.getD_eq_getElem?_getD, List.getElem?_eq_getElem h]
  have hm : (filt l)[j] ∈ l.filter (fun x => x != 0) := List.getElem_mem h
  have := (List.mem_filter.1 hm).2
  simpa using this
theorem filt7 (d0 d1 d2 d3 d4 d5 p : Int) : (filt [d0, d1, d2, d3, d4, d5, p]).length ≤ 7 := List.length_filter_le _ _
theorem filt_cons0 (l : List Int) : filt (0 :: l) = filt l := by simp [filt]
theorem filt_few {a k s l d0 d1 d2 d3 d4 d5 p : Int} (hm : mayB a k s l [d0, d1, d2, d3, d4, d5] p = true) (h6 : blk s ≤ 6) : ((filt [d0, d1, d2, d3, d4, d5, p]).length : Int) ≤ blk s := by
  have hr : RangeOk a k s l := by
    by_cases hr : RangeOk a k s l
    · exact hr
    · rw [may_no hr] at hm; cases hm
  have h0 : 0 ≤ blk s := by unfold blk; split <;> omega
  obtain ⟨n, hn⟩ : ∃ n : Nat, blk s = n := ⟨(blk s).toNat, by omega⟩
  rw [hn] at h6 ⊢
  unfold mayB at hm
  rw [hn] at hm
  simp only [Bool.and_eq_true, Bool.not_eq_true', Int.toNat_natCast, Bool.or_eq_true, decide_eq_true_eq] at hm
  obtain ⟨_, hz, hp⟩ := hm
  have hp0 : p = 0 := by
    rcases hp with h | h
    · omega
    · simpa using h
  subst hp0
  rw [Nat.min_eq_left (by omega)] at hz
  have hsplit : [d0, d1, d2, d3, d4, d5, 0] = [d0, d1, d2, d3, d4, d5].take n ++ ([d0, d1, d2, d3, d4, d5].drop n ++ [0]) := by
    rw [← List.append_assoc, List.take_append_drop]; rfl
  rw [hsplit]
  unfold filt
  rw [List.filter_append]
  have hz2 : ([d0, d1, d2, d3, d4, d5].drop n ++ [0]).filter (fun x => x != 0) = [] := by
    rw [List.filter_eq_nil_iff]
    intro x hx
    rcases List.mem_append.1 hx with h | h
    · unfold anyNZ at hz
      rw [List.any_eq_false] at hz
      exact hz x h
    · simp at h; subst h; simp
  rw [hz2, List.append_nil]
  have := List.length_filter_le (fun x => x != 0) (List.take n [d0, d1, d2, d3, d4, d5])
  have h2 : (List.take n [d0, d1, d2, d3, d4, d5]).length ≤ n := by rw [List.length_take]; omega
  omega
set_option maxHeartbeats 2000000 in
set_option maxRecDepth 100000 in
theorem counts_walk (size N a k s l d0 d1 d2 d3 d4 d5 p M : Int) (FL : List Int) (mb : Bool) (w : World) (hs : s ≤ 9223372036854775807) (hsz : size ≤ 9223372036854775807) (hN : blk size = N) (hM : blk s = M) (hm : mayB a k s l [d0, d1, d2, d3, d4, d5] p = mb) (hFL : filt [d0, d1, d2, d3, d4, d5, p] = FL)
    (hsize : (size ≤ 0 ∧ N = 0) ∨ (0 < size ∧ 1 ≤ N ∧ (N - 1) * 112 < size ∧ size - (N - 1) * 112 ≤ 112)) (hf7 : FL.length ≤ 7) (hne : ∀ j, j < FL.length → (FL.getD j 0 == 0) = false) (hmb : mb = true → M ≤ 34 ∧ (M ≤ 6 → (FL.length : Int) ≤ M)) :
    Calls Try.prog 6 #[.int .i64 size, .agg (inoCells a k s l d0 d1 d2 d3 d4 d5 p)] w fun e w' => e = .returned (.bool true) ∧ Below w.heap.size w w' := by
  have hu25 := Aside0.mk Try.underlying25
  have HN := Aside0.mk hN
  have HM := Aside0.mk hM
  have HB := Aside0.mk hm
  have HF := Aside0.mk hFL
  have HNE := Aside0.mk hne
  have HMB := Aside0.mk hmb
  clear hN hM hm hFL hne hmb
  have hf7' : (FL.length : Int) ≤ 7 := by omega
  rcases hsize with ⟨z1, rfl⟩ | ⟨z1, z2, z3, z4⟩
  · have y1 : ¬ 0 < size := by omega
    go_enter Try.func6, Try.ntmps6
    go_wp2_with (first | ((with_reducible refine gate_dst (N := 3) rfl ?_); refine box_event ?hg (N := 3) ?hd (cs := inoCells a k s l d0 d1 d2 d3 d4 d5 p) (t := 25) ?hr ?_; (case hd => rfl); (case hg => rfl); (case hr => first | (go_simp; done) | (go_simp; rfl)); intro gb hg w1 hbox hb; have HB1 := Aside0.mk (hb); have BK1 := Aside0.mk (hbox); clear hb hbox hg) | (go_at_call 14; refine (blocks_any size _ hsz).mono ?_; rw [HN.out]; rintro e w' ⟨rfl, rfl⟩) | ((with_reducible refine gate_dst (N := 40) rfl ?_); refine wpList_load_row rfl 25 (.tmp 3) (by kernel_rfl) gb (by kernel_rfl) _ _ _ _ BK1.out hu25.out rfl sizeInode ?_) | (go_at_call 10; refine (pointers_any a k s l d0 d1 d2 d3 d4 d5 p _).mono ?_; rw [HF.out]; rintro e w2 ⟨A9, c9, rfl, hr, hc, hb⟩; have HB2 := Aside0.mk (below_step HB1.out hb); have BK2 := Aside0.mk (blk_below BK1.out hb); have R2 := Aside0.mk (hr); clear hb hr hc))
    go_loopw [7] (fun i wr => ∃ j : Nat, j ≤ FL.length ∧ i = .int .i64 j ∧ Aside0 (Below w2.heap.size w2 wr)) (fun i _ => FL.length - (intOf i).toNat)
    case atStart => exact ⟨0, Nat.zero_le _, rfl, ⟨Below.refl _ _⟩⟩
    case round =>
      obtain ⟨j, hj, rfl, KW⟩ := hrel
      by_cases hlt : j < FL.length
      · have hlt' : (j : Int) < (FL.length : Int) := by omega
        have hj0 : (0 : Int) ≤ (j : Int) := Int.natCast_nonneg _
        obtain ⟨ad, rfl, hc⟩ := (R2.out.below KW.out).at_ j hj0 hlt'
        rw [Int.toNat_natCast] at hc
        have hx0 : rd FL (j : Int) = FL.getD j 0 := by unfold rd; rw [Int.toNat_natCast]
        rw [hx0] at hc
        have hz := HNE.out j hlt
        obtain ⟨x, hx⟩ : ∃ x, FL.getD j 0 = x := ⟨_, rfl⟩
        rw [hx] at hc hz
        have hz0 : ¬ x = 0 := by simpa using hz
        clear hx hx0
        go_wp2
        go_roundw
        case rel => exact ⟨j + 1, by omega, by go_num, KW⟩
        case measure => simp [intOf]; omega
      · obtain rfl : j = FL.length := by omega
        clear hlt hj
        have HB3 := Aside0.mk (below_step HB2.out KW.out)
        have BK3 := Aside0.mk (blk_below BK2.out KW.out)
        have MB := HMB.out
        cases mb
        · go_wp2_with (first | ((with_reducible refine gate_dst (N := 53) rfl ?_); refine wpList_load_row rfl 25 (.tmp 3) (by kernel_rfl) gb (by kernel_rfl) _ _ _ _ BK3.out hu25.out rfl sizeInode ?_) | (go_at_call 12; refine (may_any a k s l d0 d1 d2 d3 d4 d5 p _ hs).mono ?_; rw [HB.out]; rintro e w8 ⟨rfl, hb⟩; have HB8 := Aside0.mk (below_step HB3.out hb); have cs2 := (blk_cell (blk_below BK3.out hb) 2).trans (show (inoCells a k s l d0 d1 d2 d3 d4 d5 p)[2]? = some (.int .i64 s) from rfl); clear hb) | (go_at_call 16; refine (wakes_true _).mono ?_; rintro e w9 ⟨rfl, hb⟩; have HB9 := Aside0.mk (below_step HB8.out hb); clear hb))
          go_ret
          exact ⟨rfl, HB9.out⟩
        · obtain ⟨m1, m2⟩ := MB rfl
          clear MB
          by_cases h6 : 6 < M
          · have g1 : ¬ M ≤ 6 := by omega
            clear m2
            go_wp2_with (first | ((with_reducible refine gate_dst (N := 53) rfl ?_); refine wpList_load_row rfl 25 (.tmp 3) (by kernel_rfl) gb (by kernel_rfl) _ _ _ _ BK3.out hu25.out rfl sizeInode ?_) | (go_at_call 12; refine (may_any a k s l d0 d1 d2 d3 d4 d5 p _ hs).mono ?_; rw [HB.out]; rintro e w8 ⟨rfl, hb⟩; have HB8 := Aside0.mk (below_step HB3.out hb); have cs2 := (blk_cell (blk_below BK3.out hb) 2).trans (show (inoCells a k s l d0 d1 d2 d3 d4 d5 p)[2]? = some (.int .i64 s) from rfl); clear hb) | (go_at_call 14; refine (blocks_any s _ hs).mono ?_; rw [HM.out]; rintro e w' ⟨rfl, rfl⟩) | (go_at_call 16; refine (wakes_true _).mono ?_; rintro e w9 ⟨rfl, hb⟩; have HB9 := Aside0.mk (below_step HB8.out hb); clear hb))
            go_ret
            exact ⟨rfl, HB9.out⟩
          · have g1 := m2 (by omega)
            clear m2
            go_wp2_with (first | ((with_reducible refine gate_dst (N := 53) rfl ?_); refine wpList_load_row rfl 25 (.tmp 3) (by kernel_rfl) gb (by kernel_rfl) _ _ _ _ BK3.out hu25.out rfl sizeInode ?_) | (go_at_call 12; refine (may_any a k s l d0 d1 d2 d3 d4 d5 p _ hs).mono ?_; rw [HB.out]; rintro e w8 ⟨rfl, hb⟩; have HB8 := Aside0.mk (below_step HB3.out hb); have cs2 := (blk_cell (blk_below BK3.out hb) 2).trans (show (inoCells a k s l d0 d1 d2 d3 d4 d5 p)[2]? = some (.int .i64 s) from rfl); clear hb) | (go_at_call 14; refine (blocks_any s _ hs).mono ?_; rw [HM.out]; rintro e w' ⟨rfl, rfl⟩) | (go_at_call 16; refine (wakes_true _).mono ?_; rintro e w9 ⟨rfl, hb⟩; have HB9 := Aside0.mk (below_step HB8.out hb); clear hb))
            go_ret
            exact ⟨rfl, HB9.out⟩
  · have y1 : ¬ size ≤ 0 := by omega
    have y2 : ¬ N < 1 := by omega
    have y3 : ¬ size ≤ (N - 1) * 112 := by omega
    have y4 : ¬ 112 < size - (N - 1) * 112 := by omega
    have v1 : IntKind.i64.wrap (N - 1) = N - 1 := IntWalk.i64_in _ (by omega)
    have v2 : IntKind.i64.wrap ((N - 1) * 112) = (N - 1) * 112 := IntWalk.i64_in _ (by omega)
    have v3 : IntKind.i64.wrap (size - (N - 1) * 112) = size - (N - 1) * 112 := IntWalk.i64_in _ (by omega)
    clear z3 z4
    go_enter Try.func6, Try.ntmps6
    go_wp2_with (first | ((with_reducible refine gate_dst (N := 3) rfl ?_); refine box_event ?hg (N := 3) ?hd (cs := inoCells a k s l d0 d1 d2 d3 d4 d5 p) (t := 25) ?hr ?_; (case hd => rfl); (case hg => rfl); (case hr => first | (go_simp; done) | (go_simp; rfl)); intro gb hg w1 hbox hb; have HB1 := Aside0.mk (hb); have BK1 := Aside0.mk (hbox); clear hb hbox hg) | (go_at_call 14; refine (blocks_any size _ hsz).mono ?_; rw [HN.out]; rintro e w' ⟨rfl, rfl⟩) | ((with_reducible refine gate_dst (N := 40) rfl ?_); refine wpList_load_row rfl 25 (.tmp 3) (by kernel_rfl) gb (by kernel_rfl) _ _ _ _ BK1.out hu25.out rfl sizeInode ?_) | (go_at_call 10; refine (pointers_any a k s l d0 d1 d2 d3 d4 d5 p _).mono ?_; rw [HF.out]; rintro e w2 ⟨A9, c9, rfl, hr, hc, hb⟩; have HB2 := Aside0.mk (below_step HB1.out hb); have BK2 := Aside0.mk (blk_below BK1.out hb); have R2 := Aside0.mk (hr); clear hb hr hc))
    go_loopw [7] (fun i wr => ∃ j : Nat, j ≤ FL.length ∧ i = .int .i64 j ∧ Aside0 (Below w2.heap.size w2 wr)) (fun i _ => FL.length - (intOf i).toNat)
    case atStart => exact ⟨0, Nat.zero_le _, rfl, ⟨Below.refl _ _⟩⟩
    case round =>
      obtain ⟨j, hj, rfl, KW⟩ := hrel
      by_cases hlt : j < FL.length
      · have hlt' : (j : Int) < (FL.length : Int) := by omega
        have hj0 : (0 : Int) ≤ (j : Int) := Int.natCast_nonneg _
        obtain ⟨ad, rfl, hc⟩ := (R2.out.below KW.out).at_ j hj0 hlt'
        rw [Int.toNat_natCast] at hc
        have hx0 : rd FL (j : Int) = FL.getD j 0 := by unfold rd; rw [Int.toNat_natCast]
        rw [hx0] at hc
        have hz := HNE.out j hlt
        obtain ⟨x, hx⟩ : ∃ x, FL.getD j 0 = x := ⟨_, rfl⟩
        rw [hx] at hc hz
        have hz0 : ¬ x = 0 := by simpa using hz
        clear hx hx0
        go_wp2
        go_roundw
        case rel => exact ⟨j + 1, by omega, by go_num, KW⟩
        case measure => simp [intOf]; omega
      · obtain rfl : j = FL.length := by omega
        clear hlt hj
        have HB3 := Aside0.mk (below_step HB2.out KW.out)
        have BK3 := Aside0.mk (blk_below BK2.out KW.out)
        have MB := HMB.out
        cases mb
        · go_wp2_with (first | ((with_reducible refine gate_dst (N := 53) rfl ?_); refine wpList_load_row rfl 25 (.tmp 3) (by kernel_rfl) gb (by kernel_rfl) _ _ _ _ BK3.out hu25.out rfl sizeInode ?_) | (go_at_call 12; refine (may_any a k s l d0 d1 d2 d3 d4 d5 p _ hs).mono ?_; rw [HB.out]; rintro e w8 ⟨rfl, hb⟩; have HB8 := Aside0.mk (below_step HB3.out hb); have cs2 := (blk_cell (blk_below BK3.out hb) 2).trans (show (inoCells a k s l d0 d1 d2 d3 d4 d5 p)[2]? = some (.int .i64 s) from rfl); clear hb) | (go_at_call 16; refine (wakes_true _).mono ?_; rintro e w9 ⟨rfl, hb⟩; have HB9 := Aside0.mk (below_step HB8.out hb); clear hb))
          go_ret
          exact ⟨rfl, HB9.out⟩
        · obtain ⟨m1, m2⟩ := MB rfl
          clear MB
          by_cases h6 : 6 < M
          · have g1 : ¬ M ≤ 6 := by omega
            clear m2
            go_wp2_with (first | ((with_reducible refine gate_dst (N := 53) rfl ?_); refine wpList_load_row rfl 25 (.tmp 3) (by kernel_rfl) gb (by kernel_rfl) _ _ _ _ BK3.out hu25.out rfl sizeInode ?_) | (go_at_call 12; refine (may_any a k s l d0 d1 d2 d3 d4 d5 p _ hs).mono ?_; rw [HB.out]; rintro e w8 ⟨rfl, hb⟩; have HB8 := Aside0.mk (below_step HB3.out hb); have cs2 := (blk_cell (blk_below BK3.out hb) 2).trans (show (inoCells a k s l d0 d1 d2 d3 d4 d5 p)[2]? = some (.int .i64 s) from rfl); clear hb) | (go_at_call 14; refine (blocks_any s _ hs).mono ?_; rw [HM.out]; rintro e w' ⟨rfl, rfl⟩) | (go_at_call 16; refine (wakes_true _).mono ?_; rintro e w9 ⟨rfl, hb⟩; have HB9 := Aside0.mk (below_step HB8.out hb); clear hb))
            go_ret
            exact ⟨rfl, HB9.out⟩
          · have g1 := m2 (by omega)
            clear m2
            go_wp2_with (first | ((with_reducible refine gate_dst (N := 53) rfl ?_); refine wpList_load_row rfl 25 (.tmp 3) (by kernel_rfl) gb (by kernel_rfl) _ _ _ _ BK3.out hu25.out rfl sizeInode ?_) | (go_at_call 12; refine (may_any a k s l d0 d1 d2 d3 d4 d5 p _ hs).mono ?_; rw [HB.out]; rintro e w8 ⟨rfl, hb⟩; have HB8 := Aside0.mk (below_step HB3.out hb); have cs2 := (blk_cell (blk_below BK3.out hb) 2).trans (show (inoCells a k s l d0 d1 d2 d3 d4 d5 p)[2]? = some (.int .i64 s) from rfl); clear hb) | (go_at_call 14; refine (blocks_any s _ hs).mono ?_; rw [HM.out]; rintro e w' ⟨rfl, rfl⟩) | (go_at_call 16; refine (wakes_true _).mono ?_; rintro e w9 ⟨rfl, hb⟩; have HB9 := Aside0.mk (below_step HB8.out hb); clear hb))
            go_ret
            exact ⟨rfl, HB9.out⟩
theorem counts_law (size a k s l d0 d1 d2 d3 d4 d5 p : Int) (w : World) (hs : s ≤ 9223372036854775807) (hsz : size ≤ 9223372036854775807) :
    Calls Try.prog 6 #[.int .i64 size, .agg (inoCells a k s l d0 d1 d2 d3 d4 d5 p)] w fun e w' => e = .returned (.bool true) ∧ Below w.heap.size w w' := by
  refine counts_walk size _ a k s l d0 d1 d2 d3 d4 d5 p _ _ _ w hs hsz rfl rfl rfl rfl ?_ (filt7 _ _ _ _ _ _ _) (filt_ne _) ?_
  · unfold blk
    by_cases h : size ≤ 0
    · rw [if_pos h]; exact .inl ⟨h, rfl⟩
    · rw [if_neg h]; exact .inr (by omega)
  · intro hm
    have hr : RangeOk a k s l := by
      by_cases hr : RangeOk a k s l
      · exact hr
      · rw [may_no hr] at hm; cases hm
    refine ⟨?_, filt_few hm⟩
    have h4 := hr.2.2.2.1
    have h5 : s ≤ 3808 := by
      unfold maxSize at h4
      split at h4 <;> omega
    unfold blk; split <;> omega
end Go.Proofs.YtencgnhgjegknaaX
