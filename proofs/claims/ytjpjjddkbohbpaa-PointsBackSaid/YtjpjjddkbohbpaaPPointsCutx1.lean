-- PRINTED BY print.sh 35421559b90ae4d0a3588c463048766b98c2df88dd9212a6774a882060cdf62d: not written by this session
import Derived.Test.YtjpjjddkbohbpaaPPointsCutx0
namespace Go.Proofs.Ytjpjjddkbohbpaa.PPointsCut
open Go.RowKit Go.Proofs.YtjpjjddkbohbpaaW.PrintWords Go.Proofs.YtjpjjddkbohbpaaW.PrintLast Go.Proofs.YtjpjjddkbohbpaaW.PrintMore
attribute [local go_sem] max2_int min2_int max_two min_two max_three min_three max_four min_four   -- for this text's walks alone
set_option linter.unusedVariables false
set_option linter.unusedSimpArgs false

/-! ### points_Cut: function 10 -/
mutual
def points_Cut.j0 : Nat → Int → Int → Bool → Option ((List (S31)) × Int)
  | 0, _, _, _ => none
  | k + 1, x0, x1, x10 => if x10 = true then (some (([] : List (S31)), 1)) else (if x0 > 3808 then (some (([] : List (S31)), 39)) else (if x1 > (wrap64 (3808 - x0)) then (some (([] : List (S31)), 39)) else (points_Cut.l0 k x0 x1 ([] : List (S31)) 0)))
def points_Cut.l0 : Nat → Int → Int → List (S31) → Int → Option ((List (S31)) × Int)
  | 0, _, _, _, _ => none
  | k + 1, x0, x1, x6, x7 => if x7 < x1 then (if x6.length < 4398046511104 then (points_Cut.l0 k x0 x1 (x6 ++ [(⟨wrap64 (Int.tdiv (wrap64 (x0 + x7)) 112), Int.tmod (wrap64 (x0 + x7)) 112, mn 112 (wrap64 ((wrap64 ((Int.tmod (wrap64 (x0 + x7)) 112) + x1)) - x7)), x7⟩ : S31)]) (wrap64 (x7 + (wrap64 ((mn 112 (wrap64 ((wrap64 ((Int.tmod (wrap64 (x0 + x7)) 112) + x1)) - x7))) - (Int.tmod (wrap64 (x0 + x7)) 112)))))) else (none)) else (some (x6, 0))
end
def points_Cut.f (k : Nat) (a0 : Int) (a1 : Int) : Option ((List (S31)) × Int) := if a0 < 0 then (points_Cut.j0 k a0 a1 true) else (points_Cut.j0 k a0 a1 (decide (a1 < 0)))
theorem points_Cut.mono_l : ∀ k, (∀ y0 y1 y2, LeO (points_Cut.j0 k y0 y1 y2) (points_Cut.j0 (k + 1) y0 y1 y2)) ∧ (∀ y0 y1 y2 y3, LeO (points_Cut.l0 k y0 y1 y2 y3) (points_Cut.l0 (k + 1) y0 y1 y2 y3))
  | 0 => ⟨fun _ _ _ r h => by simp [points_Cut.j0] at h, fun _ _ _ _ r h => by simp [points_Cut.l0] at h⟩
  | k + 1 => by
    obtain ⟨ih0, ih1⟩ := points_Cut.mono_l k
    refine ⟨?_, ?_⟩
    · intro y0 y1 y2
      unfold points_Cut.j0
      repeat' first
      | (with_reducible exact ih0 _ _ _)
      | (with_reducible exact ih1 _ _ _ _)
      | (with_reducible exact LeO.refl _)
      | (with_reducible exact LeO.none _)
      | (with_reducible refine LeO.ite ?_ ?_)
      | (with_reducible refine LeO.bind ?_ (fun _ => ?_))
      | exact ih0 _ _ _
      | exact ih1 _ _ _ _
      | exact LeO.none _
      | refine LeO.ite ?_ ?_
      | refine LeO.bind ?_ (fun _ => ?_)
    · intro y0 y1 y2 y3
      unfold points_Cut.l0
      repeat' first
      | (with_reducible exact ih0 _ _ _)
      | (with_reducible exact ih1 _ _ _ _)
      | (with_reducible exact LeO.refl _)
      | (with_reducible exact LeO.none _)
      | (with_reducible refine LeO.ite ?_ ?_)
      | (with_reducible refine LeO.bind ?_ (fun _ => ?_))
      | exact ih0 _ _ _
      | exact ih1 _ _ _ _
      | exact LeO.none _
      | refine LeO.ite ?_ ?_
      | refine LeO.bind ?_ (fun _ => ?_)
theorem points_Cut.mono : ∀ a0 a1 k, LeO (points_Cut.f k a0 a1) (points_Cut.f (k + 1) a0 a1) := by
  intro a0 a1 k
  obtain ⟨ih0, ih1⟩ := points_Cut.mono_l k
  unfold points_Cut.f
  repeat' first
      | (with_reducible exact ih0 _ _ _)
      | (with_reducible exact ih1 _ _ _ _)
      | (with_reducible exact LeO.refl _)
      | (with_reducible exact LeO.none _)
      | (with_reducible refine LeO.ite ?_ ?_)
      | (with_reducible refine LeO.bind ?_ (fun _ => ?_))
      | exact ih0 _ _ _
      | exact ih1 _ _ _ _
      | exact LeO.none _
      | refine LeO.ite ?_ ?_
      | refine LeO.bind ?_ (fun _ => ?_)
set_option maxHeartbeats 8000000 in
set_option maxRecDepth 100000 in
theorem points_Cut.calls (k : Nat) (a0 : Int) (a1 : Int) (r1 : List (S31)) (r2 : Int) (w : World) (h : points_Cut.f k a0 a1 = some (r1, r2)) :
    Calls Try.prog 10 #[.int .i64 a0, .int .i64 a1] w fun e w' => ∃ v0_ : Value, e = .returned (.tuple #[v0_, .int .i64 r2]) ∧ Kd.R k31 31 w' w.heap.size (fun _ => True) v0_ r1 ∧ Below w.heap.size w w' := by
  have hu31 := Try.underlying31
  have HB := Aside0.mk (Below.refl w.heap.size w)
  have H : (if a0 < 0 then (points_Cut.j0 k a0 a1 true) else (points_Cut.j0 k a0 a1 (decide (a1 < 0)))) = some (r1, r2) := h
  clear h
  have HC3 := Aside0.mk H
  clear H
  go_enter Try.func10, Try.ntmps10
  go_upto_region 1 with (fail)
  go_cut [10] (fun v10 wc => ∃ (kq : Nat) (x10_2 : Bool), v10 = .bool x10_2 ∧ Aside0 (points_Cut.j0 kq a0 a1 x10_2 = some (r1, r2)) ∧ Aside0 (kq ≤ k) ∧ Aside0 (Below w.heap.size w wc))
  case first =>
    have H := HC3.out
    clear HC3
    by_cases c4 : a0 < 0
    · rw [if_pos c4] at H
      have c4b0 : decide (a0 < 0) = true := decide_eq_true c4
      clear c4
      (first | rw [c4b0] | (simp only [i64_w, i32_w]; rw [c4b0]) | skip)
      have H' := Aside0.mk H
      clear H
      go_wp2
      go_meet
      case rel => exact ⟨_, (true), (by first | rfl | (simp; done) | (simp [*]; done)), H', ⟨by first | omega | exact Nat.le_refl _⟩, ⟨by repeat (first | (with_reducible first | exact HB.out | apply below_alloc | apply pw_below_drewN | apply below_drew1) | exact HB.out)⟩⟩
    · rw [if_neg c4] at H
      have c4b0 : decide (a0 < 0) = false := decide_eq_false c4
      clear c4
      (first | rw [c4b0] | (simp only [i64_w, i32_w]; rw [c4b0]) | skip)
      have H' := Aside0.mk H
      clear H
      go_wp2
      go_meet
      case rel => exact ⟨_, (decide (a1 < 0)), (by first | rfl | (simp; done) | (simp [*]; done)), H', ⟨by first | omega | exact Nat.le_refl _⟩, ⟨by repeat (first | (with_reducible first | exact HB.out | apply below_alloc | apply pw_below_drewN | apply below_drew1) | exact HB.out)⟩⟩
  case rest =>
    clear HC3
    try clear c1
    try clear p2
    try clear c4
    try clear c4b0
    obtain ⟨kq, x10_2, rfl, HA, HJ2, HB⟩ := hcut
    cases kq with
    | zero => exact absurd HA.out (by simp [points_Cut.j0])
    | succ kj2 =>
      have H := HA.out
      clear HA
      simp only [points_Cut.j0] at H
      by_cases c5 : x10_2 = true
      · subst c5
        have H1 : (some (([] : List (S31)), 1)) = some (r1, r2) := by rw [if_pos rfl] at H; exact H
        clear H
        have H := H1
        clear H1
        simp only [Option.some.injEq, Prod.mk.injEq] at H
        obtain ⟨rfl, rfl⟩ := H
        go_wp2
        go_ret2
        exact ⟨_, by first | rfl | (simp [errW_none, errW_some] <;> rfl) | (simp [*, errW_none, errW_some] <;> rfl), by first | exact Kd.R_nil _ _ _ _ _ | exact Kd.N_nil _ _ _ _ _ | exact Kd.V_nil _ _ _ _ _ | exact Kd.Q_nil _ _ _ _ _ | exact Kd.S_nil _ _ _ _ _, by repeat (first | (with_reducible first | exact HB.out | apply below_alloc | apply pw_below_drewN | apply below_drew1) | exact HB.out)⟩
      · replace c5 := Bool.eq_false_iff.mpr c5
        subst c5
        have H1 : (if a0 > 3808 then (some (([] : List (S31)), 39)) else (if a1 > (wrap64 (3808 - a0)) then (some (([] : List (S31)), 39)) else (points_Cut.l0 kj2 a0 a1 ([] : List (S31)) 0))) = some (r1, r2) := by rw [if_neg (show ¬ (false = true) by decide)] at H; exact H
        clear H
        have H := H1
        clear H1
        by_cases c6 : a0 > 3808
        · rw [if_pos c6] at H
          have c6b0 : decide (3808 < a0) = true := decide_eq_true c6
          clear c6
          simp only [Option.some.injEq, Prod.mk.injEq] at H
          obtain ⟨rfl, rfl⟩ := H
          go_wp2
          go_ret2
          exact ⟨_, by first | rfl | (simp [errW_none, errW_some] <;> rfl) | (simp [*, errW_none, errW_some] <;> rfl), by first | exact Kd.R_nil _ _ _ _ _ | exact Kd.N_nil _ _ _ _ _ | exact Kd.V_nil _ _ _ _ _ | exact Kd.Q_nil _ _ _ _ _ | exact Kd.S_nil _ _ _ _ _, by repeat (first | (with_reducible first | exact HB.out | apply below_alloc | apply pw_below_drewN | apply below_drew1) | exact HB.out)⟩
        · rw [if_neg c6] at H
          have c6b0 : decide (3808 < a0) = false := decide_eq_false c6
          clear c6
          by_cases c7 : a1 > (wrap64 (3808 - a0))
          · rw [if_pos c7] at H
            have c7b0 : decide ((wrap64 (3808 - a0)) < a1) = true := decide_eq_true c7
            clear c7
            simp only [Option.some.injEq, Prod.mk.injEq] at H
            obtain ⟨rfl, rfl⟩ := H
            go_wp2
            go_ret2
            exact ⟨_, by first | rfl | (simp [errW_none, errW_some] <;> rfl) | (simp [*, errW_none, errW_some] <;> rfl), by first | exact Kd.R_nil _ _ _ _ _ | exact Kd.N_nil _ _ _ _ _ | exact Kd.V_nil _ _ _ _ _ | exact Kd.Q_nil _ _ _ _ _ | exact Kd.S_nil _ _ _ _ _, by repeat (first | (with_reducible first | exact HB.out | apply below_alloc | apply pw_below_drewN | apply below_drew1) | exact HB.out)⟩
          · rw [if_neg c7] at H
            have c7b0 : decide ((wrap64 (3808 - a0)) < a1) = false := decide_eq_false c7
            clear c7
            have H' := Aside0.mk H
            clear H
            go_wp2
            go_loopg [6, 7] kj2 (fun kq v6 v7 w' => ∃ (x6_2 : List (S31)) (x7_2 : Int), v7 = .int .i64 x7_2 ∧ Aside0 (points_Cut.l0 kq a0 a1 x6_2 x7_2 = some (r1, r2)) ∧ Aside0 (kq ≤ kj2) ∧ Aside0 (Kd.R k31 31 w' w.heap.size (fun _ => True) v6 x6_2) ∧ Aside0 (Below w.heap.size w w'))
            case atStart => exact ⟨(([] : List (S31))), (0), (by first | rfl | (simp; done) | (simp [*]; done)), H', ⟨Nat.le_refl _⟩, ⟨by first | exact Kd.R_nil _ _ _ _ _ | exact Kd.N_nil _ _ _ _ _ | exact Kd.V_nil _ _ _ _ _ | exact Kd.Q_nil _ _ _ _ _ | exact Kd.S_nil _ _ _ _ _⟩, ⟨by repeat (first | (with_reducible first | exact HB.out | apply below_alloc | apply pw_below_drewN | apply below_drew1) | exact HB.out)⟩⟩
            case round =>
              clear H'
              try clear c1
              try clear p2
              try clear c4
              try clear c4b0
              try clear c5
              try clear c6
              try clear c6b0
              try clear p6
              try clear c7
              try clear c7b0
              try clear p2
              obtain ⟨x6_2, x7_2, rfl, HA, HK2, HO_6, HB⟩ := hrel
              cases gk with
              | zero => exact absurd HA.out (by simp [points_Cut.l0])
              | succ k2 =>
                have H := HA.out
                clear HA
                simp only [points_Cut.l0] at H
                by_cases c8 : x7_2 < a1
                · rw [if_pos c8] at H
                  have c8b0 : decide (x7_2 < a1) = true := decide_eq_true c8
                  clear c8
                  obtain ⟨ji9, hji9⟩ : ∃ j_ : Int, (mn 112 (wrap64 ((wrap64 ((Int.tmod (wrap64 (a0 + x7_2)) 112) + a1)) - x7_2))) = j_ := ⟨_, rfl⟩
                  replace H : (if x6_2.length < 4398046511104 then (points_Cut.l0 k2 a0 a1 (x6_2 ++ [(⟨wrap64 (Int.tdiv (wrap64 (a0 + x7_2)) 112), Int.tmod (wrap64 (a0 + x7_2)) 112, ji9, x7_2⟩ : S31)]) (wrap64 (x7_2 + (wrap64 ((ji9) - (Int.tmod (wrap64 (a0 + x7_2)) 112)))))) else (none)) = some (r1, r2) := by first | (rw [hji9] at H; exact H) | (simp only [hji9] at H ⊢; exact H)
                  have hji9_ : (if (wrap64 ((wrap64 ((Int.tmod (wrap64 (a0 + x7_2)) 112) + a1)) - x7_2)) < 112 then (wrap64 ((wrap64 ((Int.tmod (wrap64 (a0 + x7_2)) 112) + a1)) - x7_2)) else 112) = ji9 := hji9
                  by_cases c10 : x6_2.length < 4398046511104
                  · rw [if_pos c10] at H
                    have LMc10 := Aside0.mk c10
                    clear c10
                    obtain ⟨y101, hy101⟩ : ∃ y_ : List (S31), y_ = (x6_2 ++ [(⟨wrap64 (Int.tdiv (wrap64 (a0 + x7_2)) 112), Int.tmod (wrap64 (a0 + x7_2)) 112, ji9, x7_2⟩ : S31)]) := ⟨_, rfl⟩
                    replace H : (points_Cut.l0 k2 a0 a1 y101 (wrap64 (x7_2 + (wrap64 ((ji9) - (Int.tmod (wrap64 (a0 + x7_2)) 112)))))) = some (r1, r2) := by first | (rw [hy101]; with_reducible exact H) | (have H2_ := (Option.bind_some _ _).symm.trans H; rw [hy101]; with_reducible exact H2_) | (have H2_ := (Option.bind_some _ _).symm.trans H; with_reducible exact H2_) | with_reducible exact H | (rw [hy101]; exact H) | exact H
                    have Ny101 := Aside0.mk hy101
                    clear hy101
                    have H' := Aside0.mk H
                    clear H
                    go_wp2_with (first | ((with_reducible refine gate_builtin (b := .append) (xs := #[.tmp 39, .tmp 48]) rfl ?_); at_builtin; refine Kd.R_append k31 (w0 := w) w.heap.size rfl (.tmp 39) (.tmp 48) 22 31 (.agg #[(.int .i64 0), (.int .i64 0), (.int .i64 0), (.int .i64 0)]) 32 rfl Try.underlying22 info31 rfl (by decide) (by omega) u6 x6_2 (⟨wrap64 (Int.tdiv (wrap64 (a0 + x7_2)) 112), Int.tmod (wrap64 (a0 + x7_2)) 112, ji9, x7_2⟩ : S31) [.int .i64 (wrap64 (Int.tdiv (wrap64 (a0 + x7_2)) 112)), .int .i64 (Int.tmod (wrap64 (a0 + x7_2)) 112), .int .i64 ji9, .int .i64 x7_2] (fun _ => True) (fun _ => False) rfl rfl ?aP (fun _ hk => hk.elim) ?aF ?aO ?aB ?aS ?aL ?_; (case aP => exact k31_mkM _ _ _ (⟨wrap64 (Int.tdiv (wrap64 (a0 + x7_2)) 112), Int.tmod (wrap64 (a0 + x7_2)) 112, ji9, x7_2⟩ : S31)); (case aB => exact (by repeat (first | (with_reducible first | exact HB.out | apply below_alloc | apply pw_below_drewN | apply below_drew1) | exact HB.out))); (case aF => exact (fun _ _ => trivial)); (case aO => exact (by (with_reducible repeat (first | apply Kd.R_alloc | apply Kd.R_drewN | apply Kd.R_drew)); exact HO_6.out)); (case aS => exact (below_size (by repeat (first | (with_reducible first | exact HB.out | apply below_alloc | apply pw_below_drewN | apply below_drew1) | exact HB.out)))); (case aL => have := LMc10.out; omega); intro v102 w11 ho hb hg hat; rw [← Ny101.out] at ho; have n0_ := Aside0.mk (hb); have n1_ := Aside0.mk (ho); clear HB; clear HO_6; have HB := n0_; have HO103 := n1_; clear n0_ n1_; clear ho hb hg hat))
                    go_roundg k2
                    case measure => have := HJ2.out; have := HK2.out; omega
                    case rel => exact ⟨(y101), (wrap64 (x7_2 + (wrap64 ((ji9) - (Int.tmod (wrap64 (a0 + x7_2)) 112))))), (by first | rfl | (simp; done) | (simp only [← hji9] <;> (first | rfl | simp)) | (simp [*]; done)), H', ⟨by have := HJ2.out; have := HK2.out; omega⟩, ⟨by (with_reducible repeat (first | apply Kd.R_alloc | apply Kd.R_drewN | apply Kd.R_drew)); exact HO103.out⟩, ⟨by repeat (first | (with_reducible first | exact HB.out | apply below_alloc | apply pw_below_drewN | apply below_drew1) | exact HB.out)⟩⟩
                  · rw [if_neg c10] at H
                    exact absurd H (by simp)
                · rw [if_neg c8] at H
                  have c8b0 : decide (x7_2 < a1) = false := decide_eq_false c8
                  clear c8
                  simp only [Option.some.injEq, Prod.mk.injEq] at H
                  obtain ⟨rfl, rfl⟩ := H
                  go_wp2
                  go_ret2
                  exact ⟨_, by first | rfl | (simp [errW_none, errW_some] <;> rfl) | (simp [*, errW_none, errW_some] <;> rfl), by (with_reducible repeat (first | apply Kd.R_alloc | apply Kd.R_drewN | apply Kd.R_drew)); exact HO_6.out, by repeat (first | (with_reducible first | exact HB.out | apply below_alloc | apply pw_below_drewN | apply below_drew1) | exact HB.out)⟩

/-! ### hayrickref13_Cut: function 11 -/
mutual
def hayrickref13_Cut.j0 : Nat → Int → Int → Bool → Option ((List (S30)) × Int)
  | 0, _, _, _ => none
  | k + 1, x0, x1, x14 => if x14 = true then (some (([] : List (S30)), 1)) else (if x0 > 3808 then (hayrickref13_Cut.j1 k x0 x1 true) else (if x1 > 3808 then (hayrickref13_Cut.j1 k x0 x1 true) else (hayrickref13_Cut.j1 k x0 x1 (decide ((wrap64 (x0 + x1)) > 3808)))))
def hayrickref13_Cut.j1 : Nat → Int → Int → Bool → Option ((List (S30)) × Int)
  | 0, _, _, _ => none
  | k + 1, x0, x1, x26 => if x26 = true then (some (([] : List (S30)), 39)) else (hayrickref13_Cut.l0 k x0 x1 ([] : List (S30)) 0)
def hayrickref13_Cut.l0 : Nat → Int → Int → List (S30) → Int → Option ((List (S30)) × Int)
  | 0, _, _, _, _ => none
  | k + 1, x0, x1, x6, x7 => if x7 < x1 then (if (x6.length : Int) = 0 then (if x6.length < 4398046511104 then ((some (x6 ++ [(⟨wrap64 (Int.tdiv (wrap64 (x0 + x7)) 112), Int.tmod (wrap64 (x0 + x7)) 112, Int.tmod (wrap64 (x0 + x7)) 112, x7⟩ : S30)] : List (S30))).bind fun y104 => (if 0 ≤ (wrap64 ((y104.length : Int) - 1)) then (if (wrap64 ((y104.length : Int) - 1)) < (y104.length : Int) then (hayrickref13_Cut.l0 k x0 x1 (y104.set ((wrap64 ((y104.length : Int) - 1)) : Int).toNat (⟨(rd_T30 y104 (wrap64 ((y104.length : Int) - 1))).f0, (rd_T30 y104 (wrap64 ((y104.length : Int) - 1))).f1, wrap64 (((rd_T30 y104 (wrap64 ((y104.length : Int) - 1))).f2) + 1), (rd_T30 y104 (wrap64 ((y104.length : Int) - 1))).f3⟩ : S30)) (wrap64 (x7 + 1))) else (none)) else (none))) else (none)) else (if 0 ≤ (wrap64 ((x6.length : Int) - 1)) then (if (wrap64 ((x6.length : Int) - 1)) < (x6.length : Int) then (if ((rd_T30 x6 (wrap64 ((x6.length : Int) - 1))).f0) = (wrap64 (Int.tdiv (wrap64 (x0 + x7)) 112)) then (hayrickref13_Cut.l0 k x0 x1 (x6.set ((wrap64 ((x6.length : Int) - 1)) : Int).toNat (⟨(rd_T30 x6 (wrap64 ((x6.length : Int) - 1))).f0, (rd_T30 x6 (wrap64 ((x6.length : Int) - 1))).f1, wrap64 (((rd_T30 x6 (wrap64 ((x6.length : Int) - 1))).f2) + 1), (rd_T30 x6 (wrap64 ((x6.length : Int) - 1))).f3⟩ : S30)) (wrap64 (x7 + 1))) else (if x6.length < 4398046511104 then ((some (x6 ++ [(⟨wrap64 (Int.tdiv (wrap64 (x0 + x7)) 112), Int.tmod (wrap64 (x0 + x7)) 112, Int.tmod (wrap64 (x0 + x7)) 112, x7⟩ : S30)] : List (S30))).bind fun y112 => (if 0 ≤ (wrap64 ((y112.length : Int) - 1)) then (if (wrap64 ((y112.length : Int) - 1)) < (y112.length : Int) then (hayrickref13_Cut.l0 k x0 x1 (y112.set ((wrap64 ((y112.length : Int) - 1)) : Int).toNat (⟨(rd_T30 y112 (wrap64 ((y112.length : Int) - 1))).f0, (rd_T30 y112 (wrap64 ((y112.length : Int) - 1))).f1, wrap64 (((rd_T30 y112 (wrap64 ((y112.length : Int) - 1))).f2) + 1), (rd_T30 y112 (wrap64 ((y112.length : Int) - 1))).f3⟩ : S30)) (wrap64 (x7 + 1))) else (none)) else (none))) else (none))) else (none)) else (none))) else (some (x6, 0))
end
def hayrickref13_Cut.f (k : Nat) (a0 : Int) (a1 : Int) : Option ((List (S30)) × Int) := if a0 < 0 then (hayrickref13_Cut.j0 k a0 a1 true) else (hayrickref13_Cut.j0 k a0 a1 (decide (a1 < 0)))
theorem hayrickref13_Cut.mono_l : ∀ k, (∀ y0 y1 y2, LeO (hayrickref13_Cut.j0 k y0 y1 y2) (hayrickref13_Cut.j0 (k + 1) y0 y1 y2)) ∧ (∀ y0 y1 y2, LeO (hayrickref13_Cut.j1 k y0 y1 y2) (hayrickref13_Cut.j1 (k + 1) y0 y1 y2)) ∧ (∀ y0 y1 y2 y3, LeO (hayrickref13_Cut.l0 k y0 y1 y2 y3) (hayrickref13_Cut.l0 (k + 1) y0 y1 y2 y3))
  | 0 => ⟨fun _ _ _ r h => by simp [hayrickref13_Cut.j0] at h, fun _ _ _ r h => by simp [hayrickref13_Cut.j1] at h, fun _ _ _ _ r h => by simp [hayrickref13_Cut.l0] at h⟩
  | k + 1 => by
    obtain ⟨ih0, ih1, ih2⟩ := hayrickref13_Cut.mono_l k
    refine ⟨?_, ?_, ?_⟩
    · intro y0 y1 y2
      unfold hayrickref13_Cut.j0
      repeat' first
      | (with_reducible exact ih0 _ _ _)
      | (with_reducible exact ih1 _ _ _)
      | (with_reducible exact ih2 _ _ _ _)
      | (with_reducible exact LeO.refl _)
      | (with_reducible exact LeO.none _)
      | (with_reducible refine LeO.ite ?_ ?_)
      | (with_reducible refine LeO.bind ?_ (fun _ => ?_))
      | exact ih0 _ _ _
      | exact ih1 _ _ _
      | exact ih2 _ _ _ _
      | exact LeO.none _
      | refine LeO.ite ?_ ?_
      | refine LeO.bind ?_ (fun _ => ?_)
    · intro y0 y1 y2
      unfold hayrickref13_Cut.j1
      repeat' first
      | (with_reducible exact ih0 _ _ _)
      | (with_reducible exact ih1 _ _ _)
      | (with_reducible exact ih2 _ _ _ _)
      | (with_reducible exact LeO.refl _)
      | (with_reducible exact LeO.none _)
      | (with_reducible refine LeO.ite ?_ ?_)
      | (with_reducible refine LeO.bind ?_ (fun _ => ?_))
      | exact ih0 _ _ _
      | exact ih1 _ _ _
      | exact ih2 _ _ _ _
      | exact LeO.none _
      | refine LeO.ite ?_ ?_
      | refine LeO.bind ?_ (fun _ => ?_)
    · intro y0 y1 y2 y3
      unfold hayrickref13_Cut.l0
      repeat' first
      | (with_reducible exact ih0 _ _ _)
      | (with_reducible exact ih1 _ _ _)
      | (with_reducible exact ih2 _ _ _ _)
      | (with_reducible exact LeO.refl _)
      | (with_reducible exact LeO.none _)
      | (with_reducible refine LeO.ite ?_ ?_)
      | (with_reducible refine LeO.bind ?_ (fun _ => ?_))
      | exact ih0 _ _ _
      | exact ih1 _ _ _
      | exact ih2 _ _ _ _
      | exact LeO.none _
      | refine LeO.ite ?_ ?_
      | refine LeO.bind ?_ (fun _ => ?_)
theorem hayrickref13_Cut.mono : ∀ a0 a1 k, LeO (hayrickref13_Cut.f k a0 a1) (hayrickref13_Cut.f (k + 1) a0 a1) := by
  intro a0 a1 k
  obtain ⟨ih0, ih1, ih2⟩ := hayrickref13_Cut.mono_l k
  unfold hayrickref13_Cut.f
  repeat' first
      | (with_reducible exact ih0 _ _ _)
      | (with_reducible exact ih1 _ _ _)
      | (with_reducible exact ih2 _ _ _ _)
      | (with_reducible exact LeO.refl _)
      | (with_reducible exact LeO.none _)
      | (with_reducible refine LeO.ite ?_ ?_)
      | (with_reducible refine LeO.bind ?_ (fun _ => ?_))
      | exact ih0 _ _ _
      | exact ih1 _ _ _
      | exact ih2 _ _ _ _
      | exact LeO.none _
      | refine LeO.ite ?_ ?_
      | refine LeO.bind ?_ (fun _ => ?_)
set_option maxHeartbeats 8000000 in
set_option maxRecDepth 100000 in
theorem hayrickref13_Cut.calls (k : Nat) (a0 : Int) (a1 : Int) (r1 : List (S30)) (r2 : Int) (w : World) (h : hayrickref13_Cut.f k a0 a1 = some (r1, r2)) :
    Calls Try.prog 11 #[.int .i64 a0, .int .i64 a1] w fun e w' => ∃ v0_ : Value, e = .returned (.tuple #[v0_, .int .i64 r2]) ∧ Kd.R k30 30 w' w.heap.size (fun _ => True) v0_ r1 ∧ Below w.heap.size w w' := by
  have hu30 := Try.underlying30
  have HB := Aside0.mk (Below.refl w.heap.size w)
  have H : (if a0 < 0 then (hayrickref13_Cut.j0 k a0 a1 true) else (hayrickref13_Cut.j0 k a0 a1 (decide (a1 < 0)))) = some (r1, r2) := h
  clear h
  have HC3 := Aside0.mk H
  clear H
  go_enter Try.func11, Try.ntmps11
  go_upto_region 1 with (fail)
  go_cut [14] (fun v14 wc => ∃ (kq : Nat) (x14_2 : Bool), v14 = .bool x14_2 ∧ Aside0 (hayrickref13_Cut.j0 kq a0 a1 x14_2 = some (r1, r2)) ∧ Aside0 (kq ≤ k) ∧ Aside0 (Below w.heap.size w wc))
  case first =>
    have H := HC3.out
    clear HC3
    by_cases c4 : a0 < 0
    · rw [if_pos c4] at H
      have c4b0 : decide (a0 < 0) = true := decide_eq_true c4
      clear c4
      (first | rw [c4b0] | (simp only [i64_w, i32_w]; rw [c4b0]) | skip)
      have H' := Aside0.mk H
      clear H
      go_wp2
      go_meet
      case rel => exact ⟨_, (true), (by first | rfl | (simp; done) | (simp [*]; done)), H', ⟨by first | omega | exact Nat.le_refl _⟩, ⟨by repeat (first | (with_reducible first | exact HB.out | apply below_alloc | apply pw_below_drewN | apply below_drew1) | exact HB.out)⟩⟩
    · rw [if_neg c4] at H
      have c4b0 : decide (a0 < 0) = false := decide_eq_false c4
      clear c4
      (first | rw [c4b0] | (simp only [i64_w, i32_w]; rw [c4b0]) | skip)
      have H' := Aside0.mk H
      clear H
      go_wp2
      go_meet
      case rel => exact ⟨_, (decide (a1 < 0)), (by first | rfl | (simp; done) | (simp [*]; done)), H', ⟨by first | omega | exact Nat.le_refl _⟩, ⟨by repeat (first | (with_reducible first | exact HB.out | apply below_alloc | apply pw_below_drewN | apply below_drew1) | exact HB.out)⟩⟩
  case rest =>
    clear HC3
    try clear c1
    try clear p2
    try clear c4
    try clear c4b0
    obtain ⟨kq, x14_2, rfl, HA, HJ2, HB⟩ := hcut
    cases kq with
    | zero => exact absurd HA.out (by simp [hayrickref13_Cut.j0])
    | succ kj2 =>
      have H := HA.out
      clear HA
      simp only [hayrickref13_Cut.j0] at H
      by_cases c5 : x14_2 = true
      · subst c5
        have H1 : (some (([] : List (S30)), 1)) = some (r1, r2) := by rw [if_pos rfl] at H; exact H
        clear H
        have H := H1
        clear H1
        simp only [Option.some.injEq, Prod.mk.injEq] at H
        obtain ⟨rfl, rfl⟩ := H
        go_wp2
        go_ret2
        exact ⟨_, by first | rfl | (simp [errW_none, errW_some] <;> rfl) | (simp [*, errW_none, errW_some] <;> rfl), by first | exact Kd.R_nil _ _ _ _ _ | exact Kd.N_nil _ _ _ _ _ | exact Kd.V_nil _ _ _ _ _ | exact Kd.Q_nil _ _ _ _ _ | exact Kd.S_nil _ _ _ _ _, by repeat (first | (with_reducible first | exact HB.out | apply below_alloc | apply pw_below_drewN | apply below_drew1) | exact HB.out)⟩
      · replace c5 := Bool.eq_false_iff.mpr c5
        subst c5
        have H1 : (if a0 > 3808 then (hayrickref13_Cut.j1 kj2 a0 a1 true) else (if a1 > 3808 then (hayrickref13_Cut.j1 kj2 a0 a1 true) else (hayrickref13_Cut.j1 kj2 a0 a1 (decide ((wrap64 (a0 + a1)) > 3808))))) = some (r1, r2) := by rw [if_neg (show ¬ (false = true) by decide)] at H; exact H
        clear H
        have H := H1
        clear H1
        have HC6 := Aside0.mk H
        clear H
        go_upto_region 3 with (fail)
        go_cut [26] (fun v26 wc => ∃ (kq : Nat) (x26_5 : Bool), v26 = .bool x26_5 ∧ Aside0 (hayrickref13_Cut.j1 kq a0 a1 x26_5 = some (r1, r2)) ∧ Aside0 (kq ≤ kj2) ∧ Aside0 (Below w.heap.size w wc))
        case first =>
          have H := HC6.out
          clear HC6
          by_cases c7 : a0 > 3808
          · rw [if_pos c7] at H
            have c7b0 : decide (3808 < a0) = true := decide_eq_true c7
            clear c7
            (first | rw [c7b0] | (simp only [i64_w, i32_w]; rw [c7b0]) | skip)
            have H' := Aside0.mk H
            clear H
            go_wp2
            go_meet
            case rel => exact ⟨_, (true), (by first | rfl | (simp; done) | (simp [*]; done)), H', ⟨by have := HJ2.out; first | omega | exact Nat.le_refl _⟩, ⟨by repeat (first | (with_reducible first | exact HB.out | apply below_alloc | apply pw_below_drewN | apply below_drew1) | exact HB.out)⟩⟩
          · rw [if_neg c7] at H
            have c7b0 : decide (3808 < a0) = false := decide_eq_false c7
            clear c7
            (first | rw [c7b0] | (simp only [i64_w, i32_w]; rw [c7b0]) | skip)
            by_cases c8 : a1 > 3808
            · rw [if_pos c8] at H
              have c8b0 : decide (3808 < a1) = true := decide_eq_true c8
              clear c8
              have H' := Aside0.mk H
              clear H
              go_wp2
              go_meet
              case rel => exact ⟨_, (true), (by first | rfl | (simp; done) | (simp [*]; done)), H', ⟨by have := HJ2.out; first | omega | exact Nat.le_refl _⟩, ⟨by repeat (first | (with_reducible first | exact HB.out | apply below_alloc | apply pw_below_drewN | apply below_drew1) | exact HB.out)⟩⟩
            · rw [if_neg c8] at H
              have c8b0 : decide (3808 < a1) = false := decide_eq_false c8
              clear c8
              have H' := Aside0.mk H
              clear H
              go_wp2
              go_meet
              case rel => exact ⟨_, (decide ((wrap64 (a0 + a1)) > 3808)), (by first | rfl | (simp; done) | (simp [*]; done)), H', ⟨by have := HJ2.out; first | omega | exact Nat.le_refl _⟩, ⟨by repeat (first | (with_reducible first | exact HB.out | apply below_alloc | apply pw_below_drewN | apply below_drew1) | exact HB.out)⟩⟩
        case rest =>
          clear HC6
          try clear c1
          try clear p2
          try clear c4
          try clear c4b0
          try clear c5
          try clear p6
          try clear c7
          try clear c7b0
          try clear c8
          try clear c8b0
          try clear p2
          obtain ⟨kq, x26_5, rfl, HA, HJ5, HB⟩ := hcut
          cases kq with
          | zero => exact absurd HA.out (by simp [hayrickref13_Cut.j1])
          | succ kj5 =>
            have H := HA.out
            clear HA
            simp only [hayrickref13_Cut.j1] at H
            by_cases c9 : x26_5 = true
            · subst c9
              have H1 : (some (([] : List (S30)), 39)) = some (r1, r2) := by rw [if_pos rfl] at H; exact H
              clear H
              have H := H1
              clear H1
              simp only [Option.some.injEq, Prod.mk.injEq] at H
              obtain ⟨rfl, rfl⟩ := H
              go_wp2
              go_ret2
              exact ⟨_, by first | rfl | (simp [errW_none, errW_some] <;> rfl) | (simp [*, errW_none, errW_some] <;> rfl), by first | exact Kd.R_nil _ _ _ _ _ | exact Kd.N_nil _ _ _ _ _ | exact Kd.V_nil _ _ _ _ _ | exact Kd.Q_nil _ _ _ _ _ | exact Kd.S_nil _ _ _ _ _, by repeat (first | (with_reducible first | exact HB.out | apply below_alloc | apply pw_below_drewN | apply below_drew1) | exact HB.out)⟩
            · replace c9 := Bool.eq_false_iff.mpr c9
              subst c9
              have H1 : (hayrickref13_Cut.l0 kj5 a0 a1 ([] : List (S30)) 0) = some (r1, r2) := by rw [if_neg (show ¬ (false = true) by decide)] at H; exact H
              clear H
              have H := H1
              clear H1
              have H' := Aside0.mk H
              clear H
              go_wp2
              go_loopg [6, 7] kj5 (fun kq v6 v7 w' => ∃ (x6_3 : List (S30)) (x7_3 : Int), v7 = .int .i64 x7_3 ∧ Aside0 (hayrickref13_Cut.l0 kq a0 a1 x6_3 x7_3 = some (r1, r2)) ∧ Aside0 (kq ≤ kj5) ∧ Aside0 (Kd.R k30 30 w' w.heap.size (fun _ => True) v6 x6_3) ∧ Aside0 (Below w.heap.size w w'))
              case atStart => exact ⟨(([] : List (S30))), (0), (by first | rfl | (simp; done) | (simp [*]; done)), H', ⟨Nat.le_refl _⟩, ⟨by first | exact Kd.R_nil _ _ _ _ _ | exact Kd.N_nil _ _ _ _ _ | exact Kd.V_nil _ _ _ _ _ | exact Kd.Q_nil _ _ _ _ _ | exact Kd.S_nil _ _ _ _ _⟩, ⟨by repeat (first | (with_reducible first | exact HB.out | apply below_alloc | apply pw_below_drewN | apply below_drew1) | exact HB.out)⟩⟩
              case round =>
                clear H'
                try clear c1
                try clear p2
                try clear c4
                try clear c4b0
                try clear c5
                try clear p6
                try clear c7
                try clear c7b0
                try clear c8
                try clear c8b0
                try clear c9
                try clear p2
                try clear p6
                obtain ⟨x6_3, x7_3, rfl, HA, HK3, HO_6, HB⟩ := hrel
                cases gk with
                | zero => exact absurd HA.out (by simp [hayrickref13_Cut.l0])
                | succ k3 =>
                  have H := HA.out
                  clear HA
                  simp only [hayrickref13_Cut.l0] at H
                  by_cases c10 : x7_3 < a1
                  · rw [if_pos c10] at H
                    have c10b0 : decide (x7_3 < a1) = true := decide_eq_true c10
                    clear c10
                    by_cases c11 : (x6_3.length : Int) = 0
                    · rw [if_pos c11] at H
                      have c11b0 : ((x6_3.length : Int) == 0) = true := beq_iff_eq.mpr c11
                      have c11b1 : ((x6_3.length : Int) != 0) = false := bne_eq_false_iff_eq.mpr c11
                      clear c11
                      by_cases c12 : x6_3.length < 4398046511104
                      · rw [if_pos c12] at H
                        have LMc12 := Aside0.mk c12
                        clear c12
                        obtain ⟨y104, hy104⟩ : ∃ y_ : List (S30), y_ = (x6_3 ++ [(⟨wrap64 (Int.tdiv (wrap64 (a0 + x7_3)) 112), Int.tmod (wrap64 (a0 + x7_3)) 112, Int.tmod (wrap64 (a0 + x7_3)) 112, x7_3⟩ : S30)]) := ⟨_, rfl⟩
                        replace H : (if 0 ≤ (wrap64 ((y104.length : Int) - 1)) then (if (wrap64 ((y104.length : Int) - 1)) < (y104.length : Int) then (hayrickref13_Cut.l0 k3 a0 a1 (y104.set ((wrap64 ((y104.length : Int) - 1)) : Int).toNat (⟨(rd_T30 y104 (wrap64 ((y104.length : Int) - 1))).f0, (rd_T30 y104 (wrap64 ((y104.length : Int) - 1))).f1, wrap64 (((rd_T30 y104 (wrap64 ((y104.length : Int) - 1))).f2) + 1), (rd_T30 y104 (wrap64 ((y104.length : Int) - 1))).f3⟩ : S30)) (wrap64 (x7_3 + 1))) else (none)) else (none)) = some (r1, r2) := by first | (rw [hy104]; with_reducible exact H) | (have H2_ := (Option.bind_some _ _).symm.trans H; rw [hy104]; with_reducible exact H2_) | (have H2_ := (Option.bind_some _ _).symm.trans H; with_reducible exact H2_) | with_reducible exact H | (rw [hy104]; exact H) | exact H
                        have Ny104 := Aside0.mk hy104
                        clear hy104
                        obtain ⟨ji13, hji13⟩ : ∃ j_ : Int, (wrap64 ((y104.length : Int) - 1)) = j_ := ⟨_, rfl⟩
                        replace H : (if 0 ≤ (ji13) then (if (ji13) < (y104.length : Int) then (hayrickref13_Cut.l0 k3 a0 a1 (y104.set ((ji13) : Int).toNat (⟨(rd_T30 y104 (ji13)).f0, (rd_T30 y104 (ji13)).f1, wrap64 (((rd_T30 y104 (ji13)).f2) + 1), (rd_T30 y104 (ji13)).f3⟩ : S30)) (wrap64 (x7_3 + 1))) else (none)) else (none)) = some (r1, r2) := by first | (rw [hji13] at H; exact H) | (simp only [hji13] at H ⊢; exact H)
                        have hji13w : (IntKind.i64.wrap ((y104.length : Int) - 1)) = ji13 := (i64_w _).trans hji13
                        by_cases c14 : 0 ≤ (ji13)
                        · rw [if_pos c14] at H
                          have c14b0 : decide (0 ≤ (ji13)) = true := decide_eq_true c14
                          clear c14
                          by_cases c15 : (ji13) < (y104.length : Int)
                          · rw [if_pos c15] at H
                            have c15b0 : decide ((ji13) < (y104.length : Int)) = true := decide_eq_true c15
                            clear c15
                            obtain ⟨y108, hy108⟩ : ∃ y_ : List (S30), y_ = (y104.set ((ji13) : Int).toNat (⟨(rd_T30 y104 (ji13)).f0, (rd_T30 y104 (ji13)).f1, wrap64 (((rd_T30 y104 (ji13)).f2) + 1), (rd_T30 y104 (ji13)).f3⟩ : S30)) := ⟨_, rfl⟩
                            replace H : (hayrickref13_Cut.l0 k3 a0 a1 y108 (wrap64 (x7_3 + 1))) = some (r1, r2) := by first | (rw [hy108]; with_reducible exact H) | (have H2_ := (Option.bind_some _ _).symm.trans H; rw [hy108]; with_reducible exact H2_) | (have H2_ := (Option.bind_some _ _).symm.trans H; with_reducible exact H2_) | with_reducible exact H | (rw [hy108]; exact H) | exact H
                            have Ny108 := Aside0.mk hy108
                            clear hy108
                            have H' := Aside0.mk H
                            clear H
                            obtain ⟨Ao17, co17, eo17⟩ := Kd.R_slice HO_6.out
                            subst eo17
                            go_wp2_with (first | ((with_reducible refine gate_builtin (b := .append) (xs := #[.tmp 50, .tmp 62]) rfl ?_); (try (refine gate_guard (by rfl) ?_; dsimp only)); at_builtin; refine Kd.R_append k30 (w0 := w) w.heap.size rfl (.tmp 50) (.tmp 62) 26 30 (.agg #[(.int .i64 0), (.int .i64 0), (.int .i64 0), (.int .i64 0)]) 32 rfl Try.underlying26 info30 rfl (by decide) (by omega) (.slice Ao17 x6_3.length co17) x6_3 (⟨wrap64 (Int.tdiv (wrap64 (a0 + x7_3)) 112), Int.tmod (wrap64 (a0 + x7_3)) 112, Int.tmod (wrap64 (a0 + x7_3)) 112, x7_3⟩ : S30) [.int .i64 (wrap64 (Int.tdiv (wrap64 (a0 + x7_3)) 112)), .int .i64 (Int.tmod (wrap64 (a0 + x7_3)) 112), .int .i64 (Int.tmod (wrap64 (a0 + x7_3)) 112), .int .i64 x7_3] (fun _ => True) (fun _ => False) rfl rfl ?aP (fun _ hk => hk.elim) ?aF ?aO ?aB ?aS ?aL ?_; (case aP => exact k30_mkM _ _ _ (⟨wrap64 (Int.tdiv (wrap64 (a0 + x7_3)) 112), Int.tmod (wrap64 (a0 + x7_3)) 112, Int.tmod (wrap64 (a0 + x7_3)) 112, x7_3⟩ : S30)); (case aB => exact (by repeat (first | (with_reducible first | exact HB.out | apply below_alloc | apply pw_below_drewN | apply below_drew1) | exact HB.out))); (case aF => exact (fun _ _ => trivial)); (case aO => exact (by (with_reducible repeat (first | apply Kd.R_alloc | apply Kd.R_drewN | apply Kd.R_drew)); exact HO_6.out)); (case aS => exact (below_size (by repeat (first | (with_reducible first | exact HB.out | apply below_alloc | apply pw_below_drewN | apply below_drew1) | exact HB.out)))); (case aL => have := LMc12.out; omega); intro v105 w18 ho hb hg hat; rw [← Ny104.out] at ho; have n0_ := Aside0.mk (hb); have n1_ := Aside0.mk (ho); clear HB; clear HO_6; have HB := n0_; have HO106 := n1_; clear n0_ n1_; clear ho hb hg hat; obtain ⟨Ao19, co19, eo19⟩ := Kd.R_slice HO106.out; subst eo19; have p107 : 0 ≤ ((ji13) : Int) := of_decide_eq_true (by first | (with_reducible assumption) | assumption); have q107 : (ji13) < (y104.length : Int) := of_decide_eq_true (by first | (with_reducible assumption) | assumption); obtain ⟨ad107, e107, hx107_0, hx107_1, hx107_2, hx107_3⟩ := at_T30 (Kd.R_reads' HO106.out).2.2 (ji13) p107 q107; cases e107; replace p107 := eq_true p107; replace q107 := eq_true q107; have p16 : 0 ≤ ((ji13) : Int) := of_decide_eq_true (by first | (with_reducible assumption) | assumption); have q16 : ((ji13) : Int) < ((y104.length : Int) : Int) := of_decide_eq_true (by first | (with_reducible assumption) | assumption); obtain ⟨go16, co16, eo16, gb16, gl16, cl16, HG16⟩ := Kd.R_form HO106.out (by omega); (first | cases eo16 | (injection eo16 with ea_ en_ ec_; (first | subst ea_ | (injection ea_ with ea_; subst ea_)); subst ec_; clear en_)); have GB16 := Aside0.mk gb16; have GG16 := Aside0.mk HG16; clear gb16 gl16 HG16; (first | simp only [add_plain] at hx107_0 | skip); (first | simp only [add_plain] at hx107_1 | skip); (first | simp only [add_plain] at hx107_2 | skip); (first | simp only [add_plain] at hx107_3 | skip); obtain ⟨ce16, hcl16, hM16, hcc16, hfr16⟩ := Kd.R_elem HO106.out z30 ((ji13) : Int) p16 q16; obtain rfl := k30_openM hM16; have hx16_0 : w18.cell? ⟨go16, ((ji13) : Int).toNat * 4, none⟩ = some (.int .i64 ((rd_T30 y104 (ji13)).f0)) := hcc16 0 _ rfl; have hx16_1 : w18.cell? ⟨go16, ((ji13) : Int).toNat * 4 + 1, none⟩ = some (.int .i64 ((rd_T30 y104 (ji13)).f1)) := hcc16 1 _ rfl; have hx16_2 : w18.cell? ⟨go16, ((ji13) : Int).toNat * 4 + 2, none⟩ = some (.int .i64 ((rd_T30 y104 (ji13)).f2)) := hcc16 2 _ rfl; have hx16_3 : w18.cell? ⟨go16, ((ji13) : Int).toNat * 4 + 3, none⟩ = some (.int .i64 ((rd_T30 y104 (ji13)).f3)) := hcc16 3 _ rfl; have hf16_0 : w18.frozen? ⟨go16, ((ji13) : Int).toNat * 4, none⟩ = false := hfr16 0; have hf16_1 : w18.frozen? ⟨go16, ((ji13) : Int).toNat * 4 + 1, none⟩ = false := hfr16 1; have hf16_2 : w18.frozen? ⟨go16, ((ji13) : Int).toNat * 4 + 2, none⟩ = false := hfr16 2; have hf16_3 : w18.frozen? ⟨go16, ((ji13) : Int).toNat * 4 + 3, none⟩ = false := hfr16 3; clear hcl16 hcc16 hfr16 hM16; replace p16 := eq_true p16; replace q16 := eq_true q16; have HX20 := Aside0.mk (show Kd.R k30 30 w18 w.heap.size (fun _ => True) (.slice (some ⟨go16, 0, none⟩) y104.length co19) y104 from (by (with_reducible repeat (first | apply Kd.R_alloc | apply Kd.R_drewN | apply Kd.R_drew)); exact HO106.out)); obtain ⟨ce20, hcl20, hM20, hcc20, hfr20⟩ := Kd.R_elem HX20.out z30 ((ji13) : Int) (of_decide_eq_true (by first | (with_reducible assumption) | assumption)) (by have h_ : ((ji13) : Int) < ((y104.length : Int) : Int) := of_decide_eq_true (by first | (with_reducible assumption) | assumption); first | exact h_ | (have e_ := (Kd.R_reads' HO106.out).1; omega) | simpa using h_); obtain rfl := k30_openM hM20; have HP20 := Kd.R_seg HX20.out ((ji13) : Int) (of_decide_eq_true (by first | (with_reducible assumption) | assumption)) (by have h_ : ((ji13) : Int) < ((y104.length : Int) : Int) := of_decide_eq_true (by first | (with_reducible assumption) | assumption); first | exact h_ | (have e_ := (Kd.R_reads' HO106.out).1; omega) | simpa using h_) (seg := [.int .i64 (wrap64 (((rd_T30 y104 (ji13)).f2) + 1))]) (j := 2) hcl20 hcc20 (show 3 ≤ 4 from by decide) (x' := (⟨(rd_T30 y104 (ji13)).f0, (rd_T30 y104 (ji13)).f1, wrap64 (((rd_T30 y104 (ji13)).f2) + 1), (rd_T30 y104 (ji13)).f3⟩ : S30)) (k30_mkM _ _ _ (⟨(rd_T30 y104 (ji13)).f0, (rd_T30 y104 (ji13)).f1, wrap64 (((rd_T30 y104 (ji13)).f2) + 1), (rd_T30 y104 (ji13)).f3⟩ : S30) ) (fun _ hk => hk); have hx20_2 := hcc20 2 _ rfl; (try simp only [show (k30).sz = 4 from rfl, Nat.mul_one, Nat.add_zero] at hx20_2); have hf20_2 := hfr20 2; (try simp only [show (k30).sz = 4 from rfl, Nat.mul_one, Nat.add_zero] at hf20_2); clear hcl20 hcc20 hfr20 hM20) | ((with_reducible refine gate_store (t := 3) (p := 73) rfl ?_); refine store_event (t := 3) (p := 73) (v := ?vo_w21) (w1 := (w18.setCell ⟨go16, ((ji13) : Int).toNat * 4 + 2, none⟩ (.int .i64 (wrap64 (((rd_T30 y104 (ji13)).f2) + 1))))) ?hg ?ho ?hn ?hr ?_; (case ho => rfl); (case hg => rfl); (case hn => rfl); (case hr => first | (go_simp; done) | (go_simp; rfl)); intro w21 hw; have hg : w18.grownBy w21 (some go16) := (by rw [hw]; exact HP20.2); have hp_ : Kd.R k30 30 w21 w.heap.size (fun _ => True) (.slice (some ⟨go16, 0, none⟩) y104.length co19) y108 := (by rw [hw, Ny108.out]; exact HP20.1); clear HP20; have n0_ := Aside0.mk (hp_); have n1_ := Aside0.mk ((by rw [hw]; exact below_set (HB.out) GB16.out : Below w.heap.size w w21)); clear HO106; clear HB; have HO106 := n0_; have HB := n1_; clear n0_ n1_; clear hg hw hp_))
                            go_roundg k3
                            case measure => have := HJ2.out; have := HJ5.out; have := HK3.out; omega
                            case rel => exact ⟨(y108), (wrap64 (x7_3 + 1)), (by first | rfl | (simp; done) | (simp [*]; done)), H', ⟨by have := HJ2.out; have := HJ5.out; have := HK3.out; omega⟩, ⟨by (with_reducible repeat (first | apply Kd.R_alloc | apply Kd.R_drewN | apply Kd.R_drew)); exact HO106.out⟩, ⟨by repeat (first | (with_reducible first | exact HB.out | apply below_alloc | apply pw_below_drewN | apply below_drew1) | exact HB.out)⟩⟩
                          · rw [if_neg c15] at H
                            exact absurd H (by simp)
                        · rw [if_neg c14] at H
                          exact absurd H (by simp)
                      · rw [if_neg c12] at H
                        exact absurd H (by simp)
                    · rw [if_neg c11] at H
                      have c11b0 : ((x6_3.length : Int) == 0) = false := beq_eq_false_iff_ne.mpr c11
                      have c11b1 : ((x6_3.length : Int) != 0) = true := bne_iff_ne.mpr c11
                      have c11b2 : ¬ (x6_3 = []) := fun h_ => c11 (by rw [h_]; rfl)
                      obtain ⟨ji22, hji22⟩ : ∃ j_ : Int, (wrap64 ((x6_3.length : Int) - 1)) = j_ := ⟨_, rfl⟩
                      replace H : (if 0 ≤ (ji22) then (if (ji22) < (x6_3.length : Int) then (if ((rd_T30 x6_3 (ji22)).f0) = (wrap64 (Int.tdiv (wrap64 (a0 + x7_3)) 112)) then (hayrickref13_Cut.l0 k3 a0 a1 (x6_3.set ((ji22) : Int).toNat (⟨(rd_T30 x6_3 (ji22)).f0, (rd_T30 x6_3 (ji22)).f1, wrap64 (((rd_T30 x6_3 (ji22)).f2) + 1), (rd_T30 x6_3 (ji22)).f3⟩ : S30)) (wrap64 (x7_3 + 1))) else (if x6_3.length < 4398046511104 then ((some (x6_3 ++ [(⟨wrap64 (Int.tdiv (wrap64 (a0 + x7_3)) 112), Int.tmod (wrap64 (a0 + x7_3)) 112, Int.tmod (wrap64 (a0 + x7_3)) 112, x7_3⟩ : S30)] : List (S30))).bind fun y112 => (if 0 ≤ (wrap64 ((y112.length : Int) - 1)) then (if (wrap64 ((y112.length : Int) - 1)) < (y112.length : Int) then (hayrickref13_Cut.l0 k3 a0 a1 (y112.set ((wrap64 ((y112.length : Int) - 1)) : Int).toNat (⟨(rd_T30 y112 (wrap64 ((y112.length : Int) - 1))).f0, (rd_T30 y112 (wrap64 ((y112.length : Int) - 1))).f1, wrap64 (((rd_T30 y112 (wrap64 ((y112.length : Int) - 1))).f2) + 1), (rd_T30 y112 (wrap64 ((y112.length : Int) - 1))).f3⟩ : S30)) (wrap64 (x7_3 + 1))) else (none)) else (none))) else (none))) else (none)) else (none)) = some (r1, r2) := by first | (rw [hji22] at H; exact H) | (simp only [hji22] at H ⊢; exact H)
                      have hji22w : (IntKind.i64.wrap ((x6_3.length : Int) - 1)) = ji22 := (i64_w _).trans hji22
                      by_cases c23 : 0 ≤ (ji22)
                      · rw [if_pos c23] at H
                        have c23b0 : decide (0 ≤ (ji22)) = true := decide_eq_true c23
                        clear c23
                        by_cases c24 : (ji22) < (x6_3.length : Int)
                        · rw [if_pos c24] at H
                          have c24b0 : decide ((ji22) < (x6_3.length : Int)) = true := decide_eq_true c24
                          clear c24
                          by_cases c25 : ((rd_T30 x6_3 (ji22)).f0) = (wrap64 (Int.tdiv (wrap64 (a0 + x7_3)) 112))
                          · rw [if_pos c25] at H
                            have c25b0 : (((rd_T30 x6_3 (ji22)).f0) == (wrap64 (Int.tdiv (wrap64 (a0 + x7_3)) 112))) = true := beq_iff_eq.mpr c25
                            have c25b1 : (((rd_T30 x6_3 (ji22)).f0) != (wrap64 (Int.tdiv (wrap64 (a0 + x7_3)) 112))) = false := bne_eq_false_iff_eq.mpr c25
                            clear c25
                            obtain ⟨y111, hy111⟩ : ∃ y_ : List (S30), y_ = (x6_3.set ((ji22) : Int).toNat (⟨(rd_T30 x6_3 (ji22)).f0, (rd_T30 x6_3 (ji22)).f1, wrap64 (((rd_T30 x6_3 (ji22)).f2) + 1), (rd_T30 x6_3 (ji22)).f3⟩ : S30)) := ⟨_, rfl⟩
                            replace H : (hayrickref13_Cut.l0 k3 a0 a1 y111 (wrap64 (x7_3 + 1))) = some (r1, r2) := by first | (rw [hy111]; with_reducible exact H) | (have H2_ := (Option.bind_some _ _).symm.trans H; rw [hy111]; with_reducible exact H2_) | (have H2_ := (Option.bind_some _ _).symm.trans H; with_reducible exact H2_) | with_reducible exact H | (rw [hy111]; exact H) | exact H
                            have Ny111 := Aside0.mk hy111
                            clear hy111
                            have H' := Aside0.mk H
                            clear H
                            obtain ⟨Ao27, co27, eo27⟩ := Kd.R_slice HO_6.out
                            subst eo27
                            have p109 : 0 ≤ ((ji22) : Int) := of_decide_eq_true (by first | (with_reducible assumption) | assumption)
                            have q109 : (ji22) < (x6_3.length : Int) := of_decide_eq_true (by first | (with_reducible assumption) | assumption)
                            obtain ⟨ad109, e109, hx109_0, hx109_1, hx109_2, hx109_3⟩ := at_T30 (Kd.R_reads' HO_6.out).2.2 (ji22) p109 q109
                            cases e109
                            replace p109 := eq_true p109
                            replace q109 := eq_true q109
                            have p110 : 0 ≤ ((ji22) : Int) := of_decide_eq_true (by first | (with_reducible assumption) | assumption)
                            have q110 : (ji22) < (x6_3.length : Int) := of_decide_eq_true (by first | (with_reducible assumption) | assumption)
                            obtain ⟨ad110, e110, hx110_0, hx110_1, hx110_2, hx110_3⟩ := at_T30 (Kd.R_reads' HO_6.out).2.2 (ji22) p110 q110
                            obtain rfl : ad109 = ad110 := (by injection e110)
                            replace p110 := eq_true p110
                            replace q110 := eq_true q110
                            have p26 : 0 ≤ ((ji22) : Int) := of_decide_eq_true (by first | (with_reducible assumption) | assumption)
                            have q26 : ((ji22) : Int) < ((x6_3.length : Int) : Int) := of_decide_eq_true (by first | (with_reducible assumption) | assumption)
                            obtain ⟨go26, co26, eo26, gb26, gl26, cl26, HG26⟩ := Kd.R_form HO_6.out (by omega)
                            (first | cases eo26 | (injection eo26 with ea_ en_ ec_; (first | subst ea_ | (injection ea_ with ea_; subst ea_)); subst ec_; clear en_))
                            have GB26 := Aside0.mk gb26
                            have GG26 := Aside0.mk HG26
                            clear gb26 gl26 HG26
                            (first | simp only [add_plain] at hx109_0 | skip)
                            (first | simp only [add_plain] at hx109_1 | skip)
                            (first | simp only [add_plain] at hx109_2 | skip)
                            (first | simp only [add_plain] at hx109_3 | skip)
                            (first | simp only [add_plain] at hx110_0 | skip)
                            (first | simp only [add_plain] at hx110_1 | skip)
                            (first | simp only [add_plain] at hx110_2 | skip)
                            (first | simp only [add_plain] at hx110_3 | skip)
                            obtain ⟨ce26, hcl26, hM26, hcc26, hfr26⟩ := Kd.R_elem HO_6.out z30 ((ji22) : Int) p26 q26
                            obtain rfl := k30_openM hM26
                            have hx26_0 : wr.cell? ⟨go26, ((ji22) : Int).toNat * 4, none⟩ = some (.int .i64 ((rd_T30 x6_3 (ji22)).f0)) := hcc26 0 _ rfl
                            have hx26_1 : wr.cell? ⟨go26, ((ji22) : Int).toNat * 4 + 1, none⟩ = some (.int .i64 ((rd_T30 x6_3 (ji22)).f1)) := hcc26 1 _ rfl
                            have hx26_2 : wr.cell? ⟨go26, ((ji22) : Int).toNat * 4 + 2, none⟩ = some (.int .i64 ((rd_T30 x6_3 (ji22)).f2)) := hcc26 2 _ rfl
                            have hx26_3 : wr.cell? ⟨go26, ((ji22) : Int).toNat * 4 + 3, none⟩ = some (.int .i64 ((rd_T30 x6_3 (ji22)).f3)) := hcc26 3 _ rfl
                            have hf26_0 : wr.frozen? ⟨go26, ((ji22) : Int).toNat * 4, none⟩ = false := hfr26 0
                            have hf26_1 : wr.frozen? ⟨go26, ((ji22) : Int).toNat * 4 + 1, none⟩ = false := hfr26 1
                            have hf26_2 : wr.frozen? ⟨go26, ((ji22) : Int).toNat * 4 + 2, none⟩ = false := hfr26 2
                            have hf26_3 : wr.frozen? ⟨go26, ((ji22) : Int).toNat * 4 + 3, none⟩ = false := hfr26 3
                            clear hcl26 hcc26 hfr26 hM26
                            replace p26 := eq_true p26
                            replace q26 := eq_true q26
                            have HX28 := Aside0.mk (show Kd.R k30 30 wr w.heap.size (fun _ => True) (.slice (some ⟨go26, 0, none⟩) x6_3.length co27) x6_3 from (by (with_reducible repeat (first | apply Kd.R_alloc | apply Kd.R_drewN | apply Kd.R_drew)); exact HO_6.out))
                            obtain ⟨ce28, hcl28, hM28, hcc28, hfr28⟩ := Kd.R_elem HX28.out z30 ((ji22) : Int) (of_decide_eq_true (by first | (with_reducible assumption) | assumption)) (by have h_ : ((ji22) : Int) < ((x6_3.length : Int) : Int) := of_decide_eq_true (by first | (with_reducible assumption) | assumption); first | exact h_ | (have e_ := (Kd.R_reads' HO_6.out).1; omega) | simpa using h_)
                            obtain rfl := k30_openM hM28
                            have HP28 := Kd.R_seg HX28.out ((ji22) : Int) (of_decide_eq_true (by first | (with_reducible assumption) | assumption)) (by have h_ : ((ji22) : Int) < ((x6_3.length : Int) : Int) := of_decide_eq_true (by first | (with_reducible assumption) | assumption); first | exact h_ | (have e_ := (Kd.R_reads' HO_6.out).1; omega) | simpa using h_) (seg := [.int .i64 (wrap64 (((rd_T30 x6_3 (ji22)).f2) + 1))]) (j := 2) hcl28 hcc28 (show 3 ≤ 4 from by decide) (x' := (⟨(rd_T30 x6_3 (ji22)).f0, (rd_T30 x6_3 (ji22)).f1, wrap64 (((rd_T30 x6_3 (ji22)).f2) + 1), (rd_T30 x6_3 (ji22)).f3⟩ : S30)) (k30_mkM _ _ _ (⟨(rd_T30 x6_3 (ji22)).f0, (rd_T30 x6_3 (ji22)).f1, wrap64 (((rd_T30 x6_3 (ji22)).f2) + 1), (rd_T30 x6_3 (ji22)).f3⟩ : S30) ) (fun _ hk => hk)
                            have hx28_2 := hcc28 2 _ rfl
                            (try simp only [show (k30).sz = 4 from rfl, Nat.mul_one, Nat.add_zero] at hx28_2)
                            have hf28_2 := hfr28 2
                            (try simp only [show (k30).sz = 4 from rfl, Nat.mul_one, Nat.add_zero] at hf28_2)
                            clear hcl28 hcc28 hfr28 hM28
                            go_wp2_with (first | ((with_reducible refine gate_store (t := 3) (p := 73) rfl ?_); refine store_event (t := 3) (p := 73) (v := ?vo_w29) (w1 := (wr.setCell ⟨go26, ((ji22) : Int).toNat * 4 + 2, none⟩ (.int .i64 (wrap64 (((rd_T30 x6_3 (ji22)).f2) + 1))))) ?hg ?ho ?hn ?hr ?_; (case ho => rfl); (case hg => rfl); (case hn => rfl); (case hr => first | (go_simp; done) | (go_simp; rfl)); intro w29 hw; have hg : wr.grownBy w29 (some go26) := (by rw [hw]; exact HP28.2); have hp_ : Kd.R k30 30 w29 w.heap.size (fun _ => True) (.slice (some ⟨go26, 0, none⟩) x6_3.length co27) y111 := (by rw [hw, Ny111.out]; exact HP28.1); clear HP28; have n0_ := Aside0.mk (hp_); have n1_ := Aside0.mk ((by rw [hw]; exact below_set (HB.out) GB26.out : Below w.heap.size w w29)); clear HO_6; clear HB; have HO_6 := n0_; have HB := n1_; clear n0_ n1_; clear hg hw hp_))
                            go_roundg k3
                            case measure => have := HJ2.out; have := HJ5.out; have := HK3.out; omega
                            case rel => exact ⟨(y111), (wrap64 (x7_3 + 1)), (by first | rfl | (simp; done) | (simp [*]; done)), H', ⟨by have := HJ2.out; have := HJ5.out; have := HK3.out; omega⟩, ⟨by (with_reducible repeat (first | apply Kd.R_alloc | apply Kd.R_drewN | apply Kd.R_drew)); exact HO_6.out⟩, ⟨by repeat (first | (with_reducible first | exact HB.out | apply below_alloc | apply pw_below_drewN | apply below_drew1) | exact HB.out)⟩⟩
                          · rw [if_neg c25] at H
                            have c25b0 : (((rd_T30 x6_3 (ji22)).f0) == (wrap64 (Int.tdiv (wrap64 (a0 + x7_3)) 112))) = false := beq_eq_false_iff_ne.mpr c25
                            have c25b1 : (((rd_T30 x6_3 (ji22)).f0) != (wrap64 (Int.tdiv (wrap64 (a0 + x7_3)) 112))) = true := bne_iff_ne.mpr c25
                            by_cases c30 : x6_3.length < 4398046511104
                            · rw [if_pos c30] at H
                              have LMc30 := Aside0.mk c30
                              clear c30
                              obtain ⟨y112, hy112⟩ : ∃ y_ : List (S30), y_ = (x6_3 ++ [(⟨wrap64 (Int.tdiv (wrap64 (a0 + x7_3)) 112), Int.tmod (wrap64 (a0 + x7_3)) 112, Int.tmod (wrap64 (a0 + x7_3)) 112, x7_3⟩ : S30)]) := ⟨_, rfl⟩
                              replace H : (if 0 ≤ (wrap64 ((y112.length : Int) - 1)) then (if (wrap64 ((y112.length : Int) - 1)) < (y112.length : Int) then (hayrickref13_Cut.l0 k3 a0 a1 (y112.set ((wrap64 ((y112.length : Int) - 1)) : Int).toNat (⟨(rd_T30 y112 (wrap64 ((y112.length : Int) - 1))).f0, (rd_T30 y112 (wrap64 ((y112.length : Int) - 1))).f1, wrap64 (((rd_T30 y112 (wrap64 ((y112.length : Int) - 1))).f2) + 1), (rd_T30 y112 (wrap64 ((y112.length : Int) - 1))).f3⟩ : S30)) (wrap64 (x7_3 + 1))) else (none)) else (none)) = some (r1, r2) := by first | (rw [hy112]; with_reducible exact H) | (have H2_ := (Option.bind_some _ _).symm.trans H; rw [hy112]; with_reducible exact H2_) | (have H2_ := (Option.bind_some _ _).symm.trans H; with_reducible exact H2_) | with_reducible exact H | (rw [hy112]; exact H) | exact H
                              have Ny112 := Aside0.mk hy112
                              clear hy112
                              obtain ⟨ji31, hji31⟩ : ∃ j_ : Int, (wrap64 ((y112.length : Int) - 1)) = j_ := ⟨_, rfl⟩
                              replace H : (if 0 ≤ (ji31) then (if (ji31) < (y112.length : Int) then (hayrickref13_Cut.l0 k3 a0 a1 (y112.set ((ji31) : Int).toNat (⟨(rd_T30 y112 (ji31)).f0, (rd_T30 y112 (ji31)).f1, wrap64 (((rd_T30 y112 (ji31)).f2) + 1), (rd_T30 y112 (ji31)).f3⟩ : S30)) (wrap64 (x7_3 + 1))) else (none)) else (none)) = some (r1, r2) := by first | (rw [hji31] at H; exact H) | (simp only [hji31] at H ⊢; exact H)
                              have hji31w : (IntKind.i64.wrap ((y112.length : Int) - 1)) = ji31 := (i64_w _).trans hji31
                              by_cases c32 : 0 ≤ (ji31)
                              · rw [if_pos c32] at H
                                have c32b0 : decide (0 ≤ (ji31)) = true := decide_eq_true c32
                                clear c32
                                by_cases c33 : (ji31) < (y112.length : Int)
                                · rw [if_pos c33] at H
                                  have c33b0 : decide ((ji31) < (y112.length : Int)) = true := decide_eq_true c33
                                  clear c33
                                  obtain ⟨y116, hy116⟩ : ∃ y_ : List (S30), y_ = (y112.set ((ji31) : Int).toNat (⟨(rd_T30 y112 (ji31)).f0, (rd_T30 y112 (ji31)).f1, wrap64 (((rd_T30 y112 (ji31)).f2) + 1), (rd_T30 y112 (ji31)).f3⟩ : S30)) := ⟨_, rfl⟩
                                  replace H : (hayrickref13_Cut.l0 k3 a0 a1 y116 (wrap64 (x7_3 + 1))) = some (r1, r2) := by first | (rw [hy116]; with_reducible exact H) | (have H2_ := (Option.bind_some _ _).symm.trans H; rw [hy116]; with_reducible exact H2_) | (have H2_ := (Option.bind_some _ _).symm.trans H; with_reducible exact H2_) | with_reducible exact H | (rw [hy116]; exact H) | exact H
                                  have Ny116 := Aside0.mk hy116
                                  clear hy116
                                  have H' := Aside0.mk H
                                  clear H
                                  obtain ⟨Ao35, co35, eo35⟩ := Kd.R_slice HO_6.out
                                  subst eo35
                                  have p109 : 0 ≤ ((ji22) : Int) := of_decide_eq_true (by first | (with_reducible assumption) | assumption)
                                  have q109 : (ji22) < (x6_3.length : Int) := of_decide_eq_true (by first | (with_reducible assumption) | assumption)
                                  obtain ⟨ad109, e109, hx109_0, hx109_1, hx109_2, hx109_3⟩ := at_T30 (Kd.R_reads' HO_6.out).2.2 (ji22) p109 q109
                                  cases e109
                                  replace p109 := eq_true p109
                                  replace q109 := eq_true q109
                                  go_wp2_with (first | ((with_reducible refine gate_builtin (b := .append) (xs := #[.tmp 50, .tmp 62]) rfl ?_); (try (refine gate_guard (by rfl) ?_; dsimp only)); at_builtin; refine Kd.R_append k30 (w0 := w) w.heap.size rfl (.tmp 50) (.tmp 62) 26 30 (.agg #[(.int .i64 0), (.int .i64 0), (.int .i64 0), (.int .i64 0)]) 32 rfl Try.underlying26 info30 rfl (by decide) (by omega) (.slice (some ad109) x6_3.length co35) x6_3 (⟨wrap64 (Int.tdiv (wrap64 (a0 + x7_3)) 112), Int.tmod (wrap64 (a0 + x7_3)) 112, Int.tmod (wrap64 (a0 + x7_3)) 112, x7_3⟩ : S30) [.int .i64 (wrap64 (Int.tdiv (wrap64 (a0 + x7_3)) 112)), .int .i64 (Int.tmod (wrap64 (a0 + x7_3)) 112), .int .i64 (Int.tmod (wrap64 (a0 + x7_3)) 112), .int .i64 x7_3] (fun _ => True) (fun _ => False) rfl rfl ?aP (fun _ hk => hk.elim) ?aF ?aO ?aB ?aS ?aL ?_; (case aP => exact k30_mkM _ _ _ (⟨wrap64 (Int.tdiv (wrap64 (a0 + x7_3)) 112), Int.tmod (wrap64 (a0 + x7_3)) 112, Int.tmod (wrap64 (a0 + x7_3)) 112, x7_3⟩ : S30)); (case aB => exact (by repeat (first | (with_reducible first | exact HB.out | apply below_alloc | apply pw_below_drewN | apply below_drew1) | exact HB.out))); (case aF => exact (fun _ _ => trivial)); (case aO => exact (by (with_reducible repeat (first | apply Kd.R_alloc | apply Kd.R_drewN | apply Kd.R_drew)); exact HO_6.out)); (case aS => exact (below_size (by repeat (first | (with_reducible first | exact HB.out | apply below_alloc | apply pw_below_drewN | apply below_drew1) | exact HB.out)))); (case aL => have := LMc30.out; omega); intro v113 w36 ho hb hg hat; rw [← Ny112.out] at ho; have n0_ := Aside0.mk (hb); have n1_ := Aside0.mk (ho); clear HB; clear HO_6; have HB := n0_; have HO114 := n1_; clear n0_ n1_; clear ho hb hg hat; obtain ⟨Ao37, co37, eo37⟩ := Kd.R_slice HO114.out; subst eo37; have p115 : 0 ≤ ((ji31) : Int) := of_decide_eq_true (by first | (with_reducible assumption) | assumption); have q115 : (ji31) < (y112.length : Int) := of_decide_eq_true (by first | (with_reducible assumption) | assumption); obtain ⟨ad115, e115, hx115_0, hx115_1, hx115_2, hx115_3⟩ := at_T30 (Kd.R_reads' HO114.out).2.2 (ji31) p115 q115; cases e115; replace p115 := eq_true p115; replace q115 := eq_true q115; have p34 : 0 ≤ ((ji31) : Int) := of_decide_eq_true (by first | (with_reducible assumption) | assumption); have q34 : ((ji31) : Int) < ((y112.length : Int) : Int) := of_decide_eq_true (by first | (with_reducible assumption) | assumption); obtain ⟨go34, co34, eo34, gb34, gl34, cl34, HG34⟩ := Kd.R_form HO114.out (by omega); (first | cases eo34 | (injection eo34 with ea_ en_ ec_; (first | subst ea_ | (injection ea_ with ea_; subst ea_)); subst ec_; clear en_)); have GB34 := Aside0.mk gb34; have GG34 := Aside0.mk HG34; clear gb34 gl34 HG34; (first | simp only [add_plain] at hx115_0 | skip); (first | simp only [add_plain] at hx115_1 | skip); (first | simp only [add_plain] at hx115_2 | skip); (first | simp only [add_plain] at hx115_3 | skip); obtain ⟨ce34, hcl34, hM34, hcc34, hfr34⟩ := Kd.R_elem HO114.out z30 ((ji31) : Int) p34 q34; obtain rfl := k30_openM hM34; have hx34_0 : w36.cell? ⟨go34, ((ji31) : Int).toNat * 4, none⟩ = some (.int .i64 ((rd_T30 y112 (ji31)).f0)) := hcc34 0 _ rfl; have hx34_1 : w36.cell? ⟨go34, ((ji31) : Int).toNat * 4 + 1, none⟩ = some (.int .i64 ((rd_T30 y112 (ji31)).f1)) := hcc34 1 _ rfl; have hx34_2 : w36.cell? ⟨go34, ((ji31) : Int).toNat * 4 + 2, none⟩ = some (.int .i64 ((rd_T30 y112 (ji31)).f2)) := hcc34 2 _ rfl; have hx34_3 : w36.cell? ⟨go34, ((ji31) : Int).toNat * 4 + 3, none⟩ = some (.int .i64 ((rd_T30 y112 (ji31)).f3)) := hcc34 3 _ rfl; have hf34_0 : w36.frozen? ⟨go34, ((ji31) : Int).toNat * 4, none⟩ = false := hfr34 0; have hf34_1 : w36.frozen? ⟨go34, ((ji31) : Int).toNat * 4 + 1, none⟩ = false := hfr34 1; have hf34_2 : w36.frozen? ⟨go34, ((ji31) : Int).toNat * 4 + 2, none⟩ = false := hfr34 2; have hf34_3 : w36.frozen? ⟨go34, ((ji31) : Int).toNat * 4 + 3, none⟩ = false := hfr34 3; clear hcl34 hcc34 hfr34 hM34; replace p34 := eq_true p34; replace q34 := eq_true q34; have HX38 := Aside0.mk (show Kd.R k30 30 w36 w.heap.size (fun _ => True) (.slice (some ⟨go34, 0, none⟩) y112.length co37) y112 from (by (with_reducible repeat (first | apply Kd.R_alloc | apply Kd.R_drewN | apply Kd.R_drew)); exact HO114.out)); obtain ⟨ce38, hcl38, hM38, hcc38, hfr38⟩ := Kd.R_elem HX38.out z30 ((ji31) : Int) (of_decide_eq_true (by first | (with_reducible assumption) | assumption)) (by have h_ : ((ji31) : Int) < ((y112.length : Int) : Int) := of_decide_eq_true (by first | (with_reducible assumption) | assumption); first | exact h_ | (have e_ := (Kd.R_reads' HO114.out).1; omega) | simpa using h_); obtain rfl := k30_openM hM38; have HP38 := Kd.R_seg HX38.out ((ji31) : Int) (of_decide_eq_true (by first | (with_reducible assumption) | assumption)) (by have h_ : ((ji31) : Int) < ((y112.length : Int) : Int) := of_decide_eq_true (by first | (with_reducible assumption) | assumption); first | exact h_ | (have e_ := (Kd.R_reads' HO114.out).1; omega) | simpa using h_) (seg := [.int .i64 (wrap64 (((rd_T30 y112 (ji31)).f2) + 1))]) (j := 2) hcl38 hcc38 (show 3 ≤ 4 from by decide) (x' := (⟨(rd_T30 y112 (ji31)).f0, (rd_T30 y112 (ji31)).f1, wrap64 (((rd_T30 y112 (ji31)).f2) + 1), (rd_T30 y112 (ji31)).f3⟩ : S30)) (k30_mkM _ _ _ (⟨(rd_T30 y112 (ji31)).f0, (rd_T30 y112 (ji31)).f1, wrap64 (((rd_T30 y112 (ji31)).f2) + 1), (rd_T30 y112 (ji31)).f3⟩ : S30) ) (fun _ hk => hk); have hx38_2 := hcc38 2 _ rfl; (try simp only [show (k30).sz = 4 from rfl, Nat.mul_one, Nat.add_zero] at hx38_2); have hf38_2 := hfr38 2; (try simp only [show (k30).sz = 4 from rfl, Nat.mul_one, Nat.add_zero] at hf38_2); clear hcl38 hcc38 hfr38 hM38) | ((with_reducible refine gate_store (t := 3) (p := 73) rfl ?_); refine store_event (t := 3) (p := 73) (v := ?vo_w39) (w1 := (w36.setCell ⟨go34, ((ji31) : Int).toNat * 4 + 2, none⟩ (.int .i64 (wrap64 (((rd_T30 y112 (ji31)).f2) + 1))))) ?hg ?ho ?hn ?hr ?_; (case ho => rfl); (case hg => rfl); (case hn => rfl); (case hr => first | (go_simp; done) | (go_simp; rfl)); intro w39 hw; have hg : w36.grownBy w39 (some go34) := (by rw [hw]; exact HP38.2); have hp_ : Kd.R k30 30 w39 w.heap.size (fun _ => True) (.slice (some ⟨go34, 0, none⟩) y112.length co37) y116 := (by rw [hw, Ny116.out]; exact HP38.1); clear HP38; have n0_ := Aside0.mk (hp_); have n1_ := Aside0.mk ((by rw [hw]; exact below_set (HB.out) GB34.out : Below w.heap.size w w39)); clear HO114; clear HB; have HO114 := n0_; have HB := n1_; clear n0_ n1_; clear hg hw hp_))
                                  go_roundg k3
                                  case measure => have := HJ2.out; have := HJ5.out; have := HK3.out; omega
                                  case rel => exact ⟨(y116), (wrap64 (x7_3 + 1)), (by first | rfl | (simp; done) | (simp [*]; done)), H', ⟨by have := HJ2.out; have := HJ5.out; have := HK3.out; omega⟩, ⟨by (with_reducible repeat (first | apply Kd.R_alloc | apply Kd.R_drewN | apply Kd.R_drew)); exact HO114.out⟩, ⟨by repeat (first | (with_reducible first | exact HB.out | apply below_alloc | apply pw_below_drewN | apply below_drew1) | exact HB.out)⟩⟩
                                · rw [if_neg c33] at H
                                  exact absurd H (by simp)
                              · rw [if_neg c32] at H
                                exact absurd H (by simp)
                            · rw [if_neg c30] at H
                              exact absurd H (by simp)
                        · rw [if_neg c24] at H
                          exact absurd H (by simp)
                      · rw [if_neg c23] at H
                        exact absurd H (by simp)
                  · rw [if_neg c10] at H
                    have c10b0 : decide (x7_3 < a1) = false := decide_eq_false c10
                    clear c10
                    simp only [Option.some.injEq, Prod.mk.injEq] at H
                    obtain ⟨rfl, rfl⟩ := H
                    go_wp2
                    go_ret2
                    exact ⟨_, by first | rfl | (simp [errW_none, errW_some] <;> rfl) | (simp [*, errW_none, errW_some] <;> rfl), by (with_reducible repeat (first | apply Kd.R_alloc | apply Kd.R_drewN | apply Kd.R_drew)); exact HO_6.out, by repeat (first | (with_reducible first | exact HB.out | apply below_alloc | apply pw_below_drewN | apply below_drew1) | exact HB.out)⟩

/-! ### points_At: function 13 -/
def points_At.j0 : Nat → Int → Bool → Option (Bool × Int × Bool)
  | 0, _, _ => none
  | k + 1, x0, x5 => if x5 = true then (some (false, 0, false)) else (if x0 < 6 then (some (true, x0, true)) else (some (false, wrap64 (x0 - 6), true)))
def points_At.f (k : Nat) (a0 : Int) : Option (Bool × Int × Bool) := if a0 < 0 then (points_At.j0 k a0 true) else (points_At.j0 k a0 (decide (a0 ≥ 34)))
theorem points_At.mono_l : ∀ k, (∀ y0 y1, LeO (points_At.j0 k y0 y1) (points_At.j0 (k + 1) y0 y1))
  | 0 => fun _ _ r h => by simp [points_At.j0] at h
  | k + 1 => by
    have ih0 := points_At.mono_l k
    · intro y0 y1
      unfold points_At.j0
      repeat' first
      | (with_reducible exact ih0 _ _)
      | (with_reducible exact LeO.refl _)
      | (with_reducible exact LeO.none _)
      | (with_reducible refine LeO.ite ?_ ?_)
      | (with_reducible refine LeO.bind ?_ (fun _ => ?_))
      | exact ih0 _ _
      | exact LeO.none _
      | refine LeO.ite ?_ ?_
      | refine LeO.bind ?_ (fun _ => ?_)
theorem points_At.mono : ∀ a0 k, LeO (points_At.f k a0) (points_At.f (k + 1) a0) := by
  intro a0 k
  have ih0 := points_At.mono_l k
  unfold points_At.f
  repeat' first
      | (with_reducible exact ih0 _ _)
      | (with_reducible exact LeO.refl _)
      | (with_reducible exact LeO.none _)
      | (with_reducible refine LeO.ite ?_ ?_)
      | (with_reducible refine LeO.bind ?_ (fun _ => ?_))
      | exact ih0 _ _
      | exact LeO.none _
      | refine LeO.ite ?_ ?_
      | refine LeO.bind ?_ (fun _ => ?_)
set_option maxHeartbeats 8000000 in
set_option maxRecDepth 100000 in
theorem points_At.calls (k : Nat) (a0 : Int) (r1 : Bool) (r2 : Int) (r3 : Bool) (w : World) (h : points_At.f k a0 = some (r1, r2, r3)) :
    Calls Try.prog 13 #[.int .i64 a0] w fun e w' => e = .returned (.tuple #[.bool r1, .int .i64 r2, .bool r3]) ∧ Drawn0 w w' := by
  have H : (if a0 < 0 then (points_At.j0 k a0 true) else (points_At.j0 k a0 (decide (a0 ≥ 34)))) = some (r1, r2, r3) := h
  clear h
  have HC2 := Aside0.mk H
  clear H
  go_enter Try.func13, Try.ntmps13
  go_upto_region 1 with (fail)
  go_cut [5] (fun v5 wc => ∃ (kq : Nat) (x5_1 : Bool), v5 = .bool x5_1 ∧ Aside0 (points_At.j0 kq a0 x5_1 = some (r1, r2, r3)) ∧ Aside0 (kq ≤ k) ∧ Drawn0 w wc)
  case first =>
    have H := HC2.out
    clear HC2
    by_cases c3 : a0 < 0
    · rw [if_pos c3] at H
      have c3b0 : decide (a0 < 0) = true := decide_eq_true c3
      clear c3
      (first | rw [c3b0] | (simp only [i64_w, i32_w]; rw [c3b0]) | skip)
      have H' := Aside0.mk H
      clear H
      go_wp2
      go_meet
      case rel => exact ⟨_, (true), (by first | rfl | (simp; done) | (simp [*]; done)), H', ⟨by first | omega | exact Nat.le_refl _⟩, by repeat (first | exact Drawn0.refl _ | apply Drawn0.step)⟩
    · rw [if_neg c3] at H
      have c3b0 : decide (a0 < 0) = false := decide_eq_false c3
      clear c3
      (first | rw [c3b0] | (simp only [i64_w, i32_w]; rw [c3b0]) | skip)
      have H' := Aside0.mk H
      clear H
      go_wp2
      go_meet
      case rel => exact ⟨_, (decide (a0 ≥ 34)), (by first | rfl | (simp; done) | (simp [*]; done)), H', ⟨by first | omega | exact Nat.le_refl _⟩, by repeat (first | exact Drawn0.refl _ | apply Drawn0.step)⟩
  case rest =>
    clear HC2
    try clear c1
    try clear p2
    try clear c3
    try clear c3b0
    obtain ⟨kq, x5_1, rfl, HA, HJ1, ⟨mc1, rfl⟩⟩ := hcut
    cases kq with
    | zero => exact absurd HA.out (by simp [points_At.j0])
    | succ kj1 =>
      have H := HA.out
      clear HA
      simp only [points_At.j0] at H
      by_cases c4 : x5_1 = true
      · subst c4
        have H1 : (some (false, 0, false)) = some (r1, r2, r3) := by rw [if_pos rfl] at H; exact H
        clear H
        have H := H1
        clear H1
        simp only [Option.some.injEq, Prod.mk.injEq] at H
        obtain ⟨rfl, rfl, rfl⟩ := H
        go_wp2
        go_ret3
        exact ⟨by first | rfl | (simp; done) | (simp [*]; done), by repeat (first | exact Drawn0.refl _ | apply Drawn0.step)⟩
      · replace c4 := Bool.eq_false_iff.mpr c4
        subst c4
        have H1 : (if a0 < 6 then (some (true, a0, true)) else (some (false, wrap64 (a0 - 6), true))) = some (r1, r2, r3) := by rw [if_neg (show ¬ (false = true) by decide)] at H; exact H
        clear H
        have H := H1
        clear H1
        by_cases c5 : a0 < 6
        · rw [if_pos c5] at H
          have c5b0 : decide (a0 < 6) = true := decide_eq_true c5
          clear c5
          simp only [Option.some.injEq, Prod.mk.injEq] at H
          obtain ⟨rfl, rfl, rfl⟩ := H
          go_wp2
          go_ret3
          exact ⟨by first | rfl | (simp; done) | (simp [*]; done), by repeat (first | exact Drawn0.refl _ | apply Drawn0.step)⟩
        · rw [if_neg c5] at H
          have c5b0 : decide (a0 < 6) = false := decide_eq_false c5
          clear c5
          simp only [Option.some.injEq, Prod.mk.injEq] at H
          obtain ⟨rfl, rfl, rfl⟩ := H
          go_wp2
          go_ret3
          exact ⟨by first | rfl | (simp; done) | (simp [*]; done), by repeat (first | exact Drawn0.refl _ | apply Drawn0.step)⟩

/-! ### inode_Blocks: function 25 -/
def inode_Blocks.f (a0 : Int) : Option (Int) := if a0 ≤ 0 then (some 0) else (some (wrap64 ((wrap64 (Int.tdiv (wrap64 (a0 - 1)) 112)) + 1)))
set_option maxHeartbeats 8000000 in
set_option maxRecDepth 100000 in
theorem inode_Blocks.calls (a0 : Int) (r : Int) (w : World) (h : inode_Blocks.f a0 = some r) :
    Calls Try.prog 25 #[.int .i64 a0] w fun e w' => e = .returned (.int .i64 r) ∧ Drawn0 w w' := by
  have H : (if a0 ≤ 0 then (some 0) else (some (wrap64 ((wrap64 (Int.tdiv (wrap64 (a0 - 1)) 112)) + 1)))) = some r := h
  clear h
  by_cases c2 : a0 ≤ 0
  · rw [if_pos c2] at H
    have c2b0 : decide (a0 ≤ 0) = true := decide_eq_true c2
    clear c2
    obtain rfl := Option.some.inj H
    go_enter Try.func25, Try.ntmps25
    go_wp2
    go_ret
    exact ⟨by first | rfl | (simp; done) | (simp [*]; done), by repeat (first | exact Drawn0.refl _ | apply Drawn0.step)⟩
  · rw [if_neg c2] at H
    have c2b0 : decide (a0 ≤ 0) = false := decide_eq_false c2
    clear c2
    obtain rfl := Option.some.inj H
    go_enter Try.func25, Try.ntmps25
    go_wp2
    go_ret
    exact ⟨by first | rfl | (simp; done) | (simp [*]; done), by repeat (first | exact Drawn0.refl _ | apply Drawn0.step)⟩

-- NOT PRINTED: function 33 (slices_IndexFunc_uint32_uint32)

-- NOT PRINTED: function 30 (slices_ContainsFunc_uint32_uint32)

-- NOT PRINTED: function 24 (inode_May)

-- NOT PRINTED: function 28 (slices_Clone_uint32_uint32)

-- NOT PRINTED: function 17 (points_Spread)

-- NOT PRINTED: function 19 (points_Put)

-- NOT PRINTED: function 12 (hayricklaw13_wakes)

-- NOT PRINTED: function 3 (hayricklaw13_PointsCut)

end Go.Proofs.Ytjpjjddkbohbpaa.PPointsCut
