/- Functions of the program as Lean functions, with their proofs (out of printed texts of which another function falls). -/
import Derived.Test.YtgiapegacbibeaaPUsageLivesx0
namespace Go.Proofs.Ytgiapegacbibeaa.PUsageLives
open Go.RowKit Go.Proofs.YtgiapegacbibeaaW.PrintWords Go.Proofs.YtgiapegacbibeaaW.PrintLast Go.Proofs.YtgiapegacbibeaaW.PrintMore
attribute [local go_sem] max2_int min2_int max_two min_two max_three min_three max_four min_four   -- for this text's walks alone
set_option linter.unusedVariables false
set_option linter.unusedSimpArgs false
/-! ### hayricklaw15_shelf: function 12 -/
mutual
def hayricklaw15_shelf.l0 : Nat → List (S62) → Int → Int → Option ((List (List Int)))
  | 0, _, _, _ => none
  | k + 1, x0, x3, x4 => if x4 < (x0.length : Int) then (if 0 ≤ x4 then (if ((rd_T62 x0 x4).f0) ≤ 200000 then (hayricklaw15_shelf.l0 k x0 (mx x3 (wrap64 ((rd_T62 x0 x4).f0))) (wrap64 (x4 + 1))) else (hayricklaw15_shelf.l0 k x0 x3 (wrap64 (x4 + 1)))) else (none)) else (if 0 ≤ x3 then (if (x3 : Int).toNat ≤ 11728124029610 then (hayricklaw15_shelf.l1 k x0 (List.replicate (x3 : Int).toNat []) 0) else (none)) else (none))
def hayricklaw15_shelf.l1 : Nat → List (S62) → List (List Int) → Int → Option ((List (List Int)))
  | 0, _, _, _ => none
  | k + 1, x0, x5, x6 => if x6 < (x0.length : Int) then (if 0 ≤ x6 then (if ((rd_T62 x0 x6).f0) ≥ 1 then (if ((rd_T62 x0 x6).f0) ≤ 200000 then (if 0 ≤ ((((rd_T62 x0 x6).f0) - 1) % 4294967296) then (if ((((rd_T62 x0 x6).f0) - 1) % 4294967296) < (x5.length : Int) then (hayricklaw15_shelf.l1 k x0 (x5.set (((((rd_T62 x0 x6).f0) - 1) % 4294967296) : Int).toNat ((rd_T62 x0 x6).f1)) (wrap64 (x6 + 1))) else (none)) else (none)) else (hayricklaw15_shelf.l1 k x0 x5 (wrap64 (x6 + 1)))) else (hayricklaw15_shelf.l1 k x0 x5 (wrap64 (x6 + 1)))) else (none)) else (some x5)
end
def hayricklaw15_shelf.f (k : Nat) (l0 : List (S62)) : Option ((List (List Int))) := hayricklaw15_shelf.l0 k l0 0 0
theorem hayricklaw15_shelf.mono_l : ∀ k, (∀ y0 y1 y2, LeO (hayricklaw15_shelf.l0 k y0 y1 y2) (hayricklaw15_shelf.l0 (k + 1) y0 y1 y2)) ∧ (∀ y0 y1 y2, LeO (hayricklaw15_shelf.l1 k y0 y1 y2) (hayricklaw15_shelf.l1 (k + 1) y0 y1 y2))
  | 0 => ⟨fun _ _ _ r h => by simp [hayricklaw15_shelf.l0] at h, fun _ _ _ r h => by simp [hayricklaw15_shelf.l1] at h⟩
  | k + 1 => by
    obtain ⟨ih0, ih1⟩ := hayricklaw15_shelf.mono_l k
    refine ⟨?_, ?_⟩
    · intro y0 y1 y2
      unfold hayricklaw15_shelf.l0
      repeat' first
      | (with_reducible exact ih0 _ _ _)
      | (with_reducible exact ih1 _ _ _)
      | (with_reducible exact LeO.refl _)
      | (with_reducible exact LeO.none _)
      | (with_reducible refine LeO.ite ?_ ?_)
      | (with_reducible refine LeO.bind ?_ (fun _ => ?_))
      | exact ih0 _ _ _
      | exact ih1 _ _ _
      | exact LeO.none _
      | refine LeO.ite ?_ ?_
      | refine LeO.bind ?_ (fun _ => ?_)
    · intro y0 y1 y2
      unfold hayricklaw15_shelf.l1
      repeat' first
      | (with_reducible exact ih0 _ _ _)
      | (with_reducible exact ih1 _ _ _)
      | (with_reducible exact LeO.refl _)
      | (with_reducible exact LeO.none _)
      | (with_reducible refine LeO.ite ?_ ?_)
      | (with_reducible refine LeO.bind ?_ (fun _ => ?_))
      | exact ih0 _ _ _
      | exact ih1 _ _ _
      | exact LeO.none _
      | refine LeO.ite ?_ ?_
      | refine LeO.bind ?_ (fun _ => ?_)
theorem hayricklaw15_shelf.mono : ∀ a0 k, LeO (hayricklaw15_shelf.f k a0) (hayricklaw15_shelf.f (k + 1) a0) := by
  intro a0 k
  obtain ⟨ih0, ih1⟩ := hayricklaw15_shelf.mono_l k
  unfold hayricklaw15_shelf.f
  repeat' first
      | (with_reducible exact ih0 _ _ _)
      | (with_reducible exact ih1 _ _ _)
      | (with_reducible exact LeO.refl _)
      | (with_reducible exact LeO.none _)
      | (with_reducible refine LeO.ite ?_ ?_)
      | (with_reducible refine LeO.bind ?_ (fun _ => ?_))
      | exact ih0 _ _ _
      | exact ih1 _ _ _
      | exact LeO.none _
      | refine LeO.ite ?_ ?_
      | refine LeO.bind ?_ (fun _ => ?_)
def hayricklaw15_shelf.T12 : Bool × List (List Nat × List Nat) := (true, [([], []), ([], []), ([], []), ([1, 2], [1, 2]), ([3], [3]), ([4], [4]), ([5], [5]), ([], []), ([], []), ([7, 8], [7, 8]), ([9], [9]), ([10], [10]), ([0, 6, 0, 1, 2, 3, 4, 5, 6, 7, 8, 9, 10, 11], [0, 6]), ([12, 11, 0, 1, 2, 3, 4, 5, 6, 7, 8, 9, 10, 11], [11, 12])])
def hayricklaw15_shelf.B12 : List Nat := [0, 0, 0, 6, 14, 30, 62, 0, 0, 384, 896, 1920, 4095, 8191]
theorem hayricklaw15_shelf.tab12 : rtab .any (opsOf Try.f12 12) = hayricklaw15_shelf.T12 := by kernel_rfl
theorem hayricklaw15_shelf.bits12 : waitsOk hayricklaw15_shelf.T12.2 hayricklaw15_shelf.B12 = true := by kernel_rfl
set_option maxHeartbeats 8000000 in
set_option maxRecDepth 100000 in
theorem hayricklaw15_shelf.calls (k : Nat) (P0_ : Nat → Prop) (A0 : Option Addr) (c0 : Nat) (l0 : List (S62)) (r : List (List Int)) (w : World) (hs0 : Kd.V k62 62 w w.heap.size (fun k_ => P0_ k_) (.slice A0 l0.length c0) l0) (h : hayricklaw15_shelf.f k l0 = some r) :
    Calls Try.prog 12 #[.slice A0 l0.length c0] w fun e w' => ∃ v0_ : Value, e = .returned (v0_) ∧ Kd.N (Kd.slice 5 (Kd.int .u8)) 58 w' w.heap.size (fun k_ => (P0_ k_ ∨ w.heap.size ≤ k_)) v0_ r ∧ Below w.heap.size w w' := by
  have HO0 := Aside0.mk (show Kd.V k62 62 w w.heap.size (fun k_ => (P0_ k_ ∨ w.heap.size ≤ k_)) (.slice A0 l0.length c0) l0 from Kd.V_mono hs0 (fun k_ hk => .inl hk))
  have HB := Aside0.mk (Below.refl w.heap.size w)
  have H : (hayricklaw15_shelf.l0 k l0 0 0) = some r := h
  clear h
  have H' := Aside0.mk H
  clear H
  go_enter Try.func12, Try.ntmps12
  go_wp2
  go_loopg [3, 4] k (fun kq v3 v4 w' => ∃ (x3_1 : Int) (x4_1 : Int), v3 = .int .i64 x3_1 ∧ v4 = .int .i64 x4_1 ∧ Aside0 (hayricklaw15_shelf.l0 kq l0 x3_1 x4_1 = some r) ∧ Aside0 (kq ≤ k) ∧ Aside0 (Kd.V k62 62 w' w.heap.size (fun k_ => (P0_ k_ ∨ w.heap.size ≤ k_)) (.slice A0 l0.length c0) l0) ∧ Aside0 (Below w.heap.size w w'))
  case atStart => exact ⟨(0), (0), (by first | rfl | (simp; done) | (simp [*]; done)), (by first | rfl | (simp; done) | (simp [*]; done)), H', ⟨Nat.le_refl _⟩, ⟨by (with_reducible repeat (first | apply Kd.V_alloc | apply Kd.V_drewN | apply Kd.V_drew)); exact HO0.out⟩, ⟨by repeat (first | (with_reducible first | exact HB.out | apply below_alloc | apply pw_below_drewN | apply below_drew1) | exact HB.out)⟩⟩
  case round =>
    clear H'
    try clear c1
    obtain ⟨x3_1, x4_1, rfl, rfl, HA, HK1, HO_0, HB⟩ := hrel
    cases gk with
    | zero => exact absurd HA.out (by simp [hayricklaw15_shelf.l0])
    | succ k1 =>
      have H := HA.out
      clear HA
      simp only [hayricklaw15_shelf.l0] at H
      by_cases c2 : x4_1 < (l0.length : Int)
      · rw [if_pos c2] at H
        have c2b0 : decide (x4_1 < (l0.length : Int)) = true := decide_eq_true c2
        clear c2
        by_cases c3 : 0 ≤ x4_1
        · rw [if_pos c3] at H
          have c3b0 : decide (0 ≤ x4_1) = true := decide_eq_true c3
          clear c3
          by_cases c4 : ((rd_T62 l0 x4_1).f0) ≤ 200000
          · rw [if_pos c4] at H
            have c4b0 : decide (((rd_T62 l0 x4_1).f0) ≤ 200000) = true := decide_eq_true c4
            clear c4
            obtain ⟨ji5, hji5⟩ : ∃ j_ : Int, (mx x3_1 (wrap64 ((rd_T62 l0 x4_1).f0))) = j_ := ⟨_, rfl⟩
            replace H : (hayricklaw15_shelf.l0 k1 l0 ji5 (wrap64 (x4_1 + 1))) = some r := by first | (rw [hji5] at H; exact H) | (simp only [hji5] at H ⊢; exact H)
            have hji5_ : (if x3_1 < (wrap64 ((rd_T62 l0 x4_1).f0)) then (wrap64 ((rd_T62 l0 x4_1).f0)) else x3_1) = ji5 := hji5
            have H' := Aside0.mk H
            clear H
            have p106 : 0 ≤ (x4_1 : Int) := of_decide_eq_true (by first | (with_reducible assumption) | assumption)
            have q106 : x4_1 < (l0.length : Int) := of_decide_eq_true (by first | (with_reducible assumption) | assumption)
            obtain ⟨ad106, A106_1, c106_1, e106, hx106_0, hx106_1, hl106_1, hi106_1⟩ := at_T62 (Kd.V_reads' HO_0.out).2.2 x4_1 p106 q106
            cases e106
            obtain ⟨ce106, hce106, hMe106, hcc106⟩ := Kd.V_get HO_0.out z62 x4_1 p106 (by first | exact q106 | exact of_decide_eq_true (by first | (with_reducible assumption) | assumption) | (have e_ := (Kd.V_reads' HO_0.out).1; omega))
            obtain ⟨ua106_1, uc106_1, rfl, ul106_1, ge106_1⟩ := k62_openF hMe106
            have hv106_1 := hcc106 1 _ rfl
            rw [add_field _ _ 1 (by omega)] at hv106_1
            replace hv106_1 := Option.some.inj (hv106_1.symm.trans hx106_1)
            injection hv106_1 with hva_ hvn_ hvc_
            rw [hva_] at ge106_1
            rw [hvc_] at ul106_1
            have HL106_1 := Aside0.mk (show Kd.V (Kd.int .u8) 5 _ w.heap.size _ _ ((rd_T62 l0 x4_1).f1) from Kd.V_mk ul106_1 ge106_1)
            clear hva_ hvn_ hvc_ ge106_1 ul106_1
            clear hcc106 hce106
            have HR106_1 := Aside0.mk hi106_1
            have HC106_1 := Aside0.mk hl106_1
            clear hi106_1 hl106_1
            replace p106 := eq_true p106
            replace q106 := eq_true q106
            have p107 : 0 ≤ (x4_1 : Int) := of_decide_eq_true (by first | (with_reducible assumption) | assumption)
            have q107 : x4_1 < (l0.length : Int) := of_decide_eq_true (by first | (with_reducible assumption) | assumption)
            obtain ⟨ad107, A107_1, c107_1, e107, hx107_0, hx107_1, hl107_1, hi107_1⟩ := at_T62 (Kd.V_reads' HO_0.out).2.2 x4_1 p107 q107
            obtain rfl : ad106 = ad107 := (by injection e107)
            obtain ⟨ce107, hce107, hMe107, hcc107⟩ := Kd.V_get HO_0.out z62 x4_1 p107 (by first | exact q107 | exact of_decide_eq_true (by first | (with_reducible assumption) | assumption) | (have e_ := (Kd.V_reads' HO_0.out).1; omega))
            obtain ⟨ua107_1, uc107_1, rfl, ul107_1, ge107_1⟩ := k62_openF hMe107
            have hv107_1 := hcc107 1 _ rfl
            rw [add_field _ _ 1 (by omega)] at hv107_1
            replace hv107_1 := Option.some.inj (hv107_1.symm.trans hx107_1)
            injection hv107_1 with hva_ hvn_ hvc_
            rw [hva_] at ge107_1
            rw [hvc_] at ul107_1
            have HL107_1 := Aside0.mk (show Kd.V (Kd.int .u8) 5 _ w.heap.size _ _ ((rd_T62 l0 x4_1).f1) from Kd.V_mk ul107_1 ge107_1)
            clear hva_ hvn_ hvc_ ge107_1 ul107_1
            clear hcc107 hce107
            have HR107_1 := Aside0.mk hi107_1
            have HC107_1 := Aside0.mk hl107_1
            clear hi107_1 hl107_1
            replace p107 := eq_true p107
            replace q107 := eq_true q107
            have ea_ := Option.some.inj (hx106_1.symm.trans hx107_1)
            injection ea_ with ea_ en_ ec_
            subst ea_
            subst ec_
            clear en_
            go_wp2
            go_roundg k1
            case measure => have := HK1.out; omega
            case rel => exact ⟨(ji5), (wrap64 (x4_1 + 1)), (by first | rfl | (simp; done) | (simp only [← hji5] <;> (first | rfl | simp)) | (simp [*]; done)), (by first | rfl | (simp; done) | (simp [*]; done)), H', ⟨by have := HK1.out; omega⟩, ⟨by (with_reducible repeat (first | apply Kd.V_alloc | apply Kd.V_drewN | apply Kd.V_drew)); exact HO_0.out⟩, ⟨by repeat (first | (with_reducible first | exact HB.out | apply below_alloc | apply pw_below_drewN | apply below_drew1) | exact HB.out)⟩⟩
          · rw [if_neg c4] at H
            have c4b0 : decide (((rd_T62 l0 x4_1).f0) ≤ 200000) = false := decide_eq_false c4
            clear c4
            have H' := Aside0.mk H
            clear H
            have p106 : 0 ≤ (x4_1 : Int) := of_decide_eq_true (by first | (with_reducible assumption) | assumption)
            have q106 : x4_1 < (l0.length : Int) := of_decide_eq_true (by first | (with_reducible assumption) | assumption)
            obtain ⟨ad106, A106_1, c106_1, e106, hx106_0, hx106_1, hl106_1, hi106_1⟩ := at_T62 (Kd.V_reads' HO_0.out).2.2 x4_1 p106 q106
            cases e106
            obtain ⟨ce106, hce106, hMe106, hcc106⟩ := Kd.V_get HO_0.out z62 x4_1 p106 (by first | exact q106 | exact of_decide_eq_true (by first | (with_reducible assumption) | assumption) | (have e_ := (Kd.V_reads' HO_0.out).1; omega))
            obtain ⟨ua106_1, uc106_1, rfl, ul106_1, ge106_1⟩ := k62_openF hMe106
            have hv106_1 := hcc106 1 _ rfl
            rw [add_field _ _ 1 (by omega)] at hv106_1
            replace hv106_1 := Option.some.inj (hv106_1.symm.trans hx106_1)
            injection hv106_1 with hva_ hvn_ hvc_
            rw [hva_] at ge106_1
            rw [hvc_] at ul106_1
            have HL106_1 := Aside0.mk (show Kd.V (Kd.int .u8) 5 _ w.heap.size _ _ ((rd_T62 l0 x4_1).f1) from Kd.V_mk ul106_1 ge106_1)
            clear hva_ hvn_ hvc_ ge106_1 ul106_1
            clear hcc106 hce106
            have HR106_1 := Aside0.mk hi106_1
            have HC106_1 := Aside0.mk hl106_1
            clear hi106_1 hl106_1
            replace p106 := eq_true p106
            replace q106 := eq_true q106
            go_wp2
            go_roundg k1
            case measure => have := HK1.out; omega
            case rel => exact ⟨(x3_1), (wrap64 (x4_1 + 1)), (by first | rfl | (simp; done) | (simp [*]; done)), (by first | rfl | (simp; done) | (simp [*]; done)), H', ⟨by have := HK1.out; omega⟩, ⟨by (with_reducible repeat (first | apply Kd.V_alloc | apply Kd.V_drewN | apply Kd.V_drew)); exact HO_0.out⟩, ⟨by repeat (first | (with_reducible first | exact HB.out | apply below_alloc | apply pw_below_drewN | apply below_drew1) | exact HB.out)⟩⟩
        · rw [if_neg c3] at H
          exact absurd H (by simp)
      · rw [if_neg c2] at H
        have c2b0 : decide (x4_1 < (l0.length : Int)) = false := decide_eq_false c2
        clear c2
        by_cases c6 : 0 ≤ x3_1
        · rw [if_pos c6] at H
          have c6b0 := eq_true c6
          have c6b1 : decide (0 ≤ x3_1) = true := decide_eq_true c6
          clear c6
          by_cases c7 : (x3_1 : Int).toNat ≤ 11728124029610
          · rw [if_pos c7] at H
            have c7b0 := eq_true c7
            have c7b1 : decide ((x3_1 : Int).toNat ≤ 11728124029610) = true := decide_eq_true c7
            clear c7
            obtain ⟨y108, hy108⟩ : ∃ y_ : List (List Int), y_ = (List.replicate (x3_1 : Int).toNat []) := ⟨_, rfl⟩
            replace H : (hayricklaw15_shelf.l1 k1 l0 y108 0) = some r := by first | (rw [hy108]; with_reducible exact H) | (have H2_ := (Option.bind_some _ _).symm.trans H; rw [hy108]; with_reducible exact H2_) | (have H2_ := (Option.bind_some _ _).symm.trans H; with_reducible exact H2_) | with_reducible exact H | (rw [hy108]; exact H) | exact H
            have Ny108 := Aside0.mk hy108
            clear hy108
            have H' := Aside0.mk H
            clear H
            go_wp2_with (first | ((with_reducible refine gate_dst (N := 28) rfl ?_); refine Kd.N_make (Kd.slice 5 (Kd.int .u8)) _ 58 rfl (N' := 28) rfl 38 _ _ rfl x3_1 rfl rfl Try.underlying38 (.slice none 0 0) 24 info58 rfl (by decide) (by omega) [] (ok := fun k_ => wr.heap.size ≤ k_) (okp := fun _ => False) (Kd.FK_slice_mk (Nat.le_refl _) (Kd.F_nil _ _ _)) (fun _ hk => hk.elim) (Nat.le_refl _) (of_decide_eq_true (by first | (with_reducible assumption) | assumption)) (Nat.le_trans (Nat.mul_le_mul_right _ (of_decide_eq_true (by first | (with_reducible assumption) | assumption) : x3_1.toNat ≤ 11728124029610)) (by omega)) (Below.refl _ _) (Nat.le_refl _) ?_; intro v109 w8 ho9 hb hg_ hnew_; clear hg_ hnew_; (first | rw [← Ny108.out] at ho9 | (simp only [Int.reduceToNat] at ho9; rw [← Ny108.out] at ho9)); have n0_ := Aside0.mk (Kd.V_elder' (by (with_reducible repeat (first | apply Kd.V_alloc | apply Kd.V_drewN | apply Kd.V_drew)); exact HO_0.out) (Kd.N_base ho9) hb); have n1_ := Aside0.mk (Kd.N_lower (Kd.N_mono (ok' := fun k_ => (P0_ k_ ∨ w.heap.size ≤ k_)) ho9 (fun k_ hk_ => (.inr (Nat.le_trans (below_size (by repeat (first | (with_reducible first | exact HB.out | apply below_alloc | apply pw_below_drewN | apply below_drew1) | exact HB.out))) hk_)))) (below_size (by repeat (first | (with_reducible first | exact HB.out | apply below_alloc | apply pw_below_drewN | apply below_drew1) | exact HB.out)))); have n2_ := Aside0.mk (below_step (by repeat (first | (with_reducible first | exact HB.out | apply below_alloc | apply pw_below_drewN | apply below_drew1) | exact HB.out)) hb); clear HO_0; clear HB; have HO_0 := n0_; have HO110 := n1_; have HB := n2_; clear n0_ n1_ n2_; clear hb ho9))
            go_loopg [6] k1 (fun kq v6 w' => ∃ (x5_2 : List (List Int)) (x6_2 : Int), v6 = .int .i64 x6_2 ∧ Aside0 (hayricklaw15_shelf.l1 kq l0 x5_2 x6_2 = some r) ∧ Aside0 (kq ≤ k1) ∧ Aside0 (Kd.V k62 62 w' w.heap.size (fun k_ => (P0_ k_ ∨ w.heap.size ≤ k_) ∧ some k_ ≠ (v109 : Value).ownBlock) (.slice A0 l0.length c0) l0) ∧ Aside0 (Kd.N (Kd.slice 5 (Kd.int .u8)) 58 w' w.heap.size (fun k_ => (P0_ k_ ∨ w.heap.size ≤ k_)) v109 x5_2) ∧ Aside0 (Below w.heap.size w w'))
            case atStart => exact ⟨(y108), (0), (by first | rfl | (simp; done) | (simp [*]; done)), H', ⟨Nat.le_refl _⟩, ⟨by (with_reducible repeat (first | apply Kd.V_alloc | apply Kd.V_drewN | apply Kd.V_drew)); exact HO_0.out⟩, ⟨by (with_reducible repeat (first | apply Kd.N_alloc | apply Kd.N_drewN | apply Kd.N_drew)); exact HO110.out⟩, ⟨by repeat (first | (with_reducible first | exact HB.out | apply below_alloc | apply pw_below_drewN | apply below_drew1) | exact HB.out)⟩⟩
            case round =>
              clear H'
              try clear c1
              try clear p1
              try clear q1
              try clear hx1
              try clear c2
              try clear c2b0
              try clear p2
              try clear c3
              try clear c3b0
              try clear c4
              try clear c4b0
              try clear c6
              try clear c6b0
              try clear c6b1
              try clear p6
              try clear c7
              try clear c7b0
              try clear c7b1
              try clear hx106_0
              try clear hx106_1
              try clear hx107_0
              try clear hx107_1
              try clear p106
              try clear p107
              try clear q106
              try clear q107
              obtain ⟨x5_2, x6_2, rfl, HA, HK2, HO_0, HO_5, HB⟩ := hrel
              cases gk with
              | zero => exact absurd HA.out (by simp [hayricklaw15_shelf.l1])
              | succ k2 =>
                have H := HA.out
                clear HA
                simp only [hayricklaw15_shelf.l1] at H
                by_cases c10 : x6_2 < (l0.length : Int)
                · rw [if_pos c10] at H
                  have c10b0 : decide (x6_2 < (l0.length : Int)) = true := decide_eq_true c10
                  clear c10
                  by_cases c11 : 0 ≤ x6_2
                  · rw [if_pos c11] at H
                    have c11b0 : decide (0 ≤ x6_2) = true := decide_eq_true c11
                    clear c11
                    by_cases c12 : ((rd_T62 l0 x6_2).f0) ≥ 1
                    · rw [if_pos c12] at H
                      have c12b0 : decide (1 ≤ ((rd_T62 l0 x6_2).f0)) = true := decide_eq_true c12
                      clear c12
                      by_cases c13 : ((rd_T62 l0 x6_2).f0) ≤ 200000
                      · rw [if_pos c13] at H
                        have c13b0 : decide (((rd_T62 l0 x6_2).f0) ≤ 200000) = true := decide_eq_true c13
                        clear c13
                        obtain ⟨ji14, hji14⟩ : ∃ j_ : Int, ((((rd_T62 l0 x6_2).f0) - 1) % 4294967296) = j_ := ⟨_, rfl⟩
                        replace H : (if 0 ≤ (ji14) then (if (ji14) < (x5_2.length : Int) then (hayricklaw15_shelf.l1 k2 l0 (x5_2.set ((ji14) : Int).toNat ((rd_T62 l0 x6_2).f1)) (wrap64 (x6_2 + 1))) else (none)) else (none)) = some r := by first | (rw [hji14] at H; exact H) | (simp only [hji14] at H ⊢; exact H)
                        by_cases c15 : 0 ≤ (ji14)
                        · rw [if_pos c15] at H
                          have c15b0 : decide (0 ≤ (ji14)) = true := decide_eq_true c15
                          clear c15
                          by_cases c16 : (ji14) < (x5_2.length : Int)
                          · rw [if_pos c16] at H
                            have c16b0 : decide ((ji14) < (x5_2.length : Int)) = true := decide_eq_true c16
                            clear c16
                            obtain ⟨y115, hy115⟩ : ∃ y_ : List (List Int), y_ = (x5_2.set ((ji14) : Int).toNat ((rd_T62 l0 x6_2).f1)) := ⟨_, rfl⟩
                            replace H : (hayricklaw15_shelf.l1 k2 l0 y115 (wrap64 (x6_2 + 1))) = some r := by first | (rw [hy115]; with_reducible exact H) | (have H2_ := (Option.bind_some _ _).symm.trans H; rw [hy115]; with_reducible exact H2_) | (have H2_ := (Option.bind_some _ _).symm.trans H; with_reducible exact H2_) | with_reducible exact H | (rw [hy115]; exact H) | exact H
                            have Ny115 := Aside0.mk hy115
                            clear hy115
                            have H' := Aside0.mk H
                            clear H
                            have p111 : 0 ≤ (x6_2 : Int) := of_decide_eq_true (by first | (with_reducible assumption) | assumption)
                            have q111 : x6_2 < (l0.length : Int) := of_decide_eq_true (by first | (with_reducible assumption) | assumption)
                            obtain ⟨ad111, A111_1, c111_1, e111, hx111_0, hx111_1, hl111_1, hi111_1⟩ := at_T62 (Kd.V_reads' HO_0.out).2.2 x6_2 p111 q111
                            cases e111
                            obtain ⟨ce111, hce111, hMe111, hcc111⟩ := Kd.V_get HO_0.out z62 x6_2 p111 (by first | exact q111 | exact of_decide_eq_true (by first | (with_reducible assumption) | assumption) | (have e_ := (Kd.V_reads' HO_0.out).1; omega))
                            obtain ⟨ua111_1, uc111_1, rfl, ul111_1, ge111_1⟩ := k62_openF hMe111
                            have hv111_1 := hcc111 1 _ rfl
                            rw [add_field _ _ 1 (by omega)] at hv111_1
                            replace hv111_1 := Option.some.inj (hv111_1.symm.trans hx111_1)
                            injection hv111_1 with hva_ hvn_ hvc_
                            rw [hva_] at ge111_1
                            rw [hvc_] at ul111_1
                            have HL111_1 := Aside0.mk (show Kd.V (Kd.int .u8) 5 _ w.heap.size _ _ ((rd_T62 l0 x6_2).f1) from Kd.V_mk ul111_1 ge111_1)
                            clear hva_ hvn_ hvc_ ge111_1 ul111_1
                            clear hcc111 hce111
                            have HR111_1 := Aside0.mk hi111_1
                            have HC111_1 := Aside0.mk hl111_1
                            clear hi111_1 hl111_1
                            replace p111 := eq_true p111
                            replace q111 := eq_true q111
                            have p112 : 0 ≤ (x6_2 : Int) := of_decide_eq_true (by first | (with_reducible assumption) | assumption)
                            have q112 : x6_2 < (l0.length : Int) := of_decide_eq_true (by first | (with_reducible assumption) | assumption)
                            obtain ⟨ad112, A112_1, c112_1, e112, hx112_0, hx112_1, hl112_1, hi112_1⟩ := at_T62 (Kd.V_reads' HO_0.out).2.2 x6_2 p112 q112
                            obtain rfl : ad111 = ad112 := (by injection e112)
                            obtain ⟨ce112, hce112, hMe112, hcc112⟩ := Kd.V_get HO_0.out z62 x6_2 p112 (by first | exact q112 | exact of_decide_eq_true (by first | (with_reducible assumption) | assumption) | (have e_ := (Kd.V_reads' HO_0.out).1; omega))
                            obtain ⟨ua112_1, uc112_1, rfl, ul112_1, ge112_1⟩ := k62_openF hMe112
                            have hv112_1 := hcc112 1 _ rfl
                            rw [add_field _ _ 1 (by omega)] at hv112_1
                            replace hv112_1 := Option.some.inj (hv112_1.symm.trans hx112_1)
                            injection hv112_1 with hva_ hvn_ hvc_
                            rw [hva_] at ge112_1
                            rw [hvc_] at ul112_1
                            have HL112_1 := Aside0.mk (show Kd.V (Kd.int .u8) 5 _ w.heap.size _ _ ((rd_T62 l0 x6_2).f1) from Kd.V_mk ul112_1 ge112_1)
                            clear hva_ hvn_ hvc_ ge112_1 ul112_1
                            clear hcc112 hce112
                            have HR112_1 := Aside0.mk hi112_1
                            have HC112_1 := Aside0.mk hl112_1
                            clear hi112_1 hl112_1
                            replace p112 := eq_true p112
                            replace q112 := eq_true q112
                            have ea_ := Option.some.inj (hx111_1.symm.trans hx112_1)
                            injection ea_ with ea_ en_ ec_
                            subst ea_
                            subst ec_
                            clear en_
                            try go_wp2
                            have n0_ := Aside0.mk (Kd.V_drew HO_0.out)
                            have n1_ := Aside0.mk (Kd.N_drew HO_5.out)
                            have n2_ := Aside0.mk (Kd.V_drew HL111_1.out)
                            have n3_ := Aside0.mk (Kd.V_drew HL112_1.out)
                            have n4_ := Aside0.mk (Kd.C_drew HR111_1.out)
                            have n5_ := Aside0.mk (Kd.C_drew HR112_1.out)
                            have n6_ := Aside0.mk (below_drew1 HB.out)
                            clear HO_0
                            clear HO_5
                            clear HL111_1
                            clear HL112_1
                            clear HR111_1
                            clear HR112_1
                            clear HB
                            have HO_0 := n0_
                            have HO_5 := n1_
                            have HL111_1 := n2_
                            have HL112_1 := n3_
                            have HR111_1 := n4_
                            have HR112_1 := n5_
                            have HB := n6_
                            clear n0_ n1_ n2_ n3_ n4_ n5_ n6_
                            have p113 : 0 ≤ (x6_2 : Int) := of_decide_eq_true (by first | (with_reducible assumption) | assumption)
                            have q113 : x6_2 < (l0.length : Int) := of_decide_eq_true (by first | (with_reducible assumption) | assumption)
                            obtain ⟨ad113, A113_1, c113_1, e113, hx113_0, hx113_1, hl113_1, hi113_1⟩ := at_T62 (Kd.V_reads' HO_0.out).2.2 x6_2 p113 q113
                            obtain rfl : ad111 = ad113 := (by injection e113)
                            obtain ⟨ce113, hce113, hMe113, hcc113⟩ := Kd.V_get HO_0.out z62 x6_2 p113 (by first | exact q113 | exact of_decide_eq_true (by first | (with_reducible assumption) | assumption) | (have e_ := (Kd.V_reads' HO_0.out).1; omega))
                            obtain ⟨ua113_1, uc113_1, rfl, ul113_1, ge113_1⟩ := k62_openF hMe113
                            have hv113_1 := hcc113 1 _ rfl
                            rw [add_field _ _ 1 (by omega)] at hv113_1
                            replace hv113_1 := Option.some.inj (hv113_1.symm.trans hx113_1)
                            injection hv113_1 with hva_ hvn_ hvc_
                            rw [hva_] at ge113_1
                            rw [hvc_] at ul113_1
                            have HL113_1 := Aside0.mk (show Kd.V (Kd.int .u8) 5 _ w.heap.size _ _ ((rd_T62 l0 x6_2).f1) from Kd.V_mk ul113_1 ge113_1)
                            clear hva_ hvn_ hvc_ ge113_1 ul113_1
                            clear hcc113 hce113
                            have HR113_1 := Aside0.mk hi113_1
                            have HC113_1 := Aside0.mk hl113_1
                            clear hi113_1 hl113_1
                            replace p113 := eq_true p113
                            replace q113 := eq_true q113
                            have p114 : 0 ≤ (x6_2 : Int) := of_decide_eq_true (by first | (with_reducible assumption) | assumption)
                            have q114 : x6_2 < (l0.length : Int) := of_decide_eq_true (by first | (with_reducible assumption) | assumption)
                            obtain ⟨ad114, A114_1, c114_1, e114, hx114_0, hx114_1, hl114_1, hi114_1⟩ := at_T62 (Kd.V_reads' HO_0.out).2.2 x6_2 p114 q114
                            obtain rfl : ad111 = ad114 := (by injection e114)
                            obtain ⟨ce114, hce114, hMe114, hcc114⟩ := Kd.V_get HO_0.out z62 x6_2 p114 (by first | exact q114 | exact of_decide_eq_true (by first | (with_reducible assumption) | assumption) | (have e_ := (Kd.V_reads' HO_0.out).1; omega))
                            obtain ⟨ua114_1, uc114_1, rfl, ul114_1, ge114_1⟩ := k62_openF hMe114
                            have hv114_1 := hcc114 1 _ rfl
                            rw [add_field _ _ 1 (by omega)] at hv114_1
                            replace hv114_1 := Option.some.inj (hv114_1.symm.trans hx114_1)
                            injection hv114_1 with hva_ hvn_ hvc_
                            rw [hva_] at ge114_1
                            rw [hvc_] at ul114_1
                            have HL114_1 := Aside0.mk (show Kd.V (Kd.int .u8) 5 _ w.heap.size _ _ ((rd_T62 l0 x6_2).f1) from Kd.V_mk ul114_1 ge114_1)
                            clear hva_ hvn_ hvc_ ge114_1 ul114_1
                            clear hcc114 hce114
                            have HR114_1 := Aside0.mk hi114_1
                            have HC114_1 := Aside0.mk hl114_1
                            clear hi114_1 hl114_1
                            replace p114 := eq_true p114
                            replace q114 := eq_true q114
                            have ea_ := Option.some.inj (hx113_1.symm.trans hx114_1)
                            injection ea_ with ea_ en_ ec_
                            subst ea_
                            subst ec_
                            clear en_
                            have p17 : 0 ≤ ((ji14) : Int) := of_decide_eq_true (by first | (with_reducible assumption) | assumption)
                            have q17 : ((ji14) : Int) < ((x5_2.length : Int) : Int) := of_decide_eq_true (by first | (with_reducible assumption) | assumption)
                            obtain ⟨go17, co17, eo17, gb17, gl17, cl17, HG17⟩ := Kd.N_form HO_5.out (by omega)
                            (first | cases eo17 | (injection eo17 with ea_ en_ ec_; (first | subst ea_ | (injection ea_ with ea_; subst ea_)); subst ec_; clear en_))
                            have GB17 := Aside0.mk gb17
                            have GG17 := Aside0.mk HG17
                            clear gb17 gl17 HG17
                            obtain ⟨ce17, hcl17, hM17, hcc17, hfr17⟩ := Kd.N_elem HO_5.out [] ((ji14) : Int) p17 q17
                            obtain ⟨ua17_0, uc17_0, rfl, ul17_0, ge17_0⟩ := Kd.FK_slice_open hM17
                            have hx17_0 := hcc17 0 _ rfl
                            have hf17_0 := hfr17 0
                            (try simp only [show ((Kd.slice 5 (Kd.int .u8))).sz = 1 from rfl, Nat.mul_one, Nat.add_zero] at hx17_0)
                            (try simp only [show ((Kd.slice 5 (Kd.int .u8))).sz = 1 from rfl, Nat.mul_one, Nat.add_zero] at hf17_0)
                            clear hcl17 hcc17 hfr17 hM17
                            replace p17 := eq_true p17
                            replace q17 := eq_true q17
                            have HX19 := Aside0.mk (show Kd.N (Kd.slice 5 (Kd.int .u8)) 58 _ w.heap.size (fun k_ => (P0_ k_ ∨ w.heap.size ≤ k_)) (.slice (some ⟨go17, 0, none⟩) x5_2.length co17) x5_2 from (Kd.N_mono (HO_5.out) (fun k_ hk => hk)))
                            obtain ⟨ce19, hcl19, hM19, hcc19, hfr19⟩ := Kd.N_elem HX19.out [] ((ji14) : Int) (of_decide_eq_true (by first | (with_reducible assumption) | assumption)) (by have h_ : ((ji14) : Int) < ((x5_2.length : Int) : Int) := of_decide_eq_true (by first | (with_reducible assumption) | assumption); first | exact h_ | (have e_ := (Kd.N_reads' HO_5.out).1; omega) | simpa using h_)
                            obtain ⟨ua19_0, uc19_0, rfl, ul19_0, ge19_0⟩ := Kd.FK_slice_open hM19
                            have HP19 := (Kd.N_seg HX19.out ((ji14) : Int) (of_decide_eq_true (by first | (with_reducible assumption) | assumption)) (by have h_ : ((ji14) : Int) < ((x5_2.length : Int) : Int) := of_decide_eq_true (by first | (with_reducible assumption) | assumption); first | exact h_ | (have e_ := (Kd.N_reads' HO_5.out).1; omega) | simpa using h_) (seg := [.slice A113_1 ((rd_T62 l0 x6_2).f1).length c113_1]) (j := 0) hcl19 hcc19 (show 1 ≤ 1 from by decide) (x' := (rd_T62 l0 x6_2).f1) (Kd.FK_slice_mk (Kd.V_reads' (Kd.V_mono (ok' := (fun k_ => ((fun k_ => (P0_ k_ ∨ w.heap.size ≤ k_))) k_ ∧ k_ ≠ go17)) (HL114_1.out) (fun k_ hk => ⟨hk.1, fun e_ => (hk.2) (by rw [e_]; rfl)⟩))).2.1 (Kd.V_F (Kd.V_mono (ok' := (fun k_ => ((fun k_ => (P0_ k_ ∨ w.heap.size ≤ k_))) k_ ∧ k_ ≠ go17)) (HL114_1.out) (fun k_ hk => ⟨hk.1, fun e_ => (hk.2) (by rw [e_]; rfl)⟩)))) (fun _ hk => hk)).1
                            (try simp only [show ((Kd.slice 5 (Kd.int .u8))).sz = 1 from rfl, Nat.mul_one, Nat.add_zero] at HP19)
                            rw [← Ny115.out] at HP19
                            have HQ19 := Aside0.mk HP19
                            clear hcl19 hcc19 hfr19 hM19 HP19
                            refine start_ (n := 14) (S := fun w' => w'.cell? (ad111.add ((x6_2).toNat * 2)) = some (.int .u32 ((rd_T62 l0 x6_2).f0)) ∧ w'.cell? ⟨(ad111.add ((x6_2).toNat * 2)).block, (ad111.add ((x6_2).toNat * 2)).off + 1, none⟩ = some (.slice A113_1 ((rd_T62 l0 x6_2).f1).length c113_1) ∧ w'.cell? (ad111.add ((x6_2).toNat * 2)) = some (.int .u32 ((rd_T62 l0 x6_2).f0)) ∧ w'.cell? ⟨(ad111.add ((x6_2).toNat * 2)).block, (ad111.add ((x6_2).toNat * 2)).off + 1, none⟩ = some (.slice A113_1 ((rd_T62 l0 x6_2).f1).length c113_1)) (ds := [13]) #[false, false, false, false, false, false, false, false, false, false, false, false, false, false] (by kernel_rfl) rfl rfl ⟨hx113_0, hx113_1, hx114_0, hx114_1⟩ (fun hHeld => ?_); refine with_tabW hayricklaw15_shelf.tab12 hayricklaw15_shelf.bits12 (fun HT_ HW_ => ?_)
                            generalize wr.drew = w18 at HO_0 HO_5 HL111_1 HL112_1 HR111_1 HR112_1 HB GG17 HL113_1 HL114_1 HQ19 HR113_1 HR114_1 hf17_0 hx113_0 hx113_1 hx114_0 hx114_1 hx17_0 hHeld ⊢
                            refine pure_ (i := 0) (N := some 49) (v := ?_) (a' := ?_) #[true, false, false, false, false, false, false, false, false, false, false, false, false, false] rfl rfl (any_of HT_.out (by kernel_rfl)) (fun _ _ _ h => h) (Or.inl ⟨by rfl, ?_⟩) ?_ ?_
                            rotate_left
                            · intro w'
                              go_simp
                              with_reducible rfl
                            rotate_left
                            · simp only [Act.put, List.setIfInBounds_toArray, List.set_cons_zero, List.set_cons_succ, i64_w, i32_w, IntKind.wrap_u32]
                              rfl
                            refine pure_ (i := 1) (N := some 50) (v := ?_) (a' := ?_) #[true, true, false, false, false, false, false, false, false, false, false, false, false, false] rfl rfl (any_of HT_.out (by kernel_rfl)) (fun _ _ _ h => h) (Or.inl ⟨by rfl, ?_⟩) ?_ ?_
                            rotate_left
                            · intro w'
                              go_simp
                              with_reducible rfl
                            rotate_left
                            · simp only [Act.put, List.setIfInBounds_toArray, List.set_cons_zero, List.set_cons_succ, i64_w, i32_w, IntKind.wrap_u32]
                              rfl
                            refine pure_ (i := 2) (N := some 51) (v := ?_) (a' := ?_) #[true, true, true, false, false, false, false, false, false, false, false, false, false, false] rfl rfl (any_of HT_.out (by kernel_rfl)) (fun _ _ _ h => h) (Or.inl ⟨by rfl, ?_⟩) ?_ ?_
                            rotate_left
                            · intro w'
                              go_simp
                              with_reducible rfl
                            rotate_left
                            · simp only [Act.put, List.setIfInBounds_toArray, List.set_cons_zero, List.set_cons_succ, i64_w, i32_w, IntKind.wrap_u32]
                              rfl
                            refine pure_ (i := 3) (N := some 52) (v := ?_) (a' := ?_) #[true, true, true, true, false, false, false, false, false, false, false, false, false, false] rfl rfl (any_of HT_.out (by kernel_rfl)) (fun _ _ _ h => h) (Or.inl ⟨by rfl, ?_⟩) ?_ ?_
                            rotate_left
                            · intro w'
                              go_simp
                              with_reducible rfl
                            rotate_left
                            · simp only [Act.put, List.setIfInBounds_toArray, List.set_cons_zero, List.set_cons_succ, i64_w, i32_w, IntKind.wrap_u32]
                              rfl
                            refine pure_ (i := 4) (N := some 53) (v := ?_) (a' := ?_) #[true, true, true, true, true, false, false, false, false, false, false, false, false, false] rfl rfl (any_of HT_.out (by kernel_rfl)) (fun _ _ _ h => h) (Or.inl ⟨by rfl, ?_⟩) ?_ ?_
                            rotate_left
                            · intro w'
                              go_simp
                              with_reducible rfl
                            rotate_left
                            · simp only [Act.put, List.setIfInBounds_toArray, List.set_cons_zero, List.set_cons_succ, i64_w, i32_w, IntKind.wrap_u32]
                              rfl
                            refine pure_ (i := 7) (N := some 56) (v := ?_) (a' := ?_) #[true, true, true, true, true, false, false, true, false, false, false, false, false, false] rfl rfl (any_of HT_.out (by kernel_rfl)) (fun _ _ _ h => h) (Or.inl ⟨by rfl, ?_⟩) ?_ ?_
                            rotate_left
                            · intro w'
                              go_simp
                              with_reducible rfl
                            rotate_left
                            · simp only [Act.put, List.setIfInBounds_toArray, List.set_cons_zero, List.set_cons_succ, i64_w, i32_w, IntKind.wrap_u32]
                              rfl
                            refine pure_ (i := 8) (N := some 57) (v := ?_) (a' := ?_) #[true, true, true, true, true, false, false, true, true, false, false, false, false, false] rfl rfl (any_of HT_.out (by kernel_rfl)) (fun _ _ _ h => h) (Or.inl ⟨by rfl, ?_⟩) ?_ ?_
                            rotate_left
                            · intro w'
                              go_simp
                              with_reducible rfl
                            rotate_left
                            · simp only [Act.put, List.setIfInBounds_toArray, List.set_cons_zero, List.set_cons_succ, i64_w, i32_w, IntKind.wrap_u32]
                              rfl
                            refine pure_ (i := 9) (N := some 58) (v := ?_) (a' := ?_) #[true, true, true, true, true, false, false, true, true, true, false, false, false, false] rfl rfl (any_of HT_.out (by kernel_rfl)) (fun _ _ _ h => h) (Or.inl ⟨by rfl, ?_⟩) ?_ ?_
                            rotate_left
                            · intro w'
                              go_simp
                              with_reducible rfl
                            rotate_left
                            · simp only [Act.put, List.setIfInBounds_toArray, List.set_cons_zero, List.set_cons_succ, i64_w, i32_w, IntKind.wrap_u32]
                              rfl
                            refine pure_ (i := 10) (N := some 59) (v := ?_) (a' := ?_) #[true, true, true, true, true, false, false, true, true, true, true, false, false, false] rfl rfl (any_of HT_.out (by kernel_rfl)) (fun _ _ _ h => h) (Or.inl ⟨by rfl, ?_⟩) ?_ ?_
                            rotate_left
                            · intro w'
                              go_simp
                              with_reducible rfl
                            rotate_left
                            · simp only [Act.put, List.setIfInBounds_toArray, List.set_cons_zero, List.set_cons_succ, i64_w, i32_w, IntKind.wrap_u32]
                              rfl
                            refine take_ (i := 5) (N := some 54) (v := ?_) (a' := ?_) #[true, true, true, true, true, true, false, true, true, true, true, false, false, false] rfl rfl (take_ofW HT_.out HW_.out (by kernel_rfl)) (fun _ _ _ h => h) (Or.inl ⟨by rfl, ?_⟩) hHeld ?_ ?_
                            rotate_left
                            · rintro w' ⟨s0, s1, s2, s3⟩
                              go_simp
                              with_reducible rfl
                            rotate_left
                            · simp only [Act.put, List.setIfInBounds_toArray, List.set_cons_zero, List.set_cons_succ, i64_w, i32_w, IntKind.wrap_u32]
                              rfl
                            refine pure_ (i := 6) (N := some 55) (v := ?_) (a' := ?_) #[true, true, true, true, true, true, true, true, true, true, true, false, false, false] rfl rfl (any_of HT_.out (by kernel_rfl)) (fun _ _ _ h => h) (Or.inl ⟨by rfl, ?_⟩) ?_ ?_
                            rotate_left
                            · intro w'
                              go_simp
                              with_reducible rfl
                            rotate_left
                            · simp only [Act.put, List.setIfInBounds_toArray, List.set_cons_zero, List.set_cons_succ, i64_w, i32_w, IntKind.wrap_u32]
                              rfl
                            refine take_ (i := 11) (N := some 60) (v := ?_) (a' := ?_) #[true, true, true, true, true, true, true, true, true, true, true, true, false, false] rfl rfl (take_ofW HT_.out HW_.out (by kernel_rfl)) (fun _ _ _ h => h) (Or.inl ⟨by rfl, ?_⟩) hHeld ?_ ?_
                            rotate_left
                            · rintro w' ⟨s0, s1, s2, s3⟩
                              go_simp
                              with_reducible rfl
                            rotate_left
                            · simp only [Act.put, List.setIfInBounds_toArray, List.set_cons_zero, List.set_cons_succ, i64_w, i32_w, IntKind.wrap_u32]
                              rfl
                            refine pure_ (i := 12) (N := some 61) (v := ?_) (a' := ?_) #[true, true, true, true, true, true, true, true, true, true, true, true, true, false] rfl rfl (any_of HT_.out (by kernel_rfl)) (fun _ _ _ h => h) (Or.inl ⟨by rfl, ?_⟩) ?_ ?_
                            rotate_left
                            · intro w'
                              go_simp
                              with_reducible rfl
                            rotate_left
                            · simp only [Act.put, List.setIfInBounds_toArray, List.set_cons_zero, List.set_cons_succ, i64_w, i32_w, IntKind.wrap_u32]
                              rfl
                            refine last_ (i := 13) (N := none) #[true, true, true, true, true, true, true, true, true, true, true, true, true, true] rfl rfl (one_of HT_.out (by kernel_rfl)) (by decide) (fun K hK => ?_)
                            refine skip_ (w1 := ?_) (by rfl) rfl ?_ ?_
                            rotate_left
                            · go_simp
                              rfl
                            refine hK.out _ _ ?_
                            clear hK K
                            refine done_ (done_of HT_.out (by kernel_rfl)) ?_
                            try go_wp2
                            go_roundg k2
                            case measure => have := HK1.out; have := HK2.out; omega
                            case rel => exact ⟨(y115), (wrap64 (x6_2 + 1)), (by first | rfl | (simp; done) | (simp [*]; done)), H', ⟨by have := HK1.out; have := HK2.out; omega⟩, ⟨by (with_reducible repeat (first | apply Kd.V_alloc | apply Kd.V_drewN | apply Kd.V_drew)); exact Kd.V_mono (Kd.V_far (p := ⟨go17, ((ji14) : Int).toNat, none⟩) (Kd.V_mono HO_0.out (fun k_ hk => (⟨hk, fun e_ => hk.2 (by rw [e_]; rfl)⟩ : _ ∧ k_ ≠ go17))) (fun _ hk => hk.2) (.slice A113_1 ((rd_T62 l0 x6_2).f1).length c113_1)) (fun _ hk => ⟨hk.1.1, hk.1.2⟩)⟩, ⟨by (with_reducible repeat (first | apply Kd.N_alloc | apply Kd.N_drewN | apply Kd.N_drew)); exact HQ19.out⟩, ⟨by repeat (first | (with_reducible first | exact HB.out | apply below_alloc | apply pw_below_drewN | apply below_drew1 | refine below_set ?_ GB17.out) | exact HB.out)⟩⟩
                          · rw [if_neg c16] at H
                            exact absurd H (by simp)
                        · rw [if_neg c15] at H
                          exact absurd H (by simp)
                      · rw [if_neg c13] at H
                        have c13b0 : decide (((rd_T62 l0 x6_2).f0) ≤ 200000) = false := decide_eq_false c13
                        clear c13
                        have H' := Aside0.mk H
                        clear H
                        have p111 : 0 ≤ (x6_2 : Int) := of_decide_eq_true (by first | (with_reducible assumption) | assumption)
                        have q111 : x6_2 < (l0.length : Int) := of_decide_eq_true (by first | (with_reducible assumption) | assumption)
                        obtain ⟨ad111, A111_1, c111_1, e111, hx111_0, hx111_1, hl111_1, hi111_1⟩ := at_T62 (Kd.V_reads' HO_0.out).2.2 x6_2 p111 q111
                        cases e111
                        obtain ⟨ce111, hce111, hMe111, hcc111⟩ := Kd.V_get HO_0.out z62 x6_2 p111 (by first | exact q111 | exact of_decide_eq_true (by first | (with_reducible assumption) | assumption) | (have e_ := (Kd.V_reads' HO_0.out).1; omega))
                        obtain ⟨ua111_1, uc111_1, rfl, ul111_1, ge111_1⟩ := k62_openF hMe111
                        have hv111_1 := hcc111 1 _ rfl
                        rw [add_field _ _ 1 (by omega)] at hv111_1
                        replace hv111_1 := Option.some.inj (hv111_1.symm.trans hx111_1)
                        injection hv111_1 with hva_ hvn_ hvc_
                        rw [hva_] at ge111_1
                        rw [hvc_] at ul111_1
                        have HL111_1 := Aside0.mk (show Kd.V (Kd.int .u8) 5 _ w.heap.size _ _ ((rd_T62 l0 x6_2).f1) from Kd.V_mk ul111_1 ge111_1)
                        clear hva_ hvn_ hvc_ ge111_1 ul111_1
                        clear hcc111 hce111
                        have HR111_1 := Aside0.mk hi111_1
                        have HC111_1 := Aside0.mk hl111_1
                        clear hi111_1 hl111_1
                        replace p111 := eq_true p111
                        replace q111 := eq_true q111
                        have p112 : 0 ≤ (x6_2 : Int) := of_decide_eq_true (by first | (with_reducible assumption) | assumption)
                        have q112 : x6_2 < (l0.length : Int) := of_decide_eq_true (by first | (with_reducible assumption) | assumption)
                        obtain ⟨ad112, A112_1, c112_1, e112, hx112_0, hx112_1, hl112_1, hi112_1⟩ := at_T62 (Kd.V_reads' HO_0.out).2.2 x6_2 p112 q112
                        obtain rfl : ad111 = ad112 := (by injection e112)
                        obtain ⟨ce112, hce112, hMe112, hcc112⟩ := Kd.V_get HO_0.out z62 x6_2 p112 (by first | exact q112 | exact of_decide_eq_true (by first | (with_reducible assumption) | assumption) | (have e_ := (Kd.V_reads' HO_0.out).1; omega))
                        obtain ⟨ua112_1, uc112_1, rfl, ul112_1, ge112_1⟩ := k62_openF hMe112
                        have hv112_1 := hcc112 1 _ rfl
                        rw [add_field _ _ 1 (by omega)] at hv112_1
                        replace hv112_1 := Option.some.inj (hv112_1.symm.trans hx112_1)
                        injection hv112_1 with hva_ hvn_ hvc_
                        rw [hva_] at ge112_1
                        rw [hvc_] at ul112_1
                        have HL112_1 := Aside0.mk (show Kd.V (Kd.int .u8) 5 _ w.heap.size _ _ ((rd_T62 l0 x6_2).f1) from Kd.V_mk ul112_1 ge112_1)
                        clear hva_ hvn_ hvc_ ge112_1 ul112_1
                        clear hcc112 hce112
                        have HR112_1 := Aside0.mk hi112_1
                        have HC112_1 := Aside0.mk hl112_1
                        clear hi112_1 hl112_1
                        replace p112 := eq_true p112
                        replace q112 := eq_true q112
                        have ea_ := Option.some.inj (hx111_1.symm.trans hx112_1)
                        injection ea_ with ea_ en_ ec_
                        subst ea_
                        subst ec_
                        clear en_
                        go_wp2
                        go_roundg k2
                        case measure => have := HK1.out; have := HK2.out; omega
                        case rel => exact ⟨(x5_2), (wrap64 (x6_2 + 1)), (by first | rfl | (simp; done) | (simp [*]; done)), H', ⟨by have := HK1.out; have := HK2.out; omega⟩, ⟨by (with_reducible repeat (first | apply Kd.V_alloc | apply Kd.V_drewN | apply Kd.V_drew)); exact HO_0.out⟩, ⟨by (with_reducible repeat (first | apply Kd.N_alloc | apply Kd.N_drewN | apply Kd.N_drew)); exact HO_5.out⟩, ⟨by repeat (first | (with_reducible first | exact HB.out | apply below_alloc | apply pw_below_drewN | apply below_drew1) | exact HB.out)⟩⟩
                    · rw [if_neg c12] at H
                      have c12b0 : decide (1 ≤ ((rd_T62 l0 x6_2).f0)) = false := decide_eq_false c12
                      clear c12
                      have H' := Aside0.mk H
                      clear H
                      have p111 : 0 ≤ (x6_2 : Int) := of_decide_eq_true (by first | (with_reducible assumption) | assumption)
                      have q111 : x6_2 < (l0.length : Int) := of_decide_eq_true (by first | (with_reducible assumption) | assumption)
                      obtain ⟨ad111, A111_1, c111_1, e111, hx111_0, hx111_1, hl111_1, hi111_1⟩ := at_T62 (Kd.V_reads' HO_0.out).2.2 x6_2 p111 q111
                      cases e111
                      obtain ⟨ce111, hce111, hMe111, hcc111⟩ := Kd.V_get HO_0.out z62 x6_2 p111 (by first | exact q111 | exact of_decide_eq_true (by first | (with_reducible assumption) | assumption) | (have e_ := (Kd.V_reads' HO_0.out).1; omega))
                      obtain ⟨ua111_1, uc111_1, rfl, ul111_1, ge111_1⟩ := k62_openF hMe111
                      have hv111_1 := hcc111 1 _ rfl
                      rw [add_field _ _ 1 (by omega)] at hv111_1
                      replace hv111_1 := Option.some.inj (hv111_1.symm.trans hx111_1)
                      injection hv111_1 with hva_ hvn_ hvc_
                      rw [hva_] at ge111_1
                      rw [hvc_] at ul111_1
                      have HL111_1 := Aside0.mk (show Kd.V (Kd.int .u8) 5 _ w.heap.size _ _ ((rd_T62 l0 x6_2).f1) from Kd.V_mk ul111_1 ge111_1)
                      clear hva_ hvn_ hvc_ ge111_1 ul111_1
                      clear hcc111 hce111
                      have HR111_1 := Aside0.mk hi111_1
                      have HC111_1 := Aside0.mk hl111_1
                      clear hi111_1 hl111_1
                      replace p111 := eq_true p111
                      replace q111 := eq_true q111
                      go_wp2
                      go_roundg k2
                      case measure => have := HK1.out; have := HK2.out; omega
                      case rel => exact ⟨(x5_2), (wrap64 (x6_2 + 1)), (by first | rfl | (simp; done) | (simp [*]; done)), H', ⟨by have := HK1.out; have := HK2.out; omega⟩, ⟨by (with_reducible repeat (first | apply Kd.V_alloc | apply Kd.V_drewN | apply Kd.V_drew)); exact HO_0.out⟩, ⟨by (with_reducible repeat (first | apply Kd.N_alloc | apply Kd.N_drewN | apply Kd.N_drew)); exact HO_5.out⟩, ⟨by repeat (first | (with_reducible first | exact HB.out | apply below_alloc | apply pw_below_drewN | apply below_drew1) | exact HB.out)⟩⟩
                  · rw [if_neg c11] at H
                    exact absurd H (by simp)
                · rw [if_neg c10] at H
                  have c10b0 : decide (x6_2 < (l0.length : Int)) = false := decide_eq_false c10
                  clear c10
                  obtain rfl := Option.some.inj H
                  go_wp2
                  go_ret
                  exact ⟨_, by first | rfl | (simp [errW_none, errW_some] <;> rfl) | (simp [*, errW_none, errW_some] <;> rfl), by (with_reducible repeat (first | apply Kd.N_alloc | apply Kd.N_drewN | apply Kd.N_drew)); exact HO_5.out, by repeat (first | (with_reducible first | exact HB.out | apply below_alloc | apply pw_below_drewN | apply below_drew1) | exact HB.out)⟩
          · rw [if_neg c7] at H
            exact absurd H (by simp)
        · rw [if_neg c6] at H
          exact absurd H (by simp)


end Go.Proofs.Ytgiapegacbibeaa.PUsageLives
