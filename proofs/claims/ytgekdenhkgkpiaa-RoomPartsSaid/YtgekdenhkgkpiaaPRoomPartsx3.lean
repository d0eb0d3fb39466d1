-- PRINTED BY print.sh 35421559b90ae4d0a3588c463048766b98c2df88dd9212a6774a882060cdf62d: not written by this session
import Derived.Test.YtgekdenhkgkpiaaPRoomPartsx0
import Derived.Test.YtgekdenhkgkpiaaPRoomPartsx1
import Derived.Test.YtgekdenhkgkpiaaPRoomPartsx2
namespace Go.Proofs.Ytgekdenhkgkpiaa.PRoomParts
open Go.RowKit Go.Proofs.YtgekdenhkgkpiaaW.PrintWords Go.Proofs.YtgekdenhkgkpiaaW.PrintLast Go.Proofs.YtgekdenhkgkpiaaW.PrintMore
attribute [local go_sem] max2_int min2_int max_two min_two max_three min_three max_four min_four   -- for this text's walks alone
set_option linter.unusedVariables false
set_option linter.unusedSimpArgs false

/-! ### hayricklaw21_RoomParts: function 4 -/
mutual
def hayricklaw21_RoomParts.j0 : Nat → Int → Int → Int → Int → Int → Bool → Option (Bool)
  | 0, _, _, _, _, _, _ => none
  | k + 1, x0, x1, x5, x6, x7, x20 => if x20 = true then (if x5 = 0 then (if x6 = 0 then (if x7 = 0 then ((hayricklaw21_wakes.f k).bind fun t143 => (some t143)) else (some false)) else (some false)) else (some false)) else (if (wrap64 (x5 + x6)) = (wrap64 (4 * x0)) then (if (wrap64 (15 * x5)) < (wrap64 (4 * x0)) then (hayricklaw21_RoomParts.j1 k x1 x6 x7 true) else (if (wrap64 (15 * (wrap64 (x5 - 1)))) ≥ (wrap64 (4 * x0)) then (hayricklaw21_RoomParts.j1 k x1 x6 x7 true) else (hayricklaw21_RoomParts.j1 k x1 x6 x7 (decide (x6 < 1))))) else (hayricklaw21_RoomParts.j1 k x1 x6 x7 true))
def hayricklaw21_RoomParts.j1 : Nat → Int → Int → Int → Bool → Option (Bool)
  | 0, _, _, _, _ => none
  | k + 1, x1, x6, x7, x58 => if x58 = true then (some false) else (if x1 < 1 then (if x7 = 0 then ((hayricklaw21_wakes.f k).bind fun t144 => (some t144)) else (some false)) else (if x7 ≥ 1 then (if (wrap64 ((wrap64 (x7 - 1)) * x6)) < x1 then (if (wrap64 (x1 - (wrap64 ((wrap64 (x7 - 1)) * x6)))) ≤ x6 then ((hayricklaw21_wakes.f k).bind fun t145 => (some t145)) else (some false)) else (some false)) else (some false)))
end
def hayricklaw21_RoomParts.f (k : Nat) (a0 : Int) (a1 : Int) : Option (Bool) := (room_Sum.f a0).bind fun t140 => ((room_Cap.f a0).bind fun t141 => ((room_Segs.f a0 a1).bind fun t142 => (if a0 < 1 then (hayricklaw21_RoomParts.j0 k a0 a1 t140 t141 t142 true) else (hayricklaw21_RoomParts.j0 k a0 a1 t140 t141 t142 (decide (a0 > 255))))))
theorem hayricklaw21_RoomParts.mono_l : ∀ k, (∀ y0 y1 y2 y3 y4 y5, LeO (hayricklaw21_RoomParts.j0 k y0 y1 y2 y3 y4 y5) (hayricklaw21_RoomParts.j0 (k + 1) y0 y1 y2 y3 y4 y5)) ∧ (∀ y0 y1 y2 y3, LeO (hayricklaw21_RoomParts.j1 k y0 y1 y2 y3) (hayricklaw21_RoomParts.j1 (k + 1) y0 y1 y2 y3))
  | 0 => ⟨fun _ _ _ _ _ _ r h => by simp [hayricklaw21_RoomParts.j0] at h, fun _ _ _ _ r h => by simp [hayricklaw21_RoomParts.j1] at h⟩
  | k + 1 => by
    obtain ⟨ih0, ih1⟩ := hayricklaw21_RoomParts.mono_l k
    refine ⟨?_, ?_⟩
    · intro y0 y1 y2 y3 y4 y5
      unfold hayricklaw21_RoomParts.j0
      repeat' first
      | (with_reducible exact ih0 _ _ _ _ _ _)
      | (with_reducible exact ih1 _ _ _ _)
      | (with_reducible exact hayricklaw21_wakes.mono _)
      | (with_reducible exact LeO.refl _)
      | (with_reducible exact LeO.none _)
      | (with_reducible refine LeO.ite ?_ ?_)
      | (with_reducible refine LeO.bind ?_ (fun _ => ?_))
      | exact ih0 _ _ _ _ _ _
      | exact ih1 _ _ _ _
      | exact hayricklaw21_wakes.mono _
      | exact LeO.none _
      | refine LeO.ite ?_ ?_
      | refine LeO.bind ?_ (fun _ => ?_)
    · intro y0 y1 y2 y3
      unfold hayricklaw21_RoomParts.j1
      repeat' first
      | (with_reducible exact ih0 _ _ _ _ _ _)
      | (with_reducible exact ih1 _ _ _ _)
      | (with_reducible exact hayricklaw21_wakes.mono _)
      | (with_reducible exact LeO.refl _)
      | (with_reducible exact LeO.none _)
      | (with_reducible refine LeO.ite ?_ ?_)
      | (with_reducible refine LeO.bind ?_ (fun _ => ?_))
      | exact ih0 _ _ _ _ _ _
      | exact ih1 _ _ _ _
      | exact hayricklaw21_wakes.mono _
      | exact LeO.none _
      | refine LeO.ite ?_ ?_
      | refine LeO.bind ?_ (fun _ => ?_)
theorem hayricklaw21_RoomParts.mono : ∀ a0 a1 k, LeO (hayricklaw21_RoomParts.f k a0 a1) (hayricklaw21_RoomParts.f (k + 1) a0 a1) := by
  intro a0 a1 k
  obtain ⟨ih0, ih1⟩ := hayricklaw21_RoomParts.mono_l k
  unfold hayricklaw21_RoomParts.f
  repeat' first
      | (with_reducible exact ih0 _ _ _ _ _ _)
      | (with_reducible exact ih1 _ _ _ _)
      | (with_reducible exact hayricklaw21_wakes.mono _)
      | (with_reducible exact LeO.refl _)
      | (with_reducible exact LeO.none _)
      | (with_reducible refine LeO.ite ?_ ?_)
      | (with_reducible refine LeO.bind ?_ (fun _ => ?_))
      | exact ih0 _ _ _ _ _ _
      | exact ih1 _ _ _ _
      | exact hayricklaw21_wakes.mono _
      | exact LeO.none _
      | refine LeO.ite ?_ ?_
      | refine LeO.bind ?_ (fun _ => ?_)
set_option maxHeartbeats 8000000 in
set_option maxRecDepth 100000 in
theorem hayricklaw21_RoomParts.calls (k : Nat) (a0 : Int) (a1 : Int) (r : Bool) (w : World) (h : hayricklaw21_RoomParts.f k a0 a1 = some r) :
    Calls Try.prog 4 #[.int .i64 a0, .int .i64 a1] w fun e w' => e = .returned (.bool r) ∧ Below w.heap.size w w' := by
  have HB := Aside0.mk (Below.refl w.heap.size w)
  have H : ((room_Sum.f a0).bind fun t140 => ((room_Cap.f a0).bind fun t141 => ((room_Segs.f a0 a1).bind fun t142 => (if a0 < 1 then (hayricklaw21_RoomParts.j0 k a0 a1 t140 t141 t142 true) else (hayricklaw21_RoomParts.j0 k a0 a1 t140 t141 t142 (decide (a0 > 255))))))) = some r := h
  clear h
  replace H := Option.bind_eq_some_iff.mp H
  obtain ⟨t140, A30, H⟩ := H
  replace H : ((room_Cap.f a0).bind fun t141 => ((room_Segs.f a0 a1).bind fun t142 => (if a0 < 1 then (hayricklaw21_RoomParts.j0 k a0 a1 t140 t141 t142 true) else (hayricklaw21_RoomParts.j0 k a0 a1 t140 t141 t142 (decide (a0 > 255)))))) = some r := H
  have A3 := Aside0.mk A30
  clear A30
  replace H := Option.bind_eq_some_iff.mp H
  obtain ⟨t141, A40, H⟩ := H
  replace H : ((room_Segs.f a0 a1).bind fun t142 => (if a0 < 1 then (hayricklaw21_RoomParts.j0 k a0 a1 t140 t141 t142 true) else (hayricklaw21_RoomParts.j0 k a0 a1 t140 t141 t142 (decide (a0 > 255))))) = some r := H
  have A4 := Aside0.mk A40
  clear A40
  replace H := Option.bind_eq_some_iff.mp H
  obtain ⟨t142, A50, H⟩ := H
  replace H : (if a0 < 1 then (hayricklaw21_RoomParts.j0 k a0 a1 t140 t141 t142 true) else (hayricklaw21_RoomParts.j0 k a0 a1 t140 t141 t142 (decide (a0 > 255)))) = some r := H
  have A5 := Aside0.mk A50
  clear A50
  have HC6 := Aside0.mk H
  clear H
  go_enter Try.func4, Try.ntmps4
  go_upto_region 3 with (first | ((with_reducible refine gate_callee (f := 9) rfl ?_); refine goesL_ (some 9) rfl rfl Try.func9 (by kernel_rfl) rfl #[.int .i64 a0] rfl (by (try simp only [List.map_toArray, List.map_cons, List.map_nil]); first | done | rfl | (simp only [List.length_drop, List.length_take]; rfl)) ?_; (with_reducible refine (room_Sum.calls a0 t140 _ A3.out).mono ?_); rintro e w' ⟨rfl, ⟨nd, rfl⟩⟩; refine ⟨_, rfl, ?_⟩) | ((with_reducible refine gate_callee (f := 11) rfl ?_); refine goesL_ (some 11) rfl rfl Try.func11 (by kernel_rfl) rfl #[.int .i64 a0] rfl (by (try simp only [List.map_toArray, List.map_cons, List.map_nil]); first | done | rfl | (simp only [List.length_drop, List.length_take]; rfl)) ?_; (with_reducible refine (room_Cap.calls a0 t141 _ A4.out).mono ?_); rintro e w' ⟨rfl, ⟨nd, rfl⟩⟩; refine ⟨_, rfl, ?_⟩) | ((with_reducible refine gate_callee (f := 13) rfl ?_); refine goesL_ (some 14) rfl rfl Try.func13 (by kernel_rfl) rfl #[.int .i64 a0, .int .i64 a1] rfl (by (try simp only [List.map_toArray, List.map_cons, List.map_nil]); first | done | rfl | (simp only [List.length_drop, List.length_take]; rfl)) ?_; (with_reducible refine (room_Segs.calls a0 a1 t142 _ A5.out).mono ?_); rintro e w' ⟨rfl, ⟨nd, rfl⟩⟩; refine ⟨_, rfl, ?_⟩))
  (try simp only [Act.put, List.setIfInBounds_toArray, List.set_cons_zero, List.set_cons_succ])
  go_cut [20] (fun v20 wc => ∃ (kq : Nat) (x20_5 : Bool), v20 = .bool x20_5 ∧ Aside0 (hayricklaw21_RoomParts.j0 kq a0 a1 t140 t141 t142 x20_5 = some r) ∧ Aside0 (kq ≤ k) ∧ Aside0 (Below w.heap.size w wc))
  case first =>
    have H := HC6.out
    clear HC6
    by_cases c7 : a0 < 1
    · rw [if_pos c7] at H
      have c7b0 : decide (a0 < 1) = true := decide_eq_true c7
      clear c7
      (first | rw [c7b0] | (simp only [i64_w, i32_w]; rw [c7b0]) | skip)
      have H' := Aside0.mk H
      clear H
      go_wp2
      go_meet
      case rel => exact ⟨_, (true), (by first | rfl | (simp; done) | (simp [*]; done)), H', ⟨by first | omega | exact Nat.le_refl _⟩, ⟨by repeat (first | (with_reducible first | exact HB.out | apply below_alloc | apply pw_below_drewN | apply below_drew1) | exact HB.out)⟩⟩
    · rw [if_neg c7] at H
      have c7b0 : decide (a0 < 1) = false := decide_eq_false c7
      clear c7
      (first | rw [c7b0] | (simp only [i64_w, i32_w]; rw [c7b0]) | skip)
      have H' := Aside0.mk H
      clear H
      go_wp2
      go_meet
      case rel => exact ⟨_, (decide (a0 > 255)), (by first | rfl | (simp; done) | (simp [*]; done)), H', ⟨by first | omega | exact Nat.le_refl _⟩, ⟨by repeat (first | (with_reducible first | exact HB.out | apply below_alloc | apply pw_below_drewN | apply below_drew1) | exact HB.out)⟩⟩
  case rest =>
    clear HC6
    try clear c1
    try clear p2
    try clear c4
    try clear c7
    try clear c7b0
    obtain ⟨kq, x20_5, rfl, HA, HJ5, HB⟩ := hcut
    cases kq with
    | zero => exact absurd HA.out (by simp [hayricklaw21_RoomParts.j0])
    | succ kj5 =>
      have H := HA.out
      clear HA
      simp only [hayricklaw21_RoomParts.j0] at H
      by_cases c8 : x20_5 = true
      · subst c8
        have H1 : (if t140 = 0 then (if t141 = 0 then (if t142 = 0 then ((hayricklaw21_wakes.f kj5).bind fun t143 => (some t143)) else (some false)) else (some false)) else (some false)) = some r := by rw [if_pos rfl] at H; exact H
        clear H
        have H := H1
        clear H1
        by_cases c9 : t140 = 0
        · rw [if_pos c9] at H
          have c9b0 : (t140 == 0) = true := beq_iff_eq.mpr c9
          have c9b1 : (t140 != 0) = false := bne_eq_false_iff_eq.mpr c9
          clear c9
          by_cases c10 : t141 = 0
          · rw [if_pos c10] at H
            have c10b0 : (t141 == 0) = true := beq_iff_eq.mpr c10
            have c10b1 : (t141 != 0) = false := bne_eq_false_iff_eq.mpr c10
            clear c10
            by_cases c11 : t142 = 0
            · rw [if_pos c11] at H
              have c11b0 : (t142 == 0) = true := beq_iff_eq.mpr c11
              have c11b1 : (t142 != 0) = false := bne_eq_false_iff_eq.mpr c11
              clear c11
              replace H := Option.bind_eq_some_iff.mp H
              obtain ⟨t143, A120, H⟩ := H
              replace H : (some t143) = some r := H
              have A12 := Aside0.mk A120
              clear A120
              obtain rfl := Option.some.inj H
              go_wp2_with (first | (go_at_call 19; (with_reducible refine (hayricklaw21_wakes.calls kj5  t143 _ A12.out).mono ?_); rintro e w13 ⟨rfl, hb⟩; have n0_ := Aside0.mk (below_step (by repeat (first | (with_reducible first | exact HB.out | apply below_alloc | apply pw_below_drewN | apply below_drew1) | exact HB.out)) hb); clear HB; have HB := n0_; clear n0_; (try clear hb); (try clear hb2); (try clear hk); (try clear hi)))
              go_ret
              exact ⟨by first | rfl | (simp [errW_none, errW_some] <;> rfl) | (simp [*, errW_none, errW_some] <;> rfl), by repeat (first | (with_reducible first | exact HB.out | apply below_alloc | apply pw_below_drewN | apply below_drew1) | exact HB.out)⟩
            · rw [if_neg c11] at H
              have c11b0 : (t142 == 0) = false := beq_eq_false_iff_ne.mpr c11
              have c11b1 : (t142 != 0) = true := bne_iff_ne.mpr c11
              obtain rfl := Option.some.inj H
              go_wp2
              go_ret
              exact ⟨by first | rfl | (simp [errW_none, errW_some] <;> rfl) | (simp [*, errW_none, errW_some] <;> rfl), by repeat (first | (with_reducible first | exact HB.out | apply below_alloc | apply pw_below_drewN | apply below_drew1) | exact HB.out)⟩
          · rw [if_neg c10] at H
            have c10b0 : (t141 == 0) = false := beq_eq_false_iff_ne.mpr c10
            have c10b1 : (t141 != 0) = true := bne_iff_ne.mpr c10
            obtain rfl := Option.some.inj H
            go_wp2
            go_ret
            exact ⟨by first | rfl | (simp [errW_none, errW_some] <;> rfl) | (simp [*, errW_none, errW_some] <;> rfl), by repeat (first | (with_reducible first | exact HB.out | apply below_alloc | apply pw_below_drewN | apply below_drew1) | exact HB.out)⟩
        · rw [if_neg c9] at H
          have c9b0 : (t140 == 0) = false := beq_eq_false_iff_ne.mpr c9
          have c9b1 : (t140 != 0) = true := bne_iff_ne.mpr c9
          obtain rfl := Option.some.inj H
          go_wp2
          go_ret
          exact ⟨by first | rfl | (simp [errW_none, errW_some] <;> rfl) | (simp [*, errW_none, errW_some] <;> rfl), by repeat (first | (with_reducible first | exact HB.out | apply below_alloc | apply pw_below_drewN | apply below_drew1) | exact HB.out)⟩
      · replace c8 := Bool.eq_false_iff.mpr c8
        subst c8
        have H1 : (if (wrap64 (t140 + t141)) = (wrap64 (4 * a0)) then (if (wrap64 (15 * t140)) < (wrap64 (4 * a0)) then (hayricklaw21_RoomParts.j1 kj5 a1 t141 t142 true) else (if (wrap64 (15 * (wrap64 (t140 - 1)))) ≥ (wrap64 (4 * a0)) then (hayricklaw21_RoomParts.j1 kj5 a1 t141 t142 true) else (hayricklaw21_RoomParts.j1 kj5 a1 t141 t142 (decide (t141 < 1))))) else (hayricklaw21_RoomParts.j1 kj5 a1 t141 t142 true)) = some r := by rw [if_neg (show ¬ (false = true) by decide)] at H; exact H
        clear H
        have H := H1
        clear H1
        have HC14 := Aside0.mk H
        clear H
        go_upto_region 5 with (fail)
        go_cut [58] (fun v58 wc => ∃ (kq : Nat) (x58_13 : Bool), v58 = .bool x58_13 ∧ Aside0 (hayricklaw21_RoomParts.j1 kq a1 t141 t142 x58_13 = some r) ∧ Aside0 (kq ≤ kj5) ∧ Aside0 (Below w.heap.size w wc))
        case first =>
          have H := HC14.out
          clear HC14
          by_cases c15 : (wrap64 (t140 + t141)) = (wrap64 (4 * a0))
          · rw [if_pos c15] at H
            have c15b0 : ((wrap64 (t140 + t141)) == (wrap64 (4 * a0))) = true := beq_iff_eq.mpr c15
            have c15b1 : ((wrap64 (t140 + t141)) != (wrap64 (4 * a0))) = false := bne_eq_false_iff_eq.mpr c15
            clear c15
            (first | rw [c15b0] | (simp only [i64_w, i32_w]; rw [c15b0]) | skip)
            by_cases c16 : (wrap64 (15 * t140)) < (wrap64 (4 * a0))
            · rw [if_pos c16] at H
              have c16b0 : decide ((wrap64 (15 * t140)) < (wrap64 (4 * a0))) = true := decide_eq_true c16
              clear c16
              have H' := Aside0.mk H
              clear H
              go_wp2
              go_meet
              case rel => exact ⟨_, (true), (by first | rfl | (simp; done) | (simp [*]; done)), H', ⟨by have := HJ5.out; first | omega | exact Nat.le_refl _⟩, ⟨by repeat (first | (with_reducible first | exact HB.out | apply below_alloc | apply pw_below_drewN | apply below_drew1) | exact HB.out)⟩⟩
            · rw [if_neg c16] at H
              have c16b0 : decide ((wrap64 (15 * t140)) < (wrap64 (4 * a0))) = false := decide_eq_false c16
              clear c16
              by_cases c17 : (wrap64 (15 * (wrap64 (t140 - 1)))) ≥ (wrap64 (4 * a0))
              · rw [if_pos c17] at H
                have c17b0 : decide ((wrap64 (4 * a0)) ≤ (wrap64 (15 * (wrap64 (t140 - 1))))) = true := decide_eq_true c17
                clear c17
                have H' := Aside0.mk H
                clear H
                go_wp2
                go_meet
                case rel => exact ⟨_, (true), (by first | rfl | (simp; done) | (simp [*]; done)), H', ⟨by have := HJ5.out; first | omega | exact Nat.le_refl _⟩, ⟨by repeat (first | (with_reducible first | exact HB.out | apply below_alloc | apply pw_below_drewN | apply below_drew1) | exact HB.out)⟩⟩
              · rw [if_neg c17] at H
                have c17b0 : decide ((wrap64 (4 * a0)) ≤ (wrap64 (15 * (wrap64 (t140 - 1))))) = false := decide_eq_false c17
                clear c17
                have H' := Aside0.mk H
                clear H
                go_wp2
                go_meet
                case rel => exact ⟨_, (decide (t141 < 1)), (by first | rfl | (simp; done) | (simp [*]; done)), H', ⟨by have := HJ5.out; first | omega | exact Nat.le_refl _⟩, ⟨by repeat (first | (with_reducible first | exact HB.out | apply below_alloc | apply pw_below_drewN | apply below_drew1) | exact HB.out)⟩⟩
          · rw [if_neg c15] at H
            have c15b0 : ((wrap64 (t140 + t141)) == (wrap64 (4 * a0))) = false := beq_eq_false_iff_ne.mpr c15
            have c15b1 : ((wrap64 (t140 + t141)) != (wrap64 (4 * a0))) = true := bne_iff_ne.mpr c15
            (first | rw [c15b0] | (simp only [i64_w, i32_w]; rw [c15b0]) | skip)
            have H' := Aside0.mk H
            clear H
            go_wp2
            go_meet
            case rel => exact ⟨_, (true), (by first | rfl | (simp; done) | (simp [*]; done)), H', ⟨by have := HJ5.out; first | omega | exact Nat.le_refl _⟩, ⟨by repeat (first | (with_reducible first | exact HB.out | apply below_alloc | apply pw_below_drewN | apply below_drew1) | exact HB.out)⟩⟩
        case rest =>
          clear HC14
          try clear c1
          try clear p2
          try clear c4
          try clear p6
          try clear c7
          try clear c7b0
          try clear c8
          try clear c9
          try clear c9b0
          try clear c9b1
          try clear c10
          try clear c10b0
          try clear c10b1
          try clear c11
          try clear c11b0
          try clear c11b1
          try clear c13
          try clear c15
          try clear c15b0
          try clear c15b1
          try clear c16
          try clear c16b0
          try clear c17
          try clear c17b0
          try clear p2
          obtain ⟨kq, x58_13, rfl, HA, HJ13, HB⟩ := hcut
          cases kq with
          | zero => exact absurd HA.out (by simp [hayricklaw21_RoomParts.j1])
          | succ kj13 =>
            have H := HA.out
            clear HA
            simp only [hayricklaw21_RoomParts.j1] at H
            by_cases c18 : x58_13 = true
            · subst c18
              have H1 : (some false) = some r := by rw [if_pos rfl] at H; exact H
              clear H
              have H := H1
              clear H1
              obtain rfl := Option.some.inj H
              go_wp2
              go_ret
              exact ⟨by first | rfl | (simp [errW_none, errW_some] <;> rfl) | (simp [*, errW_none, errW_some] <;> rfl), by repeat (first | (with_reducible first | exact HB.out | apply below_alloc | apply pw_below_drewN | apply below_drew1) | exact HB.out)⟩
            · replace c18 := Bool.eq_false_iff.mpr c18
              subst c18
              have H1 : (if a1 < 1 then (if t142 = 0 then ((hayricklaw21_wakes.f kj13).bind fun t144 => (some t144)) else (some false)) else (if t142 ≥ 1 then (if (wrap64 ((wrap64 (t142 - 1)) * t141)) < a1 then (if (wrap64 (a1 - (wrap64 ((wrap64 (t142 - 1)) * t141)))) ≤ t141 then ((hayricklaw21_wakes.f kj13).bind fun t145 => (some t145)) else (some false)) else (some false)) else (some false))) = some r := by rw [if_neg (show ¬ (false = true) by decide)] at H; exact H
              clear H
              have H := H1
              clear H1
              by_cases c19 : a1 < 1
              · rw [if_pos c19] at H
                have c19b0 : decide (a1 < 1) = true := decide_eq_true c19
                clear c19
                by_cases c20 : t142 = 0
                · rw [if_pos c20] at H
                  have c20b0 : (t142 == 0) = true := beq_iff_eq.mpr c20
                  have c20b1 : (t142 != 0) = false := bne_eq_false_iff_eq.mpr c20
                  clear c20
                  replace H := Option.bind_eq_some_iff.mp H
                  obtain ⟨t144, A210, H⟩ := H
                  replace H : (some t144) = some r := H
                  have A21 := Aside0.mk A210
                  clear A210
                  obtain rfl := Option.some.inj H
                  go_wp2_with (first | (go_at_call 19; (with_reducible refine (hayricklaw21_wakes.calls kj13  t144 _ A21.out).mono ?_); rintro e w22 ⟨rfl, hb⟩; have n0_ := Aside0.mk (below_step (by repeat (first | (with_reducible first | exact HB.out | apply below_alloc | apply pw_below_drewN | apply below_drew1) | exact HB.out)) hb); clear HB; have HB := n0_; clear n0_; (try clear hb); (try clear hb2); (try clear hk); (try clear hi)))
                  go_ret
                  exact ⟨by first | rfl | (simp [errW_none, errW_some] <;> rfl) | (simp [*, errW_none, errW_some] <;> rfl), by repeat (first | (with_reducible first | exact HB.out | apply below_alloc | apply pw_below_drewN | apply below_drew1) | exact HB.out)⟩
                · rw [if_neg c20] at H
                  have c20b0 : (t142 == 0) = false := beq_eq_false_iff_ne.mpr c20
                  have c20b1 : (t142 != 0) = true := bne_iff_ne.mpr c20
                  obtain rfl := Option.some.inj H
                  go_wp2
                  go_ret
                  exact ⟨by first | rfl | (simp [errW_none, errW_some] <;> rfl) | (simp [*, errW_none, errW_some] <;> rfl), by repeat (first | (with_reducible first | exact HB.out | apply below_alloc | apply pw_below_drewN | apply below_drew1) | exact HB.out)⟩
              · rw [if_neg c19] at H
                have c19b0 : decide (a1 < 1) = false := decide_eq_false c19
                clear c19
                by_cases c23 : t142 ≥ 1
                · rw [if_pos c23] at H
                  have c23b0 : decide (1 ≤ t142) = true := decide_eq_true c23
                  clear c23
                  by_cases c24 : (wrap64 ((wrap64 (t142 - 1)) * t141)) < a1
                  · rw [if_pos c24] at H
                    have c24b0 : decide ((wrap64 ((wrap64 (t142 - 1)) * t141)) < a1) = true := decide_eq_true c24
                    clear c24
                    by_cases c25 : (wrap64 (a1 - (wrap64 ((wrap64 (t142 - 1)) * t141)))) ≤ t141
                    · rw [if_pos c25] at H
                      have c25b0 : decide ((wrap64 (a1 - (wrap64 ((wrap64 (t142 - 1)) * t141)))) ≤ t141) = true := decide_eq_true c25
                      clear c25
                      replace H := Option.bind_eq_some_iff.mp H
                      obtain ⟨t145, A260, H⟩ := H
                      replace H : (some t145) = some r := H
                      have A26 := Aside0.mk A260
                      clear A260
                      obtain rfl := Option.some.inj H
                      go_wp2_with (first | (go_at_call 19; (with_reducible refine (hayricklaw21_wakes.calls kj13  t145 _ A26.out).mono ?_); rintro e w27 ⟨rfl, hb⟩; have n0_ := Aside0.mk (below_step (by repeat (first | (with_reducible first | exact HB.out | apply below_alloc | apply pw_below_drewN | apply below_drew1) | exact HB.out)) hb); clear HB; have HB := n0_; clear n0_; (try clear hb); (try clear hb2); (try clear hk); (try clear hi)))
                      go_ret
                      exact ⟨by first | rfl | (simp [errW_none, errW_some] <;> rfl) | (simp [*, errW_none, errW_some] <;> rfl), by repeat (first | (with_reducible first | exact HB.out | apply below_alloc | apply pw_below_drewN | apply below_drew1) | exact HB.out)⟩
                    · rw [if_neg c25] at H
                      have c25b0 : decide ((wrap64 (a1 - (wrap64 ((wrap64 (t142 - 1)) * t141)))) ≤ t141) = false := decide_eq_false c25
                      clear c25
                      obtain rfl := Option.some.inj H
                      go_wp2
                      go_ret
                      exact ⟨by first | rfl | (simp [errW_none, errW_some] <;> rfl) | (simp [*, errW_none, errW_some] <;> rfl), by repeat (first | (with_reducible first | exact HB.out | apply below_alloc | apply pw_below_drewN | apply below_drew1) | exact HB.out)⟩
                  · rw [if_neg c24] at H
                    have c24b0 : decide ((wrap64 ((wrap64 (t142 - 1)) * t141)) < a1) = false := decide_eq_false c24
                    clear c24
                    obtain rfl := Option.some.inj H
                    go_wp2
                    go_ret
                    exact ⟨by first | rfl | (simp [errW_none, errW_some] <;> rfl) | (simp [*, errW_none, errW_some] <;> rfl), by repeat (first | (with_reducible first | exact HB.out | apply below_alloc | apply pw_below_drewN | apply below_drew1) | exact HB.out)⟩
                · rw [if_neg c23] at H
                  have c23b0 : decide (1 ≤ t142) = false := decide_eq_false c23
                  clear c23
                  obtain rfl := Option.some.inj H
                  go_wp2
                  go_ret
                  exact ⟨by first | rfl | (simp [errW_none, errW_some] <;> rfl) | (simp [*, errW_none, errW_some] <;> rfl), by repeat (first | (with_reducible first | exact HB.out | apply below_alloc | apply pw_below_drewN | apply below_drew1) | exact HB.out)⟩

/-- THE ONE PURE STATEMENT of hayricklaw21_RoomParts: yours. -/
def hayricklaw21_RoomParts.Pure : Prop := ∀ (a0 : Int) (a1 : Int), (Lit.int .i64 a0).wf = true → (Lit.int .i64 a1).wf = true → ∃ k, hayricklaw21_RoomParts.f k a0 a1 = some true
theorem hayricklaw21_RoomParts.walk (P : hayricklaw21_RoomParts.Pure) (a0 : Int) (a1 : Int) (w : World) (w0 : (Lit.int .i64 a0).wf = true) (w1 : (Lit.int .i64 a1).wf = true) :
    Calls Try.prog 4 #[.int .i64 a0, .int .i64 a1] w fun e w' => e = .returned (.bool true) ∧ Below w.heap.size w w' := by
  obtain ⟨k, h⟩ := P a0 a1 w0 w1
  refine (hayricklaw21_RoomParts.calls k a0 a1 true w h).mono ?_
  rintro e w' ⟨rfl, hd⟩
  exact ⟨rfl, hd⟩

end Go.Proofs.Ytgekdenhkgkpiaa.PRoomParts
