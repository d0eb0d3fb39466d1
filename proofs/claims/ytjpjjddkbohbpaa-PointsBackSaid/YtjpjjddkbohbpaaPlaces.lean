/- PointsPlaces: the walk, case by case; printed by mkplaces.py. -/
import Derived.Test.YtjpjjddkbohbpaaWakes
namespace Go.Proofs.YtjpjjddkbohbpaaX
open Go.RowKit Go.Proofs.YtjpjjddkbohbpaaW.PrintWords Go.Proofs.Ytjpjjddkbohbpaa.PPointsCut
set_option linter.unusedVariables false
theorem w64 {n : Int} (h : -9223372036854775808 ≤ n ∧ n ≤ 9223372036854775807) : wrap64 n = n := IntWalk.wrap64_in n h
theorem at_out (b : Int) (h : b < 0 ∨ 34 ≤ b) : points_At.f 5 b = some (false, 0, false) := by
  unfold points_At.f
  rcases h with h | h
  · rw [if_pos h]; rfl
  · rw [if_neg (by omega), decide_eq_true (by omega)]; rfl
theorem at_dir (b : Int) (h0 : 0 ≤ b) (h1 : b < 6) : points_At.f 5 b = some (true, b, true) := by
  unfold points_At.f
  rw [if_neg (by omega), decide_eq_false (by omega)]
  simp only [points_At.j0, Bool.false_eq_true, if_false, if_pos h1]
theorem at_ind (b t : Int) (h0 : 6 ≤ b) (h1 : b < 34) (ht : t = b - 6) : points_At.f 5 b = some (false, t, true) := by
  subst ht
  unfold points_At.f
  rw [if_neg (by omega), decide_eq_false (by omega)]
  simp only [points_At.j0, Bool.false_eq_true, if_false, if_neg (show ¬ b < 6 by omega)]
  rw [w64 (n := b - 6) (by omega)]
set_option maxHeartbeats 400000 in
set_option maxRecDepth 100000 in
theorem places_neg_neg (b o t u : Int) (w : World) (hb0 : b < 0) (hb1 : ¬ 0 ≤ b) (ho0 : o < 0) (ho1 : ¬ 0 ≤ o)  (H1 : Aside0 (points_At.f 5 b = some (false, 0, false))) (H2 : Aside0 (points_At.f 5 o = some (false, 0, false))) :
    Calls Try.prog 5 #[.int .i64 b, .int .i64 o] w fun e w' => e = .returned (.bool true) ∧ Below w.heap.size w w' := by
  have HB0 := Aside0.mk (Below.refl w.heap.size w)
  go_enter Try.func5, Try.ntmps5
  go_wp2_with (first | (go_at_call_of 13 b; refine (points_At.calls 5 b (false) (0) (false) _ H1.out).mono ?_; rintro e w' ⟨rfl, ⟨nd, rfl⟩⟩) | (go_at_call_of 13 o; refine (points_At.calls 5 o (false) (0) (false) _ H2.out).mono ?_; rintro e w' ⟨rfl, ⟨nd, rfl⟩⟩) | (go_at_call 12; refine (wakes_true _).mono ?_; rintro e w' ⟨rfl, hb⟩; have HB1 := Aside0.mk (below_step (pw_below_drewN HB0.out _) hb); clear hb))
  go_ret
  exact ⟨rfl, HB1.out⟩
set_option maxHeartbeats 400000 in
set_option maxRecDepth 100000 in
theorem places_neg_big (b o t u : Int) (w : World) (hb0 : b < 0) (hb1 : ¬ 0 ≤ b) (ho0 : ¬ o < 0) (ho1 : 0 ≤ o) (ho2 : ¬ o < 34) (ho3 : 34 ≤ o)  (H1 : Aside0 (points_At.f 5 b = some (false, 0, false))) (H2 : Aside0 (points_At.f 5 o = some (false, 0, false))) :
    Calls Try.prog 5 #[.int .i64 b, .int .i64 o] w fun e w' => e = .returned (.bool true) ∧ Below w.heap.size w w' := by
  have HB0 := Aside0.mk (Below.refl w.heap.size w)
  go_enter Try.func5, Try.ntmps5
  go_wp2_with (first | (go_at_call_of 13 b; refine (points_At.calls 5 b (false) (0) (false) _ H1.out).mono ?_; rintro e w' ⟨rfl, ⟨nd, rfl⟩⟩) | (go_at_call_of 13 o; refine (points_At.calls 5 o (false) (0) (false) _ H2.out).mono ?_; rintro e w' ⟨rfl, ⟨nd, rfl⟩⟩) | (go_at_call 12; refine (wakes_true _).mono ?_; rintro e w' ⟨rfl, hb⟩; have HB1 := Aside0.mk (below_step (pw_below_drewN HB0.out _) hb); clear hb))
  go_ret
  exact ⟨rfl, HB1.out⟩
set_option maxHeartbeats 400000 in
set_option maxRecDepth 100000 in
theorem places_neg_dir (b o t u : Int) (w : World) (hb0 : b < 0) (hb1 : ¬ 0 ≤ b) (ho0 : ¬ o < 0) (ho1 : 0 ≤ o) (ho2 : o < 34) (ho3 : o < 6) (ho4 : ¬ 6 ≤ o) (ho5 : ¬ 34 ≤ o)  (H1 : Aside0 (points_At.f 5 b = some (false, 0, false))) (H2 : Aside0 (points_At.f 5 o = some (true, o, true))) :
    Calls Try.prog 5 #[.int .i64 b, .int .i64 o] w fun e w' => e = .returned (.bool true) ∧ Below w.heap.size w w' := by
  have HB0 := Aside0.mk (Below.refl w.heap.size w)
  go_enter Try.func5, Try.ntmps5
  go_wp2_with (first | (go_at_call_of 13 b; refine (points_At.calls 5 b (false) (0) (false) _ H1.out).mono ?_; rintro e w' ⟨rfl, ⟨nd, rfl⟩⟩) | (go_at_call_of 13 o; refine (points_At.calls 5 o (true) (o) (true) _ H2.out).mono ?_; rintro e w' ⟨rfl, ⟨nd, rfl⟩⟩) | (go_at_call 12; refine (wakes_true _).mono ?_; rintro e w' ⟨rfl, hb⟩; have HB1 := Aside0.mk (below_step (pw_below_drewN HB0.out _) hb); clear hb))
  go_ret
  exact ⟨rfl, HB1.out⟩
set_option maxHeartbeats 400000 in
set_option maxRecDepth 100000 in
theorem places_neg_ind (b o t u : Int) (w : World) (hb0 : b < 0) (hb1 : ¬ 0 ≤ b) (ho0 : ¬ o < 0) (ho1 : 0 ≤ o) (ho2 : o < 34) (ho3 : ¬ o < 6) (ho4 : 6 ≤ o) (ho5 : ¬ 34 ≤ o) (ho6 : ¬ u < 0) (ho7 : ¬ 28 ≤ u)  (H1 : Aside0 (points_At.f 5 b = some (false, 0, false))) (H2 : Aside0 (points_At.f 5 o = some (false, u, true))) :
    Calls Try.prog 5 #[.int .i64 b, .int .i64 o] w fun e w' => e = .returned (.bool true) ∧ Below w.heap.size w w' := by
  have HB0 := Aside0.mk (Below.refl w.heap.size w)
  go_enter Try.func5, Try.ntmps5
  go_wp2_with (first | (go_at_call_of 13 b; refine (points_At.calls 5 b (false) (0) (false) _ H1.out).mono ?_; rintro e w' ⟨rfl, ⟨nd, rfl⟩⟩) | (go_at_call_of 13 o; refine (points_At.calls 5 o (false) (u) (true) _ H2.out).mono ?_; rintro e w' ⟨rfl, ⟨nd, rfl⟩⟩) | (go_at_call 12; refine (wakes_true _).mono ?_; rintro e w' ⟨rfl, hb⟩; have HB1 := Aside0.mk (below_step (pw_below_drewN HB0.out _) hb); clear hb))
  go_ret
  exact ⟨rfl, HB1.out⟩
set_option maxHeartbeats 400000 in
set_option maxRecDepth 100000 in
theorem places_big_neg (b o t u : Int) (w : World) (hb0 : ¬ b < 0) (hb1 : 0 ≤ b) (hb2 : ¬ b < 34) (hb3 : 34 ≤ b) (ho0 : o < 0) (ho1 : ¬ 0 ≤ o)  (H1 : Aside0 (points_At.f 5 b = some (false, 0, false))) (H2 : Aside0 (points_At.f 5 o = some (false, 0, false))) :
    Calls Try.prog 5 #[.int .i64 b, .int .i64 o] w fun e w' => e = .returned (.bool true) ∧ Below w.heap.size w w' := by
  have HB0 := Aside0.mk (Below.refl w.heap.size w)
  go_enter Try.func5, Try.ntmps5
  go_wp2_with (first | (go_at_call_of 13 b; refine (points_At.calls 5 b (false) (0) (false) _ H1.out).mono ?_; rintro e w' ⟨rfl, ⟨nd, rfl⟩⟩) | (go_at_call_of 13 o; refine (points_At.calls 5 o (false) (0) (false) _ H2.out).mono ?_; rintro e w' ⟨rfl, ⟨nd, rfl⟩⟩) | (go_at_call 12; refine (wakes_true _).mono ?_; rintro e w' ⟨rfl, hb⟩; have HB1 := Aside0.mk (below_step (pw_below_drewN HB0.out _) hb); clear hb))
  go_ret
  exact ⟨rfl, HB1.out⟩
set_option maxHeartbeats 400000 in
set_option maxRecDepth 100000 in
theorem places_big_big (b o t u : Int) (w : World) (hb0 : ¬ b < 0) (hb1 : 0 ≤ b) (hb2 : ¬ b < 34) (hb3 : 34 ≤ b) (ho0 : ¬ o < 0) (ho1 : 0 ≤ o) (ho2 : ¬ o < 34) (ho3 : 34 ≤ o)  (H1 : Aside0 (points_At.f 5 b = some (false, 0, false))) (H2 : Aside0 (points_At.f 5 o = some (false, 0, false))) :
    Calls Try.prog 5 #[.int .i64 b, .int .i64 o] w fun e w' => e = .returned (.bool true) ∧ Below w.heap.size w w' := by
  have HB0 := Aside0.mk (Below.refl w.heap.size w)
  go_enter Try.func5, Try.ntmps5
  go_wp2_with (first | (go_at_call_of 13 b; refine (points_At.calls 5 b (false) (0) (false) _ H1.out).mono ?_; rintro e w' ⟨rfl, ⟨nd, rfl⟩⟩) | (go_at_call_of 13 o; refine (points_At.calls 5 o (false) (0) (false) _ H2.out).mono ?_; rintro e w' ⟨rfl, ⟨nd, rfl⟩⟩) | (go_at_call 12; refine (wakes_true _).mono ?_; rintro e w' ⟨rfl, hb⟩; have HB1 := Aside0.mk (below_step (pw_below_drewN HB0.out _) hb); clear hb))
  go_ret
  exact ⟨rfl, HB1.out⟩
set_option maxHeartbeats 400000 in
set_option maxRecDepth 100000 in
theorem places_big_dir (b o t u : Int) (w : World) (hb0 : ¬ b < 0) (hb1 : 0 ≤ b) (hb2 : ¬ b < 34) (hb3 : 34 ≤ b) (ho0 : ¬ o < 0) (ho1 : 0 ≤ o) (ho2 : o < 34) (ho3 : o < 6) (ho4 : ¬ 6 ≤ o) (ho5 : ¬ 34 ≤ o)  (H1 : Aside0 (points_At.f 5 b = some (false, 0, false))) (H2 : Aside0 (points_At.f 5 o = some (true, o, true))) :
    Calls Try.prog 5 #[.int .i64 b, .int .i64 o] w fun e w' => e = .returned (.bool true) ∧ Below w.heap.size w w' := by
  have HB0 := Aside0.mk (Below.refl w.heap.size w)
  go_enter Try.func5, Try.ntmps5
  go_wp2_with (first | (go_at_call_of 13 b; refine (points_At.calls 5 b (false) (0) (false) _ H1.out).mono ?_; rintro e w' ⟨rfl, ⟨nd, rfl⟩⟩) | (go_at_call_of 13 o; refine (points_At.calls 5 o (true) (o) (true) _ H2.out).mono ?_; rintro e w' ⟨rfl, ⟨nd, rfl⟩⟩) | (go_at_call 12; refine (wakes_true _).mono ?_; rintro e w' ⟨rfl, hb⟩; have HB1 := Aside0.mk (below_step (pw_below_drewN HB0.out _) hb); clear hb))
  go_ret
  exact ⟨rfl, HB1.out⟩
set_option maxHeartbeats 400000 in
set_option maxRecDepth 100000 in
theorem places_big_ind (b o t u : Int) (w : World) (hb0 : ¬ b < 0) (hb1 : 0 ≤ b) (hb2 : ¬ b < 34) (hb3 : 34 ≤ b) (ho0 : ¬ o < 0) (ho1 : 0 ≤ o) (ho2 : o < 34) (ho3 : ¬ o < 6) (ho4 : 6 ≤ o) (ho5 : ¬ 34 ≤ o) (ho6 : ¬ u < 0) (ho7 : ¬ 28 ≤ u)  (H1 : Aside0 (points_At.f 5 b = some (false, 0, false))) (H2 : Aside0 (points_At.f 5 o = some (false, u, true))) :
    Calls Try.prog 5 #[.int .i64 b, .int .i64 o] w fun e w' => e = .returned (.bool true) ∧ Below w.heap.size w w' := by
  have HB0 := Aside0.mk (Below.refl w.heap.size w)
  go_enter Try.func5, Try.ntmps5
  go_wp2_with (first | (go_at_call_of 13 b; refine (points_At.calls 5 b (false) (0) (false) _ H1.out).mono ?_; rintro e w' ⟨rfl, ⟨nd, rfl⟩⟩) | (go_at_call_of 13 o; refine (points_At.calls 5 o (false) (u) (true) _ H2.out).mono ?_; rintro e w' ⟨rfl, ⟨nd, rfl⟩⟩) | (go_at_call 12; refine (wakes_true _).mono ?_; rintro e w' ⟨rfl, hb⟩; have HB1 := Aside0.mk (below_step (pw_below_drewN HB0.out _) hb); clear hb))
  go_ret
  exact ⟨rfl, HB1.out⟩
set_option maxHeartbeats 400000 in
set_option maxRecDepth 100000 in
theorem places_dir_neg (b o t u : Int) (w : World) (hb0 : ¬ b < 0) (hb1 : 0 ≤ b) (hb2 : b < 34) (hb3 : b < 6) (hb4 : ¬ 6 ≤ b) (hb5 : ¬ 34 ≤ b) (ho0 : o < 0) (ho1 : ¬ 0 ≤ o)  (H1 : Aside0 (points_At.f 5 b = some (true, b, true))) (H2 : Aside0 (points_At.f 5 o = some (false, 0, false))) :
    Calls Try.prog 5 #[.int .i64 b, .int .i64 o] w fun e w' => e = .returned (.bool true) ∧ Below w.heap.size w w' := by
  have HB0 := Aside0.mk (Below.refl w.heap.size w)
  go_enter Try.func5, Try.ntmps5
  go_wp2_with (first | (go_at_call_of 13 b; refine (points_At.calls 5 b (true) (b) (true) _ H1.out).mono ?_; rintro e w' ⟨rfl, ⟨nd, rfl⟩⟩) | (go_at_call_of 13 o; refine (points_At.calls 5 o (false) (0) (false) _ H2.out).mono ?_; rintro e w' ⟨rfl, ⟨nd, rfl⟩⟩) | (go_at_call 12; refine (wakes_true _).mono ?_; rintro e w' ⟨rfl, hb⟩; have HB1 := Aside0.mk (below_step (pw_below_drewN HB0.out _) hb); clear hb))
  go_ret
  exact ⟨rfl, HB1.out⟩
set_option maxHeartbeats 400000 in
set_option maxRecDepth 100000 in
theorem places_dir_big (b o t u : Int) (w : World) (hb0 : ¬ b < 0) (hb1 : 0 ≤ b) (hb2 : b < 34) (hb3 : b < 6) (hb4 : ¬ 6 ≤ b) (hb5 : ¬ 34 ≤ b) (ho0 : ¬ o < 0) (ho1 : 0 ≤ o) (ho2 : ¬ o < 34) (ho3 : 34 ≤ o)  (H1 : Aside0 (points_At.f 5 b = some (true, b, true))) (H2 : Aside0 (points_At.f 5 o = some (false, 0, false))) :
    Calls Try.prog 5 #[.int .i64 b, .int .i64 o] w fun e w' => e = .returned (.bool true) ∧ Below w.heap.size w w' := by
  have HB0 := Aside0.mk (Below.refl w.heap.size w)
  go_enter Try.func5, Try.ntmps5
  go_wp2_with (first | (go_at_call_of 13 b; refine (points_At.calls 5 b (true) (b) (true) _ H1.out).mono ?_; rintro e w' ⟨rfl, ⟨nd, rfl⟩⟩) | (go_at_call_of 13 o; refine (points_At.calls 5 o (false) (0) (false) _ H2.out).mono ?_; rintro e w' ⟨rfl, ⟨nd, rfl⟩⟩) | (go_at_call 12; refine (wakes_true _).mono ?_; rintro e w' ⟨rfl, hb⟩; have HB1 := Aside0.mk (below_step (pw_below_drewN HB0.out _) hb); clear hb))
  go_ret
  exact ⟨rfl, HB1.out⟩
set_option maxHeartbeats 400000 in
set_option maxRecDepth 100000 in
theorem places_dir_dir (b o t u : Int) (w : World) (hb0 : ¬ b < 0) (hb1 : 0 ≤ b) (hb2 : b < 34) (hb3 : b < 6) (hb4 : ¬ 6 ≤ b) (hb5 : ¬ 34 ≤ b) (ho0 : ¬ o < 0) (ho1 : 0 ≤ o) (ho2 : o < 34) (ho3 : o < 6) (ho4 : ¬ 6 ≤ o) (ho5 : ¬ 34 ≤ o) (hq : (b == o) = false) (H1 : Aside0 (points_At.f 5 b = some (true, b, true))) (H2 : Aside0 (points_At.f 5 o = some (true, o, true))) :
    Calls Try.prog 5 #[.int .i64 b, .int .i64 o] w fun e w' => e = .returned (.bool true) ∧ Below w.heap.size w w' := by
  have HB0 := Aside0.mk (Below.refl w.heap.size w)
  go_enter Try.func5, Try.ntmps5
  go_wp2_with (first | (go_at_call_of 13 b; refine (points_At.calls 5 b (true) (b) (true) _ H1.out).mono ?_; rintro e w' ⟨rfl, ⟨nd, rfl⟩⟩) | (go_at_call_of 13 o; refine (points_At.calls 5 o (true) (o) (true) _ H2.out).mono ?_; rintro e w' ⟨rfl, ⟨nd, rfl⟩⟩) | (go_at_call 12; refine (wakes_true _).mono ?_; rintro e w' ⟨rfl, hb⟩; have HB1 := Aside0.mk (below_step (pw_below_drewN HB0.out _) hb); clear hb))
  go_ret
  exact ⟨rfl, HB1.out⟩
set_option maxHeartbeats 400000 in
set_option maxRecDepth 100000 in
theorem places_dir_ind (b o t u : Int) (w : World) (hb0 : ¬ b < 0) (hb1 : 0 ≤ b) (hb2 : b < 34) (hb3 : b < 6) (hb4 : ¬ 6 ≤ b) (hb5 : ¬ 34 ≤ b) (ho0 : ¬ o < 0) (ho1 : 0 ≤ o) (ho2 : o < 34) (ho3 : ¬ o < 6) (ho4 : 6 ≤ o) (ho5 : ¬ 34 ≤ o) (ho6 : ¬ u < 0) (ho7 : ¬ 28 ≤ u) (hq : (b == o) = false) (H1 : Aside0 (points_At.f 5 b = some (true, b, true))) (H2 : Aside0 (points_At.f 5 o = some (false, u, true))) :
    Calls Try.prog 5 #[.int .i64 b, .int .i64 o] w fun e w' => e = .returned (.bool true) ∧ Below w.heap.size w w' := by
  have HB0 := Aside0.mk (Below.refl w.heap.size w)
  go_enter Try.func5, Try.ntmps5
  go_wp2_with (first | (go_at_call_of 13 b; refine (points_At.calls 5 b (true) (b) (true) _ H1.out).mono ?_; rintro e w' ⟨rfl, ⟨nd, rfl⟩⟩) | (go_at_call_of 13 o; refine (points_At.calls 5 o (false) (u) (true) _ H2.out).mono ?_; rintro e w' ⟨rfl, ⟨nd, rfl⟩⟩) | (go_at_call 12; refine (wakes_true _).mono ?_; rintro e w' ⟨rfl, hb⟩; have HB1 := Aside0.mk (below_step (pw_below_drewN HB0.out _) hb); clear hb))
  go_ret
  exact ⟨rfl, HB1.out⟩
set_option maxHeartbeats 400000 in
set_option maxRecDepth 100000 in
theorem places_ind_neg (b o t u : Int) (w : World) (hb0 : ¬ b < 0) (hb1 : 0 ≤ b) (hb2 : b < 34) (hb3 : ¬ b < 6) (hb4 : 6 ≤ b) (hb5 : ¬ 34 ≤ b) (hb6 : ¬ t < 0) (hb7 : ¬ 28 ≤ t) (ho0 : o < 0) (ho1 : ¬ 0 ≤ o)  (H1 : Aside0 (points_At.f 5 b = some (false, t, true))) (H2 : Aside0 (points_At.f 5 o = some (false, 0, false))) :
    Calls Try.prog 5 #[.int .i64 b, .int .i64 o] w fun e w' => e = .returned (.bool true) ∧ Below w.heap.size w w' := by
  have HB0 := Aside0.mk (Below.refl w.heap.size w)
  go_enter Try.func5, Try.ntmps5
  go_wp2_with (first | (go_at_call_of 13 b; refine (points_At.calls 5 b (false) (t) (true) _ H1.out).mono ?_; rintro e w' ⟨rfl, ⟨nd, rfl⟩⟩) | (go_at_call_of 13 o; refine (points_At.calls 5 o (false) (0) (false) _ H2.out).mono ?_; rintro e w' ⟨rfl, ⟨nd, rfl⟩⟩) | (go_at_call 12; refine (wakes_true _).mono ?_; rintro e w' ⟨rfl, hb⟩; have HB1 := Aside0.mk (below_step (pw_below_drewN HB0.out _) hb); clear hb))
  go_ret
  exact ⟨rfl, HB1.out⟩
set_option maxHeartbeats 400000 in
set_option maxRecDepth 100000 in
theorem places_ind_big (b o t u : Int) (w : World) (hb0 : ¬ b < 0) (hb1 : 0 ≤ b) (hb2 : b < 34) (hb3 : ¬ b < 6) (hb4 : 6 ≤ b) (hb5 : ¬ 34 ≤ b) (hb6 : ¬ t < 0) (hb7 : ¬ 28 ≤ t) (ho0 : ¬ o < 0) (ho1 : 0 ≤ o) (ho2 : ¬ o < 34) (ho3 : 34 ≤ o)  (H1 : Aside0 (points_At.f 5 b = some (false, t, true))) (H2 : Aside0 (points_At.f 5 o = some (false, 0, false))) :
    Calls Try.prog 5 #[.int .i64 b, .int .i64 o] w fun e w' => e = .returned (.bool true) ∧ Below w.heap.size w w' := by
  have HB0 := Aside0.mk (Below.refl w.heap.size w)
  go_enter Try.func5, Try.ntmps5
  go_wp2_with (first | (go_at_call_of 13 b; refine (points_At.calls 5 b (false) (t) (true) _ H1.out).mono ?_; rintro e w' ⟨rfl, ⟨nd, rfl⟩⟩) | (go_at_call_of 13 o; refine (points_At.calls 5 o (false) (0) (false) _ H2.out).mono ?_; rintro e w' ⟨rfl, ⟨nd, rfl⟩⟩) | (go_at_call 12; refine (wakes_true _).mono ?_; rintro e w' ⟨rfl, hb⟩; have HB1 := Aside0.mk (below_step (pw_below_drewN HB0.out _) hb); clear hb))
  go_ret
  exact ⟨rfl, HB1.out⟩
set_option maxHeartbeats 400000 in
set_option maxRecDepth 100000 in
theorem places_ind_dir (b o t u : Int) (w : World) (hb0 : ¬ b < 0) (hb1 : 0 ≤ b) (hb2 : b < 34) (hb3 : ¬ b < 6) (hb4 : 6 ≤ b) (hb5 : ¬ 34 ≤ b) (hb6 : ¬ t < 0) (hb7 : ¬ 28 ≤ t) (ho0 : ¬ o < 0) (ho1 : 0 ≤ o) (ho2 : o < 34) (ho3 : o < 6) (ho4 : ¬ 6 ≤ o) (ho5 : ¬ 34 ≤ o) (hq : (b == o) = false) (H1 : Aside0 (points_At.f 5 b = some (false, t, true))) (H2 : Aside0 (points_At.f 5 o = some (true, o, true))) :
    Calls Try.prog 5 #[.int .i64 b, .int .i64 o] w fun e w' => e = .returned (.bool true) ∧ Below w.heap.size w w' := by
  have HB0 := Aside0.mk (Below.refl w.heap.size w)
  go_enter Try.func5, Try.ntmps5
  go_wp2_with (first | (go_at_call_of 13 b; refine (points_At.calls 5 b (false) (t) (true) _ H1.out).mono ?_; rintro e w' ⟨rfl, ⟨nd, rfl⟩⟩) | (go_at_call_of 13 o; refine (points_At.calls 5 o (true) (o) (true) _ H2.out).mono ?_; rintro e w' ⟨rfl, ⟨nd, rfl⟩⟩) | (go_at_call 12; refine (wakes_true _).mono ?_; rintro e w' ⟨rfl, hb⟩; have HB1 := Aside0.mk (below_step (pw_below_drewN HB0.out _) hb); clear hb))
  go_ret
  exact ⟨rfl, HB1.out⟩
set_option maxHeartbeats 400000 in
set_option maxRecDepth 100000 in
theorem places_ind_ind (b o t u : Int) (w : World) (hb0 : ¬ b < 0) (hb1 : 0 ≤ b) (hb2 : b < 34) (hb3 : ¬ b < 6) (hb4 : 6 ≤ b) (hb5 : ¬ 34 ≤ b) (hb6 : ¬ t < 0) (hb7 : ¬ 28 ≤ t) (ho0 : ¬ o < 0) (ho1 : 0 ≤ o) (ho2 : o < 34) (ho3 : ¬ o < 6) (ho4 : 6 ≤ o) (ho5 : ¬ 34 ≤ o) (ho6 : ¬ u < 0) (ho7 : ¬ 28 ≤ u) (hq : (b == o) = false) (hr : (t == u) = false) (H1 : Aside0 (points_At.f 5 b = some (false, t, true))) (H2 : Aside0 (points_At.f 5 o = some (false, u, true))) :
    Calls Try.prog 5 #[.int .i64 b, .int .i64 o] w fun e w' => e = .returned (.bool true) ∧ Below w.heap.size w w' := by
  have HB0 := Aside0.mk (Below.refl w.heap.size w)
  go_enter Try.func5, Try.ntmps5
  go_wp2_with (first | (go_at_call_of 13 b; refine (points_At.calls 5 b (false) (t) (true) _ H1.out).mono ?_; rintro e w' ⟨rfl, ⟨nd, rfl⟩⟩) | (go_at_call_of 13 o; refine (points_At.calls 5 o (false) (u) (true) _ H2.out).mono ?_; rintro e w' ⟨rfl, ⟨nd, rfl⟩⟩) | (go_at_call 12; refine (wakes_true _).mono ?_; rintro e w' ⟨rfl, hb⟩; have HB1 := Aside0.mk (below_step (pw_below_drewN HB0.out _) hb); clear hb))
  go_ret
  exact ⟨rfl, HB1.out⟩
set_option maxHeartbeats 400000 in
set_option maxRecDepth 100000 in
theorem places_dir_same (b t : Int) (w : World) (hb0 : ¬ b < 0) (hb1 : 0 ≤ b) (hb2 : b < 34) (hb3 : b < 6) (hb4 : ¬ 6 ≤ b) (hb5 : ¬ 34 ≤ b)  (H1 : Aside0 (points_At.f 5 b = some (true, b, true)))  :
    Calls Try.prog 5 #[.int .i64 b, .int .i64 b] w fun e w' => e = .returned (.bool true) ∧ Below w.heap.size w w' := by
  have HB0 := Aside0.mk (Below.refl w.heap.size w)
  go_enter Try.func5, Try.ntmps5
  go_wp2_with (first | (go_at_call_of 13 b; refine (points_At.calls 5 b (true) (b) (true) _ H1.out).mono ?_; rintro e w' ⟨rfl, ⟨nd, rfl⟩⟩) | (go_at_call 12; refine (wakes_true _).mono ?_; rintro e w' ⟨rfl, hb⟩; have HB1 := Aside0.mk (below_step (pw_below_drewN HB0.out _) hb); clear hb))
  go_ret
  exact ⟨rfl, HB1.out⟩
set_option maxHeartbeats 400000 in
set_option maxRecDepth 100000 in
theorem places_ind_same (b t : Int) (w : World) (hb0 : ¬ b < 0) (hb1 : 0 ≤ b) (hb2 : b < 34) (hb3 : ¬ b < 6) (hb4 : 6 ≤ b) (hb5 : ¬ 34 ≤ b) (hb6 : ¬ t < 0) (hb7 : ¬ 28 ≤ t)  (H1 : Aside0 (points_At.f 5 b = some (false, t, true)))  :
    Calls Try.prog 5 #[.int .i64 b, .int .i64 b] w fun e w' => e = .returned (.bool true) ∧ Below w.heap.size w w' := by
  have HB0 := Aside0.mk (Below.refl w.heap.size w)
  go_enter Try.func5, Try.ntmps5
  go_wp2_with (first | (go_at_call_of 13 b; refine (points_At.calls 5 b (false) (t) (true) _ H1.out).mono ?_; rintro e w' ⟨rfl, ⟨nd, rfl⟩⟩) | (go_at_call 12; refine (wakes_true _).mono ?_; rintro e w' ⟨rfl, hb⟩; have HB1 := Aside0.mk (below_step (pw_below_drewN HB0.out _) hb); clear hb))
  go_ret
  exact ⟨rfl, HB1.out⟩
theorem places_any (b o : Int) (w : World) :
    Calls Try.prog 5 #[.int .i64 b, .int .i64 o] w fun e w' => e = .returned (.bool true) ∧ Below w.heap.size w w' := by
  rcases (show b < 0 ∨ 34 ≤ b ∨ (0 ≤ b ∧ b < 6) ∨ (6 ≤ b ∧ b < 34) from by omega) with hb | hb | hb | hb
  · rcases (show o < 0 ∨ 34 ≤ o ∨ (0 ≤ o ∧ o < 6) ∨ (6 ≤ o ∧ o < 34) from by omega) with ho | ho | ho | ho
    · exact places_neg_neg b o (b - 6) (o - 6) w (by omega) (by omega) (by omega) (by omega)  ⟨at_out b (.inl hb)⟩ ⟨at_out o (.inl ho)⟩
    · exact places_neg_big b o (b - 6) (o - 6) w (by omega) (by omega) (by omega) (by omega) (by omega) (by omega)  ⟨at_out b (.inl hb)⟩ ⟨at_out o (.inr ho)⟩
    · exact places_neg_dir b o (b - 6) (o - 6) w (by omega) (by omega) (by omega) (by omega) (by omega) (by omega) (by omega) (by omega)  ⟨at_out b (.inl hb)⟩ ⟨at_dir o ho.1 ho.2⟩
    · exact places_neg_ind b o (b - 6) (o - 6) w (by omega) (by omega) (by omega) (by omega) (by omega) (by omega) (by omega) (by omega) (by omega) (by omega)  ⟨at_out b (.inl hb)⟩ ⟨at_ind o (o - 6) ho.1 ho.2 rfl⟩
  · rcases (show o < 0 ∨ 34 ≤ o ∨ (0 ≤ o ∧ o < 6) ∨ (6 ≤ o ∧ o < 34) from by omega) with ho | ho | ho | ho
    · exact places_big_neg b o (b - 6) (o - 6) w (by omega) (by omega) (by omega) (by omega) (by omega) (by omega)  ⟨at_out b (.inr hb)⟩ ⟨at_out o (.inl ho)⟩
    · exact places_big_big b o (b - 6) (o - 6) w (by omega) (by omega) (by omega) (by omega) (by omega) (by omega) (by omega) (by omega)  ⟨at_out b (.inr hb)⟩ ⟨at_out o (.inr ho)⟩
    · exact places_big_dir b o (b - 6) (o - 6) w (by omega) (by omega) (by omega) (by omega) (by omega) (by omega) (by omega) (by omega) (by omega) (by omega)  ⟨at_out b (.inr hb)⟩ ⟨at_dir o ho.1 ho.2⟩
    · exact places_big_ind b o (b - 6) (o - 6) w (by omega) (by omega) (by omega) (by omega) (by omega) (by omega) (by omega) (by omega) (by omega) (by omega) (by omega) (by omega)  ⟨at_out b (.inr hb)⟩ ⟨at_ind o (o - 6) ho.1 ho.2 rfl⟩
  · rcases (show o < 0 ∨ 34 ≤ o ∨ (0 ≤ o ∧ o < 6) ∨ (6 ≤ o ∧ o < 34) from by omega) with ho | ho | ho | ho
    · exact places_dir_neg b o (b - 6) (o - 6) w (by omega) (by omega) (by omega) (by omega) (by omega) (by omega) (by omega) (by omega)  ⟨at_dir b hb.1 hb.2⟩ ⟨at_out o (.inl ho)⟩
    · exact places_dir_big b o (b - 6) (o - 6) w (by omega) (by omega) (by omega) (by omega) (by omega) (by omega) (by omega) (by omega) (by omega) (by omega)  ⟨at_dir b hb.1 hb.2⟩ ⟨at_out o (.inr ho)⟩
    · by_cases hq : b = o
      · subst hq; exact places_dir_same b (b - 6) w (by omega) (by omega) (by omega) (by omega) (by omega) (by omega) ⟨at_dir b hb.1 hb.2⟩
      · exact places_dir_dir b o (b - 6) (o - 6) w (by omega) (by omega) (by omega) (by omega) (by omega) (by omega) (by omega) (by omega) (by omega) (by omega) (by omega) (by omega) (beq_eq_false_iff_ne.2 (by omega)) ⟨at_dir b hb.1 hb.2⟩ ⟨at_dir o ho.1 ho.2⟩
    · exact places_dir_ind b o (b - 6) (o - 6) w (by omega) (by omega) (by omega) (by omega) (by omega) (by omega) (by omega) (by omega) (by omega) (by omega) (by omega) (by omega) (by omega) (by omega) (beq_eq_false_iff_ne.2 (by omega)) ⟨at_dir b hb.1 hb.2⟩ ⟨at_ind o (o - 6) ho.1 ho.2 rfl⟩
  · rcases (show o < 0 ∨ 34 ≤ o ∨ (0 ≤ o ∧ o < 6) ∨ (6 ≤ o ∧ o < 34) from by omega) with ho | ho | ho | ho
    · exact places_ind_neg b o (b - 6) (o - 6) w (by omega) (by omega) (by omega) (by omega) (by omega) (by omega) (by omega) (by omega) (by omega) (by omega)  ⟨at_ind b (b - 6) hb.1 hb.2 rfl⟩ ⟨at_out o (.inl ho)⟩
    · exact places_ind_big b o (b - 6) (o - 6) w (by omega) (by omega) (by omega) (by omega) (by omega) (by omega) (by omega) (by omega) (by omega) (by omega) (by omega) (by omega)  ⟨at_ind b (b - 6) hb.1 hb.2 rfl⟩ ⟨at_out o (.inr ho)⟩
    · exact places_ind_dir b o (b - 6) (o - 6) w (by omega) (by omega) (by omega) (by omega) (by omega) (by omega) (by omega) (by omega) (by omega) (by omega) (by omega) (by omega) (by omega) (by omega) (beq_eq_false_iff_ne.2 (by omega)) ⟨at_ind b (b - 6) hb.1 hb.2 rfl⟩ ⟨at_dir o ho.1 ho.2⟩
    · by_cases hq : b = o
      · subst hq; exact places_ind_same b (b - 6) w (by omega) (by omega) (by omega) (by omega) (by omega) (by omega) (by omega) (by omega) ⟨at_ind b (b - 6) hb.1 hb.2 rfl⟩
      · exact places_ind_ind b o (b - 6) (o - 6) w (by omega) (by omega) (by omega) (by omega) (by omega) (by omega) (by omega) (by omega) (by omega) (by omega) (by omega) (by omega) (by omega) (by omega) (by omega) (by omega) (beq_eq_false_iff_ne.2 (by omega)) (beq_eq_false_iff_ne.2 (by omega)) ⟨at_ind b (b - 6) hb.1 hb.2 rfl⟩ ⟨at_ind o (o - 6) ho.1 ho.2 rfl⟩
end Go.Proofs.YtjpjjddkbohbpaaX
