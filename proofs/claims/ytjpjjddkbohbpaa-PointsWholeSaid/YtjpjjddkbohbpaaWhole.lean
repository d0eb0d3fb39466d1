/- PointsWhole: any range, any place in it. -/
import Derived.Test.YtjpjjddkbohbpaaWholeWalk
namespace Go.Proofs.YtjpjjddkbohbpaaX
open Go.RowKit Go.Proofs.YtjpjjddkbohbpaaW.PrintWords Go.Proofs.Ytjpjjddkbohbpaa.PPointsCut
set_option linter.unusedVariables false
section
variable (off n at' : Int) (w : World)
set_option maxHeartbeats 1000000 in
set_option maxRecDepth 100000 in
theorem whole_no1 (ho : off < 0) : Calls Try.prog 4 #[.int .i64 off, .int .i64 n, .int .i64 at'] w fun e w' => e = .returned (.bool true) ∧ Below w.heap.size w w' := by
  have hu31 := Try.underlying31
  have G1 : Aside0 (points_Cut.f 1 off n = some ([], 1)) := ⟨by rw [points_Cut.f, if_pos ho]; rfl⟩
  have h2 : decide (off < 0) = true := decide_eq_true ho
  go_enter Try.func4, Try.ntmps4
  go_wp2_with (first | (go_at_call 10; refine (points_Cut.calls 1 off n [] 1 _ G1.out).mono ?_; rintro e w1 ⟨v1, rfl, ho1, hb⟩; have HB1 := Aside0.mk hb; obtain ⟨A1, p1, rfl, hp1, hr1⟩ := Kd.R_reads ho1; clear hb ho1 hr1) | (go_at_call 12; refine (wakes_true _).mono ?_; rintro e w9 ⟨rfl, hb⟩; have HB9 := Aside0.mk (below_step HB1.out hb); clear hb))
  go_ret
  exact ⟨rfl, HB9.out⟩
set_option maxHeartbeats 1000000 in
set_option maxRecDepth 100000 in
theorem whole_no2 (ho : ¬ off < 0) (hn : n < 0) : Calls Try.prog 4 #[.int .i64 off, .int .i64 n, .int .i64 at'] w fun e w' => e = .returned (.bool true) ∧ Below w.heap.size w w' := by
  have hu31 := Try.underlying31
  have G1 : Aside0 (points_Cut.f 1 off n = some ([], 1)) := ⟨by rw [points_Cut.f, if_neg ho, decide_eq_true hn]; rfl⟩
  have h2 : decide (off < 0) = false := decide_eq_false ho
  have h3 : decide (n < 0) = true := decide_eq_true hn
  go_enter Try.func4, Try.ntmps4
  go_wp2_with (first | (go_at_call 10; refine (points_Cut.calls 1 off n [] 1 _ G1.out).mono ?_; rintro e w1 ⟨v1, rfl, ho1, hb⟩; have HB1 := Aside0.mk hb; obtain ⟨A1, p1, rfl, hp1, hr1⟩ := Kd.R_reads ho1; clear hb ho1 hr1) | (go_at_call 12; refine (wakes_true _).mono ?_; rintro e w9 ⟨rfl, hb⟩; have HB9 := Aside0.mk (below_step HB1.out hb); clear hb))
  go_ret
  exact ⟨rfl, HB9.out⟩
set_option maxHeartbeats 1000000 in
set_option maxRecDepth 100000 in
theorem whole_no3 (ho : ¬ off < 0) (hn : ¬ n < 0) (hs : 3808 < off) : Calls Try.prog 4 #[.int .i64 off, .int .i64 n, .int .i64 at'] w fun e w' => e = .returned (.bool true) ∧ Below w.heap.size w w' := by
  have hu31 := Try.underlying31
  have G1 : Aside0 (points_Cut.f 1 off n = some ([], 39)) := ⟨by rw [points_Cut.f, if_neg ho, decide_eq_false hn]; simp only [points_Cut.j0, Bool.false_eq_true, if_false]; rw [if_pos (show off > 3808 from hs)]⟩
  have h2 : decide (off < 0) = false := decide_eq_false ho
  have h3 : decide (n < 0) = false := decide_eq_false hn
  have h4 : decide (3808 < off) = true := decide_eq_true hs
  go_enter Try.func4, Try.ntmps4
  go_wp2_with (first | (go_at_call 10; refine (points_Cut.calls 1 off n [] 39 _ G1.out).mono ?_; rintro e w1 ⟨v1, rfl, ho1, hb⟩; have HB1 := Aside0.mk hb; obtain ⟨A1, p1, rfl, hp1, hr1⟩ := Kd.R_reads ho1; clear hb ho1 hr1) | (go_at_call 12; refine (wakes_true _).mono ?_; rintro e w9 ⟨rfl, hb⟩; have HB9 := Aside0.mk (below_step HB1.out hb); clear hb))
  go_ret
  exact ⟨rfl, HB9.out⟩
set_option maxHeartbeats 1000000 in
set_option maxRecDepth 100000 in
theorem whole_no4 (room : Int) (ho : ¬ off < 0) (hn : ¬ n < 0) (hs : ¬ 3808 < off) (hw : IntKind.i64.wrap (3808 - off) = room) (hr : room < n) : Calls Try.prog 4 #[.int .i64 off, .int .i64 n, .int .i64 at'] w fun e w' => e = .returned (.bool true) ∧ Below w.heap.size w w' := by
  have hu31 := Try.underlying31
  have hw' : wrap64 (3808 - off) = room := (cw64 (by omega)).trans ((IntWalk.i64_in _ (by omega)).symm.trans hw)
  have G1 : Aside0 (points_Cut.f 1 off n = some ([], 39)) := ⟨by rw [points_Cut.f, if_neg ho, decide_eq_false hn]; simp only [points_Cut.j0, Bool.false_eq_true, if_false]; rw [if_neg (show ¬ off > 3808 from hs), hw', if_pos (show n > room from hr)]⟩
  clear hw'
  have h2 : decide (off < 0) = false := decide_eq_false ho
  have h3 : decide (n < 0) = false := decide_eq_false hn
  have h4 : decide (3808 < off) = false := decide_eq_false hs
  have h5 : decide (room < n) = true := decide_eq_true hr
  go_enter Try.func4, Try.ntmps4
  go_wp2_with (first | (go_at_call 10; refine (points_Cut.calls 1 off n [] 39 _ G1.out).mono ?_; rintro e w1 ⟨v1, rfl, ho1, hb⟩; have HB1 := Aside0.mk hb; obtain ⟨A1, p1, rfl, hp1, hr1⟩ := Kd.R_reads ho1; clear hb ho1 hr1) | (go_at_call 12; refine (wakes_true _).mono ?_; rintro e w9 ⟨rfl, hb⟩; have HB9 := Aside0.mk (below_step HB1.out hb); clear hb))
  go_ret
  exact ⟨rfl, HB9.out⟩
end
theorem at_ok (B : Int) (h0 : 0 ≤ B) (h34 : B < 34) : ∃ r1 r2, points_At.f 5 B = some (r1, r2, true) := by
  unfold points_At.f
  rw [if_neg (by omega), decide_eq_false (by omega)]
  simp only [points_At.j0, Bool.false_eq_true, if_false]
  by_cases h6 : B < 6
  · rw [if_pos h6]; exact ⟨_, _, rfl⟩
  · rw [if_neg h6]; exact ⟨_, _, rfl⟩
theorem joined0 {off n kk : Int} (ho : 0 ≤ off) (hk0 : 0 ≤ kk) (hkn : kk ≤ n) (h : cnt off kk = 0 ∨ cnt (off + kk) (n - kk) = 0) : cnt off kk + cnt (off + kk) (n - kk) = cnt off n := by
  unfold cnt at *
  by_cases h1 : kk = 0
  · subst h1; simp
  · by_cases h2 : n - kk = 0
    · have : n = kk := by omega
      subst this; simp
    · rw [if_neg h1] at h
      rw [if_neg h2] at h
      omega
theorem joined1 {off n kk : Int} (ho : 0 ≤ off) (hk0 : 0 ≤ kk) (hkn : kk ≤ n) (h1 : 0 < cnt off kk) (h2 : 0 < cnt (off + kk) (n - kk)) (he : off / 112 + ((cnt off kk - 1 : Nat) : Int) = (off + kk) / 112 + ((0 : Nat) : Int)) :
    cnt off kk + cnt (off + kk) (n - kk) = cnt off n + 1 := by
  unfold cnt at *
  by_cases h3 : kk = 0
  · rw [if_pos h3] at h1; omega
  · by_cases h4 : n - kk = 0
    · rw [if_pos h4] at h2; omega
    · rw [if_neg h3] at h1 he ⊢
      rw [if_neg h4] at h2 ⊢
      rw [if_neg (by omega)]
      omega
theorem joined2 {off n kk : Int} (ho : 0 ≤ off) (hk0 : 0 ≤ kk) (hkn : kk ≤ n) (h1 : 0 < cnt off kk) (h2 : 0 < cnt (off + kk) (n - kk)) (he : ¬ off / 112 + ((cnt off kk - 1 : Nat) : Int) = (off + kk) / 112 + ((0 : Nat) : Int)) :
    cnt off kk + cnt (off + kk) (n - kk) = cnt off n := by
  unfold cnt at *
  by_cases h3 : kk = 0
  · rw [if_pos h3] at h1; omega
  · by_cases h4 : n - kk = 0
    · rw [if_pos h4] at h2; omega
    · rw [if_neg h3] at h1 he ⊢
      rw [if_neg h4] at h2 ⊢
      rw [if_neg (by omega)]
      omega
theorem whole_law (off n at' : Int) (w : World) (h0 : -9223372036854775808 ≤ off ∧ off ≤ 9223372036854775807) (h1 : -9223372036854775808 ≤ n ∧ n ≤ 9223372036854775807) :
    Calls Try.prog 4 #[.int .i64 off, .int .i64 n, .int .i64 at'] w fun e w' => e = .returned (.bool true) ∧ Below w.heap.size w w' := by
  by_cases ho : off < 0
  · exact whole_no1 off n at' w ho
  by_cases hn : n < 0
  · exact whole_no2 off n at' w ho hn
  by_cases hs : 3808 < off
  · exact whole_no3 off n at' w ho hn hs
  have hw : IntKind.i64.wrap (3808 - off) = 3808 - off := IntWalk.i64_in _ (by omega)
  by_cases hr : 3808 - off < n
  · exact whole_no4 off n at' w (3808 - off) ho hn hs hw hr
  obtain ⟨kk, hkk⟩ : ∃ kk, (IntKind.u64.wrap at').tmod (n + 1) = kk := ⟨_, rfl⟩
  have hu : 0 ≤ IntKind.u64.wrap at' := by rw [IntKind.wrap_u64]; omega
  have hk : 0 ≤ kk ∧ kk ≤ n := by
    rw [← hkk, Int.tmod_eq_emod_of_nonneg hu]
    have a1 := Int.emod_nonneg (IntKind.u64.wrap at') (show n + 1 ≠ 0 by omega)
    have a2 := Int.emod_lt_of_pos (IntKind.u64.wrap at') (show 0 < n + 1 by omega)
    omega
  obtain ⟨k1, H1⟩ := cut_pieces off n (by omega) (by omega) (by omega)
  obtain ⟨k2, H2⟩ := cut_pieces off kk (by omega) (by omega) (by omega)
  obtain ⟨k3, H3⟩ := cut_pieces (off + kk) (n - kk) (by omega) (by omega) (by omega)
  exact whole_walk wakes_true off n at' kk (3808 - off) k1 k2 k3 (cnt off n) (cnt off kk) (cnt (off + kk) (n - kk)) w ho hn hs hw hr H1 H2 H3 rfl
    (fun h => joined0 (by omega) hk.1 hk.2 h) (fun a b h => joined1 (by omega) hk.1 hk.2 a b h) (fun a b h => joined2 (by omega) hk.1 hk.2 a b h) (cnt_le (by omega) (by omega) (by omega))
    (by rw [hkk]; exact cw64 (by omega)) hk.1 hk.2 at_ok
end Go.Proofs.YtjpjjddkbohbpaaX
