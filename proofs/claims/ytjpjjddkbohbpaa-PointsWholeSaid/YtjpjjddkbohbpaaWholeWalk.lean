/- PointsWhole: the walk, any range that may be. -/
import Derived.Test.YtjpjjddkbohbpaaPieces
import Derived.Test.YtjpjjddkbohbpaaEv
import Derived.Test.YtjpjjddkbohbpaaWakes
import Derived.Deep.QuietTactic
import Derived.BigQuiet
namespace Go.Proofs.YtjpjjddkbohbpaaX
open Go.RowKit Go.Proofs.YtjpjjddkbohbpaaW.PrintWords Go.Proofs.Ytjpjjddkbohbpaa.PPointsCut
set_option linter.unusedVariables false
theorem sizePiece : (Try.prog.info? 31).map (·.size) = some 4 := by kernel_rfl
theorem start_zero (off n : Int) (hn : 0 ≤ n) : startAt off n 0 = 0 := by
  unfold startAt cnt
  by_cases h : n = 0
  · rw [if_pos h, if_pos rfl]; exact h
  · rw [if_neg h]
    by_cases h2 : 0 = ((off + n - 1) / 112 - off / 112 + 1).toNat
    · omega
    · rw [if_neg h2, if_pos rfl]
theorem four_one (a b c d : Int) : (#[Value.int .i64 a, .int .i64 b, .int .i64 c, .int .i64 d] : Array Value).all (·.oneCell') = true := by
  simp [Value.oneCell']
set_option maxHeartbeats 8000000 in
set_option maxRecDepth 100000 in
theorem whole_walk (wk : ∀ W : World, Calls Try.prog 12 #[] W fun e w' => e = .returned (.bool true) ∧ Below W.heap.size W w')
    (off n at' kk room : Int) (k1 k2 k3 : Nat) (c c1 c2 : Nat) (w : World) (ho : ¬ off < 0) (hn : ¬ n < 0) (hs : ¬ 3808 < off) (hw : IntKind.i64.wrap (3808 - off) = room) (hr : ¬ room < n)
    (H1 : points_Cut.f k1 off n = some (pieces off n c, 0)) (H2 : points_Cut.f k2 off kk = some (pieces off kk c1, 0)) (H3 : points_Cut.f k3 (off + kk) (n - kk) = some (pieces (off + kk) (n - kk) c2, 0)) (hc : c = cnt off n)
    (hj0 : c1 = 0 ∨ c2 = 0 → c1 + c2 = c) (hj1 : 0 < c1 → 0 < c2 → off / 112 + ((c1 - 1 : Nat) : Int) = (off + kk) / 112 + ((0 : Nat) : Int) → c1 + c2 = c + 1) (hj2 : 0 < c1 → 0 < c2 → ¬ off / 112 + ((c1 - 1 : Nat) : Int) = (off + kk) / 112 + ((0 : Nat) : Int) → c1 + c2 = c) (hc34 : c ≤ 34)
    (hkk : wrap64 ((IntKind.u64.wrap at').tmod (n + 1)) = kk) (hk0 : 0 ≤ kk) (hkn : kk ≤ n) (hat : ∀ B : Int, 0 ≤ B → B < 34 → ∃ r1 r2, points_At.f 5 B = some (r1, r2, true)) :
    Calls Try.prog 4 #[.int .i64 off, .int .i64 n, .int .i64 at'] w fun e w' => e = .returned (.bool true) ∧ Below w.heap.size w w' := by
  have hu31 := Try.underlying31
  have G1 := Aside0.mk H1
  have G2 := Aside0.mk H2
  have G3 := Aside0.mk H3
  have WK := Aside0.mk wk
  have HC := Aside0.mk hc
  have HAT := Aside0.mk hat
  have HJ0 := Aside0.mk hj0
  have HJ1 := Aside0.mk hj1
  have HJ2 := Aside0.mk hj2
  have H34 := Aside0.mk hc34
  have HKK := Aside0.mk hkk
  have HK0 := Aside0.mk hk0
  have HKN := Aside0.mk hkn
  clear H1 H2 H3 wk hc hat hkk hk0 hkn hj0 hj1 hj2 hc34
  go_enter Try.func4, Try.ntmps4
  go_wp2_with (first | (go_at_call 10; refine (points_Cut.calls k1 off n (pieces off n c) 0 _ G1.out).mono ?_; rintro e w1 ⟨v1, rfl, ho1, hb⟩; have HB1 := Aside0.mk hb; obtain ⟨A1, p1, rfl, hp1, hr1⟩ := Kd.R_reads ho1; rw [pieces_length] at hr1 hp1; rw [pieces_length]; have HC1 := Aside0.mk hr1; clear hb ho1 hr1))
  have hcm := Kd.C_max HC1.out
  have HM := Aside0.mk hcm
  go_loopw [9, 10] (fun s i wr => ∃ (j : Nat) (S : Int), j ≤ c ∧ i = .int .i64 j ∧ s = .int .i64 S ∧ Aside0 (startAt off n j = S) ∧ Aside0 (Kd.C k31 wr A1 c (pieces off n c)) ∧ Aside0 (Below w.heap.size w wr)) (fun _ i _ => c - (intOf i).toNat)
  case atStart => exact ⟨0, 0, Nat.zero_le _, rfl, rfl, ⟨start_zero _ _ (by omega)⟩, HC1, HB1⟩
  case round =>
    obtain ⟨j, S, hj, rfl, rfl, HS, C1, HB⟩ := hrel
    clear HC1 HB1
    by_cases hlt : j < c
    · have hlt' : (j : Int) < (c : Int) := by omega
      have hj0 : (0 : Int) ≤ (j : Int) := Int.natCast_nonneg _
      obtain ⟨f1, f2, f3, f4, f5, f6⟩ := start_lt (off := off) (n := n) (j := j) (by omega) (by omega) (by have := HC.out; omega)
      have hroom : room = 3808 - off := by rw [← hw]; exact IntWalk.i64_in _ (by omega)
      have hB34 : 0 ≤ off / 112 + (j : Int) ∧ off / 112 + (j : Int) < 34 := by omega
      obtain ⟨r1, r2, hat⟩ := HAT.out _ hB34.1 hB34.2
      have hfro : 0 ≤ fromOf off j ∧ fromOf off j < 112 := by rw [← f4]; omega
      have hto : ¬ toOf off n j ≤ fromOf off j ∧ ¬ 112 < toOf off n j := by rw [f6]; split <;> omega
      have hlast : (j : Int) < (c : Int) - 1 → toOf off n j = 112 := by intro h; unfold toOf; rw [if_neg (by have := HC.out; omega)]
      have hfirst : 0 < j → fromOf off j = 0 := by intro h; unfold fromOf; rw [if_neg (by omega)]
      have hmul : (off / 112 + (j : Int)) * 112 + fromOf off j = off + startAt off n j := by omega
      obtain ⟨ad1, rfl, q0, q1, q2, q3⟩ := at_T31 C1.out j (by omega) (by omega)
      rw [rd_pieces _ _ _ _ (by omega)] at q0 q1 q2 q3
      simp only [piece, Int.toNat_natCast] at q0 q1 q2 q3
      obtain ⟨S', hS'⟩ : ∃ S', startAt off n (j + 1) = S' := ⟨_, rfl⟩
      rw [hS'] at f5
      have HS' := Aside0.mk hS'
      obtain ⟨P, hP⟩ : ∃ P, P = off / 112 + (j : Int) - 1 := ⟨_, rfl⟩
      have hS := HS.out
      have HP := Aside0.mk hP
      have HHB := Aside0.mk (show off / 112 + (j : Int) = P + 1 by omega)
      generalize hBe : off / 112 + (j : Int) = B at q0 hat hmul hB34 hP
      generalize hFe : fromOf off j = F at q1 hmul hfro hto hfirst f5
      generalize hTe : toOf off n j = T at q2 hto hlast f5
      rw [hS] at f1 f2 f5 q3 hmul
      have w1' : IntKind.i64.wrap (B * 112) = B * 112 := IntWalk.i64_in _ (by omega)
      have w2' : IntKind.i64.wrap (B * 112 + F) = off + S := (IntWalk.i64_in _ (by omega)).trans hmul
      have w3' : IntKind.i64.wrap (off + S) = off + S := IntWalk.i64_in _ (by omega)
      have w4' : IntKind.i64.wrap (S + T) = S + T := IntWalk.i64_in _ (by omega)
      have w5' : IntKind.i64.wrap (S + T - F) = S' := (IntWalk.i64_in _ (by omega)).trans (by omega)
      have w6' : IntKind.i64.wrap ((j : Int) + 1) = (j : Int) + 1 := IntWalk.i64_in _ (by omega)
      have w7' : IntKind.i64.wrap ((c : Int) - 1) = (c : Int) - 1 := IntWalk.i64_in _ (by omega)
      have w8' : IntKind.i64.wrap (P + 1) = B := (IntWalk.i64_in _ (by omega)).trans (by omega)
      have w9' : IntKind.i64.wrap ((j : Int) - 1) = (j : Int) - 1 := IntWalk.i64_in _ (by omega)
      have t1 : decide (T ≤ F) = false := decide_eq_false hto.1
      have t2 : decide (112 < T) = false := decide_eq_false hto.2
      have HAB := Aside0.mk hat
      have HF5 := Aside0.mk f5
      have HBE := Aside0.mk hBe
      have HFI := Aside0.mk hfirst
      have HLA := Aside0.mk hlast
      clear hto f1 f2 f3 f4 f5 f6 hB34 hfro hmul hlast hfirst hroom hP hBe hFe hTe hS hS' hat
      go_wp2_with (first | ((with_reducible refine gate_dst (N := 11) rfl ?_); refine box_event ?hg (N := 11) ?hd (cs := #[.int .i64 0, .int .i64 0, .int .i64 0, .int .i64 0]) (t := 31) ?hr ?_; (case hd => rfl); (case hg => rfl); (case hr => first | (go_simp; done) | (go_simp; rfl)); intro ga hg w2 hbox hb; have GA := Aside0.mk (show w.heap.size ≤ ga from by have := HB.out.size; omega); have HB2 := Aside0.mk (below_step HB.out hb); have BA2 := Aside0.mk hbox; have NB := Aside0.mk (show wr.heap.size ≤ ga from by omega); have HBr := Aside0.mk hb; clear hb hbox hg) | ((with_reducible refine gate_store (t := 31) (p := 11) (v := .tmp 73) rfl ?_); refine ev_store_row (by rfl) 31 (.tmp 11) (.tmp 73) (by rfl) ga #[.int .i64 B, .int .i64 F, .int .i64 T, .int .i64 S] (by kernel_rfl) (by kernel_rfl) 31 _ BA2.out sizePiece (by rfl) (four_one B F T S) ?_; intro w3 hbox hg; have BA3 := Aside0.mk hbox; have HB3 := Aside0.mk (pw_below_grown HB2.out _ HB2.out.size hg (fun q e => by cases e; exact GA.out)); have HBr3 := Aside0.mk (pw_below_grown HBr.out _ HBr.out.size hg (fun q e => by cases e; exact NB.out)); clear hbox hg))
      have C3 := Aside0.mk (Kd.C_below C1.out HBr3.out)
      have d0 := blk_cell BA3.out 0
      have d1 := blk_cell BA3.out 1
      have d2 := blk_cell BA3.out 2
      have d3 := blk_cell BA3.out 3
      simp at d0 d1 d2 d3
      clear q0 q1 q2 q3
      have fin : ∀ nq : Nat, Aside0 (Kd.C k31 (w3.drewN nq) (some ad1) c (pieces off n c)) ∧ Aside0 (Below w.heap.size w (w3.drewN nq)) := fun nq => ⟨⟨Kd.C_drewN C3.out nq⟩, ⟨pw_below_drewN HB3.out nq⟩⟩
      have FIN := Aside0.mk fin
      clear fin
      by_cases hj1 : 0 < j
      · have g1 : decide (0 < j) = true := decide_eq_true hj1
        have hj1' : (0 : Int) < (j : Int) := by omega
        have g2 : decide ((0 : Int) < (j : Int)) = true := decide_eq_true hj1'
        have hF0 := HFI.out hj1
        subst hF0
        have hBm : B * 112 = off + S := by rw [Int.add_zero] at w2'; rw [← w2']; exact w1'.symm
        clear w1' w2'
        have hpr := at_T31 C3.out ((j : Int) - 1) (by omega) (by omega)
        obtain ⟨ad', he, p0, _, _, _⟩ := hpr
        cases he
        have ej : ((j : Int) - 1).toNat = j - 1 := by omega
        rw [show ((j : Int) - 1) = ((j - 1 : Nat) : Int) from by omega, rd_pieces _ _ _ _ (by omega)] at p0
        simp only [piece, Int.toNat_natCast] at p0
        rw [show off / 112 + ((j - 1 : Nat) : Int) = P from by have := HP.out; have := HHB.out; omega] at p0
        refine wp_region_quiet_lit (by kernel_rfl) (by kernel_rfl) ?_
        conv => rhs; simp [go_sem]
        repeat (go_big_quiet_step (fail))
        refine wpQuiet_nil ?_
        intro _ hw'
        obtain ⟨nq, hw''⟩ := hw'
        subst hw''
        by_cases hc1 : (j : Int) < (c : Int) - 1
        · have hT := HLA.out hc1
          subst hT
          go_wp2_with (first | (go_at_call 13; refine (points_At.calls 5 B r1 r2 true _ HAB.out).mono ?_; rintro e w4 ⟨rfl, ⟨nd, rfl⟩⟩))
          exact ⟨⟨j + 1, S', by omega, by go_num, congrArg (Value.int .i64) (by have := HF5.out; omega), HS', (FIN.out _).1, (FIN.out _).2⟩, by simp [intOf]; omega⟩
        · have hcd : decide ((j : Int) < (c : Int) - 1) = false := decide_eq_false hc1
          go_wp2_with (first | (go_at_call 13; refine (points_At.calls 5 B r1 r2 true _ HAB.out).mono ?_; rintro e w4 ⟨rfl, ⟨nd, rfl⟩⟩))
          exact ⟨⟨j + 1, S', by omega, by go_num, congrArg (Value.int .i64) (by have := HF5.out; omega), HS', (FIN.out _).1, (FIN.out _).2⟩, by simp [intOf]; omega⟩
      · obtain rfl : j = 0 := by omega
        refine wp_region_quiet_lit (by kernel_rfl) (by kernel_rfl) ?_
        conv => rhs; simp [go_sem]
        repeat (go_big_quiet_step (fail))
        refine wpQuiet_nil ?_
        intro _ hw'
        obtain ⟨nq, hw''⟩ := hw'
        subst hw''
        by_cases hc1 : (0 : Int) < (c : Int) - 1
        · have hT := HLA.out hc1
          subst hT
          go_wp2_with (first | (go_at_call 13; refine (points_At.calls 5 B r1 r2 true _ HAB.out).mono ?_; rintro e w4 ⟨rfl, ⟨nd, rfl⟩⟩))
          exact ⟨⟨1, S', by omega, rfl, rfl, HS', (FIN.out _).1, (FIN.out _).2⟩, by simp [intOf]; omega⟩
        · have hcd : decide (((0 : Nat) : Int) < (c : Int) - 1) = false := decide_eq_false hc1
          have hcd' : decide ((0 : Int) < (c : Int) - 1) = false := decide_eq_false hc1
          go_wp2_with (first | (go_at_call 13; refine (points_At.calls 5 B r1 r2 true _ HAB.out).mono ?_; rintro e w4 ⟨rfl, ⟨nd, rfl⟩⟩))
          exact ⟨⟨1, S', by omega, rfl, rfl, HS', (FIN.out _).1, (FIN.out _).2⟩, by simp [intOf]; omega⟩
    · have hjc : j = c := by omega
      have hSn : S = n := by rw [← HS.out, hjc]; unfold startAt; rw [if_pos HC.out]
      subst hSn
      subst hjc
      clear hlt hj HS
      have hroom : room = 3808 - off := by rw [← hw]; exact IntWalk.i64_in _ (by omega)
      have hkk := HKK.out
      have hk0 := HK0.out
      have hkn := HKN.out
      have y1 : IntKind.i64.wrap (off + kk) = off + kk := IntWalk.i64_in _ (by omega)
      have y2 : IntKind.i64.wrap (S - kk) = S - kk := IntWalk.i64_in _ (by omega)
      have x1 : IntKind.i64.wrap (S + 1) = S + 1 := IntWalk.i64_in _ (by omega)
      go_wp2_with (first | (have hz := HC5.out; clear hz; go_at_call 10; refine (points_Cut.calls k3 (off + kk) (S - kk) (pieces (off + kk) (S - kk) c2) 0 _ G3.out).mono ?_; rintro e w6 ⟨v6, rfl, ho6, hb⟩; have HB6 := Aside0.mk (below_step HB5.out hb); have HC5b := Aside0.mk (Kd.C_below HC5.out hb); obtain ⟨A6, p6, rfl, hp6, hr6⟩ := Kd.R_reads ho6; rw [pieces_length] at hr6 hp6; rw [pieces_length]; have HC6 := Aside0.mk hr6; clear hb ho6 hr6) | (go_at_call 10; refine (points_Cut.calls k2 off kk (pieces off kk c1) 0 _ G2.out).mono ?_; rintro e w5 ⟨v5, rfl, ho5, hb⟩; have HB5 := Aside0.mk (below_step HB.out hb); obtain ⟨A5, p5, rfl, hp5, hr5⟩ := Kd.R_reads ho5; rw [pieces_length] at hr5 hp5; rw [pieces_length]; have HC5 := Aside0.mk hr5; clear hb ho5 hr5))
      have h34 := H34.out
      have hmm5 := Kd.C_max HC5b.out
      have hmm6 := Kd.C_max HC6.out
      have MM5 := Aside0.mk hmm5
      have MM6 := Aside0.mk hmm6
      clear hmm5 hmm6 hkk
      by_cases hz1 : 0 < c1
      · have z1 : (0 : Int) < (c1 : Int) := by omega
        have z1d : decide ((0 : Int) < (c1 : Int)) = true := decide_eq_true z1
        have z1e : decide (0 < c1) = true := decide_eq_true hz1
        by_cases hz2 : 0 < c2
        · have z2 : (0 : Int) < (c2 : Int) := by omega
          have z2d : decide ((0 : Int) < (c2 : Int)) = true := decide_eq_true z2
          have z2e : decide (0 < c2) = true := decide_eq_true hz2
          obtain ⟨ad5, rfl, p0, _, _, _⟩ := at_T31 HC5b.out ((c1 : Int) - 1) (by omega) (by omega)
          obtain ⟨ad6, rfl, r0, _, _, _⟩ := at_T31 HC6.out 0 (by omega) (by omega)
          rw [show ((c1 : Int) - 1) = ((c1 - 1 : Nat) : Int) from by omega, rd_pieces _ _ _ _ (by omega)] at p0
          rw [show (0 : Int) = ((0 : Nat) : Int) from rfl, rd_pieces _ _ _ _ (by omega)] at r0
          simp only [piece, Int.toNat_natCast] at p0 r0
          have r0b := r0
          rw [show ad6.add (0 * 4) = ad6 from by simp [Addr.add]] at r0b
          have J1 := HJ1.out hz1 hz2
          have J2 := HJ2.out hz1 hz2
          generalize off / 112 + ((c1 - 1 : Nat) : Int) = X at p0 J1 J2
          generalize (off + kk) / 112 + ((0 : Nat) : Int) = Y at r0 r0b J1 J2
          by_cases hXY : X = Y
          · have J := J1 hXY
            subst hXY
            have zw : IntKind.i64.wrap ((c1 : Int) - 1) = (c1 : Int) - 1 := IntWalk.i64_in _ (by omega)
            have v1 : IntKind.i64.wrap ((c1 : Int) + (c2 : Int)) = (j : Int) + 1 := (IntWalk.i64_in _ (by omega)).trans (by omega)
            have v2 : IntKind.i64.wrap ((j : Int) + 1 - 1) = (j : Int) := (IntWalk.i64_in _ (by omega)).trans (by omega)
            have v3 : IntKind.i64.wrap (j : Int) = (j : Int) := IntWalk.i64_in _ (by omega)
            clear J1 J2 J
            refine wp_region_quiet_lit (by kernel_rfl) (by kernel_rfl) ?_
            (try (conv => rhs; simp [go_sem]))
            repeat (go_big_quiet_step (fail))
            refine wpQuiet_nil ?_
            intro _ hw'
            obtain ⟨nq, hw''⟩ := hw'
            subst hw''
            go_wp2_with (first | (go_at_call 12; refine (WK.out _).mono ?_; rintro e w9 ⟨rfl, hb⟩; have HB9 := Aside0.mk (below_step (pw_below_drewN HB6.out _) hb); clear hb))
            go_ret
            exact ⟨rfl, HB9.out⟩
          · have J := J2 hXY
            have zw : IntKind.i64.wrap ((c1 : Int) - 1) = (c1 : Int) - 1 := IntWalk.i64_in _ (by omega)
            have v1 : IntKind.i64.wrap ((c1 : Int) + (c2 : Int)) = (j : Int) := (IntWalk.i64_in _ (by omega)).trans (by omega)
            have v3 : IntKind.i64.wrap (j : Int) = (j : Int) := IntWalk.i64_in _ (by omega)
            have q1 : decide (X = Y) = false := decide_eq_false hXY
            have q2 : (X == Y) = false := by simpa using hXY
            clear J1 J2 J
            refine wp_region_quiet_lit (by kernel_rfl) (by kernel_rfl) ?_
            (try (conv => rhs; simp [go_sem]))
            repeat (go_big_quiet_step (fail))
            refine wpQuiet_nil ?_
            intro _ hw'
            obtain ⟨nq, hw''⟩ := hw'
            subst hw''
            go_wp2_with (first | (go_at_call 12; refine (WK.out _).mono ?_; rintro e w9 ⟨rfl, hb⟩; have HB9 := Aside0.mk (below_step (pw_below_drewN HB6.out _) hb); clear hb))
            go_ret
            exact ⟨rfl, HB9.out⟩
        · have z2 : ¬ (0 : Int) < (c2 : Int) := by omega
          have z2d : decide ((0 : Int) < (c2 : Int)) = false := decide_eq_false z2
          have z2e : decide (0 < c2) = false := decide_eq_false hz2
          have J := HJ0.out (.inr (by omega))
          have v1 : IntKind.i64.wrap ((c1 : Int) + (c2 : Int)) = (j : Int) := (IntWalk.i64_in _ (by omega)).trans (by omega)
          have v3 : IntKind.i64.wrap (j : Int) = (j : Int) := IntWalk.i64_in _ (by omega)
          clear J
          refine wp_region_quiet_lit (by kernel_rfl) (by kernel_rfl) ?_
          (try (conv => rhs; simp [go_sem]))
          repeat (go_big_quiet_step (fail))
          refine wpQuiet_nil ?_
          intro _ hw'
          obtain ⟨nq, hw''⟩ := hw'
          subst hw''
          go_wp2_with (first | (go_at_call 12; refine (WK.out _).mono ?_; rintro e w9 ⟨rfl, hb⟩; have HB9 := Aside0.mk (below_step (pw_below_drewN HB6.out _) hb); clear hb))
          go_ret
          exact ⟨rfl, HB9.out⟩
      · have z1 : ¬ (0 : Int) < (c1 : Int) := by omega
        have z1d : decide ((0 : Int) < (c1 : Int)) = false := decide_eq_false z1
        have z1e : decide (0 < c1) = false := decide_eq_false hz1
        have J := HJ0.out (.inl (by omega))
        have v1 : IntKind.i64.wrap ((c1 : Int) + (c2 : Int)) = (j : Int) := (IntWalk.i64_in _ (by omega)).trans (by omega)
        have v3 : IntKind.i64.wrap (j : Int) = (j : Int) := IntWalk.i64_in _ (by omega)
        clear J
        refine wp_region_quiet_lit (by kernel_rfl) (by kernel_rfl) ?_
        (try (conv => rhs; simp [go_sem]))
        repeat (go_big_quiet_step (fail))
        refine wpQuiet_nil ?_
        intro _ hw'
        obtain ⟨nq, hw''⟩ := hw'
        subst hw''
        go_wp2_with (first | (go_at_call 12; refine (WK.out _).mono ?_; rintro e w9 ⟨rfl, hb⟩; have HB9 := Aside0.mk (below_step (pw_below_drewN HB6.out _) hb); clear hb))
        go_ret
        exact ⟨rfl, HB9.out⟩
end Go.Proofs.YtjpjjddkbohbpaaX
