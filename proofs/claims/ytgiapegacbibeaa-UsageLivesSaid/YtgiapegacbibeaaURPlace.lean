/- The document's Place. -/
import Derived.Test.YtgiapegacbibeaaUWakes
namespace Go.Proofs.Ytgiapegacbibeaa.UM
open Go.RowKit Go.Proofs.YtgiapegacbibeaaX Go.Proofs.YtgiapegacbibeaaW.PrintWords
set_option linter.unusedVariables false
theorem place_arg (K N S a : Int) (h : ¬ ((1 ≤ K ∧ K ≤ 255) ∧ 1 ≤ S ∧ S ≤ 128)) : Go.Proofs.Ytgiapegacbibeaa.PUsageLives.usage_Place.f K N S a = some (0, 0, 1) := by
  unfold Go.Proofs.Ytgiapegacbibeaa.PUsageLives.usage_Place.f
  rw [blocks_no K N S h, Option.bind_some, if_pos rfl]
theorem may_f (K N S : Int) : Go.Proofs.Ytgiapegacbibeaa.PUsageLives.hayrickref15_May.f K N S = some (decide ((1 ≤ K ∧ K ≤ 255) ∧ 1 ≤ S ∧ S ≤ 128)) := by
  unfold Go.Proofs.Ytgiapegacbibeaa.PUsageLives.hayrickref15_May.f
  split
  · split
    · split
      · rw [decide_eq_decide.2 (show S ≤ 128 ↔ ((1 ≤ K ∧ K ≤ 255) ∧ 1 ≤ S ∧ S ≤ 128) by omega)]
      · rw [decide_eq_false (by omega)]
    · rw [decide_eq_false (by omega)]
  · rw [decide_eq_false (by omega)]
set_option maxHeartbeats 2000000 in
set_option maxRecDepth 100000 in
theorem rplace_no (K N S a : Int) (w : World) (h : ¬ ((1 ≤ K ∧ K ≤ 255) ∧ 1 ≤ S ∧ S ≤ 128)) :
    Calls Try.prog 10 #[.agg #[.int .i64 K, .int .i64 N, .int .i64 S], .int .u32 a] w fun e w' => e = .returned (.tuple #[.int .i64 0, .int .i64 0, .int .i64 1]) ∧ Below w.heap.size w w' := by
  have hu23 := Aside0.mk Try.underlying23
  have HM := Aside0.mk (may_f K N S)
  have HD := Aside0.mk (decide_eq_false h)
  clear h
  go_enter Try.func10, Try.ntmps10
  go_wp2_with (first
    | ((with_reducible refine gate_dst (N := 2) rfl ?_); refine box_event ?hg (N := 2) ?hd (cs := #[.int .i64 K, .int .i64 N, .int .i64 S]) (t := 23) ?hr ?_; (case hd => rfl); (case hg => rfl); (case hr => first | (go_simp; done) | (go_simp; rfl) | kernel_rfl); intro gg hg w1 hbox hb; have Gg := Aside0.mk (Nat.le_of_eq hg.symm); have HB1 := Aside0.mk (hb); have Bg1 := Aside0.mk (hbox); clear hb hbox hg)
    | ((with_reducible refine gate_dst (N := 9) rfl ?_); refine wpList_load_row rfl 23 (.tmp 2) (by kernel_rfl) gg (by kernel_rfl) _ _ _ _ Bg1.out hu23.out rfl sizeGeo ?_)
    | (have hz := HB1.out; clear hz; go_at_call 19; refine (Go.Proofs.Ytgiapegacbibeaa.PUsageLives.hayrickref15_May.calls K N S false _ (HM.out.trans (congrArg some HD.out))).mono ?_; rintro e w2 ⟨rfl, hb⟩; have HB2 := Aside0.mk (below_step HB1.out hb); clear hb))
  go_ret3
  exact ⟨rfl, HB2.out⟩
theorem place_at {K a p : Int} {j : Nat} (hK : 1 ≤ K) (hp : 4 * K * (j : Int) = p) (h1 : p < a) (h2 : a ≤ p + 4 * K) : (a - 1) / (4 * K) = (j : Int) ∧ (a - 1) % (4 * K) = a - (p + 1) := by
  have h3 : a - 1 = (a - (p + 1)) + (4 * K) * (j : Int) := by omega
  have h4 : (a - 1) / (4 * K) = (j : Int) := by
    rw [h3, Int.add_mul_ediv_left _ _ (by omega), Int.ediv_eq_zero_of_lt (by omega) (by omega), Int.zero_add]
  refine ⟨h4, ?_⟩
  rw [h3, Int.add_mul_emod_self_left, Int.emod_eq_of_lt (by omega) (by omega)]
set_option maxHeartbeats 2000000 in
set_option maxRecDepth 100000 in
theorem rplace_yes (K N S a r1 r2 r3 : Int) (n : Nat) (hn : S = n) (w : World) (hK : 1 ≤ K ∧ K ≤ 255) (hS : 1 ≤ S ∧ S ≤ 128) (ha : 0 ≤ a ∧ a < 4294967296) (hR : Go.Proofs.Ytgiapegacbibeaa.PUsageLives.usage_Place.f K N S a = some (r1, r2, r3)) :
    Calls Try.prog 10 #[.agg #[.int .i64 K, .int .i64 N, .int .i64 S], .int .u32 a] w fun e w' => e = .returned (.tuple #[.int .i64 r1, .int .i64 r2, .int .i64 r3]) ∧ Below w.heap.size w w' := by
  have hu23 := Aside0.mk Try.underlying23
  have HM := Aside0.mk (may_f K N S)
  have HD := Aside0.mk (decide_eq_true (show (1 ≤ K ∧ K ≤ 255) ∧ 1 ≤ S ∧ S ≤ 128 from ⟨hK, hS⟩))
  have HR := Aside0.mk hR
  have HN := Aside0.mk hn
  have HK := Aside0.mk hK
  have HS := Aside0.mk hS
  obtain ⟨k1, k2⟩ := hK
  obtain ⟨s1, s2⟩ := hS
  obtain ⟨a1, a2⟩ := ha
  clear hR hn
  go_enter Try.func10, Try.ntmps10
  go_wp2_with (first
    | ((with_reducible refine gate_dst (N := 2) rfl ?_); refine box_event ?hg (N := 2) ?hd (cs := #[.int .i64 K, .int .i64 N, .int .i64 S]) (t := 23) ?hr ?_; (case hd => rfl); (case hg => rfl); (case hr => first | (go_simp; done) | (go_simp; rfl) | kernel_rfl); intro gg hg w1 hbox hb; have Gg := Aside0.mk (Nat.le_of_eq hg.symm); have HB1 := Aside0.mk (hb); have Bg1 := Aside0.mk (hbox); clear hb hbox hg)
    | ((with_reducible refine gate_dst (N := 9) rfl ?_); refine wpList_load_row rfl 23 (.tmp 2) (by kernel_rfl) gg (by kernel_rfl) _ _ _ _ Bg1.out hu23.out rfl sizeGeo ?_)
    | (have hz := HB1.out; clear hz; go_at_call 19; refine (Go.Proofs.Ytgiapegacbibeaa.PUsageLives.hayrickref15_May.calls K N S true _ (HM.out.trans (congrArg some HD.out))).mono ?_; rintro e w2 ⟨rfl, hb⟩; have HB2 := Aside0.mk (below_step HB1.out hb); have Bg2 := Aside0.mk (blk_below Bg1.out hb); clear hb))
  go_loopw [7] (fun i wr => ∃ (j : Nat) (p : Int), (j : Int) ≤ S ∧ i = .int .i64 j ∧ Aside0 (4 * K * (j : Int) = p) ∧ (0 ≤ p ∧ p ≤ 130560) ∧ Aside0 (a = 0 ∨ p < a) ∧ Aside0 (wr.heap[gg]? = some (.cells #[.int .i64 K, .int .i64 N, .int .i64 S] 23 (0, 0))) ∧ Aside0 (Below w.heap.size w wr)) (fun i _ => (S - intOf i).toNat)
  case atStart => exact ⟨0, 0, by omega, rfl, ⟨by simp⟩, by omega, ⟨by omega⟩, Bg2, HB2⟩
  case round =>
    obtain ⟨j, p, hj, rfl, HP, ⟨p0, p1⟩, HA, Bg, HB⟩ := hrel
    clear Bg2 HB2
    have c0 : wr.cell? ⟨gg, 0, none⟩ = some (.int .i64 K) := blk_cell Bg.out 0
    have c2 : wr.cell? ⟨gg, 2, none⟩ = some (.int .i64 S) := blk_cell Bg.out 2
    have hj0 : (0 : Int) ≤ (j : Int) := Int.natCast_nonneg _
    by_cases hlt : (j : Int) < S
    · have hp := HP.out
      have hpn : 4 * K * ((j + 1 : Nat) : Int) = p + 4 * K := by rw [Int.natCast_add, Int.mul_add, HP.out]; simp
      have HPN := Aside0.mk hpn
      have hp4 : p + 4 * K ≤ 130560 := by
        have h1 : 4 * K * ((j + 1 : Nat) : Int) ≤ 4 * K * S := Int.mul_le_mul_of_nonneg_left (by omega) (by omega)
        have h2 := (area K S HK.out HS.out).2
        omega
      clear hpn
      by_cases h0 : a = 0
      · subst h0
        have t1 : ¬ p + 1 ≤ 0 := by omega
        go_wp2
        go_roundw
        case rel => exact ⟨j + 1, p + 4 * K, by omega, by go_num, HPN, by omega, ⟨by first | exact .inl rfl | simp⟩, Bg, HB⟩
        case measure => simp [intOf]; omega
      · have hpa : p < a := by rcases HA.out with h | h; exact absurd h h0; exact h
        have t1 : p + 1 ≤ a := by omega
        by_cases h1 : a ≤ p + 4 * K
        · have t2 : a < p + 1 + 4 * K := by omega
          obtain ⟨q1, q2⟩ := place_at k1 HP.out hpa h1
          have hy := place_yes K N S a HK.out HS.out ⟨by omega, by
            have h3 : 4 * K * ((j + 1 : Nat) : Int) ≤ 4 * K * S := Int.mul_le_mul_of_nonneg_left (by omega) (by omega)
            have := HPN.out
            omega⟩
          rw [HR.out, q1, q2] at hy
          simp only [Option.some.injEq, Prod.mk.injEq] at hy
          obtain ⟨rfl, rfl, rfl⟩ := hy
          clear q1 q2 h1 h0
          go_wp2
          go_ret3
          exact ⟨rfl, HB.out⟩
        · have t2 : ¬ a < p + 1 + 4 * K := by omega
          clear h0
          go_wp2
          go_roundw
          case rel => exact ⟨j + 1, p + 4 * K, by omega, by go_num, HPN, by omega, ⟨.inr (by omega)⟩, Bg, HB⟩
          case measure => simp [intOf]; omega
    · have hjS : (j : Int) = S := by omega
      have hno := place_no K N S a HK.out HS.out ⟨a1, a2⟩ (by
        intro h
        have h1 := HP.out
        rw [hjS] at h1
        rcases HA.out with h2 | h2 <;> omega)
      rw [HR.out] at hno
      simp only [Option.some.injEq, Prod.mk.injEq] at hno
      obtain ⟨rfl, rfl, rfl⟩ := hno
      clear hjS
      go_wp2
      go_ret3
      exact ⟨rfl, HB.out⟩
theorem place_all (K N S a : Int) (ha : 0 ≤ a ∧ a < 4294967296) : ∃ r1 r2 r3, Go.Proofs.Ytgiapegacbibeaa.PUsageLives.usage_Place.f K N S a = some (r1, r2, r3) := by
  by_cases h : (1 ≤ K ∧ K ≤ 255) ∧ 1 ≤ S ∧ S ≤ 128
  · by_cases h2 : 1 ≤ a ∧ a ≤ 4 * K * S
    · exact ⟨_, _, _, place_yes K N S a h.1 h.2 h2⟩
    · exact ⟨_, _, _, place_no K N S a h.1 h.2 ha h2⟩
  · exact ⟨_, _, _, place_arg K N S a h⟩
theorem rplace_any (K N S a r1 r2 r3 : Int) (w : World) (ha : 0 ≤ a ∧ a < 4294967296) (hR : Go.Proofs.Ytgiapegacbibeaa.PUsageLives.usage_Place.f K N S a = some (r1, r2, r3)) :
    Calls Try.prog 10 #[.agg #[.int .i64 K, .int .i64 N, .int .i64 S], .int .u32 a] w fun e w' => e = .returned (.tuple #[.int .i64 r1, .int .i64 r2, .int .i64 r3]) ∧ Below w.heap.size w w' := by
  by_cases h : (1 ≤ K ∧ K ≤ 255) ∧ 1 ≤ S ∧ S ≤ 128
  · exact rplace_yes K N S a r1 r2 r3 S.toNat (by omega) w h.1 h.2 ha hR
  · rw [place_arg K N S a h] at hR
    simp only [Option.some.injEq, Prod.mk.injEq] at hR
    obtain ⟨rfl, rfl, rfl⟩ := hR
    exact rplace_no K N S a w h
end Go.Proofs.Ytgiapegacbibeaa.UM
