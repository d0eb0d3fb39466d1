/- UsageBack: an address goes to a place and back. -/
import Derived.Test.YtgiapegacbibeaaUPlaces
namespace Go.Proofs.Ytgiapegacbibeaa.UM
open Go.RowKit Go.Proofs.YtgiapegacbibeaaX Go.Proofs.YtgiapegacbibeaaW.PrintWords
set_option linter.unusedVariables false
theorem addr_back (K N S q r a : Int) (hK : 1 ≤ K ∧ K ≤ 255) (hS : 1 ≤ S ∧ S ≤ 128) (hq : 0 ≤ q ∧ q < S) (hr : 0 ≤ r ∧ r < 4 * K) (h : 4 * K * q + r + 1 = a) : Go.Proofs.Ytgiapegacbibeaa.PUsagePlaces.usage_Address.f K N S q r = some (a, 0) := by
  have hA := area K S hK hS
  have h1 : 4 * K * (q + 1) ≤ 4 * K * S := Int.mul_le_mul_of_nonneg_left (by omega) (by omega)
  have h2 : 4 * K * 0 ≤ 4 * K * q := Int.mul_le_mul_of_nonneg_left (by omega) (by omega)
  have h3 : 4 * K * (q + 1) = 4 * K * q + 4 * K := by rw [Int.mul_add, Int.mul_one]
  have h4 : q * (4 * K) = 4 * K * q := Int.mul_comm _ _
  unfold Go.Proofs.Ytgiapegacbibeaa.PUsagePlaces.usage_Address.f Go.Proofs.Ytgiapegacbibeaa.PUsagePlaces.usage_blocks.f
  rw [if_neg (by omega), if_neg (by omega), if_neg (by omega), if_neg (by omega), Option.bind_some, IntWalk.wrap64_in (4 * K) (by omega), if_neg (by omega), if_neg (by omega), if_neg (by omega), if_neg (by omega), if_neg (by omega),
    h4, IntWalk.wrap64_in (4 * K * q) (by omega), IntWalk.wrap64_in (4 * K * q + r) (by omega), IntWalk.wrap64_in (4 * K * q + r + 1) (by omega), h]
  rw [Int.emod_eq_of_lt (by omega) (by omega)]
theorem place_back (K a : Int) (hK : 1 ≤ K ∧ K ≤ 255) : 4 * K * ((a - 1) / (4 * K)) + (a - 1) % (4 * K) + 1 = a := by
  have := Int.mul_ediv_add_emod (a - 1) (4 * K)
  omega
theorem order (K q r p s a b : Int) (hr : 0 ≤ r ∧ r < 4 * K) (hs : 0 ≤ s ∧ s < 4 * K) (h1 : 4 * K * q + r + 1 = a) (h2 : 4 * K * p + s + 1 = b) (h : q < p) : a < b := by
  have h3 : 4 * K * (q + 1) ≤ 4 * K * p := Int.mul_le_mul_of_nonneg_left (by omega) (by omega)
  have h4 : 4 * K * (q + 1) = 4 * K * q + 4 * K := by rw [Int.mul_add, Int.mul_one]
  omega
set_option maxHeartbeats 4000000 in
set_option maxRecDepth 100000 in
theorem back_arg (K N S a b : Int) (w : World) (HP : Aside0 (Go.Proofs.Ytgiapegacbibeaa.PUsageLives.usage_Place.f K N S a = some (0, 0, 1))) (HQ : Aside0 (Go.Proofs.Ytgiapegacbibeaa.PUsageLives.usage_Place.f K N S b = some (0, 0, 1))) (h : ¬ ((1 ≤ K ∧ K ≤ 255) ∧ 1 ≤ S ∧ S ≤ 128)) :
    Calls Try.prog 5 #[.agg #[.int .i64 K, .int .i64 N, .int .i64 S], .int .u32 a, .int .u32 b] w fun e w' => e = .returned (.bool true) ∧ Below w.heap.size w w' := by
  have hu23 := Aside0.mk Try.underlying23
  have HH := Aside0.mk (show K < 1 ∨ ¬ K < 1 ∧ K > 255 ∨ ¬ K < 1 ∧ ¬ K > 255 ∧ S < 1 ∨ ¬ K < 1 ∧ ¬ K > 255 ∧ ¬ S < 1 ∧ S > 128 by omega)
  clear h
  go_enter Try.func5, Try.ntmps5
  rcases HH.out with h | ⟨k1, h⟩ | ⟨k1, k2, h⟩ | ⟨k1, k2, k3, h⟩
  · clear HH
    go_wp2_with (first
    | ((with_reducible refine gate_dst (N := 3) rfl ?_); refine box_event ?hg (N := 3) ?hd (cs := #[.int .i64 K, .int .i64 N, .int .i64 S]) (t := 23) ?hr ?_; (case hd => rfl); (case hg => rfl); (case hr => first | (go_simp; done) | (go_simp; rfl) | kernel_rfl); intro gg hg w1 hbox hb; have Gg := Aside0.mk (Nat.le_of_eq hg.symm); have HB1 := Aside0.mk (hb); have Bg1 := Aside0.mk (hbox); clear hb hbox hg)
    | ((with_reducible refine gate_dst (N := 16) rfl ?_); refine wpList_load_row rfl 23 (.tmp 3) (by kernel_rfl) gg (by kernel_rfl) _ _ _ _ Bg1.out hu23.out rfl sizeGeo ?_)
    | ((with_reducible refine gate_dst (N := 23) rfl ?_); refine wpList_load_row rfl 23 (.tmp 3) (by kernel_rfl) gg (by kernel_rfl) _ _ _ _ Bg2.out hu23.out rfl sizeGeo ?_)
    | (have hz := HB3.out; clear hz; go_at_call 11; refine (wakes_true _).mono ?_; rintro e w4 ⟨rfl, hb⟩; have HB4 := Aside0.mk (below_step HB3.out hb); clear hb)
    | (have hz := HB2.out; clear hz; go_at_call 9; refine (Go.Proofs.Ytgiapegacbibeaa.PUsageLives.usage_Place.calls K N S b 0 0 1 _ HQ.out).mono ?_; rintro e w3 ⟨rfl, hb⟩; have HB3 := Aside0.mk (below_step HB2.out hb); have Bg3 := Aside0.mk (blk_below Bg2.out hb); have c0 : w3.cell? ⟨gg, 0, none⟩ = some (.int .i64 K) := blk_cell Bg3.out 0; have c2 : w3.cell? ⟨gg, 2, none⟩ = some (.int .i64 S) := blk_cell Bg3.out 2; clear hb)
    | (have hz := HB1.out; clear hz; go_at_call 9; refine (Go.Proofs.Ytgiapegacbibeaa.PUsageLives.usage_Place.calls K N S a 0 0 1 _ HP.out).mono ?_; rintro e w2 ⟨rfl, hb⟩; have HB2 := Aside0.mk (below_step HB1.out hb); have Bg2 := Aside0.mk (blk_below Bg1.out hb); clear hb))
    go_ret
    exact ⟨rfl, HB4.out⟩
  · clear HH
    go_wp2_with (first
    | ((with_reducible refine gate_dst (N := 3) rfl ?_); refine box_event ?hg (N := 3) ?hd (cs := #[.int .i64 K, .int .i64 N, .int .i64 S]) (t := 23) ?hr ?_; (case hd => rfl); (case hg => rfl); (case hr => first | (go_simp; done) | (go_simp; rfl) | kernel_rfl); intro gg hg w1 hbox hb; have Gg := Aside0.mk (Nat.le_of_eq hg.symm); have HB1 := Aside0.mk (hb); have Bg1 := Aside0.mk (hbox); clear hb hbox hg)
    | ((with_reducible refine gate_dst (N := 16) rfl ?_); refine wpList_load_row rfl 23 (.tmp 3) (by kernel_rfl) gg (by kernel_rfl) _ _ _ _ Bg1.out hu23.out rfl sizeGeo ?_)
    | ((with_reducible refine gate_dst (N := 23) rfl ?_); refine wpList_load_row rfl 23 (.tmp 3) (by kernel_rfl) gg (by kernel_rfl) _ _ _ _ Bg2.out hu23.out rfl sizeGeo ?_)
    | (have hz := HB3.out; clear hz; go_at_call 11; refine (wakes_true _).mono ?_; rintro e w4 ⟨rfl, hb⟩; have HB4 := Aside0.mk (below_step HB3.out hb); clear hb)
    | (have hz := HB2.out; clear hz; go_at_call 9; refine (Go.Proofs.Ytgiapegacbibeaa.PUsageLives.usage_Place.calls K N S b 0 0 1 _ HQ.out).mono ?_; rintro e w3 ⟨rfl, hb⟩; have HB3 := Aside0.mk (below_step HB2.out hb); have Bg3 := Aside0.mk (blk_below Bg2.out hb); have c0 : w3.cell? ⟨gg, 0, none⟩ = some (.int .i64 K) := blk_cell Bg3.out 0; have c2 : w3.cell? ⟨gg, 2, none⟩ = some (.int .i64 S) := blk_cell Bg3.out 2; clear hb)
    | (have hz := HB1.out; clear hz; go_at_call 9; refine (Go.Proofs.Ytgiapegacbibeaa.PUsageLives.usage_Place.calls K N S a 0 0 1 _ HP.out).mono ?_; rintro e w2 ⟨rfl, hb⟩; have HB2 := Aside0.mk (below_step HB1.out hb); have Bg2 := Aside0.mk (blk_below Bg1.out hb); clear hb))
    go_ret
    exact ⟨rfl, HB4.out⟩
  · clear HH
    go_wp2_with (first
    | ((with_reducible refine gate_dst (N := 3) rfl ?_); refine box_event ?hg (N := 3) ?hd (cs := #[.int .i64 K, .int .i64 N, .int .i64 S]) (t := 23) ?hr ?_; (case hd => rfl); (case hg => rfl); (case hr => first | (go_simp; done) | (go_simp; rfl) | kernel_rfl); intro gg hg w1 hbox hb; have Gg := Aside0.mk (Nat.le_of_eq hg.symm); have HB1 := Aside0.mk (hb); have Bg1 := Aside0.mk (hbox); clear hb hbox hg)
    | ((with_reducible refine gate_dst (N := 16) rfl ?_); refine wpList_load_row rfl 23 (.tmp 3) (by kernel_rfl) gg (by kernel_rfl) _ _ _ _ Bg1.out hu23.out rfl sizeGeo ?_)
    | ((with_reducible refine gate_dst (N := 23) rfl ?_); refine wpList_load_row rfl 23 (.tmp 3) (by kernel_rfl) gg (by kernel_rfl) _ _ _ _ Bg2.out hu23.out rfl sizeGeo ?_)
    | (have hz := HB3.out; clear hz; go_at_call 11; refine (wakes_true _).mono ?_; rintro e w4 ⟨rfl, hb⟩; have HB4 := Aside0.mk (below_step HB3.out hb); clear hb)
    | (have hz := HB2.out; clear hz; go_at_call 9; refine (Go.Proofs.Ytgiapegacbibeaa.PUsageLives.usage_Place.calls K N S b 0 0 1 _ HQ.out).mono ?_; rintro e w3 ⟨rfl, hb⟩; have HB3 := Aside0.mk (below_step HB2.out hb); have Bg3 := Aside0.mk (blk_below Bg2.out hb); have c0 : w3.cell? ⟨gg, 0, none⟩ = some (.int .i64 K) := blk_cell Bg3.out 0; have c2 : w3.cell? ⟨gg, 2, none⟩ = some (.int .i64 S) := blk_cell Bg3.out 2; clear hb)
    | (have hz := HB1.out; clear hz; go_at_call 9; refine (Go.Proofs.Ytgiapegacbibeaa.PUsageLives.usage_Place.calls K N S a 0 0 1 _ HP.out).mono ?_; rintro e w2 ⟨rfl, hb⟩; have HB2 := Aside0.mk (below_step HB1.out hb); have Bg2 := Aside0.mk (blk_below Bg1.out hb); clear hb))
    go_ret
    exact ⟨rfl, HB4.out⟩
  · clear HH
    go_wp2_with (first
    | ((with_reducible refine gate_dst (N := 3) rfl ?_); refine box_event ?hg (N := 3) ?hd (cs := #[.int .i64 K, .int .i64 N, .int .i64 S]) (t := 23) ?hr ?_; (case hd => rfl); (case hg => rfl); (case hr => first | (go_simp; done) | (go_simp; rfl) | kernel_rfl); intro gg hg w1 hbox hb; have Gg := Aside0.mk (Nat.le_of_eq hg.symm); have HB1 := Aside0.mk (hb); have Bg1 := Aside0.mk (hbox); clear hb hbox hg)
    | ((with_reducible refine gate_dst (N := 16) rfl ?_); refine wpList_load_row rfl 23 (.tmp 3) (by kernel_rfl) gg (by kernel_rfl) _ _ _ _ Bg1.out hu23.out rfl sizeGeo ?_)
    | ((with_reducible refine gate_dst (N := 23) rfl ?_); refine wpList_load_row rfl 23 (.tmp 3) (by kernel_rfl) gg (by kernel_rfl) _ _ _ _ Bg2.out hu23.out rfl sizeGeo ?_)
    | (have hz := HB3.out; clear hz; go_at_call 11; refine (wakes_true _).mono ?_; rintro e w4 ⟨rfl, hb⟩; have HB4 := Aside0.mk (below_step HB3.out hb); clear hb)
    | (have hz := HB2.out; clear hz; go_at_call 9; refine (Go.Proofs.Ytgiapegacbibeaa.PUsageLives.usage_Place.calls K N S b 0 0 1 _ HQ.out).mono ?_; rintro e w3 ⟨rfl, hb⟩; have HB3 := Aside0.mk (below_step HB2.out hb); have Bg3 := Aside0.mk (blk_below Bg2.out hb); have c0 : w3.cell? ⟨gg, 0, none⟩ = some (.int .i64 K) := blk_cell Bg3.out 0; have c2 : w3.cell? ⟨gg, 2, none⟩ = some (.int .i64 S) := blk_cell Bg3.out 2; clear hb)
    | (have hz := HB1.out; clear hz; go_at_call 9; refine (Go.Proofs.Ytgiapegacbibeaa.PUsageLives.usage_Place.calls K N S a 0 0 1 _ HP.out).mono ?_; rintro e w2 ⟨rfl, hb⟩; have HB2 := Aside0.mk (below_step HB1.out hb); have Bg2 := Aside0.mk (blk_below Bg1.out hb); clear hb))
    go_ret
    exact ⟨rfl, HB4.out⟩
set_option maxHeartbeats 4000000 in
set_option maxRecDepth 100000 in
theorem back_out (K N S a b p s f : Int) (w : World) (HP : Aside0 (Go.Proofs.Ytgiapegacbibeaa.PUsageLives.usage_Place.f K N S a = some (0, 0, 5))) (HQ : Aside0 (Go.Proofs.Ytgiapegacbibeaa.PUsageLives.usage_Place.f K N S b = some (p, s, f))) (hf : f = 0 ∨ f = 5) (hK : 1 ≤ K ∧ K ≤ 255) (hS : 1 ≤ S ∧ S ≤ 128) (ha : 0 ≤ a ∧ a < 4294967296) (h : ¬ (1 ≤ a ∧ a ≤ 4 * K * S)) :
    Calls Try.prog 5 #[.agg #[.int .i64 K, .int .i64 N, .int .i64 S], .int .u32 a, .int .u32 b] w fun e w' => e = .returned (.bool true) ∧ Below w.heap.size w w' := by
  have hu23 := Aside0.mk Try.underlying23
  have f1 : ¬ f = 1 := by omega
  clear hf
  go_enter Try.func5, Try.ntmps5
  by_cases h1 : 1 ≤ a
  · have t5 : ¬ a ≤ IntKind.u64.wrap (4 * K * S) := by
      have hA := area K S hK hS
      rw [IntWalk.u64_in _ (by omega)]
      omega
    go_wp2_with (first
    | ((with_reducible refine gate_dst (N := 3) rfl ?_); refine box_event ?hg (N := 3) ?hd (cs := #[.int .i64 K, .int .i64 N, .int .i64 S]) (t := 23) ?hr ?_; (case hd => rfl); (case hg => rfl); (case hr => first | (go_simp; done) | (go_simp; rfl) | kernel_rfl); intro gg hg w1 hbox hb; have Gg := Aside0.mk (Nat.le_of_eq hg.symm); have HB1 := Aside0.mk (hb); have Bg1 := Aside0.mk (hbox); clear hb hbox hg)
    | ((with_reducible refine gate_dst (N := 16) rfl ?_); refine wpList_load_row rfl 23 (.tmp 3) (by kernel_rfl) gg (by kernel_rfl) _ _ _ _ Bg1.out hu23.out rfl sizeGeo ?_)
    | ((with_reducible refine gate_dst (N := 23) rfl ?_); refine wpList_load_row rfl 23 (.tmp 3) (by kernel_rfl) gg (by kernel_rfl) _ _ _ _ Bg2.out hu23.out rfl sizeGeo ?_)
    | (have hz := HB3.out; clear hz; go_at_call 11; refine (wakes_true _).mono ?_; rintro e w4 ⟨rfl, hb⟩; have HB4 := Aside0.mk (below_step HB3.out hb); clear hb)
    | (have hz := HB2.out; clear hz; go_at_call 9; refine (Go.Proofs.Ytgiapegacbibeaa.PUsageLives.usage_Place.calls K N S b p s f _ HQ.out).mono ?_; rintro e w3 ⟨rfl, hb⟩; have HB3 := Aside0.mk (below_step HB2.out hb); have Bg3 := Aside0.mk (blk_below Bg2.out hb); have c0 : w3.cell? ⟨gg, 0, none⟩ = some (.int .i64 K) := blk_cell Bg3.out 0; have c2 : w3.cell? ⟨gg, 2, none⟩ = some (.int .i64 S) := blk_cell Bg3.out 2; clear hb)
    | (have hz := HB1.out; clear hz; go_at_call 9; refine (Go.Proofs.Ytgiapegacbibeaa.PUsageLives.usage_Place.calls K N S a 0 0 5 _ HP.out).mono ?_; rintro e w2 ⟨rfl, hb⟩; have HB2 := Aside0.mk (below_step HB1.out hb); have Bg2 := Aside0.mk (blk_below Bg1.out hb); clear hb))
    go_ret
    exact ⟨rfl, HB4.out⟩
  · go_wp2_with (first
    | ((with_reducible refine gate_dst (N := 3) rfl ?_); refine box_event ?hg (N := 3) ?hd (cs := #[.int .i64 K, .int .i64 N, .int .i64 S]) (t := 23) ?hr ?_; (case hd => rfl); (case hg => rfl); (case hr => first | (go_simp; done) | (go_simp; rfl) | kernel_rfl); intro gg hg w1 hbox hb; have Gg := Aside0.mk (Nat.le_of_eq hg.symm); have HB1 := Aside0.mk (hb); have Bg1 := Aside0.mk (hbox); clear hb hbox hg)
    | ((with_reducible refine gate_dst (N := 16) rfl ?_); refine wpList_load_row rfl 23 (.tmp 3) (by kernel_rfl) gg (by kernel_rfl) _ _ _ _ Bg1.out hu23.out rfl sizeGeo ?_)
    | ((with_reducible refine gate_dst (N := 23) rfl ?_); refine wpList_load_row rfl 23 (.tmp 3) (by kernel_rfl) gg (by kernel_rfl) _ _ _ _ Bg2.out hu23.out rfl sizeGeo ?_)
    | (have hz := HB3.out; clear hz; go_at_call 11; refine (wakes_true _).mono ?_; rintro e w4 ⟨rfl, hb⟩; have HB4 := Aside0.mk (below_step HB3.out hb); clear hb)
    | (have hz := HB2.out; clear hz; go_at_call 9; refine (Go.Proofs.Ytgiapegacbibeaa.PUsageLives.usage_Place.calls K N S b p s f _ HQ.out).mono ?_; rintro e w3 ⟨rfl, hb⟩; have HB3 := Aside0.mk (below_step HB2.out hb); have Bg3 := Aside0.mk (blk_below Bg2.out hb); have c0 : w3.cell? ⟨gg, 0, none⟩ = some (.int .i64 K) := blk_cell Bg3.out 0; have c2 : w3.cell? ⟨gg, 2, none⟩ = some (.int .i64 S) := blk_cell Bg3.out 2; clear hb)
    | (have hz := HB1.out; clear hz; go_at_call 9; refine (Go.Proofs.Ytgiapegacbibeaa.PUsageLives.usage_Place.calls K N S a 0 0 5 _ HP.out).mono ?_; rintro e w2 ⟨rfl, hb⟩; have HB2 := Aside0.mk (below_step HB1.out hb); have Bg2 := Aside0.mk (blk_below Bg1.out hb); clear hb))
    go_ret
    exact ⟨rfl, HB4.out⟩
set_option maxHeartbeats 4000000 in
set_option maxRecDepth 100000 in
theorem back_mix (K N S a b q r : Int) (w : World) (HP : Aside0 (Go.Proofs.Ytgiapegacbibeaa.PUsageLives.usage_Place.f K N S a = some (q, r, 0))) (HQ : Aside0 (Go.Proofs.Ytgiapegacbibeaa.PUsageLives.usage_Place.f K N S b = some (0, 0, 5))) (HA : Aside0 (Go.Proofs.Ytgiapegacbibeaa.PUsagePlaces.usage_Address.f K N S q r = some (a, 0))) (hK : 1 ≤ K ∧ K ≤ 255) (hS : 1 ≤ S ∧ S ≤ 128) (ha : 1 ≤ a ∧ a ≤ 4 * K * S) (hq : 0 ≤ q ∧ q < S) (hr : 0 ≤ r ∧ r < 4 * K) :
    Calls Try.prog 5 #[.agg #[.int .i64 K, .int .i64 N, .int .i64 S], .int .u32 a, .int .u32 b] w fun e w' => e = .returned (.bool true) ∧ Below w.heap.size w w' := by
  have hu23 := Aside0.mk Try.underlying23
  have hA := area K S hK hS
  have ha2 : a < 4294967296 := by omega
  have t5 : a ≤ IntKind.u64.wrap (4 * K * S) := by
    rw [IntWalk.u64_in _ (by omega)]
    omega
  go_enter Try.func5, Try.ntmps5
  go_wp2_with (first
    | ((with_reducible refine gate_dst (N := 3) rfl ?_); refine box_event ?hg (N := 3) ?hd (cs := #[.int .i64 K, .int .i64 N, .int .i64 S]) (t := 23) ?hr ?_; (case hd => rfl); (case hg => rfl); (case hr => first | (go_simp; done) | (go_simp; rfl) | kernel_rfl); intro gg hg w1 hbox hb; have Gg := Aside0.mk (Nat.le_of_eq hg.symm); have HB1 := Aside0.mk (hb); have Bg1 := Aside0.mk (hbox); clear hb hbox hg)
    | ((with_reducible refine gate_dst (N := 16) rfl ?_); refine wpList_load_row rfl 23 (.tmp 3) (by kernel_rfl) gg (by kernel_rfl) _ _ _ _ Bg1.out hu23.out rfl sizeGeo ?_)
    | ((with_reducible refine gate_dst (N := 23) rfl ?_); refine wpList_load_row rfl 23 (.tmp 3) (by kernel_rfl) gg (by kernel_rfl) _ _ _ _ Bg2.out hu23.out rfl sizeGeo ?_)
    | ((with_reducible refine gate_dst (N := 98) rfl ?_); refine wpList_load_row rfl 23 (.tmp 3) (by kernel_rfl) gg (by kernel_rfl) _ _ _ _ Bg3.out hu23.out rfl sizeGeo ?_)
    | (have hz := HB4.out; clear hz; go_at_call 11; refine (wakes_true _).mono ?_; rintro e w5 ⟨rfl, hb⟩; have HB5 := Aside0.mk (below_step HB4.out hb); clear hb)
    | (have hz := HB3.out; clear hz; go_at_call 7; refine (Go.Proofs.Ytgiapegacbibeaa.PUsagePlaces.usage_Address.calls K N S q r a 0 _ HA.out).mono ?_; rintro e w4 ⟨rfl, hb⟩; have HB4 := Aside0.mk (below_step HB3.out hb); have Bg4 := Aside0.mk (blk_below Bg3.out hb); have c0 : w4.cell? ⟨gg, 0, none⟩ = some (.int .i64 K) := blk_cell Bg4.out 0; have c2 : w4.cell? ⟨gg, 2, none⟩ = some (.int .i64 S) := blk_cell Bg4.out 2; clear hb)
    | (have hz := HB2.out; clear hz; go_at_call 9; refine (Go.Proofs.Ytgiapegacbibeaa.PUsageLives.usage_Place.calls K N S b 0 0 5 _ HQ.out).mono ?_; rintro e w3 ⟨rfl, hb⟩; have HB3 := Aside0.mk (below_step HB2.out hb); have Bg3 := Aside0.mk (blk_below Bg2.out hb); have c0 : w3.cell? ⟨gg, 0, none⟩ = some (.int .i64 K) := blk_cell Bg3.out 0; have c2 : w3.cell? ⟨gg, 2, none⟩ = some (.int .i64 S) := blk_cell Bg3.out 2; clear hb)
    | (have hz := HB1.out; clear hz; go_at_call 9; refine (Go.Proofs.Ytgiapegacbibeaa.PUsageLives.usage_Place.calls K N S a q r 0 _ HP.out).mono ?_; rintro e w2 ⟨rfl, hb⟩; have HB2 := Aside0.mk (below_step HB1.out hb); have Bg2 := Aside0.mk (blk_below Bg1.out hb); clear hb))
  go_ret
  exact ⟨rfl, HB5.out⟩
set_option maxHeartbeats 4000000 in
set_option maxRecDepth 100000 in
theorem back_in0 (K N S a b q r p s : Int) (w : World) (HP : Aside0 (Go.Proofs.Ytgiapegacbibeaa.PUsageLives.usage_Place.f K N S a = some (q, r, 0))) (HQ : Aside0 (Go.Proofs.Ytgiapegacbibeaa.PUsageLives.usage_Place.f K N S b = some (p, s, 0))) (HA : Aside0 (Go.Proofs.Ytgiapegacbibeaa.PUsagePlaces.usage_Address.f K N S q r = some (a, 0))) (hK : 1 ≤ K ∧ K ≤ 255) (hS : 1 ≤ S ∧ S ≤ 128) (ha : 1 ≤ a ∧ a ≤ 4 * K * S) (hq : 0 ≤ q ∧ q < S) (hr : 0 ≤ r ∧ r < 4 * K) (h1 : q < p) (h2 : a < b) :
    Calls Try.prog 5 #[.agg #[.int .i64 K, .int .i64 N, .int .i64 S], .int .u32 a, .int .u32 b] w fun e w' => e = .returned (.bool true) ∧ Below w.heap.size w w' := by
  have hu23 := Aside0.mk Try.underlying23
  have hA := area K S hK hS
  have ha2 : a < 4294967296 := by omega
  have t5 : a ≤ IntKind.u64.wrap (4 * K * S) := by
    rw [IntWalk.u64_in _ (by omega)]
    omega
  have e_qp : (q == p) = false := beq_eq_false_iff_ne.2 (by omega)
  have l_qp : decide (q < p) = true := decide_eq_true (by omega)
  have e_ab : (a == b) = false := beq_eq_false_iff_ne.2 (by omega)
  have l_ab : decide (a < b) = true := decide_eq_true (by omega)
  go_enter Try.func5, Try.ntmps5
  go_wp2_with (first
    | ((with_reducible refine gate_dst (N := 3) rfl ?_); refine box_event ?hg (N := 3) ?hd (cs := #[.int .i64 K, .int .i64 N, .int .i64 S]) (t := 23) ?hr ?_; (case hd => rfl); (case hg => rfl); (case hr => first | (go_simp; done) | (go_simp; rfl) | kernel_rfl); intro gg hg w1 hbox hb; have Gg := Aside0.mk (Nat.le_of_eq hg.symm); have HB1 := Aside0.mk (hb); have Bg1 := Aside0.mk (hbox); clear hb hbox hg)
    | ((with_reducible refine gate_dst (N := 16) rfl ?_); refine wpList_load_row rfl 23 (.tmp 3) (by kernel_rfl) gg (by kernel_rfl) _ _ _ _ Bg1.out hu23.out rfl sizeGeo ?_)
    | ((with_reducible refine gate_dst (N := 23) rfl ?_); refine wpList_load_row rfl 23 (.tmp 3) (by kernel_rfl) gg (by kernel_rfl) _ _ _ _ Bg2.out hu23.out rfl sizeGeo ?_)
    | ((with_reducible refine gate_dst (N := 98) rfl ?_); refine wpList_load_row rfl 23 (.tmp 3) (by kernel_rfl) gg (by kernel_rfl) _ _ _ _ Bg3.out hu23.out rfl sizeGeo ?_)
    | (have hz := HB4.out; clear hz; go_at_call 11; refine (wakes_true _).mono ?_; rintro e w5 ⟨rfl, hb⟩; have HB5 := Aside0.mk (below_step HB4.out hb); clear hb)
    | (have hz := HB3.out; clear hz; go_at_call 7; refine (Go.Proofs.Ytgiapegacbibeaa.PUsagePlaces.usage_Address.calls K N S q r a 0 _ HA.out).mono ?_; rintro e w4 ⟨rfl, hb⟩; have HB4 := Aside0.mk (below_step HB3.out hb); have Bg4 := Aside0.mk (blk_below Bg3.out hb); have c0 : w4.cell? ⟨gg, 0, none⟩ = some (.int .i64 K) := blk_cell Bg4.out 0; have c2 : w4.cell? ⟨gg, 2, none⟩ = some (.int .i64 S) := blk_cell Bg4.out 2; clear hb)
    | (have hz := HB2.out; clear hz; go_at_call 9; refine (Go.Proofs.Ytgiapegacbibeaa.PUsageLives.usage_Place.calls K N S b p s 0 _ HQ.out).mono ?_; rintro e w3 ⟨rfl, hb⟩; have HB3 := Aside0.mk (below_step HB2.out hb); have Bg3 := Aside0.mk (blk_below Bg2.out hb); have c0 : w3.cell? ⟨gg, 0, none⟩ = some (.int .i64 K) := blk_cell Bg3.out 0; have c2 : w3.cell? ⟨gg, 2, none⟩ = some (.int .i64 S) := blk_cell Bg3.out 2; clear hb)
    | (have hz := HB1.out; clear hz; go_at_call 9; refine (Go.Proofs.Ytgiapegacbibeaa.PUsageLives.usage_Place.calls K N S a q r 0 _ HP.out).mono ?_; rintro e w2 ⟨rfl, hb⟩; have HB2 := Aside0.mk (below_step HB1.out hb); have Bg2 := Aside0.mk (blk_below Bg1.out hb); clear hb))
  go_ret
  exact ⟨rfl, HB5.out⟩
set_option maxHeartbeats 4000000 in
set_option maxRecDepth 100000 in
theorem back_in1 (K N S a b q r p s : Int) (w : World) (HP : Aside0 (Go.Proofs.Ytgiapegacbibeaa.PUsageLives.usage_Place.f K N S a = some (q, r, 0))) (HQ : Aside0 (Go.Proofs.Ytgiapegacbibeaa.PUsageLives.usage_Place.f K N S b = some (p, s, 0))) (HA : Aside0 (Go.Proofs.Ytgiapegacbibeaa.PUsagePlaces.usage_Address.f K N S q r = some (a, 0))) (hK : 1 ≤ K ∧ K ≤ 255) (hS : 1 ≤ S ∧ S ≤ 128) (ha : 1 ≤ a ∧ a ≤ 4 * K * S) (hq : 0 ≤ q ∧ q < S) (hr : 0 ≤ r ∧ r < 4 * K) (h1 : q = p) (h2 : r < s) (h3 : a < b) :
    Calls Try.prog 5 #[.agg #[.int .i64 K, .int .i64 N, .int .i64 S], .int .u32 a, .int .u32 b] w fun e w' => e = .returned (.bool true) ∧ Below w.heap.size w w' := by
  have hu23 := Aside0.mk Try.underlying23
  have hA := area K S hK hS
  have ha2 : a < 4294967296 := by omega
  have t5 : a ≤ IntKind.u64.wrap (4 * K * S) := by
    rw [IntWalk.u64_in _ (by omega)]
    omega
  subst h1
  have e_rs : (r == s) = false := beq_eq_false_iff_ne.2 (by omega)
  have l_rs : decide (r < s) = true := decide_eq_true (by omega)
  have e_ab : (a == b) = false := beq_eq_false_iff_ne.2 (by omega)
  have l_ab : decide (a < b) = true := decide_eq_true (by omega)
  go_enter Try.func5, Try.ntmps5
  go_wp2_with (first
    | ((with_reducible refine gate_dst (N := 3) rfl ?_); refine box_event ?hg (N := 3) ?hd (cs := #[.int .i64 K, .int .i64 N, .int .i64 S]) (t := 23) ?hr ?_; (case hd => rfl); (case hg => rfl); (case hr => first | (go_simp; done) | (go_simp; rfl) | kernel_rfl); intro gg hg w1 hbox hb; have Gg := Aside0.mk (Nat.le_of_eq hg.symm); have HB1 := Aside0.mk (hb); have Bg1 := Aside0.mk (hbox); clear hb hbox hg)
    | ((with_reducible refine gate_dst (N := 16) rfl ?_); refine wpList_load_row rfl 23 (.tmp 3) (by kernel_rfl) gg (by kernel_rfl) _ _ _ _ Bg1.out hu23.out rfl sizeGeo ?_)
    | ((with_reducible refine gate_dst (N := 23) rfl ?_); refine wpList_load_row rfl 23 (.tmp 3) (by kernel_rfl) gg (by kernel_rfl) _ _ _ _ Bg2.out hu23.out rfl sizeGeo ?_)
    | ((with_reducible refine gate_dst (N := 98) rfl ?_); refine wpList_load_row rfl 23 (.tmp 3) (by kernel_rfl) gg (by kernel_rfl) _ _ _ _ Bg3.out hu23.out rfl sizeGeo ?_)
    | (have hz := HB4.out; clear hz; go_at_call 11; refine (wakes_true _).mono ?_; rintro e w5 ⟨rfl, hb⟩; have HB5 := Aside0.mk (below_step HB4.out hb); clear hb)
    | (have hz := HB3.out; clear hz; go_at_call 7; refine (Go.Proofs.Ytgiapegacbibeaa.PUsagePlaces.usage_Address.calls K N S q r a 0 _ HA.out).mono ?_; rintro e w4 ⟨rfl, hb⟩; have HB4 := Aside0.mk (below_step HB3.out hb); have Bg4 := Aside0.mk (blk_below Bg3.out hb); have c0 : w4.cell? ⟨gg, 0, none⟩ = some (.int .i64 K) := blk_cell Bg4.out 0; have c2 : w4.cell? ⟨gg, 2, none⟩ = some (.int .i64 S) := blk_cell Bg4.out 2; clear hb)
    | (have hz := HB2.out; clear hz; go_at_call 9; refine (Go.Proofs.Ytgiapegacbibeaa.PUsageLives.usage_Place.calls K N S b q s 0 _ HQ.out).mono ?_; rintro e w3 ⟨rfl, hb⟩; have HB3 := Aside0.mk (below_step HB2.out hb); have Bg3 := Aside0.mk (blk_below Bg2.out hb); have c0 : w3.cell? ⟨gg, 0, none⟩ = some (.int .i64 K) := blk_cell Bg3.out 0; have c2 : w3.cell? ⟨gg, 2, none⟩ = some (.int .i64 S) := blk_cell Bg3.out 2; clear hb)
    | (have hz := HB1.out; clear hz; go_at_call 9; refine (Go.Proofs.Ytgiapegacbibeaa.PUsageLives.usage_Place.calls K N S a q r 0 _ HP.out).mono ?_; rintro e w2 ⟨rfl, hb⟩; have HB2 := Aside0.mk (below_step HB1.out hb); have Bg2 := Aside0.mk (blk_below Bg1.out hb); clear hb))
  go_ret
  exact ⟨rfl, HB5.out⟩
set_option maxHeartbeats 4000000 in
set_option maxRecDepth 100000 in
theorem back_in2 (K N S a b q r p s : Int) (w : World) (HP : Aside0 (Go.Proofs.Ytgiapegacbibeaa.PUsageLives.usage_Place.f K N S a = some (q, r, 0))) (HQ : Aside0 (Go.Proofs.Ytgiapegacbibeaa.PUsageLives.usage_Place.f K N S b = some (p, s, 0))) (HA : Aside0 (Go.Proofs.Ytgiapegacbibeaa.PUsagePlaces.usage_Address.f K N S q r = some (a, 0))) (hK : 1 ≤ K ∧ K ≤ 255) (hS : 1 ≤ S ∧ S ≤ 128) (ha : 1 ≤ a ∧ a ≤ 4 * K * S) (hq : 0 ≤ q ∧ q < S) (hr : 0 ≤ r ∧ r < 4 * K) (h1 : q = p) (h2 : r = s) (h3 : a = b) :
    Calls Try.prog 5 #[.agg #[.int .i64 K, .int .i64 N, .int .i64 S], .int .u32 a, .int .u32 b] w fun e w' => e = .returned (.bool true) ∧ Below w.heap.size w w' := by
  have hu23 := Aside0.mk Try.underlying23
  have hA := area K S hK hS
  have ha2 : a < 4294967296 := by omega
  have t5 : a ≤ IntKind.u64.wrap (4 * K * S) := by
    rw [IntWalk.u64_in _ (by omega)]
    omega
  subst h1 h2 h3
  go_enter Try.func5, Try.ntmps5
  go_wp2_with (first
    | ((with_reducible refine gate_dst (N := 3) rfl ?_); refine box_event ?hg (N := 3) ?hd (cs := #[.int .i64 K, .int .i64 N, .int .i64 S]) (t := 23) ?hr ?_; (case hd => rfl); (case hg => rfl); (case hr => first | (go_simp; done) | (go_simp; rfl) | kernel_rfl); intro gg hg w1 hbox hb; have Gg := Aside0.mk (Nat.le_of_eq hg.symm); have HB1 := Aside0.mk (hb); have Bg1 := Aside0.mk (hbox); clear hb hbox hg)
    | ((with_reducible refine gate_dst (N := 16) rfl ?_); refine wpList_load_row rfl 23 (.tmp 3) (by kernel_rfl) gg (by kernel_rfl) _ _ _ _ Bg1.out hu23.out rfl sizeGeo ?_)
    | ((with_reducible refine gate_dst (N := 23) rfl ?_); refine wpList_load_row rfl 23 (.tmp 3) (by kernel_rfl) gg (by kernel_rfl) _ _ _ _ Bg2.out hu23.out rfl sizeGeo ?_)
    | ((with_reducible refine gate_dst (N := 98) rfl ?_); refine wpList_load_row rfl 23 (.tmp 3) (by kernel_rfl) gg (by kernel_rfl) _ _ _ _ Bg3.out hu23.out rfl sizeGeo ?_)
    | (have hz := HB4.out; clear hz; go_at_call 11; refine (wakes_true _).mono ?_; rintro e w5 ⟨rfl, hb⟩; have HB5 := Aside0.mk (below_step HB4.out hb); clear hb)
    | (have hz := HB3.out; clear hz; go_at_call 7; refine (Go.Proofs.Ytgiapegacbibeaa.PUsagePlaces.usage_Address.calls K N S q r a 0 _ HA.out).mono ?_; rintro e w4 ⟨rfl, hb⟩; have HB4 := Aside0.mk (below_step HB3.out hb); have Bg4 := Aside0.mk (blk_below Bg3.out hb); have c0 : w4.cell? ⟨gg, 0, none⟩ = some (.int .i64 K) := blk_cell Bg4.out 0; have c2 : w4.cell? ⟨gg, 2, none⟩ = some (.int .i64 S) := blk_cell Bg4.out 2; clear hb)
    | (have hz := HB2.out; clear hz; go_at_call 9; refine (Go.Proofs.Ytgiapegacbibeaa.PUsageLives.usage_Place.calls K N S a q r 0 _ HQ.out).mono ?_; rintro e w3 ⟨rfl, hb⟩; have HB3 := Aside0.mk (below_step HB2.out hb); have Bg3 := Aside0.mk (blk_below Bg2.out hb); have c0 : w3.cell? ⟨gg, 0, none⟩ = some (.int .i64 K) := blk_cell Bg3.out 0; have c2 : w3.cell? ⟨gg, 2, none⟩ = some (.int .i64 S) := blk_cell Bg3.out 2; clear hb)
    | (have hz := HB1.out; clear hz; go_at_call 9; refine (Go.Proofs.Ytgiapegacbibeaa.PUsageLives.usage_Place.calls K N S a q r 0 _ HP.out).mono ?_; rintro e w2 ⟨rfl, hb⟩; have HB2 := Aside0.mk (below_step HB1.out hb); have Bg2 := Aside0.mk (blk_below Bg1.out hb); clear hb))
  go_ret
  exact ⟨rfl, HB5.out⟩
set_option maxHeartbeats 4000000 in
set_option maxRecDepth 100000 in
theorem back_in3 (K N S a b q r p s : Int) (w : World) (HP : Aside0 (Go.Proofs.Ytgiapegacbibeaa.PUsageLives.usage_Place.f K N S a = some (q, r, 0))) (HQ : Aside0 (Go.Proofs.Ytgiapegacbibeaa.PUsageLives.usage_Place.f K N S b = some (p, s, 0))) (HA : Aside0 (Go.Proofs.Ytgiapegacbibeaa.PUsagePlaces.usage_Address.f K N S q r = some (a, 0))) (hK : 1 ≤ K ∧ K ≤ 255) (hS : 1 ≤ S ∧ S ≤ 128) (ha : 1 ≤ a ∧ a ≤ 4 * K * S) (hq : 0 ≤ q ∧ q < S) (hr : 0 ≤ r ∧ r < 4 * K) (h1 : q = p) (h2 : s < r) (h3 : b < a) :
    Calls Try.prog 5 #[.agg #[.int .i64 K, .int .i64 N, .int .i64 S], .int .u32 a, .int .u32 b] w fun e w' => e = .returned (.bool true) ∧ Below w.heap.size w w' := by
  have hu23 := Aside0.mk Try.underlying23
  have hA := area K S hK hS
  have ha2 : a < 4294967296 := by omega
  have t5 : a ≤ IntKind.u64.wrap (4 * K * S) := by
    rw [IntWalk.u64_in _ (by omega)]
    omega
  subst h1
  have e_rs : (r == s) = false := beq_eq_false_iff_ne.2 (by omega)
  have l_rs : decide (r < s) = false := decide_eq_false (by omega)
  have e_ab : (a == b) = false := beq_eq_false_iff_ne.2 (by omega)
  have l_ab : decide (a < b) = false := decide_eq_false (by omega)
  go_enter Try.func5, Try.ntmps5
  go_wp2_with (first
    | ((with_reducible refine gate_dst (N := 3) rfl ?_); refine box_event ?hg (N := 3) ?hd (cs := #[.int .i64 K, .int .i64 N, .int .i64 S]) (t := 23) ?hr ?_; (case hd => rfl); (case hg => rfl); (case hr => first | (go_simp; done) | (go_simp; rfl) | kernel_rfl); intro gg hg w1 hbox hb; have Gg := Aside0.mk (Nat.le_of_eq hg.symm); have HB1 := Aside0.mk (hb); have Bg1 := Aside0.mk (hbox); clear hb hbox hg)
    | ((with_reducible refine gate_dst (N := 16) rfl ?_); refine wpList_load_row rfl 23 (.tmp 3) (by kernel_rfl) gg (by kernel_rfl) _ _ _ _ Bg1.out hu23.out rfl sizeGeo ?_)
    | ((with_reducible refine gate_dst (N := 23) rfl ?_); refine wpList_load_row rfl 23 (.tmp 3) (by kernel_rfl) gg (by kernel_rfl) _ _ _ _ Bg2.out hu23.out rfl sizeGeo ?_)
    | ((with_reducible refine gate_dst (N := 98) rfl ?_); refine wpList_load_row rfl 23 (.tmp 3) (by kernel_rfl) gg (by kernel_rfl) _ _ _ _ Bg3.out hu23.out rfl sizeGeo ?_)
    | (have hz := HB4.out; clear hz; go_at_call 11; refine (wakes_true _).mono ?_; rintro e w5 ⟨rfl, hb⟩; have HB5 := Aside0.mk (below_step HB4.out hb); clear hb)
    | (have hz := HB3.out; clear hz; go_at_call 7; refine (Go.Proofs.Ytgiapegacbibeaa.PUsagePlaces.usage_Address.calls K N S q r a 0 _ HA.out).mono ?_; rintro e w4 ⟨rfl, hb⟩; have HB4 := Aside0.mk (below_step HB3.out hb); have Bg4 := Aside0.mk (blk_below Bg3.out hb); have c0 : w4.cell? ⟨gg, 0, none⟩ = some (.int .i64 K) := blk_cell Bg4.out 0; have c2 : w4.cell? ⟨gg, 2, none⟩ = some (.int .i64 S) := blk_cell Bg4.out 2; clear hb)
    | (have hz := HB2.out; clear hz; go_at_call 9; refine (Go.Proofs.Ytgiapegacbibeaa.PUsageLives.usage_Place.calls K N S b q s 0 _ HQ.out).mono ?_; rintro e w3 ⟨rfl, hb⟩; have HB3 := Aside0.mk (below_step HB2.out hb); have Bg3 := Aside0.mk (blk_below Bg2.out hb); have c0 : w3.cell? ⟨gg, 0, none⟩ = some (.int .i64 K) := blk_cell Bg3.out 0; have c2 : w3.cell? ⟨gg, 2, none⟩ = some (.int .i64 S) := blk_cell Bg3.out 2; clear hb)
    | (have hz := HB1.out; clear hz; go_at_call 9; refine (Go.Proofs.Ytgiapegacbibeaa.PUsageLives.usage_Place.calls K N S a q r 0 _ HP.out).mono ?_; rintro e w2 ⟨rfl, hb⟩; have HB2 := Aside0.mk (below_step HB1.out hb); have Bg2 := Aside0.mk (blk_below Bg1.out hb); clear hb))
  go_ret
  exact ⟨rfl, HB5.out⟩
set_option maxHeartbeats 4000000 in
set_option maxRecDepth 100000 in
theorem back_in4 (K N S a b q r p s : Int) (w : World) (HP : Aside0 (Go.Proofs.Ytgiapegacbibeaa.PUsageLives.usage_Place.f K N S a = some (q, r, 0))) (HQ : Aside0 (Go.Proofs.Ytgiapegacbibeaa.PUsageLives.usage_Place.f K N S b = some (p, s, 0))) (HA : Aside0 (Go.Proofs.Ytgiapegacbibeaa.PUsagePlaces.usage_Address.f K N S q r = some (a, 0))) (hK : 1 ≤ K ∧ K ≤ 255) (hS : 1 ≤ S ∧ S ≤ 128) (ha : 1 ≤ a ∧ a ≤ 4 * K * S) (hq : 0 ≤ q ∧ q < S) (hr : 0 ≤ r ∧ r < 4 * K) (h1 : p < q) (h2 : b < a) :
    Calls Try.prog 5 #[.agg #[.int .i64 K, .int .i64 N, .int .i64 S], .int .u32 a, .int .u32 b] w fun e w' => e = .returned (.bool true) ∧ Below w.heap.size w w' := by
  have hu23 := Aside0.mk Try.underlying23
  have hA := area K S hK hS
  have ha2 : a < 4294967296 := by omega
  have t5 : a ≤ IntKind.u64.wrap (4 * K * S) := by
    rw [IntWalk.u64_in _ (by omega)]
    omega
  have e_qp : (q == p) = false := beq_eq_false_iff_ne.2 (by omega)
  have l_qp : decide (q < p) = false := decide_eq_false (by omega)
  have e_ab : (a == b) = false := beq_eq_false_iff_ne.2 (by omega)
  have l_ab : decide (a < b) = false := decide_eq_false (by omega)
  go_enter Try.func5, Try.ntmps5
  go_wp2_with (first
    | ((with_reducible refine gate_dst (N := 3) rfl ?_); refine box_event ?hg (N := 3) ?hd (cs := #[.int .i64 K, .int .i64 N, .int .i64 S]) (t := 23) ?hr ?_; (case hd => rfl); (case hg => rfl); (case hr => first | (go_simp; done) | (go_simp; rfl) | kernel_rfl); intro gg hg w1 hbox hb; have Gg := Aside0.mk (Nat.le_of_eq hg.symm); have HB1 := Aside0.mk (hb); have Bg1 := Aside0.mk (hbox); clear hb hbox hg)
    | ((with_reducible refine gate_dst (N := 16) rfl ?_); refine wpList_load_row rfl 23 (.tmp 3) (by kernel_rfl) gg (by kernel_rfl) _ _ _ _ Bg1.out hu23.out rfl sizeGeo ?_)
    | ((with_reducible refine gate_dst (N := 23) rfl ?_); refine wpList_load_row rfl 23 (.tmp 3) (by kernel_rfl) gg (by kernel_rfl) _ _ _ _ Bg2.out hu23.out rfl sizeGeo ?_)
    | ((with_reducible refine gate_dst (N := 98) rfl ?_); refine wpList_load_row rfl 23 (.tmp 3) (by kernel_rfl) gg (by kernel_rfl) _ _ _ _ Bg3.out hu23.out rfl sizeGeo ?_)
    | (have hz := HB4.out; clear hz; go_at_call 11; refine (wakes_true _).mono ?_; rintro e w5 ⟨rfl, hb⟩; have HB5 := Aside0.mk (below_step HB4.out hb); clear hb)
    | (have hz := HB3.out; clear hz; go_at_call 7; refine (Go.Proofs.Ytgiapegacbibeaa.PUsagePlaces.usage_Address.calls K N S q r a 0 _ HA.out).mono ?_; rintro e w4 ⟨rfl, hb⟩; have HB4 := Aside0.mk (below_step HB3.out hb); have Bg4 := Aside0.mk (blk_below Bg3.out hb); have c0 : w4.cell? ⟨gg, 0, none⟩ = some (.int .i64 K) := blk_cell Bg4.out 0; have c2 : w4.cell? ⟨gg, 2, none⟩ = some (.int .i64 S) := blk_cell Bg4.out 2; clear hb)
    | (have hz := HB2.out; clear hz; go_at_call 9; refine (Go.Proofs.Ytgiapegacbibeaa.PUsageLives.usage_Place.calls K N S b p s 0 _ HQ.out).mono ?_; rintro e w3 ⟨rfl, hb⟩; have HB3 := Aside0.mk (below_step HB2.out hb); have Bg3 := Aside0.mk (blk_below Bg2.out hb); have c0 : w3.cell? ⟨gg, 0, none⟩ = some (.int .i64 K) := blk_cell Bg3.out 0; have c2 : w3.cell? ⟨gg, 2, none⟩ = some (.int .i64 S) := blk_cell Bg3.out 2; clear hb)
    | (have hz := HB1.out; clear hz; go_at_call 9; refine (Go.Proofs.Ytgiapegacbibeaa.PUsageLives.usage_Place.calls K N S a q r 0 _ HP.out).mono ?_; rintro e w2 ⟨rfl, hb⟩; have HB2 := Aside0.mk (below_step HB1.out hb); have Bg2 := Aside0.mk (blk_below Bg1.out hb); clear hb))
  go_ret
  exact ⟨rfl, HB5.out⟩
theorem back_law (K N S a b : Int) (w : World) (ha : 0 ≤ a ∧ a < 4294967296) (hb : 0 ≤ b ∧ b < 4294967296) :
    Calls Try.prog 5 #[.agg #[.int .i64 K, .int .i64 N, .int .i64 S], .int .u32 a, .int .u32 b] w fun e w' => e = .returned (.bool true) ∧ Below w.heap.size w w' := by
  by_cases h : (1 ≤ K ∧ K ≤ 255) ∧ 1 ≤ S ∧ S ≤ 128
  rotate_left
  · exact back_arg K N S a b w ⟨place_arg K N S a h⟩ ⟨place_arg K N S b h⟩ h
  obtain ⟨hK, hS⟩ := h
  by_cases h1 : 1 ≤ a ∧ a ≤ 4 * K * S
  rotate_left
  · by_cases h2 : 1 ≤ b ∧ b ≤ 4 * K * S
    · exact back_out K N S a b _ _ _ w ⟨place_no K N S a hK hS ha h1⟩ ⟨place_yes K N S b hK hS h2⟩ (.inl rfl) hK hS ha h1
    · exact back_out K N S a b _ _ _ w ⟨place_no K N S a hK hS ha h1⟩ ⟨place_no K N S b hK hS hb h2⟩ (.inr rfl) hK hS ha h1
  obtain ⟨i1, i2, i3, i4⟩ := place_in hK hS h1
  have hA := addr_back K N S _ _ a hK hS ⟨i1, i2⟩ ⟨i3, i4⟩ (place_back K a hK)
  by_cases h2 : 1 ≤ b ∧ b ≤ 4 * K * S
  rotate_left
  · exact back_mix K N S a b _ _ w ⟨place_yes K N S a hK hS h1⟩ ⟨place_no K N S b hK hS hb h2⟩ ⟨hA⟩ hK hS h1 ⟨i1, i2⟩ ⟨i3, i4⟩
  obtain ⟨j1, j2, j3, j4⟩ := place_in hK hS h2
  have ea := place_back K a hK
  have eb := place_back K b hK
  have pa := place_yes K N S a hK hS h1
  have pb := place_yes K N S b hK hS h2
  obtain ⟨q, hq⟩ : ∃ q, (a - 1) / (4 * K) = q := ⟨_, rfl⟩
  obtain ⟨r, hr⟩ : ∃ q, (a - 1) % (4 * K) = q := ⟨_, rfl⟩
  obtain ⟨p, hp⟩ : ∃ q, (b - 1) / (4 * K) = q := ⟨_, rfl⟩
  obtain ⟨s, hs⟩ : ∃ q, (b - 1) % (4 * K) = q := ⟨_, rfl⟩
  rw [hq, hr] at pa ea hA
  rw [hp, hs] at pb eb
  rw [hq] at i1 i2
  rw [hr] at i3 i4
  rw [hs] at j3 j4
  rcases Int.lt_trichotomy q p with c | c | c
  · exact back_in0 K N S a b q r p s w ⟨pa⟩ ⟨pb⟩ ⟨hA⟩ hK hS h1 ⟨i1, i2⟩ ⟨i3, i4⟩ c (order K q r p s a b ⟨i3, i4⟩ ⟨j3, j4⟩ ea eb c)
  · have ec : 4 * K * q = 4 * K * p := by rw [c]
    rcases Int.lt_trichotomy r s with d | d | d
    · exact back_in1 K N S a b q r p s w ⟨pa⟩ ⟨pb⟩ ⟨hA⟩ hK hS h1 ⟨i1, i2⟩ ⟨i3, i4⟩ c d (by omega)
    · exact back_in2 K N S a b q r p s w ⟨pa⟩ ⟨pb⟩ ⟨hA⟩ hK hS h1 ⟨i1, i2⟩ ⟨i3, i4⟩ c d (by omega)
    · exact back_in3 K N S a b q r p s w ⟨pa⟩ ⟨pb⟩ ⟨hA⟩ hK hS h1 ⟨i1, i2⟩ ⟨i3, i4⟩ c d (by omega)
  · exact back_in4 K N S a b q r p s w ⟨pa⟩ ⟨pb⟩ ⟨hA⟩ hK hS h1 ⟨i1, i2⟩ ⟨i3, i4⟩ c (order K p s q r b a ⟨j3, j4⟩ ⟨i3, i4⟩ eb ea c)
end Go.Proofs.Ytgiapegacbibeaa.UM
