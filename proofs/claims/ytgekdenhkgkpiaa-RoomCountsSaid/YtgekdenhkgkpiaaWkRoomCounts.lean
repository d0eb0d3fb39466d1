/- RoomCounts: the law's walk, out of the functions' contracts. -/
import Derived.Test.YtgekdenhkgkpiaaPRoomCountsx1
import Derived.Test.YtgekdenhkgkpiaaPRoomPartsx2
import Derived.Outline
namespace Go.Proofs.Ytgekdenhkgkpiaa.WkRoomCounts
open Go.RowKit Go.Proofs.YtgekdenhkgkpiaaW.PrintWords Go.Proofs.YtgekdenhkgkpiaaW.PrintLast Go.Proofs.YtgekdenhkgkpiaaW.PrintMore
set_option maxHeartbeats 2000000 in
set_option maxRecDepth 100000 in
theorem counts_some (k : Nat) (a0 a1 : Int) (A2 : Option Addr) (c2 : Nat) (l2 : List Int) (w : World) (hr2 : Kd.C (Kd.int .i64) w A2 l2.length l2) (hc2 : l2.length ≤ c2)
    (hl : 0 < l2.length) (s c g u us : Int) (h1 : PRoomCounts.room_Sum.f a0 = some s) (h2 : PRoomCounts.hayrickref21_Sum.f k a0 = some s)
    (h3 : PRoomCounts.room_Cap.f a0 = some c) (h4 : PRoomCounts.hayrickref21_Cap.f k a0 = some c) (h5 : PRoomCounts.room_Segs.f a0 a1 = some g) (h6 : PRoomCounts.hayrickref21_Segs.f k a0 a1 = some g)
    (h7 : PRoomCounts.room_Use.f (rd l2 0) = some u) (h8 : PRoomCounts.hayrickref21_Use.f (rd l2 0) = some u) (h9 : PRoomCounts.room_Used.f k l2 = some us) (h10 : PRoomCounts.hayrickref21_Used.f k l2 = some us)
    (h11 : PRoomParts.hayricklaw21_wakes.f k = some true) :
    Calls Try.prog 3 #[.int .i64 a0, .int .i64 a1, .slice A2 l2.length c2] w fun e w' => e = .returned (.bool true) ∧ Below w.heap.size w w' := by
  obtain ⟨ad, e, hx⟩ := Kd.at_int hr2 0 (by omega) (by omega)
  subst e
  rw [show ((0 : Int)).toNat = 0 from rfl, Addr.add_zero'] at hx
  have H1 := Aside0.mk h1
  have H2 := Aside0.mk h2
  have H3 := Aside0.mk h3
  have H4 := Aside0.mk h4
  have H5 := Aside0.mk h5
  have H6 := Aside0.mk h6
  have H7 := Aside0.mk h7
  have H8 := Aside0.mk h8
  have H9 := Aside0.mk h9
  have H10 := Aside0.mk h10
  have H11 := Aside0.mk h11
  have HR := Aside0.mk hr2
  have HC := Aside0.mk hc2
  clear h1 h2 h3 h4 h5 h6 h7 h8 h9 h10 h11 hr2 hc2
  go_enter Try.func3, Try.ntmps3
  go_wp2_with (first | (go_at_call 9; refine (PRoomCounts.room_Sum.calls a0 s _ H1.out).mono ?_; rintro e w' ⟨rfl, ⟨nd, rfl⟩⟩) | (go_at_call 10; refine (PRoomCounts.hayrickref21_Sum.calls k a0 s _ H2.out).mono ?_; rintro e w' ⟨rfl, ⟨nd, rfl⟩⟩) | (go_at_call 11; refine (PRoomCounts.room_Cap.calls a0 c _ H3.out).mono ?_; rintro e w' ⟨rfl, ⟨nd, rfl⟩⟩) | (go_at_call 12; refine (PRoomCounts.hayrickref21_Cap.calls k a0 c _ H4.out).mono ?_; rintro e w' ⟨rfl, ⟨nd, rfl⟩⟩) | (go_at_call 13; refine (PRoomCounts.room_Segs.calls a0 a1 g _ H5.out).mono ?_; rintro e w' ⟨rfl, ⟨nd, rfl⟩⟩) | (go_at_call 14; refine (PRoomCounts.hayrickref21_Segs.calls k a0 a1 g _ H6.out).mono ?_; rintro e w' ⟨rfl, ⟨nd, rfl⟩⟩) | (go_at_call 15; refine (PRoomCounts.room_Use.calls (rd l2 0) u _ H7.out).mono ?_; rintro e w1 ⟨rfl, hb1⟩; have B1 := Aside0.mk (below_then (pw_below_drewN (Below.refl w.heap.size w) _) (Nat.le_refl _) hb1); clear hb1) | (go_at_call 16; refine (PRoomCounts.hayrickref21_Use.calls (rd l2 0) u _ H8.out).mono ?_; rintro e w' ⟨rfl, ⟨nd, rfl⟩⟩) | (go_at_call 17; refine (PRoomCounts.room_Used.calls k (some ad) c2 l2 us _ (Kd.C_below HR.out (pw_below_drewN B1.out _)) HC.out H9.out).mono ?_; rintro e w2 ⟨rfl, hb2⟩; have B2 := Aside0.mk (below_then (pw_below_drewN B1.out _) B1.out.size hb2); clear hb2) | (go_at_call 18; refine (PRoomCounts.hayrickref21_Used.calls k (some ad) c2 l2 us _ (Kd.C_below HR.out B2.out) HC.out H10.out).mono ?_; rintro e w' ⟨rfl, ⟨nd, rfl⟩⟩) | (go_at_call 19; refine (PRoomParts.hayricklaw21_wakes.calls k true _ H11.out).mono ?_; rintro e w' ⟨rfl, hb⟩))
  go_ret
  exact ⟨rfl, below_then (pw_below_drewN B2.out _) B2.out.size hb⟩
set_option maxHeartbeats 2000000 in
set_option maxRecDepth 100000 in
theorem counts_none (k : Nat) (a0 a1 : Int) (A2 : Option Addr) (c2 : Nat) (l2 : List Int) (w : World) (hr2 : Kd.C (Kd.int .i64) w A2 l2.length l2) (hc2 : l2.length ≤ c2)
    (hl : l2 = []) (s c g u us : Int) (h1 : PRoomCounts.room_Sum.f a0 = some s) (h2 : PRoomCounts.hayrickref21_Sum.f k a0 = some s)
    (h3 : PRoomCounts.room_Cap.f a0 = some c) (h4 : PRoomCounts.hayrickref21_Cap.f k a0 = some c) (h5 : PRoomCounts.room_Segs.f a0 a1 = some g) (h6 : PRoomCounts.hayrickref21_Segs.f k a0 a1 = some g)
    (h7 : PRoomCounts.room_Use.f 0 = some u) (h8 : PRoomCounts.hayrickref21_Use.f 0 = some u) (h9 : PRoomCounts.room_Used.f k l2 = some us) (h10 : PRoomCounts.hayrickref21_Used.f k l2 = some us)
    (h11 : PRoomParts.hayricklaw21_wakes.f k = some true) :
    Calls Try.prog 3 #[.int .i64 a0, .int .i64 a1, .slice A2 l2.length c2] w fun e w' => e = .returned (.bool true) ∧ Below w.heap.size w w' := by
  have hl0 : l2.length ≤ 0 := by rw [hl]; exact Nat.le_refl _
  clear hl
  have H1 := Aside0.mk h1
  have H2 := Aside0.mk h2
  have H3 := Aside0.mk h3
  have H4 := Aside0.mk h4
  have H5 := Aside0.mk h5
  have H6 := Aside0.mk h6
  have H7 := Aside0.mk h7
  have H8 := Aside0.mk h8
  have H9 := Aside0.mk h9
  have H10 := Aside0.mk h10
  have H11 := Aside0.mk h11
  have HR := Aside0.mk hr2
  have HC := Aside0.mk hc2
  clear h1 h2 h3 h4 h5 h6 h7 h8 h9 h10 h11 hr2 hc2
  go_enter Try.func3, Try.ntmps3
  go_wp2_with (first | (go_at_call 9; refine (PRoomCounts.room_Sum.calls a0 s _ H1.out).mono ?_; rintro e w' ⟨rfl, ⟨nd, rfl⟩⟩) | (go_at_call 10; refine (PRoomCounts.hayrickref21_Sum.calls k a0 s _ H2.out).mono ?_; rintro e w' ⟨rfl, ⟨nd, rfl⟩⟩) | (go_at_call 11; refine (PRoomCounts.room_Cap.calls a0 c _ H3.out).mono ?_; rintro e w' ⟨rfl, ⟨nd, rfl⟩⟩) | (go_at_call 12; refine (PRoomCounts.hayrickref21_Cap.calls k a0 c _ H4.out).mono ?_; rintro e w' ⟨rfl, ⟨nd, rfl⟩⟩) | (go_at_call 13; refine (PRoomCounts.room_Segs.calls a0 a1 g _ H5.out).mono ?_; rintro e w' ⟨rfl, ⟨nd, rfl⟩⟩) | (go_at_call 14; refine (PRoomCounts.hayrickref21_Segs.calls k a0 a1 g _ H6.out).mono ?_; rintro e w' ⟨rfl, ⟨nd, rfl⟩⟩) | (go_at_call 15; refine (PRoomCounts.room_Use.calls 0 u _ H7.out).mono ?_; rintro e w1 ⟨rfl, hb1⟩; have B1 := Aside0.mk (below_then (pw_below_drewN (Below.refl w.heap.size w) _) (Nat.le_refl _) hb1); clear hb1) | (go_at_call 16; refine (PRoomCounts.hayrickref21_Use.calls 0 u _ H8.out).mono ?_; rintro e w' ⟨rfl, ⟨nd, rfl⟩⟩) | (go_at_call 17; refine (PRoomCounts.room_Used.calls k A2 c2 l2 us _ (Kd.C_below HR.out (pw_below_drewN B1.out _)) HC.out H9.out).mono ?_; rintro e w2 ⟨rfl, hb2⟩; have B2 := Aside0.mk (below_then (pw_below_drewN B1.out _) B1.out.size hb2); clear hb2) | (go_at_call 18; refine (PRoomCounts.hayrickref21_Used.calls k A2 c2 l2 us _ (Kd.C_below HR.out B2.out) HC.out H10.out).mono ?_; rintro e w' ⟨rfl, ⟨nd, rfl⟩⟩) | (go_at_call 19; refine (PRoomParts.hayricklaw21_wakes.calls k true _ H11.out).mono ?_; rintro e w' ⟨rfl, hb⟩))
  go_ret
  exact ⟨rfl, below_then (pw_below_drewN B2.out _) B2.out.size hb⟩
end Go.Proofs.Ytgekdenhkgkpiaa.WkRoomCounts
