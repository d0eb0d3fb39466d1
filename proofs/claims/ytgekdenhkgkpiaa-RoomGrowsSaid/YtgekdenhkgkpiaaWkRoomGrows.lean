/- RoomGrows: the law's walks, out of the functions' contracts. -/
import Derived.Test.YtgekdenhkgkpiaaPRoomGrowsx2
import Derived.WalkSpells
import Derived.Deep.RegionHeld3
import Derived.Deep.RegionWith
namespace Go.Proofs.Ytgekdenhkgkpiaa.WkRoomGrows
open Go.RowKit Go.Proofs.YtgekdenhkgkpiaaW.PrintWords Go.Proofs.YtgekdenhkgkpiaaW.PrintLast Go.Proofs.YtgekdenhkgkpiaaW.PrintMore
open Go.Proofs.Ytgekdenhkgkpiaa.PRoomGrows
attribute [local go_sem] max2_int min2_int max_two min_two
set_option linter.unusedVariables false
set_option maxHeartbeats 2000000 in
set_option maxRecDepth 100000 in
theorem walk_yyy (k : Nat) (g0 g1 g2 more used less size other : Int) (A : Option Addr) (c : Nat) (l : List Int) (w : World) (hr : ReadsInt w .i64 A l.length l) (hl : l.length * 8 ≤ 140737488351232)
    (hc : l.length ≤ c) (a us uo m1 m2 lo hi s1 s2 : Int) (U1 : room_Used.f k l = some a) (U2 : room_Used.f k (l ++ [size]) = some (a + us)) (ha0 : 0 ≤ a) (ha1 : a ≤ 1125899906842624)
    (S : room_Use.f size = some us) (hus0 : 1 ≤ us) (hus1 : us ≤ 36) (O : room_Use.f other = some uo) (hso : size ≤ other) (huo : us ≤ uo)
    (e1 : (if 128 < more then 128 else more) = m1) (e2 : (if g2 < m1 then m1 else g2) = m2) (e3 : (if less < used then less else used) = lo) (e4 : (if used < less then less else used) = hi)
    (F1 : room_Fits.f k g0 g1 g2 used = some true) (F2 : room_Fits.f k g0 g1 m2 used = some true)  (hle : less ≤ used) (F3 : room_Fits.f k g0 g1 g2 less = some true)
    (G1 : room_Segs.f g0 lo = some s1) (G2 : room_Segs.f g0 hi = some s2) (hs : s1 ≤ s2) (Wk : hayricklaw21_wakes.f k = some true) :
    Calls Try.prog 7 #[.agg #[.int .i64 g0, .int .i64 g1, .int .i64 g2], .int .i64 more, .int .i64 used, .int .i64 less, .slice A l.length c, .int .i64 size, .int .i64 other] w fun e w' => e = .returned (.bool true) ∧ Below w.heap.size w w' := by
  have HU1 := Aside0.mk U1
  have HU2 := Aside0.mk U2
  have HS := Aside0.mk S
  have HF1 := Aside0.mk F1
  have HG1 := Aside0.mk G1
  have HG2 := Aside0.mk G2
  have HW := Aside0.mk Wk
  have HO := Aside0.mk O
  have HF2 := Aside0.mk F2
  have HF3 := Aside0.mk F3
  have HR := Aside0.mk hr
  have HC := Aside0.mk hc
  have HB := Aside0.mk (Below.refl w.heap.size w)
  have E1 := Aside0.mk e1
  have E2 := Aside0.mk e2
  have E3 := Aside0.mk e3
  have E4 := Aside0.mk e4
  have hu31 := Try.underlying31
  clear U1 U2 S F1 G1 G2 Wk O F2 F3 hr hc e1 e2 e3 e4
  go_enter Try.func7, Try.ntmps7
  go_wp2_with (first
    | ((with_reducible refine gate_dst (N := 7) rfl ?_); refine box_event ?hg (N := 7) ?hd (cs := #[.int .i64 g0, .int .i64 g1, .int .i64 g2]) (t := 31) ?hr ?_; (case hd => rfl); (case hg => rfl); (case hr => first | (go_simp; done) | (go_simp; rfl)); intro gb hg w1 hbox hb; have n1 := Aside0.mk (below_step HB.out hb); have BK := Aside0.mk hbox; have GE := Aside0.mk (by rw [hg]; exact HB.out.size : w.heap.size ≤ gb); clear HB; have HB := n1; clear n1 hb hbox hg))
  refine (room_Used.calls k A c l a _ (Kd.C_of_reads (d := (0 : Int)) (h1 := fun _ => rfl) (HR.out.below HB.out)) HC.out HU1.out).mono ?_
  rintro e w2 ⟨rfl, hb⟩
  have HB2 := Aside0.mk (below_step HB.out hb)
  have BK2 := Aside0.mk (blk_below BK.out hb)
  have HR2 := Aside0.mk (HR.out.below HB2.out)
  clear hb HB BK HR
  go_wp2_with (first
    | (at_builtin; with_reducible refine gate_dst (N := 21) rfl ?_; refine print_append_row (w0 := w) w.heap.size rfl (.const (.slice none 0 0)) (.tmp 20) 22 3 .i64 8 rfl Try.underlying22 info3 (by omega) (.slice none 0 0) [] l A l.length c rfl rfl (own_nil _ _ _ _) HR2.out HB2.out HB2.out.size (by simp; omega) ?_; intro v1 w3 ho hb3 hg3 _; have HO3 := Aside0.mk ho; have HB3 := Aside0.mk hb3; have BK3 := Aside0.mk (blk_grown BK2.out hg3 (by simp [Value.ownBlock])); clear ho hb3 hg3)
    | (at_builtin; with_reducible refine gate_dst (N := 24) rfl ?_; refine print_append_num (w0 := w) w.heap.size rfl (.tmp 21) (.tmp 23) 22 3 .i64 8 rfl Try.underlying22 info3 (by omega) v1 ([] ++ l) size rfl rfl HO3.out HB3.out HB3.out.size (by simp; omega) ?_; intro v2 w4 ho hb4 hg4 _; have HO4 := Aside0.mk ho; have HB4 := Aside0.mk hb4; have HG4 := Aside0.mk hg4; clear ho hb4 hg4))
  obtain ⟨A4, c4, q4, hr4⟩ := own_reads HO4.out
  have BK4 := Aside0.mk (blk_grown BK3.out HG4.out (own_ne HO3.out BK3.out (by decide)))
  subst q4
  refine (room_Used.calls k A4 c4 ([] ++ l ++ [size]) (a + us) _ (Kd.C_of_reads (d := (0 : Int)) (h1 := fun _ => rfl) hr4) (own_cap HO4.out) HU2.out).mono ?_
  rintro e w5 ⟨rfl, hb⟩
  have HB5 := Aside0.mk (below_step HB4.out hb)
  have BK5 := Aside0.mk (blk_below BK4.out hb)
  clear hb HB4 BK4 HB2 BK2 HB3 BK3 HO3 HO4 HG4 hr4 HR2
  go_wp2_with fail
  refine (room_Use.calls size us _ HS.out).mono ?_
  rintro e w6 ⟨rfl, hb⟩
  have HB6 := Aside0.mk (below_step HB5.out hb)
  have BK6 := Aside0.mk (blk_below BK5.out hb)
  clear hb HB5 BK5
  go_wp2_with fail
  refine (room_Use.calls size us _ HS.out).mono ?_
  rintro e w7 ⟨rfl, hb⟩
  have HB7 := Aside0.mk (below_step HB6.out hb)
  have BK7 := Aside0.mk (blk_below BK6.out hb)
  clear hb HB6 BK6
  go_wp2_with fail
  refine (room_Use.calls size us _ HS.out).mono ?_
  rintro e w8 ⟨rfl, hb⟩
  have HB8 := Aside0.mk (below_step HB7.out hb)
  have BK8 := Aside0.mk (blk_below BK7.out hb)
  clear hb HB7 BK7
  go_wp2_with fail
  refine (room_Use.calls size us _ HS.out).mono ?_
  rintro e w9 ⟨rfl, hb⟩
  have HB9 := Aside0.mk (below_step HB8.out hb)
  have BK9 := Aside0.mk (blk_below BK8.out hb)
  clear hb HB8 BK8
  go_wp2_with fail
  refine (room_Use.calls other uo _ HO.out).mono ?_
  rintro e w10 ⟨rfl, hb⟩
  have HB10 := Aside0.mk (below_step HB9.out hb)
  have BK10 := Aside0.mk (blk_below BK9.out hb)
  clear hb HB9 BK9
  have c0 : w10.cell? ⟨gb, 0, none⟩ = some (.int .i64 g0) := (blk_cell BK10.out 0).trans rfl
  have c1 : w10.cell? ⟨gb, 1, none⟩ = some (.int .i64 g1) := (blk_cell BK10.out 1).trans rfl
  have c2 : w10.cell? ⟨gb, 2, none⟩ = some (.int .i64 g2) := (blk_cell BK10.out 2).trans rfl
  have d0 : ∀ o, (w10.alloc o).cell? ⟨gb, 0, none⟩ = some (.int .i64 g0) := fun o => (blk_cell (blk_alloc BK10.out o) 0).trans rfl
  have d1 : ∀ o, (w10.alloc o).cell? ⟨gb, 1, none⟩ = some (.int .i64 g1) := fun o => (blk_cell (blk_alloc BK10.out o) 1).trans rfl
  have d2 : ∀ o, (w10.alloc o).cell? ⟨gb, 2, none⟩ = some (.int .i64 g2) := fun o => (blk_cell (blk_alloc BK10.out o) 2).trans rfl
  have e1 := E1.out
  have e2 := E2.out
  go_wp2_with fail
  refine (room_Fits.calls k g0 g1 g2 used true _ HF1.out).mono ?_
  rintro e w11 ⟨rfl, hb⟩
  have HB11 := Aside0.mk (below_step (below_alloc HB10.out _) hb)
  have BK11 := Aside0.mk (blk_below (blk_alloc BK10.out _) hb)
  have BL11 := Aside0.mk (blk_below (blk_new w10 _) hb)
  clear hb HB10 BK10 c0 c1 c2 d0 d1 d2
  have c0 : w11.cell? ⟨gb, 0, none⟩ = some (.int .i64 g0) := (blk_cell BK11.out 0).trans rfl
  have c1 : w11.cell? ⟨gb, 1, none⟩ = some (.int .i64 g1) := (blk_cell BK11.out 1).trans rfl
  have c2 : w11.cell? ⟨gb, 2, none⟩ = some (.int .i64 g2) := (blk_cell BK11.out 2).trans rfl
  have f0 : w11.cell? ⟨w10.heap.size, 0, none⟩ = some (.int .i64 g0) := (blk_cell BL11.out 0).trans rfl
  have f1 : w11.cell? ⟨w10.heap.size, 1, none⟩ = some (.int .i64 g1) := (blk_cell BL11.out 1).trans rfl
  have f2 : w11.cell? ⟨w10.heap.size, 2, none⟩ = some (.int .i64 m2) := (blk_cell BL11.out 2).trans rfl
  go_wp2_with fail
  refine (room_Fits.calls k g0 g1 m2 used true _ HF2.out).mono ?_
  rintro e w12 ⟨rfl, hb⟩
  have HB12 := Aside0.mk (below_step HB11.out hb)
  have BK12 := Aside0.mk (blk_below BK11.out hb)
  have BL12 := Aside0.mk (blk_below BL11.out hb)
  clear hb HB11 BK11 BL11 c0 c1 c2 f0 f1 f2
  have c0 : w12.cell? ⟨gb, 0, none⟩ = some (.int .i64 g0) := (blk_cell BK12.out 0).trans rfl
  have c1 : w12.cell? ⟨gb, 1, none⟩ = some (.int .i64 g1) := (blk_cell BK12.out 1).trans rfl
  have c2 : w12.cell? ⟨gb, 2, none⟩ = some (.int .i64 g2) := (blk_cell BK12.out 2).trans rfl
  have f0 : w12.cell? ⟨w10.heap.size, 0, none⟩ = some (.int .i64 g0) := (blk_cell BL12.out 0).trans rfl
  have f1 : w12.cell? ⟨w10.heap.size, 1, none⟩ = some (.int .i64 g1) := (blk_cell BL12.out 1).trans rfl
  have f2 : w12.cell? ⟨w10.heap.size, 2, none⟩ = some (.int .i64 m2) := (blk_cell BL12.out 2).trans rfl
  go_wp2_with fail
  refine (room_Fits.calls k g0 g1 g2 less true _ HF3.out).mono ?_
  rintro e w13 ⟨rfl, hb⟩
  have HB13 := Aside0.mk (below_step HB12.out hb)
  have BK13 := Aside0.mk (blk_below BK12.out hb)
  have BL13 := Aside0.mk (blk_below BL12.out hb)
  clear hb HB12 BK12 BL12 c0 c1 c2 f0 f1 f2
  have c0 : w13.cell? ⟨gb, 0, none⟩ = some (.int .i64 g0) := (blk_cell BK13.out 0).trans rfl
  have c1 : w13.cell? ⟨gb, 1, none⟩ = some (.int .i64 g1) := (blk_cell BK13.out 1).trans rfl
  have c2 : w13.cell? ⟨gb, 2, none⟩ = some (.int .i64 g2) := (blk_cell BK13.out 2).trans rfl
  have f0 : w13.cell? ⟨w10.heap.size, 0, none⟩ = some (.int .i64 g0) := (blk_cell BL13.out 0).trans rfl
  have f1 : w13.cell? ⟨w10.heap.size, 1, none⟩ = some (.int .i64 g1) := (blk_cell BL13.out 1).trans rfl
  have f2 : w13.cell? ⟨w10.heap.size, 2, none⟩ = some (.int .i64 m2) := (blk_cell BL13.out 2).trans rfl
  clear e1 e2
  go_wp2_with fail
  clear f0 f1 f2 c1 c2 hle
  have e3 := E3.out
  have e4 := E4.out
  go_region_held3 (fun w' => w'.cell? ⟨gb, 0, none⟩ = some (.int .i64 g0)) (go_keep)
    (first | (go_at_call_of 13 lo; refine (room_Segs.calls g0 lo s1 _ HG1.out).mono ?_; rintro e w' ⟨rfl, ⟨nd, rfl⟩⟩) | (go_at_call_of 13 hi; refine (room_Segs.calls g0 hi s2 _ HG2.out).mono ?_; rintro e w' ⟨rfl, ⟨nd, rfl⟩⟩) | (go_at_call 19; refine (hayricklaw21_wakes.calls k true _ HW.out).mono ?_; rintro e w20 ⟨rfl, hb⟩; have HB20 := Aside0.mk (below_step (pw_below_drewN HB13.out _) hb); have cz := (pw_cell_below hb c0); clear hb))
  all_goals go_wp2
  all_goals go_ret
  all_goals exact ⟨rfl, HB20.out⟩
set_option maxHeartbeats 2000000 in
set_option maxRecDepth 100000 in
theorem walk_yyn (k : Nat) (g0 g1 g2 more used less size other : Int) (A : Option Addr) (c : Nat) (l : List Int) (w : World) (hr : ReadsInt w .i64 A l.length l) (hl : l.length * 8 ≤ 140737488351232)
    (hc : l.length ≤ c) (a us uo m1 m2 lo hi s1 s2 : Int) (U1 : room_Used.f k l = some a) (U2 : room_Used.f k (l ++ [size]) = some (a + us)) (ha0 : 0 ≤ a) (ha1 : a ≤ 1125899906842624)
    (S : room_Use.f size = some us) (hus0 : 1 ≤ us) (hus1 : us ≤ 36) (O : room_Use.f other = some uo) (hso : size ≤ other) (huo : us ≤ uo)
    (e1 : (if 128 < more then 128 else more) = m1) (e2 : (if g2 < m1 then m1 else g2) = m2) (e3 : (if less < used then less else used) = lo) (e4 : (if used < less then less else used) = hi)
    (F1 : room_Fits.f k g0 g1 g2 used = some true) (F2 : room_Fits.f k g0 g1 m2 used = some true)  (hle : used < less)
    (G1 : room_Segs.f g0 lo = some s1) (G2 : room_Segs.f g0 hi = some s2) (hs : s1 ≤ s2) (Wk : hayricklaw21_wakes.f k = some true) :
    Calls Try.prog 7 #[.agg #[.int .i64 g0, .int .i64 g1, .int .i64 g2], .int .i64 more, .int .i64 used, .int .i64 less, .slice A l.length c, .int .i64 size, .int .i64 other] w fun e w' => e = .returned (.bool true) ∧ Below w.heap.size w w' := by
  obtain rfl : less = hi := by rw [← e4, if_pos hle]
  have HU1 := Aside0.mk U1
  have HU2 := Aside0.mk U2
  have HS := Aside0.mk S
  have HF1 := Aside0.mk F1
  have HG1 := Aside0.mk G1
  have HG2 := Aside0.mk G2
  have HW := Aside0.mk Wk
  have HO := Aside0.mk O
  have HF2 := Aside0.mk F2
  have HR := Aside0.mk hr
  have HC := Aside0.mk hc
  have HB := Aside0.mk (Below.refl w.heap.size w)
  have E1 := Aside0.mk e1
  have E2 := Aside0.mk e2
  have E3 := Aside0.mk e3
  have E4 := Aside0.mk e4
  have hu31 := Try.underlying31
  clear U1 U2 S F1 G1 G2 Wk O F2 hr hc e1 e2 e3 e4
  go_enter Try.func7, Try.ntmps7
  go_wp2_with (first
    | ((with_reducible refine gate_dst (N := 7) rfl ?_); refine box_event ?hg (N := 7) ?hd (cs := #[.int .i64 g0, .int .i64 g1, .int .i64 g2]) (t := 31) ?hr ?_; (case hd => rfl); (case hg => rfl); (case hr => first | (go_simp; done) | (go_simp; rfl)); intro gb hg w1 hbox hb; have n1 := Aside0.mk (below_step HB.out hb); have BK := Aside0.mk hbox; have GE := Aside0.mk (by rw [hg]; exact HB.out.size : w.heap.size ≤ gb); clear HB; have HB := n1; clear n1 hb hbox hg))
  refine (room_Used.calls k A c l a _ (Kd.C_of_reads (d := (0 : Int)) (h1 := fun _ => rfl) (HR.out.below HB.out)) HC.out HU1.out).mono ?_
  rintro e w2 ⟨rfl, hb⟩
  have HB2 := Aside0.mk (below_step HB.out hb)
  have BK2 := Aside0.mk (blk_below BK.out hb)
  have HR2 := Aside0.mk (HR.out.below HB2.out)
  clear hb HB BK HR
  go_wp2_with (first
    | (at_builtin; with_reducible refine gate_dst (N := 21) rfl ?_; refine print_append_row (w0 := w) w.heap.size rfl (.const (.slice none 0 0)) (.tmp 20) 22 3 .i64 8 rfl Try.underlying22 info3 (by omega) (.slice none 0 0) [] l A l.length c rfl rfl (own_nil _ _ _ _) HR2.out HB2.out HB2.out.size (by simp; omega) ?_; intro v1 w3 ho hb3 hg3 _; have HO3 := Aside0.mk ho; have HB3 := Aside0.mk hb3; have BK3 := Aside0.mk (blk_grown BK2.out hg3 (by simp [Value.ownBlock])); clear ho hb3 hg3)
    | (at_builtin; with_reducible refine gate_dst (N := 24) rfl ?_; refine print_append_num (w0 := w) w.heap.size rfl (.tmp 21) (.tmp 23) 22 3 .i64 8 rfl Try.underlying22 info3 (by omega) v1 ([] ++ l) size rfl rfl HO3.out HB3.out HB3.out.size (by simp; omega) ?_; intro v2 w4 ho hb4 hg4 _; have HO4 := Aside0.mk ho; have HB4 := Aside0.mk hb4; have HG4 := Aside0.mk hg4; clear ho hb4 hg4))
  obtain ⟨A4, c4, q4, hr4⟩ := own_reads HO4.out
  have BK4 := Aside0.mk (blk_grown BK3.out HG4.out (own_ne HO3.out BK3.out (by decide)))
  subst q4
  refine (room_Used.calls k A4 c4 ([] ++ l ++ [size]) (a + us) _ (Kd.C_of_reads (d := (0 : Int)) (h1 := fun _ => rfl) hr4) (own_cap HO4.out) HU2.out).mono ?_
  rintro e w5 ⟨rfl, hb⟩
  have HB5 := Aside0.mk (below_step HB4.out hb)
  have BK5 := Aside0.mk (blk_below BK4.out hb)
  clear hb HB4 BK4 HB2 BK2 HB3 BK3 HO3 HO4 HG4 hr4 HR2
  go_wp2_with fail
  refine (room_Use.calls size us _ HS.out).mono ?_
  rintro e w6 ⟨rfl, hb⟩
  have HB6 := Aside0.mk (below_step HB5.out hb)
  have BK6 := Aside0.mk (blk_below BK5.out hb)
  clear hb HB5 BK5
  go_wp2_with fail
  refine (room_Use.calls size us _ HS.out).mono ?_
  rintro e w7 ⟨rfl, hb⟩
  have HB7 := Aside0.mk (below_step HB6.out hb)
  have BK7 := Aside0.mk (blk_below BK6.out hb)
  clear hb HB6 BK6
  go_wp2_with fail
  refine (room_Use.calls size us _ HS.out).mono ?_
  rintro e w8 ⟨rfl, hb⟩
  have HB8 := Aside0.mk (below_step HB7.out hb)
  have BK8 := Aside0.mk (blk_below BK7.out hb)
  clear hb HB7 BK7
  go_wp2_with fail
  refine (room_Use.calls size us _ HS.out).mono ?_
  rintro e w9 ⟨rfl, hb⟩
  have HB9 := Aside0.mk (below_step HB8.out hb)
  have BK9 := Aside0.mk (blk_below BK8.out hb)
  clear hb HB8 BK8
  go_wp2_with fail
  refine (room_Use.calls other uo _ HO.out).mono ?_
  rintro e w10 ⟨rfl, hb⟩
  have HB10 := Aside0.mk (below_step HB9.out hb)
  have BK10 := Aside0.mk (blk_below BK9.out hb)
  clear hb HB9 BK9
  have c0 : w10.cell? ⟨gb, 0, none⟩ = some (.int .i64 g0) := (blk_cell BK10.out 0).trans rfl
  have c1 : w10.cell? ⟨gb, 1, none⟩ = some (.int .i64 g1) := (blk_cell BK10.out 1).trans rfl
  have c2 : w10.cell? ⟨gb, 2, none⟩ = some (.int .i64 g2) := (blk_cell BK10.out 2).trans rfl
  have d0 : ∀ o, (w10.alloc o).cell? ⟨gb, 0, none⟩ = some (.int .i64 g0) := fun o => (blk_cell (blk_alloc BK10.out o) 0).trans rfl
  have d1 : ∀ o, (w10.alloc o).cell? ⟨gb, 1, none⟩ = some (.int .i64 g1) := fun o => (blk_cell (blk_alloc BK10.out o) 1).trans rfl
  have d2 : ∀ o, (w10.alloc o).cell? ⟨gb, 2, none⟩ = some (.int .i64 g2) := fun o => (blk_cell (blk_alloc BK10.out o) 2).trans rfl
  have e1 := E1.out
  have e2 := E2.out
  go_wp2_with fail
  refine (room_Fits.calls k g0 g1 g2 used true _ HF1.out).mono ?_
  rintro e w11 ⟨rfl, hb⟩
  have HB11 := Aside0.mk (below_step (below_alloc HB10.out _) hb)
  have BK11 := Aside0.mk (blk_below (blk_alloc BK10.out _) hb)
  have BL11 := Aside0.mk (blk_below (blk_new w10 _) hb)
  clear hb HB10 BK10 c0 c1 c2 d0 d1 d2
  have c0 : w11.cell? ⟨gb, 0, none⟩ = some (.int .i64 g0) := (blk_cell BK11.out 0).trans rfl
  have c1 : w11.cell? ⟨gb, 1, none⟩ = some (.int .i64 g1) := (blk_cell BK11.out 1).trans rfl
  have c2 : w11.cell? ⟨gb, 2, none⟩ = some (.int .i64 g2) := (blk_cell BK11.out 2).trans rfl
  have f0 : w11.cell? ⟨w10.heap.size, 0, none⟩ = some (.int .i64 g0) := (blk_cell BL11.out 0).trans rfl
  have f1 : w11.cell? ⟨w10.heap.size, 1, none⟩ = some (.int .i64 g1) := (blk_cell BL11.out 1).trans rfl
  have f2 : w11.cell? ⟨w10.heap.size, 2, none⟩ = some (.int .i64 m2) := (blk_cell BL11.out 2).trans rfl
  go_wp2_with fail
  refine (room_Fits.calls k g0 g1 m2 used true _ HF2.out).mono ?_
  rintro e w12 ⟨rfl, hb⟩
  have HB12 := Aside0.mk (below_step HB11.out hb)
  have BK12 := Aside0.mk (blk_below BK11.out hb)
  have BL12 := Aside0.mk (blk_below BL11.out hb)
  clear hb HB11 BK11 BL11 c0 c1 c2 f0 f1 f2
  have c0 : w12.cell? ⟨gb, 0, none⟩ = some (.int .i64 g0) := (blk_cell BK12.out 0).trans rfl
  have c1 : w12.cell? ⟨gb, 1, none⟩ = some (.int .i64 g1) := (blk_cell BK12.out 1).trans rfl
  have c2 : w12.cell? ⟨gb, 2, none⟩ = some (.int .i64 g2) := (blk_cell BK12.out 2).trans rfl
  have f0 : w12.cell? ⟨w10.heap.size, 0, none⟩ = some (.int .i64 g0) := (blk_cell BL12.out 0).trans rfl
  have f1 : w12.cell? ⟨w10.heap.size, 1, none⟩ = some (.int .i64 g1) := (blk_cell BL12.out 1).trans rfl
  have f2 : w12.cell? ⟨w10.heap.size, 2, none⟩ = some (.int .i64 m2) := (blk_cell BL12.out 2).trans rfl
  clear e1 e2
  go_wp2_with fail
  clear f0 f1 f2 c1 c2 hle E4
  have e3 := E3.out
  go_region_held3 (fun w' => w'.cell? ⟨gb, 0, none⟩ = some (.int .i64 g0)) (go_keep)
    (first | (go_at_call_of 13 lo; refine (room_Segs.calls g0 lo s1 _ HG1.out).mono ?_; rintro e w' ⟨rfl, ⟨nd, rfl⟩⟩) | (go_at_call_of 13 less; refine (room_Segs.calls g0 less s2 _ HG2.out).mono ?_; rintro e w' ⟨rfl, ⟨nd, rfl⟩⟩) | (go_at_call 19; refine (hayricklaw21_wakes.calls k true _ HW.out).mono ?_; rintro e w20 ⟨rfl, hb⟩; have HB20 := Aside0.mk (below_step (pw_below_drewN HB12.out _) hb); have cz := (pw_cell_below hb c0); clear hb))
  all_goals go_wp2
  all_goals go_ret
  all_goals exact ⟨rfl, HB20.out⟩
set_option maxHeartbeats 2000000 in
set_option maxRecDepth 100000 in
theorem walk_yn (k : Nat) (g0 g1 g2 more used less size other : Int) (A : Option Addr) (c : Nat) (l : List Int) (w : World) (hr : ReadsInt w .i64 A l.length l) (hl : l.length * 8 ≤ 140737488351232)
    (hc : l.length ≤ c) (a us uo m1 m2 lo hi s1 s2 : Int) (U1 : room_Used.f k l = some a) (U2 : room_Used.f k (l ++ [size]) = some (a + us)) (ha0 : 0 ≤ a) (ha1 : a ≤ 1125899906842624)
    (S : room_Use.f size = some us) (hus0 : 1 ≤ us) (hus1 : us ≤ 36) (O : room_Use.f other = some uo) (hso : size ≤ other) (huo : us ≤ uo)
    (e1 : (if 128 < more then 128 else more) = m1) (e2 : (if g2 < m1 then m1 else g2) = m2) (e3 : (if less < used then less else used) = lo) (e4 : (if used < less then less else used) = hi)
    (F1 : room_Fits.f k g0 g1 g2 used = some false)
    (G1 : room_Segs.f g0 lo = some s1) (G2 : room_Segs.f g0 hi = some s2) (hs : s1 ≤ s2) (Wk : hayricklaw21_wakes.f k = some true) :
    Calls Try.prog 7 #[.agg #[.int .i64 g0, .int .i64 g1, .int .i64 g2], .int .i64 more, .int .i64 used, .int .i64 less, .slice A l.length c, .int .i64 size, .int .i64 other] w fun e w' => e = .returned (.bool true) ∧ Below w.heap.size w w' := by
  have HU1 := Aside0.mk U1
  have HU2 := Aside0.mk U2
  have HS := Aside0.mk S
  have HF1 := Aside0.mk F1
  have HG1 := Aside0.mk G1
  have HG2 := Aside0.mk G2
  have HW := Aside0.mk Wk
  have HO := Aside0.mk O
  have HR := Aside0.mk hr
  have HC := Aside0.mk hc
  have HB := Aside0.mk (Below.refl w.heap.size w)
  have E1 := Aside0.mk e1
  have E2 := Aside0.mk e2
  have E3 := Aside0.mk e3
  have E4 := Aside0.mk e4
  have hu31 := Try.underlying31
  clear U1 U2 S F1 G1 G2 Wk O hr hc e1 e2 e3 e4
  go_enter Try.func7, Try.ntmps7
  go_wp2_with (first
    | ((with_reducible refine gate_dst (N := 7) rfl ?_); refine box_event ?hg (N := 7) ?hd (cs := #[.int .i64 g0, .int .i64 g1, .int .i64 g2]) (t := 31) ?hr ?_; (case hd => rfl); (case hg => rfl); (case hr => first | (go_simp; done) | (go_simp; rfl)); intro gb hg w1 hbox hb; have n1 := Aside0.mk (below_step HB.out hb); have BK := Aside0.mk hbox; have GE := Aside0.mk (by rw [hg]; exact HB.out.size : w.heap.size ≤ gb); clear HB; have HB := n1; clear n1 hb hbox hg))
  refine (room_Used.calls k A c l a _ (Kd.C_of_reads (d := (0 : Int)) (h1 := fun _ => rfl) (HR.out.below HB.out)) HC.out HU1.out).mono ?_
  rintro e w2 ⟨rfl, hb⟩
  have HB2 := Aside0.mk (below_step HB.out hb)
  have BK2 := Aside0.mk (blk_below BK.out hb)
  have HR2 := Aside0.mk (HR.out.below HB2.out)
  clear hb HB BK HR
  go_wp2_with (first
    | (at_builtin; with_reducible refine gate_dst (N := 21) rfl ?_; refine print_append_row (w0 := w) w.heap.size rfl (.const (.slice none 0 0)) (.tmp 20) 22 3 .i64 8 rfl Try.underlying22 info3 (by omega) (.slice none 0 0) [] l A l.length c rfl rfl (own_nil _ _ _ _) HR2.out HB2.out HB2.out.size (by simp; omega) ?_; intro v1 w3 ho hb3 hg3 _; have HO3 := Aside0.mk ho; have HB3 := Aside0.mk hb3; have BK3 := Aside0.mk (blk_grown BK2.out hg3 (by simp [Value.ownBlock])); clear ho hb3 hg3)
    | (at_builtin; with_reducible refine gate_dst (N := 24) rfl ?_; refine print_append_num (w0 := w) w.heap.size rfl (.tmp 21) (.tmp 23) 22 3 .i64 8 rfl Try.underlying22 info3 (by omega) v1 ([] ++ l) size rfl rfl HO3.out HB3.out HB3.out.size (by simp; omega) ?_; intro v2 w4 ho hb4 hg4 _; have HO4 := Aside0.mk ho; have HB4 := Aside0.mk hb4; have HG4 := Aside0.mk hg4; clear ho hb4 hg4))
  obtain ⟨A4, c4, q4, hr4⟩ := own_reads HO4.out
  have BK4 := Aside0.mk (blk_grown BK3.out HG4.out (own_ne HO3.out BK3.out (by decide)))
  subst q4
  refine (room_Used.calls k A4 c4 ([] ++ l ++ [size]) (a + us) _ (Kd.C_of_reads (d := (0 : Int)) (h1 := fun _ => rfl) hr4) (own_cap HO4.out) HU2.out).mono ?_
  rintro e w5 ⟨rfl, hb⟩
  have HB5 := Aside0.mk (below_step HB4.out hb)
  have BK5 := Aside0.mk (blk_below BK4.out hb)
  clear hb HB4 BK4 HB2 BK2 HB3 BK3 HO3 HO4 HG4 hr4 HR2
  go_wp2_with fail
  refine (room_Use.calls size us _ HS.out).mono ?_
  rintro e w6 ⟨rfl, hb⟩
  have HB6 := Aside0.mk (below_step HB5.out hb)
  have BK6 := Aside0.mk (blk_below BK5.out hb)
  clear hb HB5 BK5
  go_wp2_with fail
  refine (room_Use.calls size us _ HS.out).mono ?_
  rintro e w7 ⟨rfl, hb⟩
  have HB7 := Aside0.mk (below_step HB6.out hb)
  have BK7 := Aside0.mk (blk_below BK6.out hb)
  clear hb HB6 BK6
  go_wp2_with fail
  refine (room_Use.calls size us _ HS.out).mono ?_
  rintro e w8 ⟨rfl, hb⟩
  have HB8 := Aside0.mk (below_step HB7.out hb)
  have BK8 := Aside0.mk (blk_below BK7.out hb)
  clear hb HB7 BK7
  go_wp2_with fail
  refine (room_Use.calls size us _ HS.out).mono ?_
  rintro e w9 ⟨rfl, hb⟩
  have HB9 := Aside0.mk (below_step HB8.out hb)
  have BK9 := Aside0.mk (blk_below BK8.out hb)
  clear hb HB8 BK8
  go_wp2_with fail
  refine (room_Use.calls other uo _ HO.out).mono ?_
  rintro e w10 ⟨rfl, hb⟩
  have HB10 := Aside0.mk (below_step HB9.out hb)
  have BK10 := Aside0.mk (blk_below BK9.out hb)
  clear hb HB9 BK9
  have c0 : w10.cell? ⟨gb, 0, none⟩ = some (.int .i64 g0) := (blk_cell BK10.out 0).trans rfl
  have c1 : w10.cell? ⟨gb, 1, none⟩ = some (.int .i64 g1) := (blk_cell BK10.out 1).trans rfl
  have c2 : w10.cell? ⟨gb, 2, none⟩ = some (.int .i64 g2) := (blk_cell BK10.out 2).trans rfl
  have d0 : ∀ o, (w10.alloc o).cell? ⟨gb, 0, none⟩ = some (.int .i64 g0) := fun o => (blk_cell (blk_alloc BK10.out o) 0).trans rfl
  have d1 : ∀ o, (w10.alloc o).cell? ⟨gb, 1, none⟩ = some (.int .i64 g1) := fun o => (blk_cell (blk_alloc BK10.out o) 1).trans rfl
  have d2 : ∀ o, (w10.alloc o).cell? ⟨gb, 2, none⟩ = some (.int .i64 g2) := fun o => (blk_cell (blk_alloc BK10.out o) 2).trans rfl
  have e1 := E1.out
  have e2 := E2.out
  go_wp2_with fail
  refine (room_Fits.calls k g0 g1 g2 used false _ HF1.out).mono ?_
  rintro e w11 ⟨rfl, hb⟩
  have HB11 := Aside0.mk (below_step (below_alloc HB10.out _) hb)
  have BK11 := Aside0.mk (blk_below (blk_alloc BK10.out _) hb)
  have BL11 := Aside0.mk (blk_below (blk_new w10 _) hb)
  clear hb HB10 BK10 c0 c1 c2 d0 d1 d2
  have c0 : w11.cell? ⟨gb, 0, none⟩ = some (.int .i64 g0) := (blk_cell BK11.out 0).trans rfl
  have c1 : w11.cell? ⟨gb, 1, none⟩ = some (.int .i64 g1) := (blk_cell BK11.out 1).trans rfl
  have c2 : w11.cell? ⟨gb, 2, none⟩ = some (.int .i64 g2) := (blk_cell BK11.out 2).trans rfl
  have f0 : w11.cell? ⟨w10.heap.size, 0, none⟩ = some (.int .i64 g0) := (blk_cell BL11.out 0).trans rfl
  have f1 : w11.cell? ⟨w10.heap.size, 1, none⟩ = some (.int .i64 g1) := (blk_cell BL11.out 1).trans rfl
  have f2 : w11.cell? ⟨w10.heap.size, 2, none⟩ = some (.int .i64 m2) := (blk_cell BL11.out 2).trans rfl
  clear e1 e2
  go_wp2_with fail
  clear f0 f1 f2 c1 c2
  have e3 := E3.out
  have e4 := E4.out
  go_region_held3 (fun w' => w'.cell? ⟨gb, 0, none⟩ = some (.int .i64 g0)) (go_keep)
    (first | (go_at_call_of 13 lo; refine (room_Segs.calls g0 lo s1 _ HG1.out).mono ?_; rintro e w' ⟨rfl, ⟨nd, rfl⟩⟩) | (go_at_call_of 13 hi; refine (room_Segs.calls g0 hi s2 _ HG2.out).mono ?_; rintro e w' ⟨rfl, ⟨nd, rfl⟩⟩) | (go_at_call 19; refine (hayricklaw21_wakes.calls k true _ HW.out).mono ?_; rintro e w20 ⟨rfl, hb⟩; have HB20 := Aside0.mk (below_step (pw_below_drewN HB11.out _) hb); have cz := (pw_cell_below hb c0); clear hb))
  all_goals go_wp2
  all_goals go_ret
  all_goals exact ⟨rfl, HB20.out⟩
set_option maxHeartbeats 2000000 in
set_option maxRecDepth 100000 in
theorem walk_nyy (k : Nat) (g0 g1 g2 more used less size other : Int) (A : Option Addr) (c : Nat) (l : List Int) (w : World) (hr : ReadsInt w .i64 A l.length l) (hl : l.length * 8 ≤ 140737488351232)
    (hc : l.length ≤ c) (a us m1 m2 lo hi s1 s2 : Int) (U1 : room_Used.f k l = some a) (U2 : room_Used.f k (l ++ [size]) = some (a + us)) (ha0 : 0 ≤ a) (ha1 : a ≤ 1125899906842624)
    (S : room_Use.f size = some us) (hus0 : 1 ≤ us) (hus1 : us ≤ 36) (hso : other < size)
    (e1 : (if 128 < more then 128 else more) = m1) (e2 : (if g2 < m1 then m1 else g2) = m2) (e3 : (if less < used then less else used) = lo) (e4 : (if used < less then less else used) = hi)
    (F1 : room_Fits.f k g0 g1 g2 used = some true) (F2 : room_Fits.f k g0 g1 m2 used = some true)  (hle : less ≤ used) (F3 : room_Fits.f k g0 g1 g2 less = some true)
    (G1 : room_Segs.f g0 lo = some s1) (G2 : room_Segs.f g0 hi = some s2) (hs : s1 ≤ s2) (Wk : hayricklaw21_wakes.f k = some true) :
    Calls Try.prog 7 #[.agg #[.int .i64 g0, .int .i64 g1, .int .i64 g2], .int .i64 more, .int .i64 used, .int .i64 less, .slice A l.length c, .int .i64 size, .int .i64 other] w fun e w' => e = .returned (.bool true) ∧ Below w.heap.size w w' := by
  have HU1 := Aside0.mk U1
  have HU2 := Aside0.mk U2
  have HS := Aside0.mk S
  have HF1 := Aside0.mk F1
  have HG1 := Aside0.mk G1
  have HG2 := Aside0.mk G2
  have HW := Aside0.mk Wk
  have HF2 := Aside0.mk F2
  have HF3 := Aside0.mk F3
  have HR := Aside0.mk hr
  have HC := Aside0.mk hc
  have HB := Aside0.mk (Below.refl w.heap.size w)
  have E1 := Aside0.mk e1
  have E2 := Aside0.mk e2
  have E3 := Aside0.mk e3
  have E4 := Aside0.mk e4
  have hu31 := Try.underlying31
  clear U1 U2 S F1 G1 G2 Wk F2 F3 hr hc e1 e2 e3 e4
  go_enter Try.func7, Try.ntmps7
  go_wp2_with (first
    | ((with_reducible refine gate_dst (N := 7) rfl ?_); refine box_event ?hg (N := 7) ?hd (cs := #[.int .i64 g0, .int .i64 g1, .int .i64 g2]) (t := 31) ?hr ?_; (case hd => rfl); (case hg => rfl); (case hr => first | (go_simp; done) | (go_simp; rfl)); intro gb hg w1 hbox hb; have n1 := Aside0.mk (below_step HB.out hb); have BK := Aside0.mk hbox; have GE := Aside0.mk (by rw [hg]; exact HB.out.size : w.heap.size ≤ gb); clear HB; have HB := n1; clear n1 hb hbox hg))
  refine (room_Used.calls k A c l a _ (Kd.C_of_reads (d := (0 : Int)) (h1 := fun _ => rfl) (HR.out.below HB.out)) HC.out HU1.out).mono ?_
  rintro e w2 ⟨rfl, hb⟩
  have HB2 := Aside0.mk (below_step HB.out hb)
  have BK2 := Aside0.mk (blk_below BK.out hb)
  have HR2 := Aside0.mk (HR.out.below HB2.out)
  clear hb HB BK HR
  go_wp2_with (first
    | (at_builtin; with_reducible refine gate_dst (N := 21) rfl ?_; refine print_append_row (w0 := w) w.heap.size rfl (.const (.slice none 0 0)) (.tmp 20) 22 3 .i64 8 rfl Try.underlying22 info3 (by omega) (.slice none 0 0) [] l A l.length c rfl rfl (own_nil _ _ _ _) HR2.out HB2.out HB2.out.size (by simp; omega) ?_; intro v1 w3 ho hb3 hg3 _; have HO3 := Aside0.mk ho; have HB3 := Aside0.mk hb3; have BK3 := Aside0.mk (blk_grown BK2.out hg3 (by simp [Value.ownBlock])); clear ho hb3 hg3)
    | (at_builtin; with_reducible refine gate_dst (N := 24) rfl ?_; refine print_append_num (w0 := w) w.heap.size rfl (.tmp 21) (.tmp 23) 22 3 .i64 8 rfl Try.underlying22 info3 (by omega) v1 ([] ++ l) size rfl rfl HO3.out HB3.out HB3.out.size (by simp; omega) ?_; intro v2 w4 ho hb4 hg4 _; have HO4 := Aside0.mk ho; have HB4 := Aside0.mk hb4; have HG4 := Aside0.mk hg4; clear ho hb4 hg4))
  obtain ⟨A4, c4, q4, hr4⟩ := own_reads HO4.out
  have BK4 := Aside0.mk (blk_grown BK3.out HG4.out (own_ne HO3.out BK3.out (by decide)))
  subst q4
  refine (room_Used.calls k A4 c4 ([] ++ l ++ [size]) (a + us) _ (Kd.C_of_reads (d := (0 : Int)) (h1 := fun _ => rfl) hr4) (own_cap HO4.out) HU2.out).mono ?_
  rintro e w5 ⟨rfl, hb⟩
  have HB5 := Aside0.mk (below_step HB4.out hb)
  have BK5 := Aside0.mk (blk_below BK4.out hb)
  clear hb HB4 BK4 HB2 BK2 HB3 BK3 HO3 HO4 HG4 hr4 HR2
  go_wp2_with fail
  refine (room_Use.calls size us _ HS.out).mono ?_
  rintro e w6 ⟨rfl, hb⟩
  have HB6 := Aside0.mk (below_step HB5.out hb)
  have BK6 := Aside0.mk (blk_below BK5.out hb)
  clear hb HB5 BK5
  go_wp2_with fail
  refine (room_Use.calls size us _ HS.out).mono ?_
  rintro e w7 ⟨rfl, hb⟩
  have HB7 := Aside0.mk (below_step HB6.out hb)
  have BK7 := Aside0.mk (blk_below BK6.out hb)
  clear hb HB6 BK6
  go_wp2_with fail
  refine (room_Use.calls size us _ HS.out).mono ?_
  rintro e w8 ⟨rfl, hb⟩
  have HB8 := Aside0.mk (below_step HB7.out hb)
  have BK8 := Aside0.mk (blk_below BK7.out hb)
  clear hb HB7 BK7
  have c0 : w8.cell? ⟨gb, 0, none⟩ = some (.int .i64 g0) := (blk_cell BK8.out 0).trans rfl
  have c1 : w8.cell? ⟨gb, 1, none⟩ = some (.int .i64 g1) := (blk_cell BK8.out 1).trans rfl
  have c2 : w8.cell? ⟨gb, 2, none⟩ = some (.int .i64 g2) := (blk_cell BK8.out 2).trans rfl
  have d0 : ∀ o, (w8.alloc o).cell? ⟨gb, 0, none⟩ = some (.int .i64 g0) := fun o => (blk_cell (blk_alloc BK8.out o) 0).trans rfl
  have d1 : ∀ o, (w8.alloc o).cell? ⟨gb, 1, none⟩ = some (.int .i64 g1) := fun o => (blk_cell (blk_alloc BK8.out o) 1).trans rfl
  have d2 : ∀ o, (w8.alloc o).cell? ⟨gb, 2, none⟩ = some (.int .i64 g2) := fun o => (blk_cell (blk_alloc BK8.out o) 2).trans rfl
  have e1 := E1.out
  have e2 := E2.out
  go_wp2_with fail
  refine (room_Fits.calls k g0 g1 g2 used true _ HF1.out).mono ?_
  rintro e w9 ⟨rfl, hb⟩
  have HB9 := Aside0.mk (below_step (below_alloc HB8.out _) hb)
  have BK9 := Aside0.mk (blk_below (blk_alloc BK8.out _) hb)
  have BL9 := Aside0.mk (blk_below (blk_new w8 _) hb)
  clear hb HB8 BK8 c0 c1 c2 d0 d1 d2
  have c0 : w9.cell? ⟨gb, 0, none⟩ = some (.int .i64 g0) := (blk_cell BK9.out 0).trans rfl
  have c1 : w9.cell? ⟨gb, 1, none⟩ = some (.int .i64 g1) := (blk_cell BK9.out 1).trans rfl
  have c2 : w9.cell? ⟨gb, 2, none⟩ = some (.int .i64 g2) := (blk_cell BK9.out 2).trans rfl
  have f0 : w9.cell? ⟨w8.heap.size, 0, none⟩ = some (.int .i64 g0) := (blk_cell BL9.out 0).trans rfl
  have f1 : w9.cell? ⟨w8.heap.size, 1, none⟩ = some (.int .i64 g1) := (blk_cell BL9.out 1).trans rfl
  have f2 : w9.cell? ⟨w8.heap.size, 2, none⟩ = some (.int .i64 m2) := (blk_cell BL9.out 2).trans rfl
  go_wp2_with fail
  refine (room_Fits.calls k g0 g1 m2 used true _ HF2.out).mono ?_
  rintro e w10 ⟨rfl, hb⟩
  have HB10 := Aside0.mk (below_step HB9.out hb)
  have BK10 := Aside0.mk (blk_below BK9.out hb)
  have BL10 := Aside0.mk (blk_below BL9.out hb)
  clear hb HB9 BK9 BL9 c0 c1 c2 f0 f1 f2
  have c0 : w10.cell? ⟨gb, 0, none⟩ = some (.int .i64 g0) := (blk_cell BK10.out 0).trans rfl
  have c1 : w10.cell? ⟨gb, 1, none⟩ = some (.int .i64 g1) := (blk_cell BK10.out 1).trans rfl
  have c2 : w10.cell? ⟨gb, 2, none⟩ = some (.int .i64 g2) := (blk_cell BK10.out 2).trans rfl
  have f0 : w10.cell? ⟨w8.heap.size, 0, none⟩ = some (.int .i64 g0) := (blk_cell BL10.out 0).trans rfl
  have f1 : w10.cell? ⟨w8.heap.size, 1, none⟩ = some (.int .i64 g1) := (blk_cell BL10.out 1).trans rfl
  have f2 : w10.cell? ⟨w8.heap.size, 2, none⟩ = some (.int .i64 m2) := (blk_cell BL10.out 2).trans rfl
  go_wp2_with fail
  refine (room_Fits.calls k g0 g1 g2 less true _ HF3.out).mono ?_
  rintro e w11 ⟨rfl, hb⟩
  have HB11 := Aside0.mk (below_step HB10.out hb)
  have BK11 := Aside0.mk (blk_below BK10.out hb)
  have BL11 := Aside0.mk (blk_below BL10.out hb)
  clear hb HB10 BK10 BL10 c0 c1 c2 f0 f1 f2
  have c0 : w11.cell? ⟨gb, 0, none⟩ = some (.int .i64 g0) := (blk_cell BK11.out 0).trans rfl
  have c1 : w11.cell? ⟨gb, 1, none⟩ = some (.int .i64 g1) := (blk_cell BK11.out 1).trans rfl
  have c2 : w11.cell? ⟨gb, 2, none⟩ = some (.int .i64 g2) := (blk_cell BK11.out 2).trans rfl
  have f0 : w11.cell? ⟨w8.heap.size, 0, none⟩ = some (.int .i64 g0) := (blk_cell BL11.out 0).trans rfl
  have f1 : w11.cell? ⟨w8.heap.size, 1, none⟩ = some (.int .i64 g1) := (blk_cell BL11.out 1).trans rfl
  have f2 : w11.cell? ⟨w8.heap.size, 2, none⟩ = some (.int .i64 m2) := (blk_cell BL11.out 2).trans rfl
  clear e1 e2
  go_wp2_with fail
  clear f0 f1 f2 c1 c2 hle
  have e3 := E3.out
  have e4 := E4.out
  go_region_held3 (fun w' => w'.cell? ⟨gb, 0, none⟩ = some (.int .i64 g0)) (go_keep)
    (first | (go_at_call_of 13 lo; refine (room_Segs.calls g0 lo s1 _ HG1.out).mono ?_; rintro e w' ⟨rfl, ⟨nd, rfl⟩⟩) | (go_at_call_of 13 hi; refine (room_Segs.calls g0 hi s2 _ HG2.out).mono ?_; rintro e w' ⟨rfl, ⟨nd, rfl⟩⟩) | (go_at_call 19; refine (hayricklaw21_wakes.calls k true _ HW.out).mono ?_; rintro e w20 ⟨rfl, hb⟩; have HB20 := Aside0.mk (below_step (pw_below_drewN HB11.out _) hb); have cz := (pw_cell_below hb c0); clear hb))
  all_goals go_wp2
  all_goals go_ret
  all_goals exact ⟨rfl, HB20.out⟩
set_option maxHeartbeats 2000000 in
set_option maxRecDepth 100000 in
theorem walk_nyn (k : Nat) (g0 g1 g2 more used less size other : Int) (A : Option Addr) (c : Nat) (l : List Int) (w : World) (hr : ReadsInt w .i64 A l.length l) (hl : l.length * 8 ≤ 140737488351232)
    (hc : l.length ≤ c) (a us m1 m2 lo hi s1 s2 : Int) (U1 : room_Used.f k l = some a) (U2 : room_Used.f k (l ++ [size]) = some (a + us)) (ha0 : 0 ≤ a) (ha1 : a ≤ 1125899906842624)
    (S : room_Use.f size = some us) (hus0 : 1 ≤ us) (hus1 : us ≤ 36) (hso : other < size)
    (e1 : (if 128 < more then 128 else more) = m1) (e2 : (if g2 < m1 then m1 else g2) = m2) (e3 : (if less < used then less else used) = lo) (e4 : (if used < less then less else used) = hi)
    (F1 : room_Fits.f k g0 g1 g2 used = some true) (F2 : room_Fits.f k g0 g1 m2 used = some true)  (hle : used < less)
    (G1 : room_Segs.f g0 lo = some s1) (G2 : room_Segs.f g0 hi = some s2) (hs : s1 ≤ s2) (Wk : hayricklaw21_wakes.f k = some true) :
    Calls Try.prog 7 #[.agg #[.int .i64 g0, .int .i64 g1, .int .i64 g2], .int .i64 more, .int .i64 used, .int .i64 less, .slice A l.length c, .int .i64 size, .int .i64 other] w fun e w' => e = .returned (.bool true) ∧ Below w.heap.size w w' := by
  obtain rfl : less = hi := by rw [← e4, if_pos hle]
  have HU1 := Aside0.mk U1
  have HU2 := Aside0.mk U2
  have HS := Aside0.mk S
  have HF1 := Aside0.mk F1
  have HG1 := Aside0.mk G1
  have HG2 := Aside0.mk G2
  have HW := Aside0.mk Wk
  have HF2 := Aside0.mk F2
  have HR := Aside0.mk hr
  have HC := Aside0.mk hc
  have HB := Aside0.mk (Below.refl w.heap.size w)
  have E1 := Aside0.mk e1
  have E2 := Aside0.mk e2
  have E3 := Aside0.mk e3
  have E4 := Aside0.mk e4
  have hu31 := Try.underlying31
  clear U1 U2 S F1 G1 G2 Wk F2 hr hc e1 e2 e3 e4
  go_enter Try.func7, Try.ntmps7
  go_wp2_with (first
    | ((with_reducible refine gate_dst (N := 7) rfl ?_); refine box_event ?hg (N := 7) ?hd (cs := #[.int .i64 g0, .int .i64 g1, .int .i64 g2]) (t := 31) ?hr ?_; (case hd => rfl); (case hg => rfl); (case hr => first | (go_simp; done) | (go_simp; rfl)); intro gb hg w1 hbox hb; have n1 := Aside0.mk (below_step HB.out hb); have BK := Aside0.mk hbox; have GE := Aside0.mk (by rw [hg]; exact HB.out.size : w.heap.size ≤ gb); clear HB; have HB := n1; clear n1 hb hbox hg))
  refine (room_Used.calls k A c l a _ (Kd.C_of_reads (d := (0 : Int)) (h1 := fun _ => rfl) (HR.out.below HB.out)) HC.out HU1.out).mono ?_
  rintro e w2 ⟨rfl, hb⟩
  have HB2 := Aside0.mk (below_step HB.out hb)
  have BK2 := Aside0.mk (blk_below BK.out hb)
  have HR2 := Aside0.mk (HR.out.below HB2.out)
  clear hb HB BK HR
  go_wp2_with (first
    | (at_builtin; with_reducible refine gate_dst (N := 21) rfl ?_; refine print_append_row (w0 := w) w.heap.size rfl (.const (.slice none 0 0)) (.tmp 20) 22 3 .i64 8 rfl Try.underlying22 info3 (by omega) (.slice none 0 0) [] l A l.length c rfl rfl (own_nil _ _ _ _) HR2.out HB2.out HB2.out.size (by simp; omega) ?_; intro v1 w3 ho hb3 hg3 _; have HO3 := Aside0.mk ho; have HB3 := Aside0.mk hb3; have BK3 := Aside0.mk (blk_grown BK2.out hg3 (by simp [Value.ownBlock])); clear ho hb3 hg3)
    | (at_builtin; with_reducible refine gate_dst (N := 24) rfl ?_; refine print_append_num (w0 := w) w.heap.size rfl (.tmp 21) (.tmp 23) 22 3 .i64 8 rfl Try.underlying22 info3 (by omega) v1 ([] ++ l) size rfl rfl HO3.out HB3.out HB3.out.size (by simp; omega) ?_; intro v2 w4 ho hb4 hg4 _; have HO4 := Aside0.mk ho; have HB4 := Aside0.mk hb4; have HG4 := Aside0.mk hg4; clear ho hb4 hg4))
  obtain ⟨A4, c4, q4, hr4⟩ := own_reads HO4.out
  have BK4 := Aside0.mk (blk_grown BK3.out HG4.out (own_ne HO3.out BK3.out (by decide)))
  subst q4
  refine (room_Used.calls k A4 c4 ([] ++ l ++ [size]) (a + us) _ (Kd.C_of_reads (d := (0 : Int)) (h1 := fun _ => rfl) hr4) (own_cap HO4.out) HU2.out).mono ?_
  rintro e w5 ⟨rfl, hb⟩
  have HB5 := Aside0.mk (below_step HB4.out hb)
  have BK5 := Aside0.mk (blk_below BK4.out hb)
  clear hb HB4 BK4 HB2 BK2 HB3 BK3 HO3 HO4 HG4 hr4 HR2
  go_wp2_with fail
  refine (room_Use.calls size us _ HS.out).mono ?_
  rintro e w6 ⟨rfl, hb⟩
  have HB6 := Aside0.mk (below_step HB5.out hb)
  have BK6 := Aside0.mk (blk_below BK5.out hb)
  clear hb HB5 BK5
  go_wp2_with fail
  refine (room_Use.calls size us _ HS.out).mono ?_
  rintro e w7 ⟨rfl, hb⟩
  have HB7 := Aside0.mk (below_step HB6.out hb)
  have BK7 := Aside0.mk (blk_below BK6.out hb)
  clear hb HB6 BK6
  go_wp2_with fail
  refine (room_Use.calls size us _ HS.out).mono ?_
  rintro e w8 ⟨rfl, hb⟩
  have HB8 := Aside0.mk (below_step HB7.out hb)
  have BK8 := Aside0.mk (blk_below BK7.out hb)
  clear hb HB7 BK7
  have c0 : w8.cell? ⟨gb, 0, none⟩ = some (.int .i64 g0) := (blk_cell BK8.out 0).trans rfl
  have c1 : w8.cell? ⟨gb, 1, none⟩ = some (.int .i64 g1) := (blk_cell BK8.out 1).trans rfl
  have c2 : w8.cell? ⟨gb, 2, none⟩ = some (.int .i64 g2) := (blk_cell BK8.out 2).trans rfl
  have d0 : ∀ o, (w8.alloc o).cell? ⟨gb, 0, none⟩ = some (.int .i64 g0) := fun o => (blk_cell (blk_alloc BK8.out o) 0).trans rfl
  have d1 : ∀ o, (w8.alloc o).cell? ⟨gb, 1, none⟩ = some (.int .i64 g1) := fun o => (blk_cell (blk_alloc BK8.out o) 1).trans rfl
  have d2 : ∀ o, (w8.alloc o).cell? ⟨gb, 2, none⟩ = some (.int .i64 g2) := fun o => (blk_cell (blk_alloc BK8.out o) 2).trans rfl
  have e1 := E1.out
  have e2 := E2.out
  go_wp2_with fail
  refine (room_Fits.calls k g0 g1 g2 used true _ HF1.out).mono ?_
  rintro e w9 ⟨rfl, hb⟩
  have HB9 := Aside0.mk (below_step (below_alloc HB8.out _) hb)
  have BK9 := Aside0.mk (blk_below (blk_alloc BK8.out _) hb)
  have BL9 := Aside0.mk (blk_below (blk_new w8 _) hb)
  clear hb HB8 BK8 c0 c1 c2 d0 d1 d2
  have c0 : w9.cell? ⟨gb, 0, none⟩ = some (.int .i64 g0) := (blk_cell BK9.out 0).trans rfl
  have c1 : w9.cell? ⟨gb, 1, none⟩ = some (.int .i64 g1) := (blk_cell BK9.out 1).trans rfl
  have c2 : w9.cell? ⟨gb, 2, none⟩ = some (.int .i64 g2) := (blk_cell BK9.out 2).trans rfl
  have f0 : w9.cell? ⟨w8.heap.size, 0, none⟩ = some (.int .i64 g0) := (blk_cell BL9.out 0).trans rfl
  have f1 : w9.cell? ⟨w8.heap.size, 1, none⟩ = some (.int .i64 g1) := (blk_cell BL9.out 1).trans rfl
  have f2 : w9.cell? ⟨w8.heap.size, 2, none⟩ = some (.int .i64 m2) := (blk_cell BL9.out 2).trans rfl
  go_wp2_with fail
  refine (room_Fits.calls k g0 g1 m2 used true _ HF2.out).mono ?_
  rintro e w10 ⟨rfl, hb⟩
  have HB10 := Aside0.mk (below_step HB9.out hb)
  have BK10 := Aside0.mk (blk_below BK9.out hb)
  have BL10 := Aside0.mk (blk_below BL9.out hb)
  clear hb HB9 BK9 BL9 c0 c1 c2 f0 f1 f2
  have c0 : w10.cell? ⟨gb, 0, none⟩ = some (.int .i64 g0) := (blk_cell BK10.out 0).trans rfl
  have c1 : w10.cell? ⟨gb, 1, none⟩ = some (.int .i64 g1) := (blk_cell BK10.out 1).trans rfl
  have c2 : w10.cell? ⟨gb, 2, none⟩ = some (.int .i64 g2) := (blk_cell BK10.out 2).trans rfl
  have f0 : w10.cell? ⟨w8.heap.size, 0, none⟩ = some (.int .i64 g0) := (blk_cell BL10.out 0).trans rfl
  have f1 : w10.cell? ⟨w8.heap.size, 1, none⟩ = some (.int .i64 g1) := (blk_cell BL10.out 1).trans rfl
  have f2 : w10.cell? ⟨w8.heap.size, 2, none⟩ = some (.int .i64 m2) := (blk_cell BL10.out 2).trans rfl
  clear e1 e2
  go_wp2_with fail
  clear f0 f1 f2 c1 c2 hle E4
  have e3 := E3.out
  go_region_held3 (fun w' => w'.cell? ⟨gb, 0, none⟩ = some (.int .i64 g0)) (go_keep)
    (first | (go_at_call_of 13 lo; refine (room_Segs.calls g0 lo s1 _ HG1.out).mono ?_; rintro e w' ⟨rfl, ⟨nd, rfl⟩⟩) | (go_at_call_of 13 less; refine (room_Segs.calls g0 less s2 _ HG2.out).mono ?_; rintro e w' ⟨rfl, ⟨nd, rfl⟩⟩) | (go_at_call 19; refine (hayricklaw21_wakes.calls k true _ HW.out).mono ?_; rintro e w20 ⟨rfl, hb⟩; have HB20 := Aside0.mk (below_step (pw_below_drewN HB10.out _) hb); have cz := (pw_cell_below hb c0); clear hb))
  all_goals go_wp2
  all_goals go_ret
  all_goals exact ⟨rfl, HB20.out⟩
set_option maxHeartbeats 2000000 in
set_option maxRecDepth 100000 in
theorem walk_nn (k : Nat) (g0 g1 g2 more used less size other : Int) (A : Option Addr) (c : Nat) (l : List Int) (w : World) (hr : ReadsInt w .i64 A l.length l) (hl : l.length * 8 ≤ 140737488351232)
    (hc : l.length ≤ c) (a us m1 m2 lo hi s1 s2 : Int) (U1 : room_Used.f k l = some a) (U2 : room_Used.f k (l ++ [size]) = some (a + us)) (ha0 : 0 ≤ a) (ha1 : a ≤ 1125899906842624)
    (S : room_Use.f size = some us) (hus0 : 1 ≤ us) (hus1 : us ≤ 36) (hso : other < size)
    (e1 : (if 128 < more then 128 else more) = m1) (e2 : (if g2 < m1 then m1 else g2) = m2) (e3 : (if less < used then less else used) = lo) (e4 : (if used < less then less else used) = hi)
    (F1 : room_Fits.f k g0 g1 g2 used = some false)
    (G1 : room_Segs.f g0 lo = some s1) (G2 : room_Segs.f g0 hi = some s2) (hs : s1 ≤ s2) (Wk : hayricklaw21_wakes.f k = some true) :
    Calls Try.prog 7 #[.agg #[.int .i64 g0, .int .i64 g1, .int .i64 g2], .int .i64 more, .int .i64 used, .int .i64 less, .slice A l.length c, .int .i64 size, .int .i64 other] w fun e w' => e = .returned (.bool true) ∧ Below w.heap.size w w' := by
  have HU1 := Aside0.mk U1
  have HU2 := Aside0.mk U2
  have HS := Aside0.mk S
  have HF1 := Aside0.mk F1
  have HG1 := Aside0.mk G1
  have HG2 := Aside0.mk G2
  have HW := Aside0.mk Wk
  have HR := Aside0.mk hr
  have HC := Aside0.mk hc
  have HB := Aside0.mk (Below.refl w.heap.size w)
  have E1 := Aside0.mk e1
  have E2 := Aside0.mk e2
  have E3 := Aside0.mk e3
  have E4 := Aside0.mk e4
  have hu31 := Try.underlying31
  clear U1 U2 S F1 G1 G2 Wk hr hc e1 e2 e3 e4
  go_enter Try.func7, Try.ntmps7
  go_wp2_with (first
    | ((with_reducible refine gate_dst (N := 7) rfl ?_); refine box_event ?hg (N := 7) ?hd (cs := #[.int .i64 g0, .int .i64 g1, .int .i64 g2]) (t := 31) ?hr ?_; (case hd => rfl); (case hg => rfl); (case hr => first | (go_simp; done) | (go_simp; rfl)); intro gb hg w1 hbox hb; have n1 := Aside0.mk (below_step HB.out hb); have BK := Aside0.mk hbox; have GE := Aside0.mk (by rw [hg]; exact HB.out.size : w.heap.size ≤ gb); clear HB; have HB := n1; clear n1 hb hbox hg))
  refine (room_Used.calls k A c l a _ (Kd.C_of_reads (d := (0 : Int)) (h1 := fun _ => rfl) (HR.out.below HB.out)) HC.out HU1.out).mono ?_
  rintro e w2 ⟨rfl, hb⟩
  have HB2 := Aside0.mk (below_step HB.out hb)
  have BK2 := Aside0.mk (blk_below BK.out hb)
  have HR2 := Aside0.mk (HR.out.below HB2.out)
  clear hb HB BK HR
  go_wp2_with (first
    | (at_builtin; with_reducible refine gate_dst (N := 21) rfl ?_; refine print_append_row (w0 := w) w.heap.size rfl (.const (.slice none 0 0)) (.tmp 20) 22 3 .i64 8 rfl Try.underlying22 info3 (by omega) (.slice none 0 0) [] l A l.length c rfl rfl (own_nil _ _ _ _) HR2.out HB2.out HB2.out.size (by simp; omega) ?_; intro v1 w3 ho hb3 hg3 _; have HO3 := Aside0.mk ho; have HB3 := Aside0.mk hb3; have BK3 := Aside0.mk (blk_grown BK2.out hg3 (by simp [Value.ownBlock])); clear ho hb3 hg3)
    | (at_builtin; with_reducible refine gate_dst (N := 24) rfl ?_; refine print_append_num (w0 := w) w.heap.size rfl (.tmp 21) (.tmp 23) 22 3 .i64 8 rfl Try.underlying22 info3 (by omega) v1 ([] ++ l) size rfl rfl HO3.out HB3.out HB3.out.size (by simp; omega) ?_; intro v2 w4 ho hb4 hg4 _; have HO4 := Aside0.mk ho; have HB4 := Aside0.mk hb4; have HG4 := Aside0.mk hg4; clear ho hb4 hg4))
  obtain ⟨A4, c4, q4, hr4⟩ := own_reads HO4.out
  have BK4 := Aside0.mk (blk_grown BK3.out HG4.out (own_ne HO3.out BK3.out (by decide)))
  subst q4
  refine (room_Used.calls k A4 c4 ([] ++ l ++ [size]) (a + us) _ (Kd.C_of_reads (d := (0 : Int)) (h1 := fun _ => rfl) hr4) (own_cap HO4.out) HU2.out).mono ?_
  rintro e w5 ⟨rfl, hb⟩
  have HB5 := Aside0.mk (below_step HB4.out hb)
  have BK5 := Aside0.mk (blk_below BK4.out hb)
  clear hb HB4 BK4 HB2 BK2 HB3 BK3 HO3 HO4 HG4 hr4 HR2
  go_wp2_with fail
  refine (room_Use.calls size us _ HS.out).mono ?_
  rintro e w6 ⟨rfl, hb⟩
  have HB6 := Aside0.mk (below_step HB5.out hb)
  have BK6 := Aside0.mk (blk_below BK5.out hb)
  clear hb HB5 BK5
  go_wp2_with fail
  refine (room_Use.calls size us _ HS.out).mono ?_
  rintro e w7 ⟨rfl, hb⟩
  have HB7 := Aside0.mk (below_step HB6.out hb)
  have BK7 := Aside0.mk (blk_below BK6.out hb)
  clear hb HB6 BK6
  go_wp2_with fail
  refine (room_Use.calls size us _ HS.out).mono ?_
  rintro e w8 ⟨rfl, hb⟩
  have HB8 := Aside0.mk (below_step HB7.out hb)
  have BK8 := Aside0.mk (blk_below BK7.out hb)
  clear hb HB7 BK7
  have c0 : w8.cell? ⟨gb, 0, none⟩ = some (.int .i64 g0) := (blk_cell BK8.out 0).trans rfl
  have c1 : w8.cell? ⟨gb, 1, none⟩ = some (.int .i64 g1) := (blk_cell BK8.out 1).trans rfl
  have c2 : w8.cell? ⟨gb, 2, none⟩ = some (.int .i64 g2) := (blk_cell BK8.out 2).trans rfl
  have d0 : ∀ o, (w8.alloc o).cell? ⟨gb, 0, none⟩ = some (.int .i64 g0) := fun o => (blk_cell (blk_alloc BK8.out o) 0).trans rfl
  have d1 : ∀ o, (w8.alloc o).cell? ⟨gb, 1, none⟩ = some (.int .i64 g1) := fun o => (blk_cell (blk_alloc BK8.out o) 1).trans rfl
  have d2 : ∀ o, (w8.alloc o).cell? ⟨gb, 2, none⟩ = some (.int .i64 g2) := fun o => (blk_cell (blk_alloc BK8.out o) 2).trans rfl
  have e1 := E1.out
  have e2 := E2.out
  go_wp2_with fail
  refine (room_Fits.calls k g0 g1 g2 used false _ HF1.out).mono ?_
  rintro e w9 ⟨rfl, hb⟩
  have HB9 := Aside0.mk (below_step (below_alloc HB8.out _) hb)
  have BK9 := Aside0.mk (blk_below (blk_alloc BK8.out _) hb)
  have BL9 := Aside0.mk (blk_below (blk_new w8 _) hb)
  clear hb HB8 BK8 c0 c1 c2 d0 d1 d2
  have c0 : w9.cell? ⟨gb, 0, none⟩ = some (.int .i64 g0) := (blk_cell BK9.out 0).trans rfl
  have c1 : w9.cell? ⟨gb, 1, none⟩ = some (.int .i64 g1) := (blk_cell BK9.out 1).trans rfl
  have c2 : w9.cell? ⟨gb, 2, none⟩ = some (.int .i64 g2) := (blk_cell BK9.out 2).trans rfl
  have f0 : w9.cell? ⟨w8.heap.size, 0, none⟩ = some (.int .i64 g0) := (blk_cell BL9.out 0).trans rfl
  have f1 : w9.cell? ⟨w8.heap.size, 1, none⟩ = some (.int .i64 g1) := (blk_cell BL9.out 1).trans rfl
  have f2 : w9.cell? ⟨w8.heap.size, 2, none⟩ = some (.int .i64 m2) := (blk_cell BL9.out 2).trans rfl
  clear e1 e2
  go_wp2_with fail
  clear f0 f1 f2 c1 c2
  have e3 := E3.out
  have e4 := E4.out
  go_region_held3 (fun w' => w'.cell? ⟨gb, 0, none⟩ = some (.int .i64 g0)) (go_keep)
    (first | (go_at_call_of 13 lo; refine (room_Segs.calls g0 lo s1 _ HG1.out).mono ?_; rintro e w' ⟨rfl, ⟨nd, rfl⟩⟩) | (go_at_call_of 13 hi; refine (room_Segs.calls g0 hi s2 _ HG2.out).mono ?_; rintro e w' ⟨rfl, ⟨nd, rfl⟩⟩) | (go_at_call 19; refine (hayricklaw21_wakes.calls k true _ HW.out).mono ?_; rintro e w20 ⟨rfl, hb⟩; have HB20 := Aside0.mk (below_step (pw_below_drewN HB9.out _) hb); have cz := (pw_cell_below hb c0); clear hb))
  all_goals go_wp2
  all_goals go_ret
  all_goals exact ⟨rfl, HB20.out⟩
end Go.Proofs.Ytgekdenhkgkpiaa.WkRoomGrows
