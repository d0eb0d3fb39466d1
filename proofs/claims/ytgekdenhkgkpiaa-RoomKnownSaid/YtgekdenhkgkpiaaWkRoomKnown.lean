/- RoomKnown: the law's walk, out of the functions' contracts. -/
import Derived.Test.YtgekdenhkgkpiaaPRoomKnownx2
import Derived.Test.YtgekdenhkgkpiaaXEv
import Derived.WalkSpells
import Derived.LoopN
import Derived.Deep.RegionHeld3
namespace Go.Proofs.Ytgekdenhkgkpiaa.WkRoomKnown
open Go.RowKit Go.Proofs.YtgekdenhkgkpiaaW.PrintWords Go.Proofs.YtgekdenhkgkpiaaW.PrintLast Go.Proofs.YtgekdenhkgkpiaaW.PrintMore
open Go.Proofs.Ytgekdenhkgkpiaa.PRoomKnown Go.Proofs.YtgekdenhkgkpiaaX
set_option linter.unusedVariables false
def arr : Array Value := #[.int .i64 0, .int .i64 0, .int .i64 0, .int .i64 4, .int .i64 4, .int .i64 32, .int .i64 4, .int .i64 256, .int .i64 32, .int .i64 4, .int .i64 6, .int .i64 15, .int .i64 4, .int .i64 6, .int .i64 129, .int .i64 1, .int .i64 2, .int .i64 40, .int .i64 255, .int .i64 256, .int .i64 100, .int .i64 (-1), .int .i64 2, .int .i64 100]
theorem info37 : (Try.prog.info? 37).map (·.size) = some arr.size := by kernel_rfl
theorem acc0 : room_Accepts.f 9 0 0 0 = some false := by kernel_rfl
theorem fit0 : room_Fits.f 9 0 0 0 (-1) = some false := by kernel_rfl
theorem rdy0 : room_Ready.f 9 0 0 0 4611686018427387904 0 = some false := by kernel_rfl
theorem acc1 : room_Accepts.f 9 4 4 32 = some false := by kernel_rfl
theorem fit1 : room_Fits.f 9 4 4 32 (-1) = some false := by kernel_rfl
theorem rdy1 : room_Ready.f 9 4 4 32 4611686018427387904 0 = some false := by kernel_rfl
theorem acc2 : room_Accepts.f 9 4 256 32 = some false := by kernel_rfl
theorem fit2 : room_Fits.f 9 4 256 32 (-1) = some false := by kernel_rfl
theorem rdy2 : room_Ready.f 9 4 256 32 4611686018427387904 0 = some false := by kernel_rfl
theorem acc3 : room_Accepts.f 9 4 6 15 = some false := by kernel_rfl
theorem fit3 : room_Fits.f 9 4 6 15 (-1) = some false := by kernel_rfl
theorem rdy3 : room_Ready.f 9 4 6 15 4611686018427387904 0 = some false := by kernel_rfl
theorem acc4 : room_Accepts.f 9 4 6 129 = some false := by kernel_rfl
theorem fit4 : room_Fits.f 9 4 6 129 (-1) = some false := by kernel_rfl
theorem rdy4 : room_Ready.f 9 4 6 129 4611686018427387904 0 = some false := by kernel_rfl
theorem acc5 : room_Accepts.f 9 1 2 40 = some false := by kernel_rfl
theorem fit5 : room_Fits.f 9 1 2 40 (-1) = some false := by kernel_rfl
theorem rdy5 : room_Ready.f 9 1 2 40 4611686018427387904 0 = some false := by kernel_rfl
theorem acc6 : room_Accepts.f 9 255 256 100 = some false := by kernel_rfl
theorem fit6 : room_Fits.f 9 255 256 100 (-1) = some false := by kernel_rfl
theorem rdy6 : room_Ready.f 9 255 256 100 4611686018427387904 0 = some false := by kernel_rfl
theorem acc7 : room_Accepts.f 9 (-1) 2 100 = some false := by kernel_rfl
theorem fit7 : room_Fits.f 9 (-1) 2 100 (-1) = some false := by kernel_rfl
theorem rdy7 : room_Ready.f 9 (-1) 2 100 4611686018427387904 0 = some false := by kernel_rfl
def geo : Array Value := #[.int .i64 254, .int .i64 255, .int .i64 16]
theorem info31 : (Try.prog.info? 31).map (·.size) = some geo.size := by kernel_rfl
theorem k0 : room_Accepts.f 9 254 255 16 = some true := by kernel_rfl
theorem k1 : room_Cap.f 254 = some 948 := by kernel_rfl
theorem k2 : room_Quota.f 9 254 255 16 = some 3792 := by kernel_rfl
theorem k3 : room_Fits.f 9 254 255 16 (-9223372036854775808) = some true := by kernel_rfl
theorem k4 : room_Use.f (-9223372036854775808) = some 1 := by kernel_rfl
theorem k5 : room_Use.f 9223372036854775807 = some 36 := by kernel_rfl
theorem k6 : room_Use.f 672 = some 7 := by kernel_rfl
theorem k7 : room_Used.f 9 [] = some 0 := by kernel_rfl
theorem k8 : room_Segs.f 255 9223372036854775807 = some 9688416005099555 := by kernel_rfl
theorem k9 : room_Accepts.f 9 1 2 44 = some true := by kernel_rfl
theorem k10 : room_Quota.f 9 1 2 16 = some 0 := by kernel_rfl
theorem k11 : room_Ready.f 9 254 255 16 (-9223372036854775808) 9223372036854775807 = some false := by kernel_rfl
theorem k12 : hayricklaw21_wakes.f 9 = some true := by kernel_rfl
structure Inv (w : World) (gb : Nat) (wr : World) : Prop where
  below : Below w.heap.size w wr
  blk : wr.heap[gb]? = some (.cells arr 37 (0, 0))
theorem Inv.step {w wr w' : World} {gb : Nat} (h : Inv w gb wr) (hb : Below wr.heap.size wr w') : Inv w gb w' := ⟨below_step h.below hb, blk_below h.blk hb⟩
theorem Inv.draw {w wr : World} {gb : Nat} (h : Inv w gb wr) (n : Nat) : Inv w gb (wr.drewN n) := ⟨pw_below_drewN h.below n, blk_drewN h.blk n⟩
theorem Inv.cell {w wr : World} {gb : Nat} (h : Inv w gb wr) (i : Nat) (v : Value) (hv : arr[i]? = some v) : wr.cell? ⟨gb, i, none⟩ = some v := (blk_cell h.blk i).trans hv
set_option maxHeartbeats 8000000 in
set_option maxRecDepth 100000 in
theorem walk (w : World) : Calls Try.prog 8 #[] w fun e w' => e = .returned (.bool true) ∧ Below w.heap.size w w' := by
  have HB0 := Aside0.mk (Below.refl w.heap.size w)
  have hu31 := Try.underlying31
  go_enter Try.func8, Try.ntmps8
  go_wp2_with (first
    | ((with_reducible refine gate_dst (N := 1) rfl ?_); refine box_event ?hg (N := 1) ?hd (cs := #[.int .i64 0, .int .i64 0, .int .i64 0, .int .i64 0, .int .i64 0, .int .i64 0, .int .i64 0, .int .i64 0, .int .i64 0, .int .i64 0, .int .i64 0, .int .i64 0, .int .i64 0, .int .i64 0, .int .i64 0, .int .i64 0, .int .i64 0, .int .i64 0, .int .i64 0, .int .i64 0, .int .i64 0, .int .i64 0, .int .i64 0, .int .i64 0]) (t := 37) ?hr ?_; (case hd => rfl); (case hg => rfl); (case hr => first | (go_simp; done) | (go_simp; rfl) | kernel_rfl); intro gb hg w1 hbox hb; have HB1 := Aside0.mk (below_step HB0.out hb); have BK1 := Aside0.mk hbox; have GE := Aside0.mk (by rw [hg]; exact HB0.out.size : w.heap.size ≤ gb); clear hb hbox hg)
    | ((with_reducible refine gate_store (t := 37) (p := 1) (v := .tmp 12) rfl ?_); refine ev_store_row rfl 37 (.tmp 1) (.tmp 12) rfl gb arr rfl rfl 37 _ BK1.out info37 (by rfl) (by kernel_rfl) ?_; intro w2 hbox hg; have I2 := Aside0.mk (⟨HB1.out.grown hg HB1.out.size (fun k e => by cases e; exact GE.out), hbox⟩ : Inv w gb w2); clear hbox hg))
  clear HB0 HB1 BK1
  refine wp_loop_rounds 9 ?_
  rw [rounds_succ]
  have c0 := I2.out.cell 0 _ rfl
  have c1 := I2.out.cell 1 _ rfl
  have c2 := I2.out.cell 2 _ rfl
  go_wp2_with fail
  refine (room_Accepts.calls 9 0 0 0 false _ acc0).mono ?_
  rintro e w3 ⟨rfl, hb⟩
  have I3 := Aside0.mk (I2.out.step hb)
  clear hb c0 c1 c2 I2
  have c0 := I3.out.cell 0 _ rfl
  have c1 := I3.out.cell 1 _ rfl
  have c2 := I3.out.cell 2 _ rfl
  go_wp2_with fail
  refine (room_Fits.calls 9 0 0 0 (-1) false _ fit0).mono ?_
  rintro e w4 ⟨rfl, hb⟩
  have I4 := Aside0.mk (I3.out.step hb)
  clear hb c0 c1 c2 I3
  have c0 := I4.out.cell 0 _ rfl
  have c1 := I4.out.cell 1 _ rfl
  have c2 := I4.out.cell 2 _ rfl
  go_wp2_with fail
  refine (room_Ready.calls 9 0 0 0 4611686018427387904 0 false _ rdy0).mono ?_
  rintro e w5 ⟨rfl, hb⟩
  have I5 := Aside0.mk (I4.out.step hb)
  clear hb c0 c1 c2 I4
  go_wp2_with fail
  rw [rounds_succ]
  have c0 := I5.out.cell 3 _ rfl
  have c1 := I5.out.cell 4 _ rfl
  have c2 := I5.out.cell 5 _ rfl
  go_wp2_with fail
  refine (room_Accepts.calls 9 4 4 32 false _ acc1).mono ?_
  rintro e w6 ⟨rfl, hb⟩
  have I6 := Aside0.mk (I5.out.step hb)
  clear hb c0 c1 c2 I5
  have c0 := I6.out.cell 3 _ rfl
  have c1 := I6.out.cell 4 _ rfl
  have c2 := I6.out.cell 5 _ rfl
  go_wp2_with fail
  refine (room_Fits.calls 9 4 4 32 (-1) false _ fit1).mono ?_
  rintro e w7 ⟨rfl, hb⟩
  have I7 := Aside0.mk (I6.out.step hb)
  clear hb c0 c1 c2 I6
  have c0 := I7.out.cell 3 _ rfl
  have c1 := I7.out.cell 4 _ rfl
  have c2 := I7.out.cell 5 _ rfl
  go_wp2_with fail
  refine (room_Ready.calls 9 4 4 32 4611686018427387904 0 false _ rdy1).mono ?_
  rintro e w8 ⟨rfl, hb⟩
  have I8 := Aside0.mk (I7.out.step hb)
  clear hb c0 c1 c2 I7
  go_wp2_with fail
  rw [rounds_succ]
  have c0 := I8.out.cell 6 _ rfl
  have c1 := I8.out.cell 7 _ rfl
  have c2 := I8.out.cell 8 _ rfl
  go_wp2_with fail
  refine (room_Accepts.calls 9 4 256 32 false _ acc2).mono ?_
  rintro e w9 ⟨rfl, hb⟩
  have I9 := Aside0.mk (I8.out.step hb)
  clear hb c0 c1 c2 I8
  have c0 := I9.out.cell 6 _ rfl
  have c1 := I9.out.cell 7 _ rfl
  have c2 := I9.out.cell 8 _ rfl
  go_wp2_with fail
  refine (room_Fits.calls 9 4 256 32 (-1) false _ fit2).mono ?_
  rintro e w10 ⟨rfl, hb⟩
  have I10 := Aside0.mk (I9.out.step hb)
  clear hb c0 c1 c2 I9
  have c0 := I10.out.cell 6 _ rfl
  have c1 := I10.out.cell 7 _ rfl
  have c2 := I10.out.cell 8 _ rfl
  go_wp2_with fail
  refine (room_Ready.calls 9 4 256 32 4611686018427387904 0 false _ rdy2).mono ?_
  rintro e w11 ⟨rfl, hb⟩
  have I11 := Aside0.mk (I10.out.step hb)
  clear hb c0 c1 c2 I10
  go_wp2_with fail
  rw [rounds_succ]
  have c0 := I11.out.cell 9 _ rfl
  have c1 := I11.out.cell 10 _ rfl
  have c2 := I11.out.cell 11 _ rfl
  go_wp2_with fail
  refine (room_Accepts.calls 9 4 6 15 false _ acc3).mono ?_
  rintro e w12 ⟨rfl, hb⟩
  have I12 := Aside0.mk (I11.out.step hb)
  clear hb c0 c1 c2 I11
  have c0 := I12.out.cell 9 _ rfl
  have c1 := I12.out.cell 10 _ rfl
  have c2 := I12.out.cell 11 _ rfl
  go_wp2_with fail
  refine (room_Fits.calls 9 4 6 15 (-1) false _ fit3).mono ?_
  rintro e w13 ⟨rfl, hb⟩
  have I13 := Aside0.mk (I12.out.step hb)
  clear hb c0 c1 c2 I12
  have c0 := I13.out.cell 9 _ rfl
  have c1 := I13.out.cell 10 _ rfl
  have c2 := I13.out.cell 11 _ rfl
  go_wp2_with fail
  refine (room_Ready.calls 9 4 6 15 4611686018427387904 0 false _ rdy3).mono ?_
  rintro e w14 ⟨rfl, hb⟩
  have I14 := Aside0.mk (I13.out.step hb)
  clear hb c0 c1 c2 I13
  go_wp2_with fail
  rw [rounds_succ]
  have c0 := I14.out.cell 12 _ rfl
  have c1 := I14.out.cell 13 _ rfl
  have c2 := I14.out.cell 14 _ rfl
  go_wp2_with fail
  refine (room_Accepts.calls 9 4 6 129 false _ acc4).mono ?_
  rintro e w15 ⟨rfl, hb⟩
  have I15 := Aside0.mk (I14.out.step hb)
  clear hb c0 c1 c2 I14
  have c0 := I15.out.cell 12 _ rfl
  have c1 := I15.out.cell 13 _ rfl
  have c2 := I15.out.cell 14 _ rfl
  go_wp2_with fail
  refine (room_Fits.calls 9 4 6 129 (-1) false _ fit4).mono ?_
  rintro e w16 ⟨rfl, hb⟩
  have I16 := Aside0.mk (I15.out.step hb)
  clear hb c0 c1 c2 I15
  have c0 := I16.out.cell 12 _ rfl
  have c1 := I16.out.cell 13 _ rfl
  have c2 := I16.out.cell 14 _ rfl
  go_wp2_with fail
  refine (room_Ready.calls 9 4 6 129 4611686018427387904 0 false _ rdy4).mono ?_
  rintro e w17 ⟨rfl, hb⟩
  have I17 := Aside0.mk (I16.out.step hb)
  clear hb c0 c1 c2 I16
  go_wp2_with fail
  rw [rounds_succ]
  have c0 := I17.out.cell 15 _ rfl
  have c1 := I17.out.cell 16 _ rfl
  have c2 := I17.out.cell 17 _ rfl
  go_wp2_with fail
  refine (room_Accepts.calls 9 1 2 40 false _ acc5).mono ?_
  rintro e w18 ⟨rfl, hb⟩
  have I18 := Aside0.mk (I17.out.step hb)
  clear hb c0 c1 c2 I17
  have c0 := I18.out.cell 15 _ rfl
  have c1 := I18.out.cell 16 _ rfl
  have c2 := I18.out.cell 17 _ rfl
  go_wp2_with fail
  refine (room_Fits.calls 9 1 2 40 (-1) false _ fit5).mono ?_
  rintro e w19 ⟨rfl, hb⟩
  have I19 := Aside0.mk (I18.out.step hb)
  clear hb c0 c1 c2 I18
  have c0 := I19.out.cell 15 _ rfl
  have c1 := I19.out.cell 16 _ rfl
  have c2 := I19.out.cell 17 _ rfl
  go_wp2_with fail
  refine (room_Ready.calls 9 1 2 40 4611686018427387904 0 false _ rdy5).mono ?_
  rintro e w20 ⟨rfl, hb⟩
  have I20 := Aside0.mk (I19.out.step hb)
  clear hb c0 c1 c2 I19
  go_wp2_with fail
  rw [rounds_succ]
  have c0 := I20.out.cell 18 _ rfl
  have c1 := I20.out.cell 19 _ rfl
  have c2 := I20.out.cell 20 _ rfl
  go_wp2_with fail
  refine (room_Accepts.calls 9 255 256 100 false _ acc6).mono ?_
  rintro e w21 ⟨rfl, hb⟩
  have I21 := Aside0.mk (I20.out.step hb)
  clear hb c0 c1 c2 I20
  have c0 := I21.out.cell 18 _ rfl
  have c1 := I21.out.cell 19 _ rfl
  have c2 := I21.out.cell 20 _ rfl
  go_wp2_with fail
  refine (room_Fits.calls 9 255 256 100 (-1) false _ fit6).mono ?_
  rintro e w22 ⟨rfl, hb⟩
  have I22 := Aside0.mk (I21.out.step hb)
  clear hb c0 c1 c2 I21
  have c0 := I22.out.cell 18 _ rfl
  have c1 := I22.out.cell 19 _ rfl
  have c2 := I22.out.cell 20 _ rfl
  go_wp2_with fail
  refine (room_Ready.calls 9 255 256 100 4611686018427387904 0 false _ rdy6).mono ?_
  rintro e w23 ⟨rfl, hb⟩
  have I23 := Aside0.mk (I22.out.step hb)
  clear hb c0 c1 c2 I22
  go_wp2_with fail
  rw [rounds_succ]
  have c0 := I23.out.cell 21 _ rfl
  have c1 := I23.out.cell 22 _ rfl
  have c2 := I23.out.cell 23 _ rfl
  go_wp2_with fail
  refine (room_Accepts.calls 9 (-1) 2 100 false _ acc7).mono ?_
  rintro e w24 ⟨rfl, hb⟩
  have I24 := Aside0.mk (I23.out.step hb)
  clear hb c0 c1 c2 I23
  have c0 := I24.out.cell 21 _ rfl
  have c1 := I24.out.cell 22 _ rfl
  have c2 := I24.out.cell 23 _ rfl
  go_wp2_with fail
  refine (room_Fits.calls 9 (-1) 2 100 (-1) false _ fit7).mono ?_
  rintro e w25 ⟨rfl, hb⟩
  have I25 := Aside0.mk (I24.out.step hb)
  clear hb c0 c1 c2 I24
  have c0 := I25.out.cell 21 _ rfl
  have c1 := I25.out.cell 22 _ rfl
  have c2 := I25.out.cell 23 _ rfl
  go_wp2_with fail
  refine (room_Ready.calls 9 (-1) 2 100 4611686018427387904 0 false _ rdy7).mono ?_
  rintro e w26 ⟨rfl, hb⟩
  have I26 := Aside0.mk (I25.out.step hb)
  clear hb c0 c1 c2 I25
  go_wp2_with fail
  rw [rounds_succ]
  go_wp2_with (first
    | ((with_reducible refine gate_dst (N := 3) rfl ?_); refine box_event ?hg3 (N := 3) ?hd3 (cs := #[.int .i64 0, .int .i64 0, .int .i64 0]) (t := 31) ?hr3 ?_; (case hd3 => rfl); (case hg3 => rfl); (case hr3 => first | (go_simp; done) | (go_simp; rfl)); intro gc hgc wa hbox hb; have J1 := Aside0.mk (below_step I26.out.below hb); have BC1 := Aside0.mk hbox; have GC := Aside0.mk (by rw [hgc]; exact I26.out.below.size : w.heap.size ≤ gc); clear hb hbox hgc)
    | ((with_reducible refine gate_store (t := 31) (p := 3) (v := .tmp 33) rfl ?_); refine ev_store_row rfl 31 (.tmp 3) (.tmp 33) rfl gc geo rfl rfl 31 _ BC1.out info31 (by rfl) (by kernel_rfl) ?_; intro wb hbox hg; have J2 := Aside0.mk (J1.out.grown hg J1.out.size (fun k e => by cases e; exact GC.out)); have BC2 := Aside0.mk hbox; have c0 := (blk_cell BC2.out 0).trans (show geo[0]? = some (.int .i64 254) from rfl); have c1 := (blk_cell BC2.out 1).trans (show geo[1]? = some (.int .i64 255) from rfl); have c2 := (blk_cell BC2.out 2).trans (show geo[2]? = some (.int .i64 16) from rfl); clear hbox hg))
  refine (room_Accepts.calls 9 254 255 16 true _ k0).mono ?_
  rintro e u3 ⟨rfl, hb⟩
  have J3 := Aside0.mk (below_step J2.out hb)
  have BC3 := Aside0.mk (blk_below BC2.out hb)
  clear hb J2 BC2 c0 c1 c2
  have c0 := (blk_cell BC3.out 0).trans (show geo[0]? = some (.int .i64 254) from rfl)
  have c1 := (blk_cell BC3.out 1).trans (show geo[1]? = some (.int .i64 255) from rfl)
  have c2 := (blk_cell BC3.out 2).trans (show geo[2]? = some (.int .i64 16) from rfl)
  go_wp2_with fail
  refine (room_Cap.calls 254 948 _ k1).mono ?_
  rintro e u4 ⟨rfl, hd⟩
  have hb := hd.below
  have J4 := Aside0.mk (below_step J3.out hb)
  have BC4 := Aside0.mk (blk_below BC3.out hb)
  clear hd
  clear hb J3 BC3 c0 c1 c2
  have c0 := (blk_cell BC4.out 0).trans (show geo[0]? = some (.int .i64 254) from rfl)
  have c1 := (blk_cell BC4.out 1).trans (show geo[1]? = some (.int .i64 255) from rfl)
  have c2 := (blk_cell BC4.out 2).trans (show geo[2]? = some (.int .i64 16) from rfl)
  go_wp2_with fail
  refine (room_Quota.calls 9 254 255 16 3792 _ k2).mono ?_
  rintro e u5 ⟨rfl, hb⟩
  have J5 := Aside0.mk (below_step J4.out hb)
  have BC5 := Aside0.mk (blk_below BC4.out hb)
  clear hb J4 BC4 c0 c1 c2
  have c0 := (blk_cell BC5.out 0).trans (show geo[0]? = some (.int .i64 254) from rfl)
  have c1 := (blk_cell BC5.out 1).trans (show geo[1]? = some (.int .i64 255) from rfl)
  have c2 := (blk_cell BC5.out 2).trans (show geo[2]? = some (.int .i64 16) from rfl)
  go_wp2_with fail
  refine (room_Fits.calls 9 254 255 16 (-9223372036854775808) true _ k3).mono ?_
  rintro e u6 ⟨rfl, hb⟩
  have J6 := Aside0.mk (below_step J5.out hb)
  have BC6 := Aside0.mk (blk_below BC5.out hb)
  clear hb J5 BC5 c0 c1 c2
  have c0 := (blk_cell BC6.out 0).trans (show geo[0]? = some (.int .i64 254) from rfl)
  have c1 := (blk_cell BC6.out 1).trans (show geo[1]? = some (.int .i64 255) from rfl)
  have c2 := (blk_cell BC6.out 2).trans (show geo[2]? = some (.int .i64 16) from rfl)
  go_wp2_with fail
  refine (room_Use.calls (-9223372036854775808) 1 _ k4).mono ?_
  rintro e u7 ⟨rfl, hb⟩
  have J7 := Aside0.mk (below_step J6.out hb)
  have BC7 := Aside0.mk (blk_below BC6.out hb)
  clear hb J6 BC6 c0 c1 c2
  have c0 := (blk_cell BC7.out 0).trans (show geo[0]? = some (.int .i64 254) from rfl)
  have c1 := (blk_cell BC7.out 1).trans (show geo[1]? = some (.int .i64 255) from rfl)
  have c2 := (blk_cell BC7.out 2).trans (show geo[2]? = some (.int .i64 16) from rfl)
  go_wp2_with fail
  refine (room_Use.calls 9223372036854775807 36 _ k5).mono ?_
  rintro e u8 ⟨rfl, hb⟩
  have J8 := Aside0.mk (below_step J7.out hb)
  have BC8 := Aside0.mk (blk_below BC7.out hb)
  clear hb J7 BC7 c0 c1 c2
  have c0 := (blk_cell BC8.out 0).trans (show geo[0]? = some (.int .i64 254) from rfl)
  have c1 := (blk_cell BC8.out 1).trans (show geo[1]? = some (.int .i64 255) from rfl)
  have c2 := (blk_cell BC8.out 2).trans (show geo[2]? = some (.int .i64 16) from rfl)
  go_wp2_with fail
  refine (room_Use.calls 672 7 _ k6).mono ?_
  rintro e u9 ⟨rfl, hb⟩
  have J9 := Aside0.mk (below_step J8.out hb)
  have BC9 := Aside0.mk (blk_below BC8.out hb)
  clear hb J8 BC8 c0 c1 c2
  have c0 := (blk_cell BC9.out 0).trans (show geo[0]? = some (.int .i64 254) from rfl)
  have c1 := (blk_cell BC9.out 1).trans (show geo[1]? = some (.int .i64 255) from rfl)
  have c2 := (blk_cell BC9.out 2).trans (show geo[2]? = some (.int .i64 16) from rfl)
  go_wp2_with fail
  refine (room_Used.calls 9 none 0 [] 0 _ (Kd.C_of_reads (d := (0 : Int)) (h1 := fun _ => rfl) ⟨rfl, by simp, fun h => absurd h (by simp)⟩) (Nat.le_refl _) k7).mono ?_
  rintro e u10 ⟨rfl, hb⟩
  have J10 := Aside0.mk (below_step J9.out hb)
  have BC10 := Aside0.mk (blk_below BC9.out hb)
  clear hb J9 BC9 c0 c1 c2
  have c0 := (blk_cell BC10.out 0).trans (show geo[0]? = some (.int .i64 254) from rfl)
  have c1 := (blk_cell BC10.out 1).trans (show geo[1]? = some (.int .i64 255) from rfl)
  have c2 := (blk_cell BC10.out 2).trans (show geo[2]? = some (.int .i64 16) from rfl)
  go_wp2_with fail
  refine (room_Segs.calls 255 9223372036854775807 9688416005099555 _ k8).mono ?_
  rintro e u11 ⟨rfl, hd⟩
  have hb := hd.below
  have J11 := Aside0.mk (below_step J10.out hb)
  have BC11 := Aside0.mk (blk_below BC10.out hb)
  clear hd
  clear hb J10 BC10 c0 c1 c2
  have c0 := (blk_cell BC11.out 0).trans (show geo[0]? = some (.int .i64 254) from rfl)
  have c1 := (blk_cell BC11.out 1).trans (show geo[1]? = some (.int .i64 255) from rfl)
  have c2 := (blk_cell BC11.out 2).trans (show geo[2]? = some (.int .i64 16) from rfl)
  go_wp2_with fail
  refine (room_Accepts.calls 9 1 2 44 true _ k9).mono ?_
  rintro e u12 ⟨rfl, hb⟩
  have J12 := Aside0.mk (below_step J11.out hb)
  have BC12 := Aside0.mk (blk_below BC11.out hb)
  clear hb J11 BC11 c0 c1 c2
  have c0 := (blk_cell BC12.out 0).trans (show geo[0]? = some (.int .i64 254) from rfl)
  have c1 := (blk_cell BC12.out 1).trans (show geo[1]? = some (.int .i64 255) from rfl)
  have c2 := (blk_cell BC12.out 2).trans (show geo[2]? = some (.int .i64 16) from rfl)
  go_wp2_with fail
  refine (room_Quota.calls 9 1 2 16 0 _ k10).mono ?_
  rintro e u13 ⟨rfl, hb⟩
  have J13 := Aside0.mk (below_step J12.out hb)
  have BC13 := Aside0.mk (blk_below BC12.out hb)
  clear hb J12 BC12 c0 c1 c2
  have c0 := (blk_cell BC13.out 0).trans (show geo[0]? = some (.int .i64 254) from rfl)
  have c1 := (blk_cell BC13.out 1).trans (show geo[1]? = some (.int .i64 255) from rfl)
  have c2 := (blk_cell BC13.out 2).trans (show geo[2]? = some (.int .i64 16) from rfl)
  go_wp2_with fail
  refine (room_Ready.calls 9 254 255 16 (-9223372036854775808) 9223372036854775807 false _ k11).mono ?_
  rintro e u14 ⟨rfl, hb⟩
  have J14 := Aside0.mk (below_step J13.out hb)
  have BC14 := Aside0.mk (blk_below BC13.out hb)
  clear hb J13 BC13 c0 c1 c2
  have c0 := (blk_cell BC14.out 0).trans (show geo[0]? = some (.int .i64 254) from rfl)
  have c1 := (blk_cell BC14.out 1).trans (show geo[1]? = some (.int .i64 255) from rfl)
  have c2 := (blk_cell BC14.out 2).trans (show geo[2]? = some (.int .i64 16) from rfl)
  go_wp2_with fail
  refine (hayricklaw21_wakes.calls 9 true _ k12).mono ?_
  rintro e u15 ⟨rfl, hb⟩
  have J15 := Aside0.mk (below_step J14.out hb)
  have BC15 := Aside0.mk (blk_below BC14.out hb)
  clear hb J14 BC14 c0 c1 c2
  have c0 := (blk_cell BC15.out 0).trans (show geo[0]? = some (.int .i64 254) from rfl)
  have c1 := (blk_cell BC15.out 1).trans (show geo[1]? = some (.int .i64 255) from rfl)
  have c2 := (blk_cell BC15.out 2).trans (show geo[2]? = some (.int .i64 16) from rfl)
  go_wp2
  go_ret
  exact ⟨rfl, J15.out⟩
end Go.Proofs.Ytgekdenhkgkpiaa.WkRoomKnown
