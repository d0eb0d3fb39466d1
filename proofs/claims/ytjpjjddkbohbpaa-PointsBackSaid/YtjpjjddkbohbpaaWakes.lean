/- hayricklaw13.wakes: true, at every world. -/
import Derived.Test.YtjpjjddkbohbpaaSpread
import Derived.Test.YtjpjjddkbohbpaaPut
import Derived.Test.YtjpjjddkbohbpaaPPointsCutx1
namespace Go.Proofs.YtjpjjddkbohbpaaX
open Go.RowKit Go.Proofs.YtjpjjddkbohbpaaW.PrintWords Go.Proofs.Ytjpjjddkbohbpaa.PPointsCut
set_option linter.unusedVariables false
theorem reads_blk {w : World} {g t n : Nat} {k : IntKind} {xs : List Int} (h : w.heap[g]? = some (.cells (nums k xs).toArray t (0, 0))) (hn : xs.length = n) (hb : n ≤ 9223372036854775807) : ReadsInt w k (some ⟨g, 0, none⟩) n xs := by
  refine ⟨hn, hb, fun hp => ⟨_, rfl, fun j hj => ?_⟩⟩
  rw [add_plain, blk_cell h]
  simp [nums, List.getD_eq_getElem?_getD, List.getElem?_eq_getElem (show j < xs.length from by omega)]
theorem reads_less {w : World} {A : Option Addr} {n m : Nat} {k : IntKind} {xs : List Int} (h : ReadsInt w k A n xs) (hm : m ≤ n) : ReadsInt w k A m (xs.take m) := by
  refine ⟨by rw [List.length_take, h.1]; omega, by have := h.2.1; omega, fun hp => ?_⟩
  obtain ⟨ad, e, hr⟩ := h.2.2 (by omega)
  refine ⟨ad, e, fun j hj => ?_⟩
  rw [hr j (by omega)]
  simp [List.getD_eq_getElem?_getD, hj]
set_option maxHeartbeats 400000 in
set_option maxRecDepth 100000 in
theorem wakes_true (w : World) : Calls Try.prog 12 #[] w fun e w' => e = .returned (.bool true) ∧ Below w.heap.size w w' := by
  have hu31 := Try.underlying31
  go_enter Try.func12, Try.ntmps12
  go_wp2_with (first | (go_at_call 19; refine (put_any _ 1 1 [258] _ (reads_blk (blk_new _ _) rfl (by omega)) (by omega)).mono ?_; rintro e w1 ⟨v1, rfl, ho, hb⟩; have HB1 := Aside0.mk (below_step (below_alloc (Below.refl _ _) _) hb); have HO1 := Aside0.mk ho; clear hb ho) | (go_at_call 17; refine (spread_yes 1 1 800 1 0 0 0 0 0 0 0 _ 8 8 [1, 2, 3, 4, 5, 6, 7, 8] _ (by omega) (reads_blk (blk_new _ _) rfl (by omega)) (by omega) (by omega) (by omega) (by kernel_rfl) (by kernel_rfl)).mono ?_; rintro e w2 ⟨v2, rfl, ho, hb⟩; have HB2 := Aside0.mk (below_step (below_alloc HB1.out _) hb); have HO1b := Aside0.mk (pw_own_below (pw_own_below HO1.out (below_alloc (Below.refl _ _) _)) hb); have HO2 := Aside0.mk ho; clear hb ho) | (go_at_call 10; have hz := HO1c.out; clear hz; refine (points_Cut.calls 40 3808 1 [] 39 _ (by kernel_rfl)).mono ?_; rintro e w4 ⟨v4, rfl, ho, hb⟩; have HB4 := Aside0.mk (below_step HB3.out hb); have HO1d := Aside0.mk (pw_own_below HO1c.out hb); have HO2d := Aside0.mk (pw_own_below HO2c.out hb); have HO3d := Aside0.mk (Kd.R_below HO3.out hb); have C9d := Aside0.mk (pw_cell_below hb C9.out); clear hb ho) | (go_at_call 10; refine (points_Cut.calls 40 100 20 [⟨0, 100, 112, 0⟩, ⟨1, 0, 8, 12⟩] 0 _ (by kernel_rfl)).mono ?_; rintro e w3 ⟨v3, rfl, ho, hb⟩; have hb' := below_step (below_alloc (Below.refl w2.heap.size w2) _) hb; have HB3 := Aside0.mk (below_step HB2.out hb'); have HO1c := Aside0.mk (pw_own_below HO1b.out hb'); have HO2c := Aside0.mk (pw_own_below HO2.out hb'); have C9 := Aside0.mk ((blk_cell (blk_below (blk_new w2 _) hb) 9).trans (show #[Value.int .i64 1, .int .i64 1, .int .i64 800, .int .i64 1, .int .u32 1, .int .u32 2, .int .u32 3, .int .u32 4, .int .u32 5, .int .u32 6, .int .u32 0][9]? = some (.int .u32 6) from rfl)); have HO3 := Aside0.mk ho; clear hb hb' ho) | (go_at_call 13; refine (points_At.calls 40 33 false 27 true _ (by kernel_rfl)).mono ?_; rintro e w5 ⟨rfl, hd⟩; obtain ⟨nd, rfl⟩ := hd; obtain ⟨A1, c1, rfl, hr1⟩ := own_reads HO1d.out; have hc1 := own_le HO1d.out; obtain ⟨A2, c2, rfl, hr2⟩ := own_reads HO2d.out; have hc2 := own_le HO2d.out; obtain ⟨A3, c3, rfl, hc3, hr3⟩ := Kd.R_reads HO3d.out; obtain ⟨ad2, rfl, hx2⟩ := (hr2.drewN nd).at_ 1 (by omega) (by omega); obtain ⟨ad3, rfl, q0, q1, q2, q3⟩ := at_T31 (Kd.C_drewN hr3 nd) 1 (by omega) (by simp); have c9 := (show (w4.drewN nd).cell? ⟨w2.heap.size, 9, none⟩ = some (.int .u32 6) from C9d.out); have hcv := string_of_reads (P := Try.prog) (c := c1) Try.underlying53 Try.underlying5 Try.underlying9 (reads_less (m := 5) (hr1.drewN nd) (by omega)); have hsx : strOfNums ((putN [258] 1).take 5) = ⟨#[0, 0, 1, 2, 0]⟩ := (by kernel_rfl); rw [hsx] at hcv; have hy2 : rd (List.drop 6 [1, 2, 3, 4, 5, 6, 7, 8]) 1 = 8 := rfl; rw [hy2] at hx2; have hx3 : w4.cell? ⟨ad2.block, ad2.off + 1, none⟩ = some (.int .u32 8) := hx2; have p0 : w4.cell? ⟨ad3.block, ad3.off + 4, none⟩ = some (.int .i64 1) := q0; have p1 : w4.cell? ⟨ad3.block, ad3.off + 5, none⟩ = some (.int .i64 0) := q1; have p2 : w4.cell? ⟨ad3.block, ad3.off + 6, none⟩ = some (.int .i64 8) := q2; have p3 : w4.cell? ⟨ad3.block, ad3.off + 7, none⟩ = some (.int .i64 12) := q3; have hd2 : 2 ≤ c2 := hc2; have hd3 : 2 ≤ c3 := hc3; clear hr1 hr2 hr3 hsx hx2 q0 q1 q2 q3 hc2 hc3))
  all_goals go_ret
  all_goals exact ⟨rfl, pw_below_drewN HB4.out _⟩
end Go.Proofs.YtjpjjddkbohbpaaX
