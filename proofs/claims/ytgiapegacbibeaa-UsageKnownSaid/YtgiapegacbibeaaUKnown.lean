/- UsageKnown: its walk. -/
import Derived.Test.YtgiapegacbibeaaUWakes
namespace Go.Proofs.Ytgiapegacbibeaa.UM
open Go.RowKit Go.Proofs.YtgiapegacbibeaaX Go.Proofs.YtgiapegacbibeaaW.PrintWords Go.Proofs.Ytgiapegacbibeaa.PUsageLives
set_option linter.unusedVariables false
set_option linter.unusedSimpArgs false
def zK : List Int := List.replicate 64 0
def mK : List Int := List.replicate 63 0 ++ [11]
theorem ad_1 : usage_Address.f 2 3 16 16 0 = some (0, 1) := by decide +kernel
theorem ad_2 : usage_Address.f 2 3 16 0 8 = some (0, 1) := by decide +kernel
theorem ad_3 : usage_Address.f 2 3 16 0 0 = some (1, 0) := by decide +kernel
theorem pl_1 : usage_Place.f 2 3 16 0 = some (0, 0, 5) := by decide +kernel
theorem pl_2 : usage_Place.f 2 3 16 129 = some (0, 0, 5) := by decide +kernel
theorem pl_3 : usage_Place.f 2 0 0 1 = some (0, 0, 1) := by decide +kernel
theorem free_nil : usage_Free.f 10 [] = some [] := by decide +kernel
theorem live_Zp : liveN 2 (16 : Nat) [] zK 0 [] (List.replicate 16 0) = (0, [], List.replicate 16 0) := by decide +kernel
theorem live_Mp : (liveN 2 (16 : Nat) [] mK 0 [] (List.replicate 16 0)).1 = 20 := by decide +kernel
theorem zK_range : ∀ x ∈ zK, 0 ≤ x ∧ x < 4294967296 := by decide +kernel
theorem mK_range : ∀ x ∈ mK, 0 ≤ x ∧ x < 4294967296 := by decide +kernel
theorem live_Z (w : World) : Calls Try.prog 13 #[.agg #[.int .i64 2, .int .i64 3, .int .i64 16], .agg (nums .u32 zK).toArray, .nilFunc] w fun e w' => ∃ A m c, e = .returned (.tuple #[.slice A m c, .int .i64 0]) ∧ ReadsInt w' .i64 A m (List.replicate 16 0) ∧ m ≤ c ∧ Below w.heap.size w w' :=
  (live_nil 2 3 16 zK w _ [] (by decide) (by decide) rfl zK_range rfl (fun W gl gm gv l v ino a _ _ _ _ _ _ _ hm hn => absurd (List.eq_of_mem_replicate hm) hn)).mono fun e w' h => live_post h (congrArg Prod.fst live_Zp) (by rw [if_pos rfl]; exact congrArg (fun p => p.2.2) live_Zp)
theorem bs_nil (w : World) (B : Nat) : BS w B none 0 [] := by
  exact Kd.V_nil _ _ _ _ _
theorem live_M (w : World) : Calls Try.prog 13 #[.agg #[.int .i64 2, .int .i64 3, .int .i64 16], .agg (nums .u32 mK).toArray, .func (.func 14) #[.agg #[.slice none 0 0]] #[]] w fun e w' => ∃ A m c, e = .returned (.tuple #[.slice A m c, .int .i64 20]) ∧ ReadsInt w' .i64 A m [] ∧ m ≤ c ∧ Below w.heap.size w w' :=
  (live_read w 2 3 16 16 rfl mK none 0 0 [] rfl (bs_nil w _) (by decide) (by decide) rfl mK_range (by decide) (by simp) (by simp) _ rfl).mono fun e w' h => live_post h live_Mp (by rw [if_neg (by decide)])
theorem live_X (w : World) : Calls Try.prog 13 #[.agg #[.int .i64 256, .int .i64 0, .int .i64 1], .agg (nums .u32 zK).toArray, .nilFunc] w fun e w' => e = .returned (.tuple #[.slice none 0 0, .int .i64 1]) ∧ Below w.heap.size w w' := live_no 256 0 1 zK .nilFunc w (by decide)
theorem reads_nil {w : World} : ReadsInt w .i64 none 0 [] := ⟨rfl, by decide, fun h => absurd h (by decide)⟩
set_option maxHeartbeats 2000000 in
set_option maxRecDepth 100000 in
theorem known_law (w : World) : Calls Try.prog 6 #[] w fun e w' => e = .returned (.bool true) ∧ Below w.heap.size w w' := by
  have hu23 := Aside0.mk Try.underlying23
  have hu36 := Aside0.mk Try.underlying36
  go_enter Try.func6, Try.ntmps6
  go_wp2_with (first
    | ((with_reducible refine gate_dst (N := 1) rfl ?_); refine box_event ?hg (N := 1) ?hd (cs := #[.int .i64 0, .int .i64 0, .int .i64 0]) (t := 23) ?hr ?_; (case hd => rfl); (case hg => rfl); (case hr => first | (go_simp; done) | (go_simp; rfl) | kernel_rfl); intro gg hg w1 hbox hb; have Gg := Aside0.mk (Nat.le_of_eq hg.symm); have HB1 := Aside0.mk (hb); have Bg1 := Aside0.mk (hbox); clear hb hbox hg)
    | ((with_reducible refine gate_store (t := 23) (p := 1) (v := .tmp 24) rfl ?_); refine ev_store_row (by rfl) 23 (.tmp 1) (.tmp 24) (by rfl) gg (#[.int .i64 2, .int .i64 3, .int .i64 16]) (by kernel_rfl) (by kernel_rfl) 23 _ Bg1.out sizeGeo (by rfl) (by simp [Value.oneCell']) ?_; intro w2 hbox hg; have HB2 := Aside0.mk (pw_below_grown HB1.out _ HB1.out.size hg (fun q e => by cases e; exact Gg.out)); have Bg2 := Aside0.mk (hbox); clear hbox hg)
    | ((with_reducible refine gate_dst (N := 26) rfl ?_); refine wpList_load_row rfl 23 (.tmp 1) (by kernel_rfl) gg (by kernel_rfl) _ _ _ _ Bg2.out hu23.out rfl sizeGeo ?_)
    | ((with_reducible refine gate_dst (N := 31) rfl ?_); refine wpList_load_row rfl 23 (.tmp 1) (by kernel_rfl) gg (by kernel_rfl) _ _ _ _ Bg3.out hu23.out rfl sizeGeo ?_)
    | ((with_reducible refine gate_dst (N := 36) rfl ?_); refine wpList_load_row rfl 23 (.tmp 1) (by kernel_rfl) gg (by kernel_rfl) _ _ _ _ Bg4.out hu23.out rfl sizeGeo ?_)
    | ((with_reducible refine gate_dst (N := 42) rfl ?_); refine wpList_load_row rfl 23 (.tmp 1) (by kernel_rfl) gg (by kernel_rfl) _ _ _ _ Bg5.out hu23.out rfl sizeGeo ?_)
    | ((with_reducible refine gate_dst (N := 60) rfl ?_); refine wpList_load_row rfl 23 (.tmp 1) (by kernel_rfl) gg (by kernel_rfl) _ _ _ _ Bg8.out hu23.out rfl sizeGeo ?_)
    | ((with_reducible refine gate_dst (N := 67) rfl ?_); refine wpList_load_row rfl 23 (.tmp 1) (by kernel_rfl) gg (by kernel_rfl) _ _ _ _ Bg11.out hu23.out rfl sizeGeo ?_)
    | ((with_reducible refine gate_dst (N := 75) rfl ?_); refine wpList_load_row rfl 23 (.tmp 1) (by kernel_rfl) gg (by kernel_rfl) _ _ _ _ Bg12.out hu23.out rfl sizeGeo ?_)
    | ((with_reducible refine gate_dst (N := 68) rfl ?_); refine wpList_load_row rfl 36 (.tmp 19) (by kernel_rfl) gm (by kernel_rfl) _ _ _ _ Bm11.out hu36.out rfl sizeArr64 ?_)
    | ((with_reducible refine gate_dst (N := 19) rfl ?_); refine box_event ?hg (N := 19) ?hd (cs := (nums .u32 zK).toArray) (t := 36) ?hr ?_; (case hd => rfl); (case hg => rfl); (case hr => first | (go_simp; done) | (go_simp; rfl) | kernel_rfl); intro gm hg w10 hbox hb; have Gm := Aside0.mk (show w.heap.size ≤ gm from by have := HB9.out.size; omega); have HB10 := Aside0.mk (below_step HB9.out hb); have Nmg := Aside0.mk (show gm ≠ gg from fun e => by have h1 := blk_lt Bg9.out; omega); have Bg10 := Aside0.mk (blk_below Bg9.out hb); have Bm10 := Aside0.mk (hbox); clear hb hbox hg)
    | ((with_reducible refine gate_store (t := 24) (p := 65) (v := .const (.int .u32 11)) rfl ?_); refine ev_store (by rfl) 24 (.tmp 65) (.const (.int .u32 11)) (by rfl) gm 63 ((nums .u32 zK).toArray).toList (nums .u32 [11]) (.int .u32 11) (by kernel_rfl) (by kernel_rfl) (by rfl) 36 Bm10.out sizeU32 (show 63 + 1 ≤ 64 from by decide) (one_nums _ _) ?_; intro w11 hbox hg; have HB11 := Aside0.mk (pw_below_grown HB10.out _ HB10.out.size hg (fun q e => by cases e; exact Gm.out)); have Bg11 := Aside0.mk (blk_grown Bg10.out hg (fun e => by cases e; first | exact Nmg.out rfl | exact Ngm.out rfl)); have Bm11 := Aside0.mk (show w11.heap[gm]? = some (.cells ((nums .u32 mK).toArray) 36 (0, 0)) from hbox); clear hbox hg)
    | (have hz := HB14.out; clear hz; go_at_call 11; refine (wakes_true _).mono ?_; rintro e w15 ⟨rfl, hb⟩; have HB15 := Aside0.mk (below_step HB14.out hb); clear hb)
    | (have hz := HB13.out; clear hz; go_at_call 17; refine (usage_Free.calls 10 none 0 [] [] _ (Kd.C_of_reads (enc := Value.int .i64) (d := (0 : Int)) (h1 := fun _ => rfl) reads_nil) (by decide) free_nil).mono ?_; rintro e w14 ⟨vf, rfl, hf, hb⟩; obtain ⟨A14, c14, rfl, hl14, hc14⟩ := Kd.R_reads hf; have HB14 := Aside0.mk (below_step HB13.out hb); clear hf hl14 hc14; clear hb)
    | (have hz := HB12.out; clear hz; go_at_call 7; refine (usage_Address.calls 2 3 16 0 0 1 0 _ ad_3).mono ?_; rintro e w13 ⟨rfl, hb⟩; have HB13 := Aside0.mk (below_step HB12.out hb); have Bg13 := Aside0.mk (blk_below Bg12.out hb); clear hb)
    | (have hz := HB11.out; clear hz; go_at_call 13; refine (live_M _).mono ?_; rintro e w12 ⟨A12, m12, c12, rfl, hr, hc, hb⟩; have HB12 := Aside0.mk (below_step HB11.out hb); have Bg12 := Aside0.mk (blk_below Bg11.out hb); clear hr hc; clear hb)
    | (have hz := HB8.out; clear hz; go_at_call 13; refine (live_Z _).mono ?_; rintro e w9 ⟨A9, m9, c9, rfl, hr, hc, hb⟩; obtain rfl : m9 = 16 := hr.1.symm; have HB9 := Aside0.mk (below_step HB8.out hb); have Bg9 := Aside0.mk (blk_below Bg8.out hb); clear hr hc; clear hb)
    | (have hz := HB7.out; clear hz; go_at_call 13; refine (live_X _).mono ?_; rintro e w8 ⟨rfl, hb⟩; have HB8 := Aside0.mk (below_step HB7.out hb); have Bg8 := Aside0.mk (blk_below Bg7.out hb); clear hb)
    | (have hz := HB6.out; clear hz; go_at_call 9; refine (usage_Place.calls 2 0 0 1 0 0 1 _ pl_3).mono ?_; rintro e w7 ⟨rfl, hb⟩; have HB7 := Aside0.mk (below_step HB6.out hb); have Bg7 := Aside0.mk (blk_below Bg6.out hb); clear hb)
    | (have hz := HB5.out; clear hz; go_at_call 9; refine (usage_Place.calls 2 3 16 129 0 0 5 _ pl_2).mono ?_; rintro e w6 ⟨rfl, hb⟩; have HB6 := Aside0.mk (below_step HB5.out hb); have Bg6 := Aside0.mk (blk_below Bg5.out hb); clear hb)
    | (have hz := HB4.out; clear hz; go_at_call 9; refine (usage_Place.calls 2 3 16 0 0 0 5 _ pl_1).mono ?_; rintro e w5 ⟨rfl, hb⟩; have HB5 := Aside0.mk (below_step HB4.out hb); have Bg5 := Aside0.mk (blk_below Bg4.out hb); clear hb)
    | (have hz := HB3.out; clear hz; go_at_call 7; refine (usage_Address.calls 2 3 16 0 8 0 1 _ ad_2).mono ?_; rintro e w4 ⟨rfl, hb⟩; have HB4 := Aside0.mk (below_step HB3.out hb); have Bg4 := Aside0.mk (blk_below Bg3.out hb); clear hb)
    | (have hz := HB2.out; clear hz; go_at_call 7; refine (usage_Address.calls 2 3 16 16 0 0 1 _ ad_1).mono ?_; rintro e w3 ⟨rfl, hb⟩; have HB3 := Aside0.mk (below_step HB2.out hb); have Bg3 := Aside0.mk (blk_below Bg2.out hb); clear hb))
  go_ret
  exact ⟨rfl, HB15.out⟩
end Go.Proofs.Ytgiapegacbibeaa.UM
