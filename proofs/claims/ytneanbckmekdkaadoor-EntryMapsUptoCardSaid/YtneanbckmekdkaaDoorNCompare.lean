/- names.Compare: which of any two texts is ahead. -/
import Derived.Test.YtneanbckmekdkaaDoorNRefV
namespace Go.Proofs.YtneanbckmekdkaaDoor.NM
open Go.RowKit Go.Proofs.YtneanbckmekdkaaDoorW.PrintWords Go.Proofs.YtneanbckmekdkaaDoorW.PrintLast Go.Proofs.YtneanbckmekdkaaDoorW.PrintMore Go.Proofs.YtneanbckmekdkaaDoor.PEntryForms
set_option linter.unusedVariables false
set_option maxHeartbeats 4000000 in
set_option maxRecDepth 1000000 in
theorem compare_any (a b : ByteArray) (w : World) (ha : a.size ≤ 17592186044416) (hb : b.size ≤ 17592186044416) :
    Calls Tryd.prog 31 #[.string a, .string b] w fun e w' => e = .returned (.int .i64 (NM.ahead a.data.toList b.data.toList)) ∧ Below w.heap.size w w' := by
  have HL := Aside0.mk (show (runes a.data.toList).length ≤ 9223372036854775806 by have := runes_le a.data.toList; rw [← Lib.size_eq] at this; omega)
  obtain ⟨V, hV⟩ : ∃ V, NM.ahead a.data.toList b.data.toList = V := ⟨_, rfl⟩
  rw [hV]
  unfold NM.ahead at hV
  obtain ⟨C, hC⟩ : ∃ C, cmpI (runes a.data.toList) (runes b.data.toList) = C := ⟨_, rfl⟩
  rw [hC] at hV
  have HC := Aside0.mk hC
  clear hC
  have HA := Aside0.mk ha
  have HB := Aside0.mk hb
  clear ha hb
  by_cases c0 : C = 0
  · subst c0
    rw [if_neg (by decide)] at hV
    subst hV
    go_enter Tryd.func31, Tryd.ntmps31
    go_wp2_with (first
    | ((with_reducible refine gate_callee (f := 42) rfl ?_); refine goesL_ (some 7) rfl rfl Tryd.func42 (by kernel_rfl) rfl #[.string a] rfl (by (try simp only [List.map_toArray, List.map_cons, List.map_nil]); first | done | rfl | (simp only [List.length_drop, List.length_take]; rfl)) ?_; (with_reducible refine (runes_any a w HA.out).mono ?_); rintro e w1 ⟨v1, rfl, hr1, hb1⟩; obtain ⟨A1, k1, rfl, hl1, hC1⟩ := Kd.R_reads hr1; have HR1 := Aside0.mk hC1; have HB1 := Aside0.mk hb1; have HK1 := Aside0.mk hl1; clear hr1 hb1 hC1 hl1; refine ⟨_, rfl, ?_⟩)
    | ((with_reducible refine gate_callee (f := 42) rfl ?_); refine goesL_ (some 9) rfl rfl Tryd.func42 (by kernel_rfl) rfl #[.string b] rfl (by (try simp only [List.map_toArray, List.map_cons, List.map_nil]); first | done | rfl | (simp only [List.length_drop, List.length_take]; rfl)) ?_; (with_reducible refine (runes_any b w1 HB.out).mono ?_); rintro e w2 ⟨v2, rfl, hr2, hb2⟩; obtain ⟨A2, k2, rfl, hl2, hC2⟩ := Kd.R_reads hr2; have HR2 := Aside0.mk hC2; have HB2 := Aside0.mk hb2; have HK2 := Aside0.mk hl2; clear hr2 hb2 hC2 hl2; refine ⟨_, rfl, ?_⟩)
    | ((with_reducible refine gate_callee (f := 41) rfl ?_); refine goesL_ (some 10) rfl rfl Tryd.func41 (by kernel_rfl) rfl #[.slice A1 (runes a.data.toList).length k1, .slice A2 (runes b.data.toList).length k2] rfl (by (try simp only [List.map_toArray, List.map_cons, List.map_nil]); first | done | rfl | (simp only [List.length_drop, List.length_take]; rfl)) ?_; (with_reducible refine (slices_Compare_rune_rune.calls _ A1 k1 _ A2 k2 _ 0 w2 (Kd.C_below HR1.out HB2.out) HK1.out HR2.out HK2.out ((NMV.slc_f _ _ HL.out _ (Nat.le_refl _)).trans (congrArg some HC.out))).mono ?_); rintro e w3 ⟨rfl, ⟨nd, rfl⟩⟩; refine ⟨_, rfl, ?_⟩)
    | ((with_reducible refine gate_callee (f := 43) rfl ?_); refine goesL_ (some 16) rfl rfl Tryd.func43 (by kernel_rfl) rfl #[.string a, .string b] rfl (by (try simp only [List.map_toArray, List.map_cons, List.map_nil]); first | done | rfl | (simp only [List.length_drop, List.length_take]; rfl)) ?_; (with_reducible refine (Tryd.strings_Compare a b _).mono ?_); rintro e w4 ⟨rfl, rfl⟩; refine ⟨_, rfl, ?_⟩))
    go_ret
    exact ⟨rfl, by first | exact (HB1.out.trans (HB2.out.mono (below_size HB1.out))) | exact pw_below_drewN (HB1.out.trans (HB2.out.mono (below_size HB1.out))) nd⟩
  · rw [if_pos c0] at hV
    subst hV
    have c1 : (C == 0) = false := beq_eq_false_iff_ne.2 c0
    have c2 : (C != 0) = true := by simp [c0]
    go_enter Tryd.func31, Tryd.ntmps31
    go_wp2_with (first
    | ((with_reducible refine gate_callee (f := 42) rfl ?_); refine goesL_ (some 7) rfl rfl Tryd.func42 (by kernel_rfl) rfl #[.string a] rfl (by (try simp only [List.map_toArray, List.map_cons, List.map_nil]); first | done | rfl | (simp only [List.length_drop, List.length_take]; rfl)) ?_; (with_reducible refine (runes_any a w HA.out).mono ?_); rintro e w1 ⟨v1, rfl, hr1, hb1⟩; obtain ⟨A1, k1, rfl, hl1, hC1⟩ := Kd.R_reads hr1; have HR1 := Aside0.mk hC1; have HB1 := Aside0.mk hb1; have HK1 := Aside0.mk hl1; clear hr1 hb1 hC1 hl1; refine ⟨_, rfl, ?_⟩)
    | ((with_reducible refine gate_callee (f := 42) rfl ?_); refine goesL_ (some 9) rfl rfl Tryd.func42 (by kernel_rfl) rfl #[.string b] rfl (by (try simp only [List.map_toArray, List.map_cons, List.map_nil]); first | done | rfl | (simp only [List.length_drop, List.length_take]; rfl)) ?_; (with_reducible refine (runes_any b w1 HB.out).mono ?_); rintro e w2 ⟨v2, rfl, hr2, hb2⟩; obtain ⟨A2, k2, rfl, hl2, hC2⟩ := Kd.R_reads hr2; have HR2 := Aside0.mk hC2; have HB2 := Aside0.mk hb2; have HK2 := Aside0.mk hl2; clear hr2 hb2 hC2 hl2; refine ⟨_, rfl, ?_⟩)
    | ((with_reducible refine gate_callee (f := 41) rfl ?_); refine goesL_ (some 10) rfl rfl Tryd.func41 (by kernel_rfl) rfl #[.slice A1 (runes a.data.toList).length k1, .slice A2 (runes b.data.toList).length k2] rfl (by (try simp only [List.map_toArray, List.map_cons, List.map_nil]); first | done | rfl | (simp only [List.length_drop, List.length_take]; rfl)) ?_; (with_reducible refine (slices_Compare_rune_rune.calls _ A1 k1 _ A2 k2 _ C w2 (Kd.C_below HR1.out HB2.out) HK1.out HR2.out HK2.out ((NMV.slc_f _ _ HL.out _ (Nat.le_refl _)).trans (congrArg some HC.out))).mono ?_); rintro e w3 ⟨rfl, ⟨nd, rfl⟩⟩; refine ⟨_, rfl, ?_⟩))
    go_ret
    exact ⟨rfl, by first | exact (HB1.out.trans (HB2.out.mono (below_size HB1.out))) | exact pw_below_drewN (HB1.out.trans (HB2.out.mono (below_size HB1.out))) nd⟩
end Go.Proofs.YtneanbckmekdkaaDoor.NM
