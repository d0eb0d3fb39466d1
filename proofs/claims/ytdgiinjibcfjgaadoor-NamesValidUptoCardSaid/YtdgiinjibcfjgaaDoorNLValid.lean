/- NamesValid: the law's own walk. -/
import Derived.Test.YtdgiinjibcfjgaaDoorNRefV
import Derived.Test.YtdgiinjibcfjgaaDoorNWakes
namespace Go.Proofs.YtdgiinjibcfjgaaDoor.NM
open Go.RowKit Go.Proofs.YtdgiinjibcfjgaaDoorW.PrintWords Go.Proofs.YtdgiinjibcfjgaaDoorW.PrintLast Go.Proofs.YtdgiinjibcfjgaaDoorW.PrintMore Go.Proofs.YtdgiinjibcfjgaaDoor.PNamesValid
set_option linter.unusedVariables false
set_option maxHeartbeats 4000000 in
set_option maxRecDepth 1000000 in
theorem valid_law (s : ByteArray) (w : World) (hs : s.size ≤ 17592186044416) (hT : Lib.Utf8Tabs 0 1 w) :
    Calls Tryd.prog 3 #[.string s] w fun e w' => e = .returned (.bool true) ∧ Below w.heap.size w w' := by
  obtain ⟨V, hV⟩ : ∃ V, valid s.data.toList = V := ⟨_, rfl⟩
  obtain ⟨O, hO⟩ : ∃ O, whole s.data.toList = O := ⟨_, rfl⟩
  obtain ⟨L, hL⟩ : ∃ L, runes s.data.toList = L := ⟨_, rfl⟩
  have HV := Aside0.mk hV
  have HO := Aside0.mk hO
  have HL := Aside0.mk hL
  have HS := Aside0.mk hs
  have HS' := Aside0.mk (show s.size ≤ 9223372036854775807 by omega)
  have HLL := Aside0.mk (show L.length ≤ 9223372036854775806 by have := runes_le s.data.toList; rw [hL, ← Lib.size_eq] at this; omega)
  have HT := Aside0.mk hT
  clear hV hO hL hs hT
  go_enter Tryd.func3, Tryd.ntmps3
  go_wp2_with (first
    | ((with_reducible refine gate_callee (f := 10) rfl ?_); refine goesL_ (some 4) rfl rfl Tryd.func10 (by kernel_rfl) rfl #[.string s] rfl (by (try simp only [List.map_toArray, List.map_cons, List.map_nil]); first | done | rfl | (simp only [List.length_drop, List.length_take]; rfl)) ?_; (with_reducible refine (valid_is s V HV.out w HS'.out HT.out).mono ?_); rintro e w1 ⟨rfl, hb⟩; have HB1 := Aside0.mk hb; clear hb; refine ⟨_, rfl, ?_⟩)
    | ((with_reducible refine gate_callee (f := 11) rfl ?_); refine goesL_ (some 6) rfl rfl Tryd.func11 (by kernel_rfl) rfl #[.string s] rfl (by (try simp only [List.map_toArray, List.map_cons, List.map_nil]); first | done | rfl | (simp only [List.length_drop, List.length_take]; rfl)) ?_; (with_reducible refine (hayrickref10_Valid.calls _ s V w1 ((NMV.valid_f s HS'.out _ (Nat.le_refl _)).trans (congrArg some HV.out))).mono ?_); rintro e w2 ⟨rfl, ⟨nd2, rfl⟩⟩; have HB2 := Aside0.mk (show Below w.heap.size w (w1.drewN nd2) from pw_below_drewN HB1.out nd2); refine ⟨_, rfl, ?_⟩)
    | (go_at_call 13; (with_reducible refine (runes_any s (w1.drewN nd2) HS.out).mono ?_); rintro e w3 ⟨v3, rfl, hr3, hb⟩; have HB3 := Aside0.mk (HB2.out.trans (hb.mono (below_size HB2.out))); clear hb; rw [HL.out] at hr3; obtain ⟨A3, k3, rfl, hl3, hC3⟩ := Kd.R_reads hr3; have HR3 := Aside0.mk hC3; have HK3 := Aside0.mk hl3; clear hr3 hC3 hl3)
    | (go_at_call 14; (with_reducible refine (hayrickref10_Runes.calls _ s L w3 ((NMV.runes_f s HS.out _ (Nat.le_refl _)).trans (congrArg some HL.out))).mono ?_); rintro e w4 ⟨v4, rfl, hr4, hb⟩; have HD4 := Aside0.mk hb; have HB4 := Aside0.mk (HB3.out.trans (hb.mono (below_size HB3.out))); clear hb; obtain ⟨A4, k4, rfl, hl4, hC4⟩ := Kd.R_reads hr4; have HR4 := Aside0.mk hC4; have HK4 := Aside0.mk hl4; clear hr4 hC4 hl4)
    | (go_at_call 12; (with_reducible refine (hayricklaw10_same.calls _ A3 k3 L A4 k4 L true w4 (Kd.C_below HR3.out HD4.out) HK3.out HR4.out HK4.out ((NMV.same_f L L HLL.out _ (Nat.le_refl _)).trans (congrArg some (decide_eq_true rfl)))).mono ?_); rintro e w5 ⟨rfl, ⟨nd5, rfl⟩⟩; have HB5 := Aside0.mk (show Below w.heap.size w (w4.drewN nd5) from pw_below_drewN HB4.out nd5))
    | (go_at_call 15; (with_reducible refine (whole_is s O HO.out (w4.drewN nd5) HS'.out (Utf8Tabs_below HT.out HB5.out)).mono ?_); rintro e w6 ⟨rfl, hb⟩; have HB6 := Aside0.mk (HB5.out.trans (hb.mono (below_size HB5.out))); clear hb)
    | (go_at_call 16; (with_reducible refine (hayrickref10_Whole.calls _ s O w6 ((NMV.whole_f s HS'.out _ (Nat.le_refl _)).trans (congrArg some HO.out))).mono ?_); rintro e w7 ⟨rfl, ⟨nd7, rfl⟩⟩; have HB7 := Aside0.mk (show Below w.heap.size w (w6.drewN nd7) from pw_below_drewN HB6.out nd7))
    | (go_at_call 17; (with_reducible refine (wakes_true (w6.drewN nd7) (Utf8Tabs_below HT.out HB7.out)).mono ?_); rintro e w8 ⟨rfl, hb⟩; have HB8 := Aside0.mk (HB7.out.trans (hb.mono (below_size HB7.out))); clear hb))
  go_ret
  exact ⟨rfl, HB8.out⟩
end Go.Proofs.YtdgiinjibcfjgaaDoor.NM
