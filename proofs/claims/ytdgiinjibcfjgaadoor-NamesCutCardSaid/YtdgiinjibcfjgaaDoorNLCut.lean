/- NamesCut: the law's own walk. -/
import Derived.Test.YtdgiinjibcfjgaaDoorNRefV
import Derived.Test.YtdgiinjibcfjgaaDoorNRefC
import Derived.Test.YtdgiinjibcfjgaaDoorNWakes
namespace Go.Proofs.YtdgiinjibcfjgaaDoor.NM
open Go.RowKit Go.Proofs.YtdgiinjibcfjgaaDoorW.PrintWords Go.Proofs.YtdgiinjibcfjgaaDoorW.PrintLast Go.Proofs.YtdgiinjibcfjgaaDoorW.PrintMore Go.Proofs.YtdgiinjibcfjgaaDoor.PNamesValid
set_option linter.unusedVariables false
set_option maxHeartbeats 4000000 in
set_option maxRecDepth 1000000 in
theorem cut_law (s : ByteArray) (n : Int) (w : World) (hs : s.size ≤ 9223372036854775807) (hT : Lib.Utf8Tabs 0 1 w) :
    Calls Tryd.prog 5 #[.string s, .int .i64 n] w fun e w' => e = .returned (.bool true) ∧ Below w.heap.size w w' := by
  obtain ⟨C, hC⟩ : ∃ C, s.extract 0 (cutN s.data.toList n) = C := ⟨_, rfl⟩
  have HC := Aside0.mk hC
  have HS := Aside0.mk hs
  have HT := Aside0.mk hT
  clear hC hs hT
  go_enter Tryd.func5, Tryd.ntmps5
  go_wp2_with (first
    | ((with_reducible refine gate_callee (f := 20) rfl ?_); refine goesL_ (some 7) rfl rfl Tryd.func20 (by kernel_rfl) rfl #[.string s, .int .i64 n] rfl (by (try simp only [List.map_toArray, List.map_cons, List.map_nil]); first | done | rfl | (simp only [List.length_drop, List.length_take]; rfl)) ?_; (with_reducible refine (cut_is s n C HC.out w HS.out).mono ?_); rintro e w1 ⟨rfl, hb⟩; have HB1 := Aside0.mk hb; clear hb; refine ⟨_, rfl, ?_⟩)
    | ((with_reducible refine gate_callee (f := 21) rfl ?_); refine goesL_ (some 10) rfl rfl Tryd.func21 (by kernel_rfl) rfl #[.string s, .int .i64 n] rfl (by (try simp only [List.map_toArray, List.map_cons, List.map_nil]); first | done | rfl | (simp only [List.length_drop, List.length_take]; rfl)) ?_; (with_reducible refine (PNamesCut.hayrickref10_Cut.calls _ s n C w1 ((NMC.cut_f s n HS.out _ (Nat.le_refl _)).trans (congrArg some HC.out))).mono ?_); rintro e w2 ⟨rfl, ⟨nd, rfl⟩⟩; have HB2 := Aside0.mk (show Below w.heap.size w (w1.drewN nd) from pw_below_drewN HB1.out nd); refine ⟨_, rfl, ?_⟩)
    | (go_at_call 17; (with_reducible refine (wakes_true (w1.drewN nd) (Utf8Tabs_below HT.out HB2.out)).mono ?_); rintro e w3 ⟨rfl, hb⟩; have HB3 := Aside0.mk (HB2.out.trans (hb.mono (below_size HB2.out))); clear hb))
  go_ret
  exact ⟨rfl, HB3.out⟩
end Go.Proofs.YtdgiinjibcfjgaaDoor.NM
