/- NamesCompare: the law's own walk. -/
import Derived.Test.YtdgiinjibcfjgaaDoorNRefV
import Derived.Test.YtdgiinjibcfjgaaDoorNRefK
import Derived.Test.YtdgiinjibcfjgaaDoorNWakes
namespace Go.Proofs.YtdgiinjibcfjgaaDoor.NM
open Go.RowKit Go.Proofs.YtdgiinjibcfjgaaDoorW.PrintWords Go.Proofs.YtdgiinjibcfjgaaDoorW.PrintLast Go.Proofs.YtdgiinjibcfjgaaDoorW.PrintMore Go.Proofs.YtdgiinjibcfjgaaDoor.PNamesValid
set_option linter.unusedVariables false
set_option maxHeartbeats 4000000 in
set_option maxRecDepth 1000000 in
theorem compare_law (a b : ByteArray) (w : World) (ha : a.size ≤ 17592186044416) (hb : b.size ≤ 17592186044416) (hT : Lib.Utf8Tabs 0 1 w) :
    Calls Tryd.prog 4 #[.string a, .string b] w fun e w' => e = .returned (.bool true) ∧ Below w.heap.size w w' := by
  obtain ⟨C, hC⟩ : ∃ C, NM.ahead a.data.toList b.data.toList = C := ⟨_, rfl⟩
  have HC := Aside0.mk hC
  have HA := Aside0.mk ha
  have HB := Aside0.mk hb
  have HT := Aside0.mk hT
  clear hC ha hb hT
  go_enter Tryd.func4, Tryd.ntmps4
  go_wp2_with (first
    | ((with_reducible refine gate_callee (f := 18) rfl ?_); refine goesL_ (some 7) rfl rfl Tryd.func18 (by kernel_rfl) rfl #[.string a, .string b] rfl (by (try simp only [List.map_toArray, List.map_cons, List.map_nil]); first | done | rfl | (simp only [List.length_drop, List.length_take]; rfl)) ?_; (with_reducible refine (compare_is a b C HC.out w HA.out HB.out).mono ?_); rintro e w1 ⟨rfl, hb⟩; have HB1 := Aside0.mk hb; clear hb; refine ⟨_, rfl, ?_⟩)
    | ((with_reducible refine gate_callee (f := 19) rfl ?_); refine goesL_ (some 10) rfl rfl Tryd.func19 (by kernel_rfl) rfl #[.string a, .string b] rfl (by (try simp only [List.map_toArray, List.map_cons, List.map_nil]); first | done | rfl | (simp only [List.length_drop, List.length_take]; rfl)) ?_; (with_reducible refine (PNamesCompare.hayrickref10_Compare.calls _ a b C w1 ((NMK.compare_f a b HA.out HB.out _ (Nat.le_refl _)).trans (congrArg some HC.out))).mono ?_); rintro e w2 ⟨rfl, hb⟩; have HB2 := Aside0.mk (HB1.out.trans (hb.mono (below_size HB1.out))); clear hb; refine ⟨_, rfl, ?_⟩)
    | (go_at_call 17; (with_reducible refine (wakes_true w2 (Utf8Tabs_below HT.out HB2.out)).mono ?_); rintro e w3 ⟨rfl, hb⟩; have HB3 := Aside0.mk (HB2.out.trans (hb.mono (below_size HB2.out))); clear hb))
  go_ret
  exact ⟨rfl, HB3.out⟩
end Go.Proofs.YtdgiinjibcfjgaaDoor.NM
