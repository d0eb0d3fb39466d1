/- names' wakes: the chapter's rows. -/
import Derived.Test.YtdgiinjibcfjgaaDoorNCompare
namespace Go.Proofs.YtdgiinjibcfjgaaDoor.NM
open Go.RowKit Go.Proofs.YtdgiinjibcfjgaaDoorW.PrintWords Go.Proofs.YtdgiinjibcfjgaaDoorW.PrintLast Go.Proofs.YtdgiinjibcfjgaaDoorW.PrintMore Go.Proofs.YtdgiinjibcfjgaaDoor.PNamesValid
set_option linter.unusedVariables false
theorem valid_is (s : ByteArray) (v : Bool) (h : valid s.data.toList = v) (w : World) (hs : s.size ≤ 9223372036854775807) (hT : Lib.Utf8Tabs 0 1 w) :
    Calls Tryd.prog 10 #[.string s] w fun e w' => e = .returned (.bool v) ∧ Below w.heap.size w w' := by subst h; exact valid_any s w hs hT
theorem whole_is (s : ByteArray) (v : Bool) (h : whole s.data.toList = v) (w : World) (hs : s.size ≤ 9223372036854775807) (hT : Lib.Utf8Tabs 0 1 w) :
    Calls Tryd.prog 15 #[.string s] w fun e w' => e = .returned (.bool v) ∧ Below w.heap.size w w' := by subst h; exact whole_any s w hs hT
theorem compare_is (a b : ByteArray) (v : Int) (h : NM.ahead a.data.toList b.data.toList = v) (w : World) (ha : a.size ≤ 17592186044416) (hb : b.size ≤ 17592186044416) :
    Calls Tryd.prog 18 #[.string a, .string b] w fun e w' => e = .returned (.int .i64 v) ∧ Below w.heap.size w w' := by subst h; exact compare_any a b w ha hb
theorem cut_is (s : ByteArray) (n : Int) (v : ByteArray) (h : s.extract 0 (cutN s.data.toList n) = v) (w : World) (hs : s.size ≤ 9223372036854775807) :
    Calls Tryd.prog 20 #[.string s, .int .i64 n] w fun e w' => e = .returned (.string v) ∧ Below w.heap.size w w' := by subst h; exact cut_any s n w hs
set_option maxHeartbeats 4000000 in
set_option maxRecDepth 1000000 in
theorem wakes_true (w : World) (hT : Lib.Utf8Tabs 0 1 w) : Calls Tryd.prog 17 #[] w fun e w' => e = .returned (.bool true) ∧ Below w.heap.size w w' := by
  have HT := Aside0.mk hT
  clear hT
  have r0 : runes (ByteArray.mk #[195, 169, 255]).data.toList = [233, 65533] := by decide +kernel
  have f2 : valid (ByteArray.mk #[97, 32, 98]).data.toList = true := by decide +kernel
  have f3 : valid (ByteArray.mk #[110, 195, 169]).data.toList = true := by decide +kernel
  have f4 : valid (ByteArray.mk #[46, 46]).data.toList = false := by decide +kernel
  have f5 : valid (ByteArray.mk #[46, 46, 46]).data.toList = true := by decide +kernel
  have f6 : valid (ByteArray.mk #[97, 47, 98]).data.toList = false := by decide +kernel
  have f7 : valid (ByteArray.mk #[97, 255]).data.toList = false := by decide +kernel
  have f8 : NM.ahead (ByteArray.mk #[97]).data.toList (ByteArray.mk #[98]).data.toList = -1 := by decide +kernel
  have f9 : NM.ahead (ByteArray.mk #[97, 255]).data.toList (ByteArray.mk #[97, 239, 191, 189]).data.toList = 1 := by decide +kernel
  have f10 : (ByteArray.mk #[110, 195, 169]).extract 0 (cutN (ByteArray.mk #[110, 195, 169]).data.toList 2) = (ByteArray.mk #[110]) := by decide +kernel
  have f11 : (ByteArray.mk #[110, 195, 169]).extract 0 (cutN (ByteArray.mk #[110, 195, 169]).data.toList 3) = (ByteArray.mk #[110, 195, 169]) := by decide +kernel
  have f12 : whole (ByteArray.mk #[195, 169]).data.toList = true := by decide +kernel
  go_enter Tryd.func17, Tryd.ntmps17
  go_wp2_with (first
    | ((with_reducible refine gate_callee (f := 13) rfl ?_); refine goesL_ (some 2) rfl rfl Tryd.func13 (by kernel_rfl) rfl #[.string (ByteArray.mk #[195, 169, 255])] rfl (by (try simp only [List.map_toArray, List.map_cons, List.map_nil]); first | done | rfl | (simp only [List.length_drop, List.length_take]; rfl)) ?_; (with_reducible refine (runes_any (ByteArray.mk #[195, 169, 255]) w (by decide)).mono ?_); rintro e w1 ⟨v1, rfl, hr, hb⟩; rw [r0] at hr; obtain ⟨g1, k1, rfl, hg1, hg2, cs1, hc1⟩ := Kd.R_form hr (by decide); have HR1 := Aside0.mk hr; have HB1 := Aside0.mk hb; have HC1 := Aside0.mk (Below.refl w1.heap.size w1); have hk2 := (Kd.R_reads' hr).2.1; clear hr hb hc1 cs1 hg1 hg2; refine ⟨_, rfl, ?_⟩)
    | ((with_reducible refine gate_callee (f := 10) rfl ?_); refine goesL_ (some 3) rfl rfl Tryd.func10 (by kernel_rfl) rfl #[.string (ByteArray.mk #[97, 32, 98])] rfl (by (try simp only [List.map_toArray, List.map_cons, List.map_nil]); first | done | rfl | (simp only [List.length_drop, List.length_take]; rfl)) ?_; (with_reducible refine (valid_is (ByteArray.mk #[97, 32, 98]) true f2 w1 (by decide) (Utf8Tabs_below HT.out HB1.out)).mono ?_); rintro e w2 ⟨rfl, hb⟩; have HB2 := Aside0.mk (HB1.out.trans (hb.mono (below_size HB1.out))); have HC2 := Aside0.mk (HC1.out.trans (hb.mono (below_size HC1.out))); clear hb; refine ⟨_, rfl, ?_⟩)
    | (go_at_call 10; (with_reducible refine (valid_is (ByteArray.mk #[110, 195, 169]) true f3 w2 (by decide) (Utf8Tabs_below HT.out HB2.out)).mono ?_); rintro e w3 ⟨rfl, hb⟩; have HB3 := Aside0.mk (HB2.out.trans (hb.mono (below_size HB2.out))); have HC3 := Aside0.mk (HC2.out.trans (hb.mono (below_size HC2.out))); clear hb)
    | (go_at_call 10; (with_reducible refine (valid_is (ByteArray.mk #[46, 46]) false f4 w3 (by decide) (Utf8Tabs_below HT.out HB3.out)).mono ?_); rintro e w4 ⟨rfl, hb⟩; have HB4 := Aside0.mk (HB3.out.trans (hb.mono (below_size HB3.out))); have HC4 := Aside0.mk (HC3.out.trans (hb.mono (below_size HC3.out))); clear hb)
    | (go_at_call 10; (with_reducible refine (valid_is (ByteArray.mk #[46, 46, 46]) true f5 w4 (by decide) (Utf8Tabs_below HT.out HB4.out)).mono ?_); rintro e w5 ⟨rfl, hb⟩; have HB5 := Aside0.mk (HB4.out.trans (hb.mono (below_size HB4.out))); have HC5 := Aside0.mk (HC4.out.trans (hb.mono (below_size HC4.out))); clear hb)
    | (go_at_call 10; (with_reducible refine (valid_is (ByteArray.mk #[97, 47, 98]) false f6 w5 (by decide) (Utf8Tabs_below HT.out HB5.out)).mono ?_); rintro e w6 ⟨rfl, hb⟩; have HB6 := Aside0.mk (HB5.out.trans (hb.mono (below_size HB5.out))); have HC6 := Aside0.mk (HC5.out.trans (hb.mono (below_size HC5.out))); clear hb)
    | (go_at_call 10; (with_reducible refine (valid_is (ByteArray.mk #[97, 255]) false f7 w6 (by decide) (Utf8Tabs_below HT.out HB6.out)).mono ?_); rintro e w7 ⟨rfl, hb⟩; have HB7 := Aside0.mk (HB6.out.trans (hb.mono (below_size HB6.out))); have HC7 := Aside0.mk (HC6.out.trans (hb.mono (below_size HC6.out))); clear hb; have hR := Kd.R_below HR1.out HC7.out; have cell0 : w7.cell? ⟨g1, 0, none⟩ = some (.int .i32 233) := (Kd.R_cell 0 hR 0 (by decide) (by decide)).1; have cell1 : w7.cell? ⟨g1, 1, none⟩ = some (.int .i32 65533) := (Kd.R_cell 0 hR 1 (by decide) (by decide)).1; clear hR)
    | (go_at_call 18; (with_reducible refine (compare_is (ByteArray.mk #[97]) (ByteArray.mk #[98]) (-1) f8 w7 (by decide) (by decide)).mono ?_); rintro e w8 ⟨rfl, hb⟩; have HB8 := Aside0.mk (HB7.out.trans (hb.mono (below_size HB7.out))); have HC8 := Aside0.mk (HC7.out.trans (hb.mono (below_size HC7.out))); clear hb)
    | (go_at_call 18; (with_reducible refine (compare_is (ByteArray.mk #[97, 255]) (ByteArray.mk #[97, 239, 191, 189]) (1) f9 w8 (by decide) (by decide)).mono ?_); rintro e w9 ⟨rfl, hb⟩; have HB9 := Aside0.mk (HB8.out.trans (hb.mono (below_size HB8.out))); have HC9 := Aside0.mk (HC8.out.trans (hb.mono (below_size HC8.out))); clear hb)
    | (go_at_call 20; (with_reducible refine (cut_is (ByteArray.mk #[110, 195, 169]) 2 (ByteArray.mk #[110]) f10 w9 (by decide)).mono ?_); rintro e w10 ⟨rfl, hb⟩; have HB10 := Aside0.mk (HB9.out.trans (hb.mono (below_size HB9.out))); have HC10 := Aside0.mk (HC9.out.trans (hb.mono (below_size HC9.out))); clear hb)
    | (go_at_call 20; (with_reducible refine (cut_is (ByteArray.mk #[110, 195, 169]) 3 (ByteArray.mk #[110, 195, 169]) f11 w10 (by decide)).mono ?_); rintro e w11 ⟨rfl, hb⟩; have HB11 := Aside0.mk (HB10.out.trans (hb.mono (below_size HB10.out))); have HC11 := Aside0.mk (HC10.out.trans (hb.mono (below_size HC10.out))); clear hb)
    | (go_at_call 15; (with_reducible refine (whole_is (ByteArray.mk #[195, 169]) true f12 w11 (by decide) (Utf8Tabs_below HT.out HB11.out)).mono ?_); rintro e w12 ⟨rfl, hb⟩; have HB12 := Aside0.mk (HB11.out.trans (hb.mono (below_size HB11.out))); have HC12 := Aside0.mk (HC11.out.trans (hb.mono (below_size HC11.out))); clear hb))
  go_ret
  exact ⟨rfl, HB12.out⟩
end Go.Proofs.YtdgiinjibcfjgaaDoor.NM
