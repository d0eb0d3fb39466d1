/- NamesKnown: the law's own walk. -/
import Derived.Test.YtdgiinjibcfjgaaDoorNRefV
import Derived.Test.YtdgiinjibcfjgaaDoorNWakes
namespace Go.Proofs.YtdgiinjibcfjgaaDoor.NM
open Go.RowKit Go.Proofs.YtdgiinjibcfjgaaDoorW.PrintWords Go.Proofs.YtdgiinjibcfjgaaDoorW.PrintLast Go.Proofs.YtdgiinjibcfjgaaDoorW.PrintMore Go.Proofs.YtdgiinjibcfjgaaDoor.PNamesValid
set_option linter.unusedVariables false
set_option linter.unusedSimpArgs false
def badV : List Value := [.string (ByteArray.mk #[]), .string (ByteArray.mk #[46]), .string (ByteArray.mk #[46, 46]), .string (ByteArray.mk #[47]), .string (ByteArray.mk #[97, 0]), .string (ByteArray.mk #[31]), .string (ByteArray.mk #[127]), .string (ByteArray.mk #[192, 175]), .string (ByteArray.mk #[237, 160, 128]), .string (ByteArray.mk #[244, 144, 128, 128]), .string (ByteArray.mk #[195]), .string (ByteArray.mk #[97, 98, 99, 100, 101, 102, 103, 104, 105, 106, 107, 108, 109, 110, 111, 112, 113, 114, 115, 116, 117, 118, 119, 120, 121])]
def goodV : List Value := [.string (ByteArray.mk #[46, 46, 46]), .string (ByteArray.mk #[32]), .string (ByteArray.mk #[46, 97]), .string (ByteArray.mk #[239, 191, 189]), .string (ByteArray.mk #[244, 143, 191, 191]), .string (ByteArray.mk #[238, 128, 128]), .string (ByteArray.mk #[97, 98, 99, 100, 101, 102, 103, 104, 105, 106, 107, 108, 109, 110, 111, 112, 113, 114, 115, 116, 117, 118, 119, 120]), .string (ByteArray.mk #[195, 169, 195, 169, 195, 169, 195, 169, 195, 169, 195, 169, 195, 169, 195, 169, 195, 169, 195, 169, 195, 169, 195, 169])]
theorem alloc_at (w : World) (o : Obj) : (w.alloc o).heap[w.heap.size]? = some o := by
  show (w.heap.push o)[w.heap.size]? = some o
  simp
theorem cell_of {w : World} {g : Nat} {cs : Array Value} {t : Nat} (h : w.heap[g]? = some (.cells cs t (0, 0))) (j : Nat) (v : Value) (hv : cs[j]? = some v) : w.cell? ⟨g, j, none⟩ = some v := by
  unfold World.cell?
  simp only [h]
  exact hv
set_option maxHeartbeats 8000000 in
set_option maxRecDepth 1000000 in
theorem known_law (w : World) (hT : Lib.Utf8Tabs 0 1 w) : Calls Tryd.prog 9 #[] w fun e w' => e = .returned (.bool true) ∧ Below w.heap.size w w' := by
  have HT := Aside0.mk hT
  clear hT
  go_enter Tryd.func9, Tryd.ntmps9
  go_wp2
  go_loopw [2] (fun v2 wr => ∃ j : Nat, j ≤ 12 ∧ v2 = .int .i64 j ∧ Aside0 (wr.heap[w.heap.size]? = some (.cells badV.toArray 32 (0, 0))) ∧ Aside0 (Below w.heap.size w wr)) (fun v2 _ => 12 - (intOf v2).toNat)
  case atStart => exact ⟨0, by omega, rfl, ⟨alloc_at _ _⟩, ⟨below_alloc (Below.refl _ _) _⟩⟩
  case round =>
    obtain ⟨j, hj, rfl, HBLK, HB⟩ := hrel
    have HSZ := Aside0.mk (show w.heap.size < wr.heap.size from (Array.getElem?_eq_some_iff.1 HBLK.out).1)
    by_cases hlt : j < 12
    · have hcase : j = 0 ∨ j = 1 ∨ j = 2 ∨ j = 3 ∨ j = 4 ∨ j = 5 ∨ j = 6 ∨ j = 7 ∨ j = 8 ∨ j = 9 ∨ j = 10 ∨ j = 11 := by omega
      clear hj hlt
      rcases hcase with rfl | rfl | rfl | rfl | rfl | rfl | rfl | rfl | rfl | rfl | rfl | rfl
      · have c0 := cell_of HBLK.out 0 (.string (ByteArray.mk #[])) (by kernel_rfl)
        go_wp2_with (first
    | ((with_reducible refine gate_callee (f := 10) rfl ?_); refine goesL_ (some 13) rfl rfl Tryd.func10 (by kernel_rfl) rfl #[.string (ByteArray.mk #[])] rfl (by (try simp only [List.map_toArray, List.map_cons, List.map_nil]); first | done | rfl | (simp only [List.length_drop, List.length_take]; rfl)) ?_; (with_reducible refine (valid_is (ByteArray.mk #[]) false (by decide +kernel) wr (by decide) (Utf8Tabs_below HT.out HB.out)).mono ?_); rintro e w1 ⟨rfl, hb⟩; have HB1 := Aside0.mk (HB.out.trans (hb.mono (below_size HB.out))); have HK1 := Aside0.mk ((hb.block w.heap.size HSZ.out).trans HBLK.out); clear hb; refine ⟨_, rfl, ?_⟩))
        go_roundw
        case rel => exact ⟨1, by omega, by go_num, HK1, HB1⟩
        case measure => simp [intOf]
      · have c0 := cell_of HBLK.out 1 (.string (ByteArray.mk #[46])) (by kernel_rfl)
        go_wp2_with (first
    | ((with_reducible refine gate_callee (f := 10) rfl ?_); refine goesL_ (some 13) rfl rfl Tryd.func10 (by kernel_rfl) rfl #[.string (ByteArray.mk #[46])] rfl (by (try simp only [List.map_toArray, List.map_cons, List.map_nil]); first | done | rfl | (simp only [List.length_drop, List.length_take]; rfl)) ?_; (with_reducible refine (valid_is (ByteArray.mk #[46]) false (by decide +kernel) wr (by decide) (Utf8Tabs_below HT.out HB.out)).mono ?_); rintro e w1 ⟨rfl, hb⟩; have HB1 := Aside0.mk (HB.out.trans (hb.mono (below_size HB.out))); have HK1 := Aside0.mk ((hb.block w.heap.size HSZ.out).trans HBLK.out); clear hb; refine ⟨_, rfl, ?_⟩))
        go_roundw
        case rel => exact ⟨2, by omega, by go_num, HK1, HB1⟩
        case measure => simp [intOf]
      · have c0 := cell_of HBLK.out 2 (.string (ByteArray.mk #[46, 46])) (by kernel_rfl)
        go_wp2_with (first
    | ((with_reducible refine gate_callee (f := 10) rfl ?_); refine goesL_ (some 13) rfl rfl Tryd.func10 (by kernel_rfl) rfl #[.string (ByteArray.mk #[46, 46])] rfl (by (try simp only [List.map_toArray, List.map_cons, List.map_nil]); first | done | rfl | (simp only [List.length_drop, List.length_take]; rfl)) ?_; (with_reducible refine (valid_is (ByteArray.mk #[46, 46]) false (by decide +kernel) wr (by decide) (Utf8Tabs_below HT.out HB.out)).mono ?_); rintro e w1 ⟨rfl, hb⟩; have HB1 := Aside0.mk (HB.out.trans (hb.mono (below_size HB.out))); have HK1 := Aside0.mk ((hb.block w.heap.size HSZ.out).trans HBLK.out); clear hb; refine ⟨_, rfl, ?_⟩))
        go_roundw
        case rel => exact ⟨3, by omega, by go_num, HK1, HB1⟩
        case measure => simp [intOf]
      · have c0 := cell_of HBLK.out 3 (.string (ByteArray.mk #[47])) (by kernel_rfl)
        go_wp2_with (first
    | ((with_reducible refine gate_callee (f := 10) rfl ?_); refine goesL_ (some 13) rfl rfl Tryd.func10 (by kernel_rfl) rfl #[.string (ByteArray.mk #[47])] rfl (by (try simp only [List.map_toArray, List.map_cons, List.map_nil]); first | done | rfl | (simp only [List.length_drop, List.length_take]; rfl)) ?_; (with_reducible refine (valid_is (ByteArray.mk #[47]) false (by decide +kernel) wr (by decide) (Utf8Tabs_below HT.out HB.out)).mono ?_); rintro e w1 ⟨rfl, hb⟩; have HB1 := Aside0.mk (HB.out.trans (hb.mono (below_size HB.out))); have HK1 := Aside0.mk ((hb.block w.heap.size HSZ.out).trans HBLK.out); clear hb; refine ⟨_, rfl, ?_⟩))
        go_roundw
        case rel => exact ⟨4, by omega, by go_num, HK1, HB1⟩
        case measure => simp [intOf]
      · have c0 := cell_of HBLK.out 4 (.string (ByteArray.mk #[97, 0])) (by kernel_rfl)
        go_wp2_with (first
    | ((with_reducible refine gate_callee (f := 10) rfl ?_); refine goesL_ (some 13) rfl rfl Tryd.func10 (by kernel_rfl) rfl #[.string (ByteArray.mk #[97, 0])] rfl (by (try simp only [List.map_toArray, List.map_cons, List.map_nil]); first | done | rfl | (simp only [List.length_drop, List.length_take]; rfl)) ?_; (with_reducible refine (valid_is (ByteArray.mk #[97, 0]) false (by decide +kernel) wr (by decide) (Utf8Tabs_below HT.out HB.out)).mono ?_); rintro e w1 ⟨rfl, hb⟩; have HB1 := Aside0.mk (HB.out.trans (hb.mono (below_size HB.out))); have HK1 := Aside0.mk ((hb.block w.heap.size HSZ.out).trans HBLK.out); clear hb; refine ⟨_, rfl, ?_⟩))
        go_roundw
        case rel => exact ⟨5, by omega, by go_num, HK1, HB1⟩
        case measure => simp [intOf]
      · have c0 := cell_of HBLK.out 5 (.string (ByteArray.mk #[31])) (by kernel_rfl)
        go_wp2_with (first
    | ((with_reducible refine gate_callee (f := 10) rfl ?_); refine goesL_ (some 13) rfl rfl Tryd.func10 (by kernel_rfl) rfl #[.string (ByteArray.mk #[31])] rfl (by (try simp only [List.map_toArray, List.map_cons, List.map_nil]); first | done | rfl | (simp only [List.length_drop, List.length_take]; rfl)) ?_; (with_reducible refine (valid_is (ByteArray.mk #[31]) false (by decide +kernel) wr (by decide) (Utf8Tabs_below HT.out HB.out)).mono ?_); rintro e w1 ⟨rfl, hb⟩; have HB1 := Aside0.mk (HB.out.trans (hb.mono (below_size HB.out))); have HK1 := Aside0.mk ((hb.block w.heap.size HSZ.out).trans HBLK.out); clear hb; refine ⟨_, rfl, ?_⟩))
        go_roundw
        case rel => exact ⟨6, by omega, by go_num, HK1, HB1⟩
        case measure => simp [intOf]
      · have c0 := cell_of HBLK.out 6 (.string (ByteArray.mk #[127])) (by kernel_rfl)
        go_wp2_with (first
    | ((with_reducible refine gate_callee (f := 10) rfl ?_); refine goesL_ (some 13) rfl rfl Tryd.func10 (by kernel_rfl) rfl #[.string (ByteArray.mk #[127])] rfl (by (try simp only [List.map_toArray, List.map_cons, List.map_nil]); first | done | rfl | (simp only [List.length_drop, List.length_take]; rfl)) ?_; (with_reducible refine (valid_is (ByteArray.mk #[127]) false (by decide +kernel) wr (by decide) (Utf8Tabs_below HT.out HB.out)).mono ?_); rintro e w1 ⟨rfl, hb⟩; have HB1 := Aside0.mk (HB.out.trans (hb.mono (below_size HB.out))); have HK1 := Aside0.mk ((hb.block w.heap.size HSZ.out).trans HBLK.out); clear hb; refine ⟨_, rfl, ?_⟩))
        go_roundw
        case rel => exact ⟨7, by omega, by go_num, HK1, HB1⟩
        case measure => simp [intOf]
      · have c0 := cell_of HBLK.out 7 (.string (ByteArray.mk #[192, 175])) (by kernel_rfl)
        go_wp2_with (first
    | ((with_reducible refine gate_callee (f := 10) rfl ?_); refine goesL_ (some 13) rfl rfl Tryd.func10 (by kernel_rfl) rfl #[.string (ByteArray.mk #[192, 175])] rfl (by (try simp only [List.map_toArray, List.map_cons, List.map_nil]); first | done | rfl | (simp only [List.length_drop, List.length_take]; rfl)) ?_; (with_reducible refine (valid_is (ByteArray.mk #[192, 175]) false (by decide +kernel) wr (by decide) (Utf8Tabs_below HT.out HB.out)).mono ?_); rintro e w1 ⟨rfl, hb⟩; have HB1 := Aside0.mk (HB.out.trans (hb.mono (below_size HB.out))); have HK1 := Aside0.mk ((hb.block w.heap.size HSZ.out).trans HBLK.out); clear hb; refine ⟨_, rfl, ?_⟩))
        go_roundw
        case rel => exact ⟨8, by omega, by go_num, HK1, HB1⟩
        case measure => simp [intOf]
      · have c0 := cell_of HBLK.out 8 (.string (ByteArray.mk #[237, 160, 128])) (by kernel_rfl)
        go_wp2_with (first
    | ((with_reducible refine gate_callee (f := 10) rfl ?_); refine goesL_ (some 13) rfl rfl Tryd.func10 (by kernel_rfl) rfl #[.string (ByteArray.mk #[237, 160, 128])] rfl (by (try simp only [List.map_toArray, List.map_cons, List.map_nil]); first | done | rfl | (simp only [List.length_drop, List.length_take]; rfl)) ?_; (with_reducible refine (valid_is (ByteArray.mk #[237, 160, 128]) false (by decide +kernel) wr (by decide) (Utf8Tabs_below HT.out HB.out)).mono ?_); rintro e w1 ⟨rfl, hb⟩; have HB1 := Aside0.mk (HB.out.trans (hb.mono (below_size HB.out))); have HK1 := Aside0.mk ((hb.block w.heap.size HSZ.out).trans HBLK.out); clear hb; refine ⟨_, rfl, ?_⟩))
        go_roundw
        case rel => exact ⟨9, by omega, by go_num, HK1, HB1⟩
        case measure => simp [intOf]
      · have c0 := cell_of HBLK.out 9 (.string (ByteArray.mk #[244, 144, 128, 128])) (by kernel_rfl)
        go_wp2_with (first
    | ((with_reducible refine gate_callee (f := 10) rfl ?_); refine goesL_ (some 13) rfl rfl Tryd.func10 (by kernel_rfl) rfl #[.string (ByteArray.mk #[244, 144, 128, 128])] rfl (by (try simp only [List.map_toArray, List.map_cons, List.map_nil]); first | done | rfl | (simp only [List.length_drop, List.length_take]; rfl)) ?_; (with_reducible refine (valid_is (ByteArray.mk #[244, 144, 128, 128]) false (by decide +kernel) wr (by decide) (Utf8Tabs_below HT.out HB.out)).mono ?_); rintro e w1 ⟨rfl, hb⟩; have HB1 := Aside0.mk (HB.out.trans (hb.mono (below_size HB.out))); have HK1 := Aside0.mk ((hb.block w.heap.size HSZ.out).trans HBLK.out); clear hb; refine ⟨_, rfl, ?_⟩))
        go_roundw
        case rel => exact ⟨10, by omega, by go_num, HK1, HB1⟩
        case measure => simp [intOf]
      · have c0 := cell_of HBLK.out 10 (.string (ByteArray.mk #[195])) (by kernel_rfl)
        go_wp2_with (first
    | ((with_reducible refine gate_callee (f := 10) rfl ?_); refine goesL_ (some 13) rfl rfl Tryd.func10 (by kernel_rfl) rfl #[.string (ByteArray.mk #[195])] rfl (by (try simp only [List.map_toArray, List.map_cons, List.map_nil]); first | done | rfl | (simp only [List.length_drop, List.length_take]; rfl)) ?_; (with_reducible refine (valid_is (ByteArray.mk #[195]) false (by decide +kernel) wr (by decide) (Utf8Tabs_below HT.out HB.out)).mono ?_); rintro e w1 ⟨rfl, hb⟩; have HB1 := Aside0.mk (HB.out.trans (hb.mono (below_size HB.out))); have HK1 := Aside0.mk ((hb.block w.heap.size HSZ.out).trans HBLK.out); clear hb; refine ⟨_, rfl, ?_⟩))
        go_roundw
        case rel => exact ⟨11, by omega, by go_num, HK1, HB1⟩
        case measure => simp [intOf]
      · have c0 := cell_of HBLK.out 11 (.string (ByteArray.mk #[97, 98, 99, 100, 101, 102, 103, 104, 105, 106, 107, 108, 109, 110, 111, 112, 113, 114, 115, 116, 117, 118, 119, 120, 121])) (by kernel_rfl)
        go_wp2_with (first
    | ((with_reducible refine gate_callee (f := 10) rfl ?_); refine goesL_ (some 13) rfl rfl Tryd.func10 (by kernel_rfl) rfl #[.string (ByteArray.mk #[97, 98, 99, 100, 101, 102, 103, 104, 105, 106, 107, 108, 109, 110, 111, 112, 113, 114, 115, 116, 117, 118, 119, 120, 121])] rfl (by (try simp only [List.map_toArray, List.map_cons, List.map_nil]); first | done | rfl | (simp only [List.length_drop, List.length_take]; rfl)) ?_; (with_reducible refine (valid_is (ByteArray.mk #[97, 98, 99, 100, 101, 102, 103, 104, 105, 106, 107, 108, 109, 110, 111, 112, 113, 114, 115, 116, 117, 118, 119, 120, 121]) false (by decide +kernel) wr (by decide) (Utf8Tabs_below HT.out HB.out)).mono ?_); rintro e w1 ⟨rfl, hb⟩; have HB1 := Aside0.mk (HB.out.trans (hb.mono (below_size HB.out))); have HK1 := Aside0.mk ((hb.block w.heap.size HSZ.out).trans HBLK.out); clear hb; refine ⟨_, rfl, ?_⟩))
        go_roundw
        case rel => exact ⟨12, by omega, by go_num, HK1, HB1⟩
        case measure => simp [intOf]
    · obtain rfl : j = 12 := by omega
      clear hlt hj HBLK HSZ
      rename World => wq
      go_wp2
      go_loopw [4] (fun v4 wx => ∃ j : Nat, j ≤ 8 ∧ v4 = .int .i64 j ∧ Aside0 (wx.heap[wq.heap.size]? = some (.cells goodV.toArray 33 (0, 0))) ∧ Aside0 (Below w.heap.size w wx)) (fun v4 _ => 8 - (intOf v4).toNat)
      case atStart => exact ⟨0, by omega, rfl, ⟨alloc_at _ _⟩, ⟨below_alloc HB.out _⟩⟩
      case round =>
        clear HB
        obtain ⟨j, hj, rfl, HBLK, HB⟩ := hrel
        have HSZ := Aside0.mk (show wq.heap.size < wr.heap.size from (Array.getElem?_eq_some_iff.1 HBLK.out).1)
        by_cases hlt : j < 8
        · have hcase : j = 0 ∨ j = 1 ∨ j = 2 ∨ j = 3 ∨ j = 4 ∨ j = 5 ∨ j = 6 ∨ j = 7 := by omega
          clear hj hlt
          rcases hcase with rfl | rfl | rfl | rfl | rfl | rfl | rfl | rfl
          · have c0 := cell_of HBLK.out 0 (.string (ByteArray.mk #[46, 46, 46])) (by kernel_rfl)
            go_wp2_with (first
    | ((with_reducible refine gate_callee (f := 10) rfl ?_); refine goesL_ (some 22) rfl rfl Tryd.func10 (by kernel_rfl) rfl #[.string (ByteArray.mk #[46, 46, 46])] rfl (by (try simp only [List.map_toArray, List.map_cons, List.map_nil]); first | done | rfl | (simp only [List.length_drop, List.length_take]; rfl)) ?_; (with_reducible refine (valid_is (ByteArray.mk #[46, 46, 46]) true (by decide +kernel) wr (by decide) (Utf8Tabs_below HT.out HB.out)).mono ?_); rintro e w1 ⟨rfl, hb⟩; have HB1 := Aside0.mk (HB.out.trans (hb.mono (below_size HB.out))); have HK1 := Aside0.mk ((hb.block wq.heap.size HSZ.out).trans HBLK.out); clear hb; refine ⟨_, rfl, ?_⟩))
            go_roundw
            case rel => exact ⟨_, _, _, _, _, _, _, _, _, _, _, ⟨1, by omega, by go_num, HK1, HB1⟩, rfl⟩
            case measure => simp [intOf]
          · have c0 := cell_of HBLK.out 1 (.string (ByteArray.mk #[32])) (by kernel_rfl)
            go_wp2_with (first
    | ((with_reducible refine gate_callee (f := 10) rfl ?_); refine goesL_ (some 22) rfl rfl Tryd.func10 (by kernel_rfl) rfl #[.string (ByteArray.mk #[32])] rfl (by (try simp only [List.map_toArray, List.map_cons, List.map_nil]); first | done | rfl | (simp only [List.length_drop, List.length_take]; rfl)) ?_; (with_reducible refine (valid_is (ByteArray.mk #[32]) true (by decide +kernel) wr (by decide) (Utf8Tabs_below HT.out HB.out)).mono ?_); rintro e w1 ⟨rfl, hb⟩; have HB1 := Aside0.mk (HB.out.trans (hb.mono (below_size HB.out))); have HK1 := Aside0.mk ((hb.block wq.heap.size HSZ.out).trans HBLK.out); clear hb; refine ⟨_, rfl, ?_⟩))
            go_roundw
            case rel => exact ⟨_, _, _, _, _, _, _, _, _, _, _, ⟨2, by omega, by go_num, HK1, HB1⟩, rfl⟩
            case measure => simp [intOf]
          · have c0 := cell_of HBLK.out 2 (.string (ByteArray.mk #[46, 97])) (by kernel_rfl)
            go_wp2_with (first
    | ((with_reducible refine gate_callee (f := 10) rfl ?_); refine goesL_ (some 22) rfl rfl Tryd.func10 (by kernel_rfl) rfl #[.string (ByteArray.mk #[46, 97])] rfl (by (try simp only [List.map_toArray, List.map_cons, List.map_nil]); first | done | rfl | (simp only [List.length_drop, List.length_take]; rfl)) ?_; (with_reducible refine (valid_is (ByteArray.mk #[46, 97]) true (by decide +kernel) wr (by decide) (Utf8Tabs_below HT.out HB.out)).mono ?_); rintro e w1 ⟨rfl, hb⟩; have HB1 := Aside0.mk (HB.out.trans (hb.mono (below_size HB.out))); have HK1 := Aside0.mk ((hb.block wq.heap.size HSZ.out).trans HBLK.out); clear hb; refine ⟨_, rfl, ?_⟩))
            go_roundw
            case rel => exact ⟨_, _, _, _, _, _, _, _, _, _, _, ⟨3, by omega, by go_num, HK1, HB1⟩, rfl⟩
            case measure => simp [intOf]
          · have c0 := cell_of HBLK.out 3 (.string (ByteArray.mk #[239, 191, 189])) (by kernel_rfl)
            go_wp2_with (first
    | ((with_reducible refine gate_callee (f := 10) rfl ?_); refine goesL_ (some 22) rfl rfl Tryd.func10 (by kernel_rfl) rfl #[.string (ByteArray.mk #[239, 191, 189])] rfl (by (try simp only [List.map_toArray, List.map_cons, List.map_nil]); first | done | rfl | (simp only [List.length_drop, List.length_take]; rfl)) ?_; (with_reducible refine (valid_is (ByteArray.mk #[239, 191, 189]) true (by decide +kernel) wr (by decide) (Utf8Tabs_below HT.out HB.out)).mono ?_); rintro e w1 ⟨rfl, hb⟩; have HB1 := Aside0.mk (HB.out.trans (hb.mono (below_size HB.out))); have HK1 := Aside0.mk ((hb.block wq.heap.size HSZ.out).trans HBLK.out); clear hb; refine ⟨_, rfl, ?_⟩))
            go_roundw
            case rel => exact ⟨_, _, _, _, _, _, _, _, _, _, _, ⟨4, by omega, by go_num, HK1, HB1⟩, rfl⟩
            case measure => simp [intOf]
          · have c0 := cell_of HBLK.out 4 (.string (ByteArray.mk #[244, 143, 191, 191])) (by kernel_rfl)
            go_wp2_with (first
    | ((with_reducible refine gate_callee (f := 10) rfl ?_); refine goesL_ (some 22) rfl rfl Tryd.func10 (by kernel_rfl) rfl #[.string (ByteArray.mk #[244, 143, 191, 191])] rfl (by (try simp only [List.map_toArray, List.map_cons, List.map_nil]); first | done | rfl | (simp only [List.length_drop, List.length_take]; rfl)) ?_; (with_reducible refine (valid_is (ByteArray.mk #[244, 143, 191, 191]) true (by decide +kernel) wr (by decide) (Utf8Tabs_below HT.out HB.out)).mono ?_); rintro e w1 ⟨rfl, hb⟩; have HB1 := Aside0.mk (HB.out.trans (hb.mono (below_size HB.out))); have HK1 := Aside0.mk ((hb.block wq.heap.size HSZ.out).trans HBLK.out); clear hb; refine ⟨_, rfl, ?_⟩))
            go_roundw
            case rel => exact ⟨_, _, _, _, _, _, _, _, _, _, _, ⟨5, by omega, by go_num, HK1, HB1⟩, rfl⟩
            case measure => simp [intOf]
          · have c0 := cell_of HBLK.out 5 (.string (ByteArray.mk #[238, 128, 128])) (by kernel_rfl)
            go_wp2_with (first
    | ((with_reducible refine gate_callee (f := 10) rfl ?_); refine goesL_ (some 22) rfl rfl Tryd.func10 (by kernel_rfl) rfl #[.string (ByteArray.mk #[238, 128, 128])] rfl (by (try simp only [List.map_toArray, List.map_cons, List.map_nil]); first | done | rfl | (simp only [List.length_drop, List.length_take]; rfl)) ?_; (with_reducible refine (valid_is (ByteArray.mk #[238, 128, 128]) true (by decide +kernel) wr (by decide) (Utf8Tabs_below HT.out HB.out)).mono ?_); rintro e w1 ⟨rfl, hb⟩; have HB1 := Aside0.mk (HB.out.trans (hb.mono (below_size HB.out))); have HK1 := Aside0.mk ((hb.block wq.heap.size HSZ.out).trans HBLK.out); clear hb; refine ⟨_, rfl, ?_⟩))
            go_roundw
            case rel => exact ⟨_, _, _, _, _, _, _, _, _, _, _, ⟨6, by omega, by go_num, HK1, HB1⟩, rfl⟩
            case measure => simp [intOf]
          · have c0 := cell_of HBLK.out 6 (.string (ByteArray.mk #[97, 98, 99, 100, 101, 102, 103, 104, 105, 106, 107, 108, 109, 110, 111, 112, 113, 114, 115, 116, 117, 118, 119, 120])) (by kernel_rfl)
            go_wp2_with (first
    | ((with_reducible refine gate_callee (f := 10) rfl ?_); refine goesL_ (some 22) rfl rfl Tryd.func10 (by kernel_rfl) rfl #[.string (ByteArray.mk #[97, 98, 99, 100, 101, 102, 103, 104, 105, 106, 107, 108, 109, 110, 111, 112, 113, 114, 115, 116, 117, 118, 119, 120])] rfl (by (try simp only [List.map_toArray, List.map_cons, List.map_nil]); first | done | rfl | (simp only [List.length_drop, List.length_take]; rfl)) ?_; (with_reducible refine (valid_is (ByteArray.mk #[97, 98, 99, 100, 101, 102, 103, 104, 105, 106, 107, 108, 109, 110, 111, 112, 113, 114, 115, 116, 117, 118, 119, 120]) true (by decide +kernel) wr (by decide) (Utf8Tabs_below HT.out HB.out)).mono ?_); rintro e w1 ⟨rfl, hb⟩; have HB1 := Aside0.mk (HB.out.trans (hb.mono (below_size HB.out))); have HK1 := Aside0.mk ((hb.block wq.heap.size HSZ.out).trans HBLK.out); clear hb; refine ⟨_, rfl, ?_⟩))
            go_roundw
            case rel => exact ⟨_, _, _, _, _, _, _, _, _, _, _, ⟨7, by omega, by go_num, HK1, HB1⟩, rfl⟩
            case measure => simp [intOf]
          · have c0 := cell_of HBLK.out 7 (.string (ByteArray.mk #[195, 169, 195, 169, 195, 169, 195, 169, 195, 169, 195, 169, 195, 169, 195, 169, 195, 169, 195, 169, 195, 169, 195, 169])) (by kernel_rfl)
            go_wp2_with (first
    | ((with_reducible refine gate_callee (f := 10) rfl ?_); refine goesL_ (some 22) rfl rfl Tryd.func10 (by kernel_rfl) rfl #[.string (ByteArray.mk #[195, 169, 195, 169, 195, 169, 195, 169, 195, 169, 195, 169, 195, 169, 195, 169, 195, 169, 195, 169, 195, 169, 195, 169])] rfl (by (try simp only [List.map_toArray, List.map_cons, List.map_nil]); first | done | rfl | (simp only [List.length_drop, List.length_take]; rfl)) ?_; (with_reducible refine (valid_is (ByteArray.mk #[195, 169, 195, 169, 195, 169, 195, 169, 195, 169, 195, 169, 195, 169, 195, 169, 195, 169, 195, 169, 195, 169, 195, 169]) true (by decide +kernel) wr (by decide) (Utf8Tabs_below HT.out HB.out)).mono ?_); rintro e w1 ⟨rfl, hb⟩; have HB1 := Aside0.mk (HB.out.trans (hb.mono (below_size HB.out))); have HK1 := Aside0.mk ((hb.block wq.heap.size HSZ.out).trans HBLK.out); clear hb; refine ⟨_, rfl, ?_⟩))
            go_roundw
            case rel => exact ⟨_, _, _, _, _, _, _, _, _, _, _, ⟨8, by omega, by go_num, HK1, HB1⟩, rfl⟩
            case measure => simp [intOf]
        · obtain rfl : j = 8 := by omega
          clear hlt hj HBLK HSZ
          go_wp2_with (first
    | ((with_reducible refine gate_callee (f := 13) rfl ?_); refine goesL_ (some 24) rfl rfl Tryd.func13 (by kernel_rfl) rfl #[.string (ByteArray.mk #[])] rfl (by (try simp only [List.map_toArray, List.map_cons, List.map_nil]); first | done | rfl | (simp only [List.length_drop, List.length_take]; rfl)) ?_; (with_reducible refine (runes_any (ByteArray.mk #[]) wr (by decide)).mono ?_); rintro e w11 ⟨v11, rfl, hr, hb⟩; rw [show runes (ByteArray.mk #[]).data.toList = [] from by decide +kernel] at hr; obtain ⟨A11, k11, rfl, _, _⟩ := Kd.R_reads hr; have HB11 := Aside0.mk (HB.out.trans (hb.mono (below_size HB.out))); clear hb hr; refine ⟨_, rfl, ?_⟩)
    | (go_at_call 13; (with_reducible refine (runes_any (ByteArray.mk #[237, 160, 128]) w11 (by decide)).mono ?_); rintro e w12 ⟨v12, rfl, hr, hb⟩; rw [show runes (ByteArray.mk #[237, 160, 128]).data.toList = [65533, 65533, 65533] from by decide +kernel] at hr; obtain ⟨A12, k12, rfl, _, _⟩ := Kd.R_reads hr; have HB12 := Aside0.mk (HB11.out.trans (hb.mono (below_size HB11.out))); clear hb hr)
    | (go_at_call 13; (with_reducible refine (runes_any (ByteArray.mk #[195, 195, 169]) w12 (by decide)).mono ?_); rintro e w13 ⟨v13, rfl, hr, hb⟩; rw [show runes (ByteArray.mk #[195, 195, 169]).data.toList = [65533, 233] from by decide +kernel] at hr; obtain ⟨A13, k13, rfl, _, _⟩ := Kd.R_reads hr; have HB13 := Aside0.mk (HB12.out.trans (hb.mono (below_size HB12.out))); clear hb hr)
    | (go_at_call 20; (with_reducible refine (cut_is (ByteArray.mk #[97, 98, 99]) (0) (ByteArray.mk #[]) (by decide +kernel) w13 (by decide)).mono ?_); rintro e w14 ⟨rfl, hb⟩; have HB14 := Aside0.mk (HB13.out.trans (hb.mono (below_size HB13.out))); clear hb)
    | (go_at_call 20; (with_reducible refine (cut_is (ByteArray.mk #[97, 98, 99]) (-9223372036854775808) (ByteArray.mk #[]) (by decide +kernel) w14 (by decide)).mono ?_); rintro e w15 ⟨rfl, hb⟩; have HB15 := Aside0.mk (HB14.out.trans (hb.mono (below_size HB14.out))); clear hb)
    | (go_at_call 20; (with_reducible refine (cut_is (ByteArray.mk #[97, 98, 99]) (9223372036854775807) (ByteArray.mk #[97, 98, 99]) (by decide +kernel) w15 (by decide)).mono ?_); rintro e w16 ⟨rfl, hb⟩; have HB16 := Aside0.mk (HB15.out.trans (hb.mono (below_size HB15.out))); clear hb)
    | (go_at_call 18; (with_reducible refine (compare_is (ByteArray.mk #[]) (ByteArray.mk #[]) (0) (by decide +kernel) w16 (by decide) (by decide)).mono ?_); rintro e w17 ⟨rfl, hb⟩; have HB17 := Aside0.mk (HB16.out.trans (hb.mono (below_size HB16.out))); clear hb)
    | (go_at_call 18; (with_reducible refine (compare_is (ByteArray.mk #[]) (ByteArray.mk #[97]) (-1) (by decide +kernel) w17 (by decide) (by decide)).mono ?_); rintro e w18 ⟨rfl, hb⟩; have HB18 := Aside0.mk (HB17.out.trans (hb.mono (below_size HB17.out))); clear hb)
    | (go_at_call 17; (with_reducible refine (wakes_true w18 (Utf8Tabs_below HT.out HB18.out)).mono ?_); rintro e w19 ⟨rfl, hb⟩; have HB19 := Aside0.mk (HB18.out.trans (hb.mono (below_size HB18.out))); clear hb))
          go_ret
          exact ⟨rfl, HB19.out⟩
end Go.Proofs.YtdgiinjibcfjgaaDoor.NM
