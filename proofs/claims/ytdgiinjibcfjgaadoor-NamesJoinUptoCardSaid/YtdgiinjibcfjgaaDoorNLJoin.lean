/- NamesJoin: the law's own walk. -/
import Derived.Test.YtdgiinjibcfjgaaDoorNRefV
import Derived.Test.YtdgiinjibcfjgaaDoorNPlain
import Derived.Test.YtdgiinjibcfjgaaDoorNWakes
namespace Go.Proofs.YtdgiinjibcfjgaaDoor.NM
open Go.RowKit Go.Proofs.YtdgiinjibcfjgaaDoorW.PrintWords Go.Proofs.YtdgiinjibcfjgaaDoorW.PrintLast Go.Proofs.YtdgiinjibcfjgaaDoorW.PrintMore Go.Proofs.YtdgiinjibcfjgaaDoor.PNamesValid
set_option linter.unusedVariables false
set_option linter.unusedSimpArgs false
theorem append_data (a b : ByteArray) : (a ++ b).data.toList = a.data.toList ++ b.data.toList := by
  rw [ByteArray.data_append, Array.toList_append]
theorem append_len (a b : ByteArray) : (a ++ b).size = a.size + b.size := ByteArray.size_append
set_option maxHeartbeats 4000000 in
set_option maxRecDepth 1000000 in
theorem join_law (a b : ByteArray) (w : World) (ha : a.size ≤ 1099511627776) (hb : b.size ≤ 1099511627776) (hT : Lib.Utf8Tabs 0 1 w) :
    Calls Tryd.prog 8 #[.string a, .string b] w fun e w' => e = .returned (.bool true) ∧ Below w.heap.size w w' := by
  have HAA := Aside0.mk ha
  have HBB := Aside0.mk hb
  have HAB := Aside0.mk (show (a ++ b).size ≤ 2199023255552 by rw [append_len]; omega)
  have HT := Aside0.mk hT
  clear ha hb hT
  cases hwa : whole a.data.toList with
  | false =>
    have HWA := Aside0.mk hwa
    clear hwa
    go_enter Tryd.func8, Tryd.ntmps8
    go_wp2_with (first
    | ((with_reducible refine gate_callee (f := 15) rfl ?_); refine goesL_ (some 6) rfl rfl Tryd.func15 (by kernel_rfl) rfl #[.string a] rfl (by (try simp only [List.map_toArray, List.map_cons, List.map_nil]); first | done | rfl | (simp only [List.length_drop, List.length_take]; rfl)) ?_; (with_reducible refine (whole_is a false HWA.out w (by have := HAA.out; omega) HT.out).mono ?_); rintro e w1 ⟨rfl, hb⟩; have HB1 := Aside0.mk hb; clear hb; refine ⟨_, rfl, ?_⟩)
    | ((with_reducible refine gate_callee (f := 17) rfl ?_); refine goesL_ (some 13) rfl rfl Tryd.func17 (by kernel_rfl) rfl #[] rfl (by (try simp only [List.map_toArray, List.map_cons, List.map_nil]); first | done | rfl | (simp only [List.length_drop, List.length_take]; rfl)) ?_; (with_reducible refine (wakes_true w1 (Utf8Tabs_below HT.out HB1.out)).mono ?_); rintro e w2 ⟨rfl, hb⟩; have HB2 := Aside0.mk (HB1.out.trans (hb.mono (below_size HB1.out))); clear hb; refine ⟨_, rfl, ?_⟩))
    go_ret
    exact ⟨rfl, HB2.out⟩
  | true =>
    have HWA := Aside0.mk hwa
    cases hwb : whole b.data.toList with
    | false =>
      have HWB := Aside0.mk hwb
      clear hwa hwb
      go_enter Tryd.func8, Tryd.ntmps8
      go_wp2_with (first
    | ((with_reducible refine gate_callee (f := 15) rfl ?_); refine goesL_ (some 6) rfl rfl Tryd.func15 (by kernel_rfl) rfl #[.string a] rfl (by (try simp only [List.map_toArray, List.map_cons, List.map_nil]); first | done | rfl | (simp only [List.length_drop, List.length_take]; rfl)) ?_; (with_reducible refine (whole_is a true HWA.out w (by have := HAA.out; omega) HT.out).mono ?_); rintro e w1 ⟨rfl, hb⟩; have HB1 := Aside0.mk hb; clear hb; refine ⟨_, rfl, ?_⟩)
    | (go_at_call 15; (with_reducible refine (whole_is b false HWB.out w1 (by have := HAA.out; have := HBB.out; omega) (Utf8Tabs_below HT.out HB1.out)).mono ?_); rintro e w2 ⟨rfl, hb⟩; have HB2 := Aside0.mk (HB1.out.trans (hb.mono (below_size HB1.out))); clear hb)
    | ((with_reducible refine gate_callee (f := 17) rfl ?_); refine goesL_ (some 13) rfl rfl Tryd.func17 (by kernel_rfl) rfl #[] rfl (by (try simp only [List.map_toArray, List.map_cons, List.map_nil]); first | done | rfl | (simp only [List.length_drop, List.length_take]; rfl)) ?_; (with_reducible refine (wakes_true w2 (Utf8Tabs_below HT.out HB2.out)).mono ?_); rintro e w3 ⟨rfl, hb⟩; have HB3 := Aside0.mk (HB2.out.trans (hb.mono (below_size HB2.out))); clear hb; refine ⟨_, rfl, ?_⟩))
      go_ret
      exact ⟨rfl, HB3.out⟩
    | true =>
      have HWB := Aside0.mk hwb
      obtain ⟨e1, e2⟩ := whole_app b.data.toList a.data.toList hwa
      have HWAB := Aside0.mk (show whole (a ++ b).data.toList = true by rw [append_data, e1, hwb])
      obtain ⟨L1, hL1⟩ : ∃ L, runes a.data.toList = L := ⟨_, rfl⟩
      obtain ⟨L2, hL2⟩ : ∃ L, runes b.data.toList = L := ⟨_, rfl⟩
      have HL1 := Aside0.mk hL1
      have HL2 := Aside0.mk hL2
      obtain ⟨L3, hL12⟩ : ∃ L3, L3 = L1 ++ L2 := ⟨_, rfl⟩
      have HL12 := Aside0.mk hL12
      have HL3 := Aside0.mk (show runes (a ++ b).data.toList = L3 by rw [append_data, e2, hL1, hL2, hL12])
      have hn1 := runes_le a.data.toList
      have hn2 := runes_le b.data.toList
      rw [hL1, ← Lib.size_eq] at hn1
      rw [hL2, ← Lib.size_eq] at hn2
      have HLL := Aside0.mk (show (L1.length + L2.length) * 4 ≤ 140737488355328 by have := HAA.out; have := HBB.out; omega)
      have HLS := Aside0.mk (show L3.length ≤ 9223372036854775806 by have := HAA.out; have := HBB.out; rw [hL12, List.length_append]; omega)
      have n1 : (a.size : Int) ≤ 1099511627776 := by have := HAA.out; omega
      have n2 : (b.size : Int) ≤ 1099511627776 := by have := HBB.out; omega
      clear hL12 hwa hwb e1 e2 hL1 hL2 hn1 hn2
      cases hva : valid a.data.toList with
      | false =>
        have HVA := Aside0.mk hva
        clear hva
        go_enter Tryd.func8, Tryd.ntmps8
        go_wp2_with (first
    | ((with_reducible refine gate_callee (f := 15) rfl ?_); refine goesL_ (some 6) rfl rfl Tryd.func15 (by kernel_rfl) rfl #[.string a] rfl (by (try simp only [List.map_toArray, List.map_cons, List.map_nil]); first | done | rfl | (simp only [List.length_drop, List.length_take]; rfl)) ?_; (with_reducible refine (whole_is a true HWA.out w (by have := HAA.out; omega) HT.out).mono ?_); rintro e w1 ⟨rfl, hb⟩; have HB1 := Aside0.mk hb; clear hb; refine ⟨_, rfl, ?_⟩)
    | (go_at_call 15; (with_reducible refine (whole_is b true HWB.out w1 (by have := HAA.out; have := HBB.out; omega) (Utf8Tabs_below HT.out HB1.out)).mono ?_); rintro e w2 ⟨rfl, hb⟩; have HB2 := Aside0.mk (HB1.out.trans (hb.mono (below_size HB1.out))); clear hb)
    | ((with_reducible refine gate_callee (f := 15) rfl ?_); refine goesL_ (some 17) rfl rfl Tryd.func15 (by kernel_rfl) rfl #[.string (a ++ b)] rfl (by (try simp only [List.map_toArray, List.map_cons, List.map_nil]); first | done | rfl | (simp only [List.length_drop, List.length_take]; rfl)) ?_; (with_reducible refine (whole_is (a ++ b) true HWAB.out w2 (by have := HAB.out; omega) (Utf8Tabs_below HT.out HB2.out)).mono ?_); rintro e w3 ⟨rfl, hb⟩; have HB3 := Aside0.mk (HB2.out.trans (hb.mono (below_size HB2.out))); clear hb; refine ⟨_, rfl, ?_⟩)
    | (go_at_call 13; (with_reducible refine (runes_any a w3 (by have := HAA.out; omega)).mono ?_); rintro e w4 ⟨v4, rfl, hr, hb⟩; rw [HL1.out] at hr; have HO4 := Aside0.mk hr; have HD4 := Aside0.mk hb; have HB4 := Aside0.mk (HB3.out.trans (hb.mono (below_size HB3.out))); clear hb; clear hr)
    | (go_at_call 13; (with_reducible refine (runes_any b w4 (by have := HBB.out; omega)).mono ?_); rintro e w5 ⟨v5, rfl, hr, hb⟩; rw [HL2.out] at hr; obtain ⟨A5, k5, rfl, hl5, hC5⟩ := Kd.R_reads hr; have HR5 := Aside0.mk hC5; have HO5 := Aside0.mk (Kd.R_below HO4.out hb); have HZ5 := Aside0.mk (Nat.le_trans (below_size HD4.out) (below_size hb)); have HB5 := Aside0.mk (HB4.out.trans (hb.mono (below_size HB4.out))); clear hb; clear hr hC5 hl5)
    | ((with_reducible refine gate_builtin (b := .append) (xs := #[.tmp 21, .tmp 23]) rfl ?_); refine wpList_step (fun K hK => ?_); refine Kd.R_append_rows_step (Kd.int .i32) (w0 := w5) w3.heap.size (by kernel_rfl) (.tmp 21) (.tmp 23) 24 21 (.int .i32 0) 4 rfl Tryd.underlying24 info21 rfl (by decide) (by decide) _ L1 L2 A5 L2.length k5 (fun _ => True) (fun _ => False) rfl rfl HO5.out HR5.out (fun x cs h => h) (fun _ h => h.elim) (fun _ _ => trivial) (Below.refl _ _) HZ5.out HLL.out ?_; intro v6 w6 hr6 hb hg6 hat6; refine hK _ _ ?_; rw [← HL12.out] at hr6; have HB6 := Aside0.mk (HB5.out.trans (hb.mono (below_size HB3.out))); obtain ⟨A6, k6, rfl, hl6, hC6⟩ := Kd.R_reads hr6; have HR6 := Aside0.mk hC6; have HK6 := Aside0.mk hl6; clear hr6 hb hg6 hat6 hC6 hl6 hK)
    | (go_at_call 13; (with_reducible refine (runes_any (a ++ b) w6 (by have := HAB.out; omega)).mono ?_); rintro e w7 ⟨v7, rfl, hr, hb⟩; rw [HL3.out] at hr; obtain ⟨A7, k7, rfl, hl7, hC7⟩ := Kd.R_reads hr; have HR7 := Aside0.mk hC7; have HK7 := Aside0.mk hl7; have HR67 := Aside0.mk (Kd.C_below HR6.out hb); have HB7 := Aside0.mk (HB6.out.trans (hb.mono (below_size HB6.out))); clear hb; clear hr hC7 hl7)
    | (go_at_call 12; (with_reducible refine (hayricklaw10_same.calls _ A6 k6 L3 A7 k7 L3 true w7 HR67.out HK6.out HR7.out HK7.out ((NMV.same_f _ _ HLS.out _ (Nat.le_refl _)).trans (congrArg some (decide_eq_true rfl)))).mono ?_); rintro e w8 ⟨rfl, ⟨nd8, rfl⟩⟩; obtain ⟨w8, hw8⟩ : ∃ w8, w8 = w7.drewN nd8 := ⟨_, rfl⟩; have HB8 := Aside0.mk (show Below w.heap.size w w8 from hw8 ▸ pw_below_drewN HB7.out nd8); rw [← hw8]; clear hw8)
    | ((with_reducible refine gate_callee (f := 10) rfl ?_); refine goesL_ (some 33) rfl rfl Tryd.func10 (by kernel_rfl) rfl #[.string a] rfl (by (try simp only [List.map_toArray, List.map_cons, List.map_nil]); first | done | rfl | (simp only [List.length_drop, List.length_take]; rfl)) ?_; (with_reducible refine (valid_is a false HVA.out w8 (by have := HAA.out; have := HBB.out; have := HAB.out; omega) (Utf8Tabs_below HT.out HB8.out)).mono ?_); rintro e w9 ⟨rfl, hb⟩; have HB9 := Aside0.mk (HB8.out.trans (hb.mono (below_size HB8.out))); clear hb; refine ⟨_, rfl, ?_⟩)
    | ((with_reducible refine gate_callee (f := 17) rfl ?_); refine goesL_ (some 52) rfl rfl Tryd.func17 (by kernel_rfl) rfl #[] rfl (by (try simp only [List.map_toArray, List.map_cons, List.map_nil]); first | done | rfl | (simp only [List.length_drop, List.length_take]; rfl)) ?_; (with_reducible refine (wakes_true w9 (Utf8Tabs_below HT.out HB9.out)).mono ?_); rintro e w10 ⟨rfl, hb⟩; have HB10 := Aside0.mk (HB9.out.trans (hb.mono (below_size HB9.out))); clear hb; refine ⟨_, rfl, ?_⟩))
        go_ret
        exact ⟨rfl, HB10.out⟩
      | true =>
        have HVA := Aside0.mk hva
        cases hvb : valid b.data.toList with
        | false =>
          have HVB := Aside0.mk hvb
          clear hva hvb
          go_enter Tryd.func8, Tryd.ntmps8
          go_wp2_with (first
    | ((with_reducible refine gate_callee (f := 15) rfl ?_); refine goesL_ (some 6) rfl rfl Tryd.func15 (by kernel_rfl) rfl #[.string a] rfl (by (try simp only [List.map_toArray, List.map_cons, List.map_nil]); first | done | rfl | (simp only [List.length_drop, List.length_take]; rfl)) ?_; (with_reducible refine (whole_is a true HWA.out w (by have := HAA.out; omega) HT.out).mono ?_); rintro e w1 ⟨rfl, hb⟩; have HB1 := Aside0.mk hb; clear hb; refine ⟨_, rfl, ?_⟩)
    | (go_at_call 15; (with_reducible refine (whole_is b true HWB.out w1 (by have := HAA.out; have := HBB.out; omega) (Utf8Tabs_below HT.out HB1.out)).mono ?_); rintro e w2 ⟨rfl, hb⟩; have HB2 := Aside0.mk (HB1.out.trans (hb.mono (below_size HB1.out))); clear hb)
    | ((with_reducible refine gate_callee (f := 15) rfl ?_); refine goesL_ (some 17) rfl rfl Tryd.func15 (by kernel_rfl) rfl #[.string (a ++ b)] rfl (by (try simp only [List.map_toArray, List.map_cons, List.map_nil]); first | done | rfl | (simp only [List.length_drop, List.length_take]; rfl)) ?_; (with_reducible refine (whole_is (a ++ b) true HWAB.out w2 (by have := HAB.out; omega) (Utf8Tabs_below HT.out HB2.out)).mono ?_); rintro e w3 ⟨rfl, hb⟩; have HB3 := Aside0.mk (HB2.out.trans (hb.mono (below_size HB2.out))); clear hb; refine ⟨_, rfl, ?_⟩)
    | (go_at_call 13; (with_reducible refine (runes_any a w3 (by have := HAA.out; omega)).mono ?_); rintro e w4 ⟨v4, rfl, hr, hb⟩; rw [HL1.out] at hr; have HO4 := Aside0.mk hr; have HD4 := Aside0.mk hb; have HB4 := Aside0.mk (HB3.out.trans (hb.mono (below_size HB3.out))); clear hb; clear hr)
    | (go_at_call 13; (with_reducible refine (runes_any b w4 (by have := HBB.out; omega)).mono ?_); rintro e w5 ⟨v5, rfl, hr, hb⟩; rw [HL2.out] at hr; obtain ⟨A5, k5, rfl, hl5, hC5⟩ := Kd.R_reads hr; have HR5 := Aside0.mk hC5; have HO5 := Aside0.mk (Kd.R_below HO4.out hb); have HZ5 := Aside0.mk (Nat.le_trans (below_size HD4.out) (below_size hb)); have HB5 := Aside0.mk (HB4.out.trans (hb.mono (below_size HB4.out))); clear hb; clear hr hC5 hl5)
    | ((with_reducible refine gate_builtin (b := .append) (xs := #[.tmp 21, .tmp 23]) rfl ?_); refine wpList_step (fun K hK => ?_); refine Kd.R_append_rows_step (Kd.int .i32) (w0 := w5) w3.heap.size (by kernel_rfl) (.tmp 21) (.tmp 23) 24 21 (.int .i32 0) 4 rfl Tryd.underlying24 info21 rfl (by decide) (by decide) _ L1 L2 A5 L2.length k5 (fun _ => True) (fun _ => False) rfl rfl HO5.out HR5.out (fun x cs h => h) (fun _ h => h.elim) (fun _ _ => trivial) (Below.refl _ _) HZ5.out HLL.out ?_; intro v6 w6 hr6 hb hg6 hat6; refine hK _ _ ?_; rw [← HL12.out] at hr6; have HB6 := Aside0.mk (HB5.out.trans (hb.mono (below_size HB3.out))); obtain ⟨A6, k6, rfl, hl6, hC6⟩ := Kd.R_reads hr6; have HR6 := Aside0.mk hC6; have HK6 := Aside0.mk hl6; clear hr6 hb hg6 hat6 hC6 hl6 hK)
    | (go_at_call 13; (with_reducible refine (runes_any (a ++ b) w6 (by have := HAB.out; omega)).mono ?_); rintro e w7 ⟨v7, rfl, hr, hb⟩; rw [HL3.out] at hr; obtain ⟨A7, k7, rfl, hl7, hC7⟩ := Kd.R_reads hr; have HR7 := Aside0.mk hC7; have HK7 := Aside0.mk hl7; have HR67 := Aside0.mk (Kd.C_below HR6.out hb); have HB7 := Aside0.mk (HB6.out.trans (hb.mono (below_size HB6.out))); clear hb; clear hr hC7 hl7)
    | (go_at_call 12; (with_reducible refine (hayricklaw10_same.calls _ A6 k6 L3 A7 k7 L3 true w7 HR67.out HK6.out HR7.out HK7.out ((NMV.same_f _ _ HLS.out _ (Nat.le_refl _)).trans (congrArg some (decide_eq_true rfl)))).mono ?_); rintro e w8 ⟨rfl, ⟨nd8, rfl⟩⟩; obtain ⟨w8, hw8⟩ : ∃ w8, w8 = w7.drewN nd8 := ⟨_, rfl⟩; have HB8 := Aside0.mk (show Below w.heap.size w w8 from hw8 ▸ pw_below_drewN HB7.out nd8); rw [← hw8]; clear hw8)
    | ((with_reducible refine gate_callee (f := 10) rfl ?_); refine goesL_ (some 33) rfl rfl Tryd.func10 (by kernel_rfl) rfl #[.string a] rfl (by (try simp only [List.map_toArray, List.map_cons, List.map_nil]); first | done | rfl | (simp only [List.length_drop, List.length_take]; rfl)) ?_; (with_reducible refine (valid_is a true HVA.out w8 (by have := HAA.out; have := HBB.out; have := HAB.out; omega) (Utf8Tabs_below HT.out HB8.out)).mono ?_); rintro e w9 ⟨rfl, hb⟩; have HB9 := Aside0.mk (HB8.out.trans (hb.mono (below_size HB8.out))); clear hb; refine ⟨_, rfl, ?_⟩)
    | (go_at_call 10; (with_reducible refine (valid_is b false HVB.out w9 (by have := HAA.out; have := HBB.out; have := HAB.out; omega) (Utf8Tabs_below HT.out HB9.out)).mono ?_); rintro e w10 ⟨rfl, hb⟩; have HB10 := Aside0.mk (HB9.out.trans (hb.mono (below_size HB9.out))); clear hb)
    | ((with_reducible refine gate_callee (f := 17) rfl ?_); refine goesL_ (some 52) rfl rfl Tryd.func17 (by kernel_rfl) rfl #[] rfl (by (try simp only [List.map_toArray, List.map_cons, List.map_nil]); first | done | rfl | (simp only [List.length_drop, List.length_take]; rfl)) ?_; (with_reducible refine (wakes_true w10 (Utf8Tabs_below HT.out HB10.out)).mono ?_); rintro e w11 ⟨rfl, hb⟩; have HB11 := Aside0.mk (HB10.out.trans (hb.mono (below_size HB10.out))); clear hb; refine ⟨_, rfl, ?_⟩))
          go_ret
          exact ⟨rfl, HB11.out⟩
        | true =>
          have HVB := Aside0.mk hvb
          have hv := valid_app hva hvb
          rw [← append_data, ← Lib.size_eq, ← Lib.size_eq] at hv
          by_cases h24 : a.size + b.size ≤ 24
          · rw [decide_eq_true h24] at hv
            have HVV := Aside0.mk hv
            have z1 : (a.size : Int) + (b.size : Int) ≤ 24 := by omega
            clear hva hvb hv h24
            go_enter Tryd.func8, Tryd.ntmps8
            go_wp2_with (first
    | ((with_reducible refine gate_callee (f := 15) rfl ?_); refine goesL_ (some 6) rfl rfl Tryd.func15 (by kernel_rfl) rfl #[.string a] rfl (by (try simp only [List.map_toArray, List.map_cons, List.map_nil]); first | done | rfl | (simp only [List.length_drop, List.length_take]; rfl)) ?_; (with_reducible refine (whole_is a true HWA.out w (by have := HAA.out; omega) HT.out).mono ?_); rintro e w1 ⟨rfl, hb⟩; have HB1 := Aside0.mk hb; clear hb; refine ⟨_, rfl, ?_⟩)
    | (go_at_call 15; (with_reducible refine (whole_is b true HWB.out w1 (by have := HAA.out; have := HBB.out; omega) (Utf8Tabs_below HT.out HB1.out)).mono ?_); rintro e w2 ⟨rfl, hb⟩; have HB2 := Aside0.mk (HB1.out.trans (hb.mono (below_size HB1.out))); clear hb)
    | ((with_reducible refine gate_callee (f := 15) rfl ?_); refine goesL_ (some 17) rfl rfl Tryd.func15 (by kernel_rfl) rfl #[.string (a ++ b)] rfl (by (try simp only [List.map_toArray, List.map_cons, List.map_nil]); first | done | rfl | (simp only [List.length_drop, List.length_take]; rfl)) ?_; (with_reducible refine (whole_is (a ++ b) true HWAB.out w2 (by have := HAB.out; omega) (Utf8Tabs_below HT.out HB2.out)).mono ?_); rintro e w3 ⟨rfl, hb⟩; have HB3 := Aside0.mk (HB2.out.trans (hb.mono (below_size HB2.out))); clear hb; refine ⟨_, rfl, ?_⟩)
    | (go_at_call 13; (with_reducible refine (runes_any a w3 (by have := HAA.out; omega)).mono ?_); rintro e w4 ⟨v4, rfl, hr, hb⟩; rw [HL1.out] at hr; have HO4 := Aside0.mk hr; have HD4 := Aside0.mk hb; have HB4 := Aside0.mk (HB3.out.trans (hb.mono (below_size HB3.out))); clear hb; clear hr)
    | (go_at_call 13; (with_reducible refine (runes_any b w4 (by have := HBB.out; omega)).mono ?_); rintro e w5 ⟨v5, rfl, hr, hb⟩; rw [HL2.out] at hr; obtain ⟨A5, k5, rfl, hl5, hC5⟩ := Kd.R_reads hr; have HR5 := Aside0.mk hC5; have HO5 := Aside0.mk (Kd.R_below HO4.out hb); have HZ5 := Aside0.mk (Nat.le_trans (below_size HD4.out) (below_size hb)); have HB5 := Aside0.mk (HB4.out.trans (hb.mono (below_size HB4.out))); clear hb; clear hr hC5 hl5)
    | ((with_reducible refine gate_builtin (b := .append) (xs := #[.tmp 21, .tmp 23]) rfl ?_); refine wpList_step (fun K hK => ?_); refine Kd.R_append_rows_step (Kd.int .i32) (w0 := w5) w3.heap.size (by kernel_rfl) (.tmp 21) (.tmp 23) 24 21 (.int .i32 0) 4 rfl Tryd.underlying24 info21 rfl (by decide) (by decide) _ L1 L2 A5 L2.length k5 (fun _ => True) (fun _ => False) rfl rfl HO5.out HR5.out (fun x cs h => h) (fun _ h => h.elim) (fun _ _ => trivial) (Below.refl _ _) HZ5.out HLL.out ?_; intro v6 w6 hr6 hb hg6 hat6; refine hK _ _ ?_; rw [← HL12.out] at hr6; have HB6 := Aside0.mk (HB5.out.trans (hb.mono (below_size HB3.out))); obtain ⟨A6, k6, rfl, hl6, hC6⟩ := Kd.R_reads hr6; have HR6 := Aside0.mk hC6; have HK6 := Aside0.mk hl6; clear hr6 hb hg6 hat6 hC6 hl6 hK)
    | (go_at_call 13; (with_reducible refine (runes_any (a ++ b) w6 (by have := HAB.out; omega)).mono ?_); rintro e w7 ⟨v7, rfl, hr, hb⟩; rw [HL3.out] at hr; obtain ⟨A7, k7, rfl, hl7, hC7⟩ := Kd.R_reads hr; have HR7 := Aside0.mk hC7; have HK7 := Aside0.mk hl7; have HR67 := Aside0.mk (Kd.C_below HR6.out hb); have HB7 := Aside0.mk (HB6.out.trans (hb.mono (below_size HB6.out))); clear hb; clear hr hC7 hl7)
    | (go_at_call 12; (with_reducible refine (hayricklaw10_same.calls _ A6 k6 L3 A7 k7 L3 true w7 HR67.out HK6.out HR7.out HK7.out ((NMV.same_f _ _ HLS.out _ (Nat.le_refl _)).trans (congrArg some (decide_eq_true rfl)))).mono ?_); rintro e w8 ⟨rfl, ⟨nd8, rfl⟩⟩; obtain ⟨w8, hw8⟩ : ∃ w8, w8 = w7.drewN nd8 := ⟨_, rfl⟩; have HB8 := Aside0.mk (show Below w.heap.size w w8 from hw8 ▸ pw_below_drewN HB7.out nd8); rw [← hw8]; clear hw8)
    | ((with_reducible refine gate_callee (f := 10) rfl ?_); refine goesL_ (some 33) rfl rfl Tryd.func10 (by kernel_rfl) rfl #[.string a] rfl (by (try simp only [List.map_toArray, List.map_cons, List.map_nil]); first | done | rfl | (simp only [List.length_drop, List.length_take]; rfl)) ?_; (with_reducible refine (valid_is a true HVA.out w8 (by have := HAA.out; have := HBB.out; have := HAB.out; omega) (Utf8Tabs_below HT.out HB8.out)).mono ?_); rintro e w9 ⟨rfl, hb⟩; have HB9 := Aside0.mk (HB8.out.trans (hb.mono (below_size HB8.out))); clear hb; refine ⟨_, rfl, ?_⟩)
    | (go_at_call 10; (with_reducible refine (valid_is b true HVB.out w9 (by have := HAA.out; have := HBB.out; have := HAB.out; omega) (Utf8Tabs_below HT.out HB9.out)).mono ?_); rintro e w10 ⟨rfl, hb⟩; have HB10 := Aside0.mk (HB9.out.trans (hb.mono (below_size HB9.out))); clear hb)
    | ((with_reducible refine gate_callee (f := 10) rfl ?_); refine goesL_ (some 41) rfl rfl Tryd.func10 (by kernel_rfl) rfl #[.string (a ++ b)] rfl (by (try simp only [List.map_toArray, List.map_cons, List.map_nil]); first | done | rfl | (simp only [List.length_drop, List.length_take]; rfl)) ?_; (with_reducible refine (valid_is (a ++ b) true HVV.out w10 (by have := HAA.out; have := HBB.out; have := HAB.out; omega) (Utf8Tabs_below HT.out HB10.out)).mono ?_); rintro e w11 ⟨rfl, hb⟩; have HB11 := Aside0.mk (HB10.out.trans (hb.mono (below_size HB10.out))); clear hb; refine ⟨_, rfl, ?_⟩)
    | (go_at_call 17; (with_reducible refine (wakes_true w11 (Utf8Tabs_below HT.out HB11.out)).mono ?_); rintro e w12 ⟨rfl, hb⟩; have HB12 := Aside0.mk (HB11.out.trans (hb.mono (below_size HB11.out))); clear hb))
            go_ret
            exact ⟨rfl, HB12.out⟩
          · rw [decide_eq_false h24] at hv
            have HVV := Aside0.mk hv
            have z1 : ¬ ((a.size : Int) + (b.size : Int) ≤ 24) := by omega
            have z2 : decide ((a.size : Int) + (b.size : Int) ≤ 24) = false := decide_eq_false z1
            clear hva hvb hv h24
            go_enter Tryd.func8, Tryd.ntmps8
            go_wp2_with (first
    | ((with_reducible refine gate_callee (f := 15) rfl ?_); refine goesL_ (some 6) rfl rfl Tryd.func15 (by kernel_rfl) rfl #[.string a] rfl (by (try simp only [List.map_toArray, List.map_cons, List.map_nil]); first | done | rfl | (simp only [List.length_drop, List.length_take]; rfl)) ?_; (with_reducible refine (whole_is a true HWA.out w (by have := HAA.out; omega) HT.out).mono ?_); rintro e w1 ⟨rfl, hb⟩; have HB1 := Aside0.mk hb; clear hb; refine ⟨_, rfl, ?_⟩)
    | (go_at_call 15; (with_reducible refine (whole_is b true HWB.out w1 (by have := HAA.out; have := HBB.out; omega) (Utf8Tabs_below HT.out HB1.out)).mono ?_); rintro e w2 ⟨rfl, hb⟩; have HB2 := Aside0.mk (HB1.out.trans (hb.mono (below_size HB1.out))); clear hb)
    | ((with_reducible refine gate_callee (f := 15) rfl ?_); refine goesL_ (some 17) rfl rfl Tryd.func15 (by kernel_rfl) rfl #[.string (a ++ b)] rfl (by (try simp only [List.map_toArray, List.map_cons, List.map_nil]); first | done | rfl | (simp only [List.length_drop, List.length_take]; rfl)) ?_; (with_reducible refine (whole_is (a ++ b) true HWAB.out w2 (by have := HAB.out; omega) (Utf8Tabs_below HT.out HB2.out)).mono ?_); rintro e w3 ⟨rfl, hb⟩; have HB3 := Aside0.mk (HB2.out.trans (hb.mono (below_size HB2.out))); clear hb; refine ⟨_, rfl, ?_⟩)
    | (go_at_call 13; (with_reducible refine (runes_any a w3 (by have := HAA.out; omega)).mono ?_); rintro e w4 ⟨v4, rfl, hr, hb⟩; rw [HL1.out] at hr; have HO4 := Aside0.mk hr; have HD4 := Aside0.mk hb; have HB4 := Aside0.mk (HB3.out.trans (hb.mono (below_size HB3.out))); clear hb; clear hr)
    | (go_at_call 13; (with_reducible refine (runes_any b w4 (by have := HBB.out; omega)).mono ?_); rintro e w5 ⟨v5, rfl, hr, hb⟩; rw [HL2.out] at hr; obtain ⟨A5, k5, rfl, hl5, hC5⟩ := Kd.R_reads hr; have HR5 := Aside0.mk hC5; have HO5 := Aside0.mk (Kd.R_below HO4.out hb); have HZ5 := Aside0.mk (Nat.le_trans (below_size HD4.out) (below_size hb)); have HB5 := Aside0.mk (HB4.out.trans (hb.mono (below_size HB4.out))); clear hb; clear hr hC5 hl5)
    | ((with_reducible refine gate_builtin (b := .append) (xs := #[.tmp 21, .tmp 23]) rfl ?_); refine wpList_step (fun K hK => ?_); refine Kd.R_append_rows_step (Kd.int .i32) (w0 := w5) w3.heap.size (by kernel_rfl) (.tmp 21) (.tmp 23) 24 21 (.int .i32 0) 4 rfl Tryd.underlying24 info21 rfl (by decide) (by decide) _ L1 L2 A5 L2.length k5 (fun _ => True) (fun _ => False) rfl rfl HO5.out HR5.out (fun x cs h => h) (fun _ h => h.elim) (fun _ _ => trivial) (Below.refl _ _) HZ5.out HLL.out ?_; intro v6 w6 hr6 hb hg6 hat6; refine hK _ _ ?_; rw [← HL12.out] at hr6; have HB6 := Aside0.mk (HB5.out.trans (hb.mono (below_size HB3.out))); obtain ⟨A6, k6, rfl, hl6, hC6⟩ := Kd.R_reads hr6; have HR6 := Aside0.mk hC6; have HK6 := Aside0.mk hl6; clear hr6 hb hg6 hat6 hC6 hl6 hK)
    | (go_at_call 13; (with_reducible refine (runes_any (a ++ b) w6 (by have := HAB.out; omega)).mono ?_); rintro e w7 ⟨v7, rfl, hr, hb⟩; rw [HL3.out] at hr; obtain ⟨A7, k7, rfl, hl7, hC7⟩ := Kd.R_reads hr; have HR7 := Aside0.mk hC7; have HK7 := Aside0.mk hl7; have HR67 := Aside0.mk (Kd.C_below HR6.out hb); have HB7 := Aside0.mk (HB6.out.trans (hb.mono (below_size HB6.out))); clear hb; clear hr hC7 hl7)
    | (go_at_call 12; (with_reducible refine (hayricklaw10_same.calls _ A6 k6 L3 A7 k7 L3 true w7 HR67.out HK6.out HR7.out HK7.out ((NMV.same_f _ _ HLS.out _ (Nat.le_refl _)).trans (congrArg some (decide_eq_true rfl)))).mono ?_); rintro e w8 ⟨rfl, ⟨nd8, rfl⟩⟩; obtain ⟨w8, hw8⟩ : ∃ w8, w8 = w7.drewN nd8 := ⟨_, rfl⟩; have HB8 := Aside0.mk (show Below w.heap.size w w8 from hw8 ▸ pw_below_drewN HB7.out nd8); rw [← hw8]; clear hw8)
    | ((with_reducible refine gate_callee (f := 10) rfl ?_); refine goesL_ (some 33) rfl rfl Tryd.func10 (by kernel_rfl) rfl #[.string a] rfl (by (try simp only [List.map_toArray, List.map_cons, List.map_nil]); first | done | rfl | (simp only [List.length_drop, List.length_take]; rfl)) ?_; (with_reducible refine (valid_is a true HVA.out w8 (by have := HAA.out; have := HBB.out; have := HAB.out; omega) (Utf8Tabs_below HT.out HB8.out)).mono ?_); rintro e w9 ⟨rfl, hb⟩; have HB9 := Aside0.mk (HB8.out.trans (hb.mono (below_size HB8.out))); clear hb; refine ⟨_, rfl, ?_⟩)
    | (go_at_call 10; (with_reducible refine (valid_is b true HVB.out w9 (by have := HAA.out; have := HBB.out; have := HAB.out; omega) (Utf8Tabs_below HT.out HB9.out)).mono ?_); rintro e w10 ⟨rfl, hb⟩; have HB10 := Aside0.mk (HB9.out.trans (hb.mono (below_size HB9.out))); clear hb)
    | ((with_reducible refine gate_callee (f := 10) rfl ?_); refine goesL_ (some 41) rfl rfl Tryd.func10 (by kernel_rfl) rfl #[.string (a ++ b)] rfl (by (try simp only [List.map_toArray, List.map_cons, List.map_nil]); first | done | rfl | (simp only [List.length_drop, List.length_take]; rfl)) ?_; (with_reducible refine (valid_is (a ++ b) false HVV.out w10 (by have := HAA.out; have := HBB.out; have := HAB.out; omega) (Utf8Tabs_below HT.out HB10.out)).mono ?_); rintro e w11 ⟨rfl, hb⟩; have HB11 := Aside0.mk (HB10.out.trans (hb.mono (below_size HB10.out))); clear hb; refine ⟨_, rfl, ?_⟩)
    | (go_at_call 17; (with_reducible refine (wakes_true w11 (Utf8Tabs_below HT.out HB11.out)).mono ?_); rintro e w12 ⟨rfl, hb⟩; have HB12 := Aside0.mk (HB11.out.trans (hb.mono (below_size HB11.out))); clear hb))
            go_ret
            exact ⟨rfl, HB12.out⟩
end Go.Proofs.YtdgiinjibcfjgaaDoor.NM
