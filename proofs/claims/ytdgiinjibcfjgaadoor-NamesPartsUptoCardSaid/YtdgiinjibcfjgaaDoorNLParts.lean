/- NamesParts: the law's own walk. -/
import Derived.Test.YtdgiinjibcfjgaaDoorNRefV
import Derived.Test.YtdgiinjibcfjgaaDoorNPlain
import Derived.Test.YtdgiinjibcfjgaaDoorNWakes
namespace Go.Proofs.YtdgiinjibcfjgaaDoor.NM
open Go.RowKit Go.Proofs.YtdgiinjibcfjgaaDoorW.PrintWords Go.Proofs.YtdgiinjibcfjgaaDoorW.PrintLast Go.Proofs.YtdgiinjibcfjgaaDoorW.PrintMore Go.Proofs.YtdgiinjibcfjgaaDoor.PNamesValid
set_option linter.unusedVariables false
set_option linter.unusedSimpArgs false
attribute [local go_sem] max2_int min2_int max_two min_two max_three min_three max_four min_four
set_option maxHeartbeats 4000000 in
set_option maxRecDepth 1000000 in
theorem parts_pA (s c d m : ByteArray) (n : Int) (C : Nat) (LA LM : List Int) (w : World) (HSB : Aside0 (s.size ≤ 4398046511104)) (HCB : Aside0 (c.size ≤ s.size)) (HDB : Aside0 (d.size ≤ s.size)) (HMB : Aside0 (m.size ≤ s.size)) (HT : Aside0 (Lib.Utf8Tabs 0 1 w))
    (hc : s.extract 0 C = c) (hcs : c.size = C) (hd : s.extract C s.size = d) (hCs : (C : Int) ≤ (s.size : Int)) (hn0 : -9223372036854775808 ≤ n) (hn1 : n ≤ 9223372036854775807)
    (HCUT : Aside0 (s.extract 0 (cutN s.data.toList n) = c)) (HCUT2 : Aside0 (c.extract 0 (cutN c.data.toList n) = c)) (HCUT3 : Aside0 (s.extract 0 (cutN s.data.toList (C : Int)) = c))
    (HLA : Aside0 (runes s.data.toList = LA)) (HLS : Aside0 (runes c.data.toList = LA)) (HTK : Aside0 (LA.take LA.length = LA)) (HLE : Aside0 (LA.length ≤ LA.length)) (HLL : Aside0 (LA.length ≤ 9223372036854775806)) (hpos : 0 < n) (hCn : (C : Int) ≤ n) (hCs' : C ≤ s.size) (vs vc ws wc wd : Bool) (HVS : Aside0 (valid s.data.toList = vs)) (HVCI : Aside0 (vs = true → ¬ s.toList = [] → ¬ s.toList = [46] → ¬ s.toList = [46, 46] → valid c.data.toList = true)) (HWS : Aside0 (whole s.data.toList = ws)) (HWC : Aside0 (whole c.data.toList = wc)) (HWD : Aside0 (whole d.data.toList = wd)) (HW : Aside0 (ws = (wc && wd))) (q0 : c.toList = s.toList) :
    Calls Tryd.prog 7 #[.string s, .int .i64 n] w fun e w' => e = .returned (.bool true) ∧ Below w.heap.size w w' := by
  have q5 : (c.toList == s.toList) = true := by rw [q0]; exact beq_self_eq_true _
  go_enter Tryd.func7, Tryd.ntmps7
  go_wp2_with (first
    | ((with_reducible refine gate_callee (f := 20) rfl ?_); refine goesL_ (some 12) rfl rfl Tryd.func20 (by kernel_rfl) rfl #[.string s, .int .i64 n] rfl (by (try simp only [List.map_toArray, List.map_cons, List.map_nil]); first | done | rfl | (simp only [List.length_drop, List.length_take]; rfl)) ?_; (with_reducible refine (cut_is s n c HCUT.out w (by have := HSB.out; have := HCB.out; omega)).mono ?_); rintro e w1 ⟨rfl, hb⟩; have HB1 := Aside0.mk hb; clear hb; refine ⟨_, rfl, ?_⟩)
    | ((with_reducible refine gate_callee (f := 13) rfl ?_); refine goesL_ (some 34) rfl rfl Tryd.func13 (by kernel_rfl) rfl #[.string s] rfl (by (try simp only [List.map_toArray, List.map_cons, List.map_nil]); first | done | rfl | (simp only [List.length_drop, List.length_take]; rfl)) ?_; (with_reducible refine (runes_any s w1 (by have := HSB.out; have := HCB.out; have := HMB.out; omega)).mono ?_); rintro e w2 ⟨v2, rfl, hr, hb⟩; rw [HLA.out] at hr; obtain ⟨A2, k2, rfl, hl2, _⟩ := Kd.R_reads hr; have HR2 := Aside0.mk hr; have HD2 := Aside0.mk hb; have HL2 := Aside0.mk hl2; have HB2 := Aside0.mk (HB1.out.trans (hb.mono (below_size HB1.out))); clear hb; clear hr hl2; refine ⟨_, rfl, ?_⟩)
    | ((with_reducible refine gate_callee (f := 13) rfl ?_); refine goesL_ (some 36) rfl rfl Tryd.func13 (by kernel_rfl) rfl #[.string c] rfl (by (try simp only [List.map_toArray, List.map_cons, List.map_nil]); first | done | rfl | (simp only [List.length_drop, List.length_take]; rfl)) ?_; (with_reducible refine (runes_any c w2 (by have := HSB.out; have := HCB.out; have := HMB.out; omega)).mono ?_); rintro e w3 ⟨v3, rfl, hr, hb⟩; rw [HLS.out] at hr; obtain ⟨A3, k3, rfl, hl3, _⟩ := Kd.R_reads hr; have HR3 := Aside0.mk hr; have HD3 := Aside0.mk hb; have HL3 := Aside0.mk hl3; have HB3 := Aside0.mk (HB2.out.trans (hb.mono (below_size HB2.out))); clear hb; have hLk := Nat.le_trans HLE.out HL2.out; clear hr hl3; refine ⟨_, rfl, ?_⟩)
    | (go_at_call 12; (with_reducible refine (hayricklaw10_same.calls _ A2 k2 LA A3 k3 LA true w3 (by have h := Kd.R_take (Kd.R_below HR2.out HD3.out) HLE.out; rw [HTK.out] at h; exact (Kd.R_reads' h).2.2) (Nat.le_trans HLE.out HL2.out) (by have h := HR3.out; exact (Kd.R_reads' h).2.2) HL3.out ((NMV.same_f _ _ HLL.out _ (Nat.le_refl _)).trans (congrArg some (decide_eq_true rfl)))).mono ?_); rintro e w4 ⟨rfl, ⟨nd4, rfl⟩⟩; obtain ⟨w4, hw4⟩ : ∃ w4, w4 = w3.drewN nd4 := ⟨_, rfl⟩; have HB4 := Aside0.mk (show Below w.heap.size w w4 from hw4 ▸ pw_below_drewN HB3.out nd4); rw [← hw4]; clear hw4)
    | ((with_reducible refine gate_callee (f := 20) rfl ?_); refine goesL_ (some 64) rfl rfl Tryd.func20 (by kernel_rfl) rfl #[.string c, .int .i64 n] rfl (by (try simp only [List.map_toArray, List.map_cons, List.map_nil]); first | done | rfl | (simp only [List.length_drop, List.length_take]; rfl)) ?_; (with_reducible refine (cut_is c n c HCUT2.out w4 (by have := HSB.out; have := HCB.out; omega)).mono ?_); rintro e w5 ⟨rfl, hb⟩; have HB5 := Aside0.mk (HB4.out.trans (hb.mono (below_size HB4.out))); clear hb; refine ⟨_, rfl, ?_⟩)
    | (go_at_call 20; (with_reducible refine (cut_is s C c HCUT3.out w5 (by have := HSB.out; have := HCB.out; omega)).mono ?_); rintro e w6 ⟨rfl, hb⟩; have HB6 := Aside0.mk (HB5.out.trans (hb.mono (below_size HB5.out))); clear hb))
  have hz := HB6.out
  clear hz
  refine (valid_is s vs HVS.out w6 (by have := HSB.out; omega) (Utf8Tabs_below HT.out HB6.out)).mono ?_
  rintro e w7 ⟨rfl, hb⟩
  have HB7 := Aside0.mk (HB6.out.trans (hb.mono (below_size HB6.out)))
  clear hb
  cases vs with
  | false =>
    cases wc with
    | true =>
      obtain rfl : ws = wd := by rw [HW.out]; rfl
      cases ws
      all_goals
        go_wp2_with (first
    | ((with_reducible refine gate_callee (f := 15) rfl ?_); refine goesL_ (some 131) rfl rfl Tryd.func15 (by kernel_rfl) rfl #[.string s] rfl (by (try simp only [List.map_toArray, List.map_cons, List.map_nil]); first | done | rfl | (simp only [List.length_drop, List.length_take]; rfl)) ?_; (with_reducible refine (whole_is s _ HWS.out w7 (by have := HSB.out; have := HCB.out; have := HDB.out; omega) (Utf8Tabs_below HT.out HB7.out)).mono ?_); rintro e w8 ⟨rfl, hb⟩; have HB8 := Aside0.mk (HB7.out.trans (hb.mono (below_size HB7.out))); clear hb; refine ⟨_, rfl, ?_⟩)
    | ((with_reducible refine gate_callee (f := 15) rfl ?_); refine goesL_ (some 133) rfl rfl Tryd.func15 (by kernel_rfl) rfl #[.string c] rfl (by (try simp only [List.map_toArray, List.map_cons, List.map_nil]); first | done | rfl | (simp only [List.length_drop, List.length_take]; rfl)) ?_; (with_reducible refine (whole_is c true HWC.out w8 (by have := HSB.out; have := HCB.out; have := HDB.out; omega) (Utf8Tabs_below HT.out HB8.out)).mono ?_); rintro e w9 ⟨rfl, hb⟩; have HB9 := Aside0.mk (HB8.out.trans (hb.mono (below_size HB8.out))); clear hb; refine ⟨_, rfl, ?_⟩)
    | (go_at_call 15; (with_reducible refine (whole_is d _ HWD.out w9 (by have := HSB.out; have := HCB.out; have := HDB.out; omega) (Utf8Tabs_below HT.out HB9.out)).mono ?_); rintro e w10 ⟨rfl, hb⟩; have HB10 := Aside0.mk (HB9.out.trans (hb.mono (below_size HB9.out))); clear hb)
    | (go_at_call 17; (with_reducible refine (wakes_true w10 (Utf8Tabs_below HT.out HB10.out)).mono ?_); rintro e w11 ⟨rfl, hb⟩; have HB11 := Aside0.mk (HB10.out.trans (hb.mono (below_size HB10.out))); clear hb))
        go_ret
        exact ⟨rfl, HB11.out⟩
    | false =>
      obtain rfl : ws = false := by rw [HW.out]; rfl
      go_wp2_with (first
    | ((with_reducible refine gate_callee (f := 15) rfl ?_); refine goesL_ (some 131) rfl rfl Tryd.func15 (by kernel_rfl) rfl #[.string s] rfl (by (try simp only [List.map_toArray, List.map_cons, List.map_nil]); first | done | rfl | (simp only [List.length_drop, List.length_take]; rfl)) ?_; (with_reducible refine (whole_is s _ HWS.out w7 (by have := HSB.out; have := HCB.out; have := HDB.out; omega) (Utf8Tabs_below HT.out HB7.out)).mono ?_); rintro e w8 ⟨rfl, hb⟩; have HB8 := Aside0.mk (HB7.out.trans (hb.mono (below_size HB7.out))); clear hb; refine ⟨_, rfl, ?_⟩)
    | ((with_reducible refine gate_callee (f := 15) rfl ?_); refine goesL_ (some 133) rfl rfl Tryd.func15 (by kernel_rfl) rfl #[.string c] rfl (by (try simp only [List.map_toArray, List.map_cons, List.map_nil]); first | done | rfl | (simp only [List.length_drop, List.length_take]; rfl)) ?_; (with_reducible refine (whole_is c false HWC.out w8 (by have := HSB.out; have := HCB.out; have := HDB.out; omega) (Utf8Tabs_below HT.out HB8.out)).mono ?_); rintro e w9 ⟨rfl, hb⟩; have HB9 := Aside0.mk (HB8.out.trans (hb.mono (below_size HB8.out))); clear hb; refine ⟨_, rfl, ?_⟩)
    | (go_at_call 17; (with_reducible refine (wakes_true w9 (Utf8Tabs_below HT.out HB9.out)).mono ?_); rintro e w10 ⟨rfl, hb⟩; have HB10 := Aside0.mk (HB9.out.trans (hb.mono (below_size HB9.out))); clear hb))
      go_ret
      exact ⟨rfl, HB10.out⟩
  | true =>
    by_cases z0 : s.toList = []
    · have x0 : s.toList.isEmpty = true := by rw [z0]; rfl
      have x0' : (!s.toList.isEmpty) = false := by rw [x0]; rfl
      cases wc with
      | true =>
        obtain rfl : ws = wd := by rw [HW.out]; rfl
        cases ws
        all_goals
          go_wp2_with (first
    | ((with_reducible refine gate_callee (f := 15) rfl ?_); refine goesL_ (some 131) rfl rfl Tryd.func15 (by kernel_rfl) rfl #[.string s] rfl (by (try simp only [List.map_toArray, List.map_cons, List.map_nil]); first | done | rfl | (simp only [List.length_drop, List.length_take]; rfl)) ?_; (with_reducible refine (whole_is s _ HWS.out w7 (by have := HSB.out; have := HCB.out; have := HDB.out; omega) (Utf8Tabs_below HT.out HB7.out)).mono ?_); rintro e w8 ⟨rfl, hb⟩; have HB8 := Aside0.mk (HB7.out.trans (hb.mono (below_size HB7.out))); clear hb; refine ⟨_, rfl, ?_⟩)
    | ((with_reducible refine gate_callee (f := 15) rfl ?_); refine goesL_ (some 133) rfl rfl Tryd.func15 (by kernel_rfl) rfl #[.string c] rfl (by (try simp only [List.map_toArray, List.map_cons, List.map_nil]); first | done | rfl | (simp only [List.length_drop, List.length_take]; rfl)) ?_; (with_reducible refine (whole_is c true HWC.out w8 (by have := HSB.out; have := HCB.out; have := HDB.out; omega) (Utf8Tabs_below HT.out HB8.out)).mono ?_); rintro e w9 ⟨rfl, hb⟩; have HB9 := Aside0.mk (HB8.out.trans (hb.mono (below_size HB8.out))); clear hb; refine ⟨_, rfl, ?_⟩)
    | (go_at_call 15; (with_reducible refine (whole_is d _ HWD.out w9 (by have := HSB.out; have := HCB.out; have := HDB.out; omega) (Utf8Tabs_below HT.out HB9.out)).mono ?_); rintro e w10 ⟨rfl, hb⟩; have HB10 := Aside0.mk (HB9.out.trans (hb.mono (below_size HB9.out))); clear hb)
    | (go_at_call 17; (with_reducible refine (wakes_true w10 (Utf8Tabs_below HT.out HB10.out)).mono ?_); rintro e w11 ⟨rfl, hb⟩; have HB11 := Aside0.mk (HB10.out.trans (hb.mono (below_size HB10.out))); clear hb))
          go_ret
          exact ⟨rfl, HB11.out⟩
      | false =>
        obtain rfl : ws = false := by rw [HW.out]; rfl
        go_wp2_with (first
    | ((with_reducible refine gate_callee (f := 15) rfl ?_); refine goesL_ (some 131) rfl rfl Tryd.func15 (by kernel_rfl) rfl #[.string s] rfl (by (try simp only [List.map_toArray, List.map_cons, List.map_nil]); first | done | rfl | (simp only [List.length_drop, List.length_take]; rfl)) ?_; (with_reducible refine (whole_is s _ HWS.out w7 (by have := HSB.out; have := HCB.out; have := HDB.out; omega) (Utf8Tabs_below HT.out HB7.out)).mono ?_); rintro e w8 ⟨rfl, hb⟩; have HB8 := Aside0.mk (HB7.out.trans (hb.mono (below_size HB7.out))); clear hb; refine ⟨_, rfl, ?_⟩)
    | ((with_reducible refine gate_callee (f := 15) rfl ?_); refine goesL_ (some 133) rfl rfl Tryd.func15 (by kernel_rfl) rfl #[.string c] rfl (by (try simp only [List.map_toArray, List.map_cons, List.map_nil]); first | done | rfl | (simp only [List.length_drop, List.length_take]; rfl)) ?_; (with_reducible refine (whole_is c false HWC.out w8 (by have := HSB.out; have := HCB.out; have := HDB.out; omega) (Utf8Tabs_below HT.out HB8.out)).mono ?_); rintro e w9 ⟨rfl, hb⟩; have HB9 := Aside0.mk (HB8.out.trans (hb.mono (below_size HB8.out))); clear hb; refine ⟨_, rfl, ?_⟩)
    | (go_at_call 17; (with_reducible refine (wakes_true w9 (Utf8Tabs_below HT.out HB9.out)).mono ?_); rintro e w10 ⟨rfl, hb⟩; have HB10 := Aside0.mk (HB9.out.trans (hb.mono (below_size HB9.out))); clear hb))
        go_ret
        exact ⟨rfl, HB10.out⟩
    have x0 : s.toList.isEmpty = false := by rw [Bool.eq_false_iff]; intro h; exact z0 (List.isEmpty_iff.1 h)
    have x0' : (!s.toList.isEmpty) = true := by rw [x0]; rfl
    by_cases z1 : s.toList = [46]
    · have x1 : (s.toList == [46]) = true := by rw [z1]; rfl
      cases wc with
      | true =>
        obtain rfl : ws = wd := by rw [HW.out]; rfl
        cases ws
        all_goals
          go_wp2_with (first
    | ((with_reducible refine gate_callee (f := 15) rfl ?_); refine goesL_ (some 131) rfl rfl Tryd.func15 (by kernel_rfl) rfl #[.string s] rfl (by (try simp only [List.map_toArray, List.map_cons, List.map_nil]); first | done | rfl | (simp only [List.length_drop, List.length_take]; rfl)) ?_; (with_reducible refine (whole_is s _ HWS.out w7 (by have := HSB.out; have := HCB.out; have := HDB.out; omega) (Utf8Tabs_below HT.out HB7.out)).mono ?_); rintro e w8 ⟨rfl, hb⟩; have HB8 := Aside0.mk (HB7.out.trans (hb.mono (below_size HB7.out))); clear hb; refine ⟨_, rfl, ?_⟩)
    | ((with_reducible refine gate_callee (f := 15) rfl ?_); refine goesL_ (some 133) rfl rfl Tryd.func15 (by kernel_rfl) rfl #[.string c] rfl (by (try simp only [List.map_toArray, List.map_cons, List.map_nil]); first | done | rfl | (simp only [List.length_drop, List.length_take]; rfl)) ?_; (with_reducible refine (whole_is c true HWC.out w8 (by have := HSB.out; have := HCB.out; have := HDB.out; omega) (Utf8Tabs_below HT.out HB8.out)).mono ?_); rintro e w9 ⟨rfl, hb⟩; have HB9 := Aside0.mk (HB8.out.trans (hb.mono (below_size HB8.out))); clear hb; refine ⟨_, rfl, ?_⟩)
    | (go_at_call 15; (with_reducible refine (whole_is d _ HWD.out w9 (by have := HSB.out; have := HCB.out; have := HDB.out; omega) (Utf8Tabs_below HT.out HB9.out)).mono ?_); rintro e w10 ⟨rfl, hb⟩; have HB10 := Aside0.mk (HB9.out.trans (hb.mono (below_size HB9.out))); clear hb)
    | (go_at_call 17; (with_reducible refine (wakes_true w10 (Utf8Tabs_below HT.out HB10.out)).mono ?_); rintro e w11 ⟨rfl, hb⟩; have HB11 := Aside0.mk (HB10.out.trans (hb.mono (below_size HB10.out))); clear hb))
          go_ret
          exact ⟨rfl, HB11.out⟩
      | false =>
        obtain rfl : ws = false := by rw [HW.out]; rfl
        go_wp2_with (first
    | ((with_reducible refine gate_callee (f := 15) rfl ?_); refine goesL_ (some 131) rfl rfl Tryd.func15 (by kernel_rfl) rfl #[.string s] rfl (by (try simp only [List.map_toArray, List.map_cons, List.map_nil]); first | done | rfl | (simp only [List.length_drop, List.length_take]; rfl)) ?_; (with_reducible refine (whole_is s _ HWS.out w7 (by have := HSB.out; have := HCB.out; have := HDB.out; omega) (Utf8Tabs_below HT.out HB7.out)).mono ?_); rintro e w8 ⟨rfl, hb⟩; have HB8 := Aside0.mk (HB7.out.trans (hb.mono (below_size HB7.out))); clear hb; refine ⟨_, rfl, ?_⟩)
    | ((with_reducible refine gate_callee (f := 15) rfl ?_); refine goesL_ (some 133) rfl rfl Tryd.func15 (by kernel_rfl) rfl #[.string c] rfl (by (try simp only [List.map_toArray, List.map_cons, List.map_nil]); first | done | rfl | (simp only [List.length_drop, List.length_take]; rfl)) ?_; (with_reducible refine (whole_is c false HWC.out w8 (by have := HSB.out; have := HCB.out; have := HDB.out; omega) (Utf8Tabs_below HT.out HB8.out)).mono ?_); rintro e w9 ⟨rfl, hb⟩; have HB9 := Aside0.mk (HB8.out.trans (hb.mono (below_size HB8.out))); clear hb; refine ⟨_, rfl, ?_⟩)
    | (go_at_call 17; (with_reducible refine (wakes_true w9 (Utf8Tabs_below HT.out HB9.out)).mono ?_); rintro e w10 ⟨rfl, hb⟩; have HB10 := Aside0.mk (HB9.out.trans (hb.mono (below_size HB9.out))); clear hb))
        go_ret
        exact ⟨rfl, HB10.out⟩
    have x1 : (s.toList == [46]) = false := beq_eq_false_iff_ne.2 z1
    by_cases z2 : s.toList = [46, 46]
    · have x2 : (s.toList == [46, 46]) = true := by rw [z2]; rfl
      cases wc with
      | true =>
        obtain rfl : ws = wd := by rw [HW.out]; rfl
        cases ws
        all_goals
          go_wp2_with (first
    | ((with_reducible refine gate_callee (f := 15) rfl ?_); refine goesL_ (some 131) rfl rfl Tryd.func15 (by kernel_rfl) rfl #[.string s] rfl (by (try simp only [List.map_toArray, List.map_cons, List.map_nil]); first | done | rfl | (simp only [List.length_drop, List.length_take]; rfl)) ?_; (with_reducible refine (whole_is s _ HWS.out w7 (by have := HSB.out; have := HCB.out; have := HDB.out; omega) (Utf8Tabs_below HT.out HB7.out)).mono ?_); rintro e w8 ⟨rfl, hb⟩; have HB8 := Aside0.mk (HB7.out.trans (hb.mono (below_size HB7.out))); clear hb; refine ⟨_, rfl, ?_⟩)
    | ((with_reducible refine gate_callee (f := 15) rfl ?_); refine goesL_ (some 133) rfl rfl Tryd.func15 (by kernel_rfl) rfl #[.string c] rfl (by (try simp only [List.map_toArray, List.map_cons, List.map_nil]); first | done | rfl | (simp only [List.length_drop, List.length_take]; rfl)) ?_; (with_reducible refine (whole_is c true HWC.out w8 (by have := HSB.out; have := HCB.out; have := HDB.out; omega) (Utf8Tabs_below HT.out HB8.out)).mono ?_); rintro e w9 ⟨rfl, hb⟩; have HB9 := Aside0.mk (HB8.out.trans (hb.mono (below_size HB8.out))); clear hb; refine ⟨_, rfl, ?_⟩)
    | (go_at_call 15; (with_reducible refine (whole_is d _ HWD.out w9 (by have := HSB.out; have := HCB.out; have := HDB.out; omega) (Utf8Tabs_below HT.out HB9.out)).mono ?_); rintro e w10 ⟨rfl, hb⟩; have HB10 := Aside0.mk (HB9.out.trans (hb.mono (below_size HB9.out))); clear hb)
    | (go_at_call 17; (with_reducible refine (wakes_true w10 (Utf8Tabs_below HT.out HB10.out)).mono ?_); rintro e w11 ⟨rfl, hb⟩; have HB11 := Aside0.mk (HB10.out.trans (hb.mono (below_size HB10.out))); clear hb))
          go_ret
          exact ⟨rfl, HB11.out⟩
      | false =>
        obtain rfl : ws = false := by rw [HW.out]; rfl
        go_wp2_with (first
    | ((with_reducible refine gate_callee (f := 15) rfl ?_); refine goesL_ (some 131) rfl rfl Tryd.func15 (by kernel_rfl) rfl #[.string s] rfl (by (try simp only [List.map_toArray, List.map_cons, List.map_nil]); first | done | rfl | (simp only [List.length_drop, List.length_take]; rfl)) ?_; (with_reducible refine (whole_is s _ HWS.out w7 (by have := HSB.out; have := HCB.out; have := HDB.out; omega) (Utf8Tabs_below HT.out HB7.out)).mono ?_); rintro e w8 ⟨rfl, hb⟩; have HB8 := Aside0.mk (HB7.out.trans (hb.mono (below_size HB7.out))); clear hb; refine ⟨_, rfl, ?_⟩)
    | ((with_reducible refine gate_callee (f := 15) rfl ?_); refine goesL_ (some 133) rfl rfl Tryd.func15 (by kernel_rfl) rfl #[.string c] rfl (by (try simp only [List.map_toArray, List.map_cons, List.map_nil]); first | done | rfl | (simp only [List.length_drop, List.length_take]; rfl)) ?_; (with_reducible refine (whole_is c false HWC.out w8 (by have := HSB.out; have := HCB.out; have := HDB.out; omega) (Utf8Tabs_below HT.out HB8.out)).mono ?_); rintro e w9 ⟨rfl, hb⟩; have HB9 := Aside0.mk (HB8.out.trans (hb.mono (below_size HB8.out))); clear hb; refine ⟨_, rfl, ?_⟩)
    | (go_at_call 17; (with_reducible refine (wakes_true w9 (Utf8Tabs_below HT.out HB9.out)).mono ?_); rintro e w10 ⟨rfl, hb⟩; have HB10 := Aside0.mk (HB9.out.trans (hb.mono (below_size HB9.out))); clear hb))
        go_ret
        exact ⟨rfl, HB10.out⟩
    have x2 : (s.toList == [46, 46]) = false := beq_eq_false_iff_ne.2 z2
    have HVC := Aside0.mk (HVCI.out rfl z0 z1 z2)
    cases wc with
    | true =>
      obtain rfl : ws = wd := by rw [HW.out]; rfl
      cases ws
      all_goals
        go_wp2_with (first
    | (go_at_call 10; (with_reducible refine (valid_is c true HVC.out w7 (by have := HSB.out; have := HCB.out; have := HDB.out; omega) (Utf8Tabs_below HT.out HB7.out)).mono ?_); rintro e w8 ⟨rfl, hb⟩; have HB8 := Aside0.mk (HB7.out.trans (hb.mono (below_size HB7.out))); clear hb)
    | ((with_reducible refine gate_callee (f := 15) rfl ?_); refine goesL_ (some 131) rfl rfl Tryd.func15 (by kernel_rfl) rfl #[.string s] rfl (by (try simp only [List.map_toArray, List.map_cons, List.map_nil]); first | done | rfl | (simp only [List.length_drop, List.length_take]; rfl)) ?_; (with_reducible refine (whole_is s _ HWS.out w8 (by have := HSB.out; have := HCB.out; have := HDB.out; omega) (Utf8Tabs_below HT.out HB8.out)).mono ?_); rintro e w9 ⟨rfl, hb⟩; have HB9 := Aside0.mk (HB8.out.trans (hb.mono (below_size HB8.out))); clear hb; refine ⟨_, rfl, ?_⟩)
    | ((with_reducible refine gate_callee (f := 15) rfl ?_); refine goesL_ (some 133) rfl rfl Tryd.func15 (by kernel_rfl) rfl #[.string c] rfl (by (try simp only [List.map_toArray, List.map_cons, List.map_nil]); first | done | rfl | (simp only [List.length_drop, List.length_take]; rfl)) ?_; (with_reducible refine (whole_is c true HWC.out w9 (by have := HSB.out; have := HCB.out; have := HDB.out; omega) (Utf8Tabs_below HT.out HB9.out)).mono ?_); rintro e w10 ⟨rfl, hb⟩; have HB10 := Aside0.mk (HB9.out.trans (hb.mono (below_size HB9.out))); clear hb; refine ⟨_, rfl, ?_⟩)
    | (go_at_call 15; (with_reducible refine (whole_is d _ HWD.out w10 (by have := HSB.out; have := HCB.out; have := HDB.out; omega) (Utf8Tabs_below HT.out HB10.out)).mono ?_); rintro e w11 ⟨rfl, hb⟩; have HB11 := Aside0.mk (HB10.out.trans (hb.mono (below_size HB10.out))); clear hb)
    | (go_at_call 17; (with_reducible refine (wakes_true w11 (Utf8Tabs_below HT.out HB11.out)).mono ?_); rintro e w12 ⟨rfl, hb⟩; have HB12 := Aside0.mk (HB11.out.trans (hb.mono (below_size HB11.out))); clear hb))
        go_ret
        exact ⟨rfl, HB12.out⟩
    | false =>
      obtain rfl : ws = false := by rw [HW.out]; rfl
      go_wp2_with (first
    | (go_at_call 10; (with_reducible refine (valid_is c true HVC.out w7 (by have := HSB.out; have := HCB.out; have := HDB.out; omega) (Utf8Tabs_below HT.out HB7.out)).mono ?_); rintro e w8 ⟨rfl, hb⟩; have HB8 := Aside0.mk (HB7.out.trans (hb.mono (below_size HB7.out))); clear hb)
    | ((with_reducible refine gate_callee (f := 15) rfl ?_); refine goesL_ (some 131) rfl rfl Tryd.func15 (by kernel_rfl) rfl #[.string s] rfl (by (try simp only [List.map_toArray, List.map_cons, List.map_nil]); first | done | rfl | (simp only [List.length_drop, List.length_take]; rfl)) ?_; (with_reducible refine (whole_is s _ HWS.out w8 (by have := HSB.out; have := HCB.out; have := HDB.out; omega) (Utf8Tabs_below HT.out HB8.out)).mono ?_); rintro e w9 ⟨rfl, hb⟩; have HB9 := Aside0.mk (HB8.out.trans (hb.mono (below_size HB8.out))); clear hb; refine ⟨_, rfl, ?_⟩)
    | ((with_reducible refine gate_callee (f := 15) rfl ?_); refine goesL_ (some 133) rfl rfl Tryd.func15 (by kernel_rfl) rfl #[.string c] rfl (by (try simp only [List.map_toArray, List.map_cons, List.map_nil]); first | done | rfl | (simp only [List.length_drop, List.length_take]; rfl)) ?_; (with_reducible refine (whole_is c false HWC.out w9 (by have := HSB.out; have := HCB.out; have := HDB.out; omega) (Utf8Tabs_below HT.out HB9.out)).mono ?_); rintro e w10 ⟨rfl, hb⟩; have HB10 := Aside0.mk (HB9.out.trans (hb.mono (below_size HB9.out))); clear hb; refine ⟨_, rfl, ?_⟩)
    | (go_at_call 17; (with_reducible refine (wakes_true w10 (Utf8Tabs_below HT.out HB10.out)).mono ?_); rintro e w11 ⟨rfl, hb⟩; have HB11 := Aside0.mk (HB10.out.trans (hb.mono (below_size HB10.out))); clear hb))
      go_ret
      exact ⟨rfl, HB11.out⟩
set_option maxHeartbeats 4000000 in
set_option maxRecDepth 1000000 in
theorem parts_pB (s c d m : ByteArray) (n : Int) (C : Nat) (LA LS LM : List Int) (w : World) (HSB : Aside0 (s.size ≤ 4398046511104)) (HCB : Aside0 (c.size ≤ s.size)) (HDB : Aside0 (d.size ≤ s.size)) (HMB : Aside0 (m.size ≤ s.size)) (HT : Aside0 (Lib.Utf8Tabs 0 1 w))
    (hc : s.extract 0 C = c) (hcs : c.size = C) (hd : s.extract C s.size = d) (hCs : (C : Int) ≤ (s.size : Int)) (hn0 : -9223372036854775808 ≤ n) (hn1 : n ≤ 9223372036854775807)
    (HCUT : Aside0 (s.extract 0 (cutN s.data.toList n) = c)) (HCUT2 : Aside0 (c.extract 0 (cutN c.data.toList n) = c)) (HCUT3 : Aside0 (s.extract 0 (cutN s.data.toList (C : Int)) = c))
    (HLA : Aside0 (runes s.data.toList = LA)) (HLS : Aside0 (runes c.data.toList = LS)) (HTK : Aside0 (LA.take LS.length = LS)) (HLE : Aside0 (LS.length ≤ LA.length)) (HLL : Aside0 (LS.length ≤ 9223372036854775806)) (hpos : 0 < n) (hCn : (C : Int) ≤ n) (hCs' : C ≤ s.size) (vs vc ws wc wd : Bool) (HVS : Aside0 (valid s.data.toList = vs)) (HVCI : Aside0 (vs = true → ¬ c.toList = [] → ¬ c.toList = [46] → ¬ c.toList = [46, 46] → valid c.data.toList = true)) (HWS : Aside0 (whole s.data.toList = ws)) (HWC : Aside0 (whole c.data.toList = wc)) (HWD : Aside0 (whole d.data.toList = wd)) (HW : Aside0 (ws = (wc && wd))) (q0 : ¬ c.toList = s.toList) (q1 : LS.length < LA.length) (q2 : LS.length < LM.length) (HLM : Aside0 (runes m.data.toList = LM)) (HCUT4 : Aside0 (s.extract 0 (cutN s.data.toList ((C : Int) + 4)) = m)) (HMID : Aside0 (∀ k : Nat, C ≤ k → (k : Int) ≤ n → s.extract 0 (cutN s.data.toList (k : Int)) = c)) (hn4 : n < (C : Int) + 4 ∨ n < 0) :
    Calls Tryd.prog 7 #[.string s, .int .i64 n] w fun e w' => e = .returned (.bool true) ∧ Below w.heap.size w w' := by
  have q3 : ¬ LS.length = LA.length := by omega
  have q7 : ((LS.length : Int) == (LA.length : Int)) = false := by rw [beq_eq_false_iff_ne]; omega
  have q5 : (c.toList == s.toList) = false := beq_eq_false_iff_ne.2 q0
  have q6 : ¬ LM.length ≤ LS.length := by omega
  have hsz := HSB.out
  have hC4 : (C : Int) ≤ 4398046511104 := by omega
  have hC0 : (0 : Int) ≤ (C : Int) := Int.natCast_nonneg _
  clear hsz
  go_enter Tryd.func7, Tryd.ntmps7
  go_wp2_with (first
    | ((with_reducible refine gate_callee (f := 20) rfl ?_); refine goesL_ (some 12) rfl rfl Tryd.func20 (by kernel_rfl) rfl #[.string s, .int .i64 n] rfl (by (try simp only [List.map_toArray, List.map_cons, List.map_nil]); first | done | rfl | (simp only [List.length_drop, List.length_take]; rfl)) ?_; (with_reducible refine (cut_is s n c HCUT.out w (by have := HSB.out; have := HCB.out; omega)).mono ?_); rintro e w1 ⟨rfl, hb⟩; have HB1 := Aside0.mk hb; clear hb; refine ⟨_, rfl, ?_⟩)
    | ((with_reducible refine gate_callee (f := 13) rfl ?_); refine goesL_ (some 34) rfl rfl Tryd.func13 (by kernel_rfl) rfl #[.string s] rfl (by (try simp only [List.map_toArray, List.map_cons, List.map_nil]); first | done | rfl | (simp only [List.length_drop, List.length_take]; rfl)) ?_; (with_reducible refine (runes_any s w1 (by have := HSB.out; have := HCB.out; have := HMB.out; omega)).mono ?_); rintro e w2 ⟨v2, rfl, hr, hb⟩; rw [HLA.out] at hr; obtain ⟨A2, k2, rfl, hl2, _⟩ := Kd.R_reads hr; have HR2 := Aside0.mk hr; have HD2 := Aside0.mk hb; have HL2 := Aside0.mk hl2; have HB2 := Aside0.mk (HB1.out.trans (hb.mono (below_size HB1.out))); clear hb; clear hr hl2; refine ⟨_, rfl, ?_⟩)
    | ((with_reducible refine gate_callee (f := 13) rfl ?_); refine goesL_ (some 36) rfl rfl Tryd.func13 (by kernel_rfl) rfl #[.string c] rfl (by (try simp only [List.map_toArray, List.map_cons, List.map_nil]); first | done | rfl | (simp only [List.length_drop, List.length_take]; rfl)) ?_; (with_reducible refine (runes_any c w2 (by have := HSB.out; have := HCB.out; have := HMB.out; omega)).mono ?_); rintro e w3 ⟨v3, rfl, hr, hb⟩; rw [HLS.out] at hr; obtain ⟨A3, k3, rfl, hl3, _⟩ := Kd.R_reads hr; have HR3 := Aside0.mk hr; have HD3 := Aside0.mk hb; have HL3 := Aside0.mk hl3; have HB3 := Aside0.mk (HB2.out.trans (hb.mono (below_size HB2.out))); clear hb; have hLk := Nat.le_trans HLE.out HL2.out; clear hr hl3; refine ⟨_, rfl, ?_⟩)
    | (go_at_call 12; (with_reducible refine (hayricklaw10_same.calls _ A2 k2 LS A3 k3 LS true w3 (by have h := Kd.R_take (Kd.R_below HR2.out HD3.out) HLE.out; rw [HTK.out] at h; exact (Kd.R_reads' h).2.2) (Nat.le_trans HLE.out HL2.out) (by have h := HR3.out; exact (Kd.R_reads' h).2.2) HL3.out ((NMV.same_f _ _ HLL.out _ (Nat.le_refl _)).trans (congrArg some (decide_eq_true rfl)))).mono ?_); rintro e w4 ⟨rfl, ⟨nd4, rfl⟩⟩; obtain ⟨w4, hw4⟩ : ∃ w4, w4 = w3.drewN nd4 := ⟨_, rfl⟩; have HB4 := Aside0.mk (show Below w.heap.size w w4 from hw4 ▸ pw_below_drewN HB3.out nd4); rw [← hw4]; clear hw4)
    | ((with_reducible refine gate_callee (f := 20) rfl ?_); refine goesL_ (some 64) rfl rfl Tryd.func20 (by kernel_rfl) rfl #[.string c, .int .i64 n] rfl (by (try simp only [List.map_toArray, List.map_cons, List.map_nil]); first | done | rfl | (simp only [List.length_drop, List.length_take]; rfl)) ?_; (with_reducible refine (cut_is c n c HCUT2.out w4 (by have := HSB.out; have := HCB.out; omega)).mono ?_); rintro e w5 ⟨rfl, hb⟩; have HB5 := Aside0.mk (HB4.out.trans (hb.mono (below_size HB4.out))); clear hb; refine ⟨_, rfl, ?_⟩)
    | (go_at_call 20; (with_reducible refine (cut_is s C c HCUT3.out w5 (by have := HSB.out; have := HCB.out; omega)).mono ?_); rintro e w6 ⟨rfl, hb⟩; have HB6 := Aside0.mk (HB5.out.trans (hb.mono (below_size HB5.out))); clear hb)
    | ((with_reducible refine gate_callee (f := 20) rfl ?_); refine goesL_ (some 84) rfl rfl Tryd.func20 (by kernel_rfl) rfl #[.string s, .int .i64 (C + 4)] rfl (by (try simp only [List.map_toArray, List.map_cons, List.map_nil]); first | done | rfl | (simp only [List.length_drop, List.length_take]; rfl)) ?_; (with_reducible refine (cut_is s (C + 4) m HCUT4.out w6 (by have := HSB.out; have := HCB.out; omega)).mono ?_); rintro e w7 ⟨rfl, hb⟩; have HB7 := Aside0.mk (HB6.out.trans (hb.mono (below_size HB6.out))); clear hb; refine ⟨_, rfl, ?_⟩)
    | ((with_reducible refine gate_callee (f := 13) rfl ?_); refine goesL_ (some 86) rfl rfl Tryd.func13 (by kernel_rfl) rfl #[.string m] rfl (by (try simp only [List.map_toArray, List.map_cons, List.map_nil]); first | done | rfl | (simp only [List.length_drop, List.length_take]; rfl)) ?_; (with_reducible refine (runes_any m w7 (by have := HSB.out; have := HCB.out; have := HMB.out; omega)).mono ?_); rintro e w8 ⟨v8, rfl, hr, hb⟩; rw [HLM.out] at hr; obtain ⟨A8, k8, rfl, hl8, _⟩ := Kd.R_reads hr; have HR8 := Aside0.mk hr; have HD8 := Aside0.mk hb; have HL8 := Aside0.mk hl8; have HB8 := Aside0.mk (HB7.out.trans (hb.mono (below_size HB7.out))); clear hb; clear hr hl8; refine ⟨_, rfl, ?_⟩))
  go_loopw [9] (fun i wr => ∃ k : Nat, C + 1 ≤ k ∧ k ≤ C + 4398046511104 ∧ i = .int .i64 k ∧ Aside0 (Below w.heap.size w wr)) (fun i _ => (n + 1 - intOf i).toNat)
  case atStart => exact ⟨C + 1, Nat.le_refl _, by omega, by go_num, HB8⟩
  case round =>
    obtain ⟨k, hk1, hk2, rfl, HB9⟩ := hrel
    obtain ⟨w9, hw9⟩ : ∃ w9, wr = w9 := ⟨_, rfl⟩
    rw [hw9] at HB9 ⊢
    clear hw9
    by_cases hkn : (k : Int) ≤ n
    · have hk3 : (k : Int) - (C : Int) ≤ 3 := by omega
      have hk4 : ¬ (3 : Int) < (k : Int) - (C : Int) := by omega
      have HMK := Aside0.mk (HMID.out k (by omega) hkn)
      go_wp2_with (first
    | (go_at_call 20; (with_reducible refine (cut_is s k c HMK.out w9 (by have := HSB.out; omega)).mono ?_); rintro e w10 ⟨rfl, hb⟩; have HB10 := Aside0.mk (HB9.out.trans (hb.mono (below_size HB9.out))); clear hb))
      go_roundw
      case rel => exact ⟨k + 1, by omega, by omega, by go_num, HB10⟩
      case measure => simp [intOf]; omega
    · have hkn' : n < (k : Int) := by omega
      clear hk1 hk2
      go_wp2_with (fail)
      have hz := HB9.out
      clear hz
      refine (valid_is s vs HVS.out w9 (by have := HSB.out; omega) (Utf8Tabs_below HT.out HB9.out)).mono ?_
      rintro e w10 ⟨rfl, hb⟩
      have HB10 := Aside0.mk (HB9.out.trans (hb.mono (below_size HB9.out)))
      clear hb
      cases vs with
      | false =>
        cases wc with
        | true =>
          obtain rfl : ws = wd := by rw [HW.out]; rfl
          cases ws
          all_goals
            go_wp2_with (first
        | ((with_reducible refine gate_callee (f := 15) rfl ?_); refine goesL_ (some 131) rfl rfl Tryd.func15 (by kernel_rfl) rfl #[.string s] rfl (by (try simp only [List.map_toArray, List.map_cons, List.map_nil]); first | done | rfl | (simp only [List.length_drop, List.length_take]; rfl)) ?_; (with_reducible refine (whole_is s _ HWS.out w10 (by have := HSB.out; have := HCB.out; have := HDB.out; omega) (Utf8Tabs_below HT.out HB10.out)).mono ?_); rintro e w11 ⟨rfl, hb⟩; have HB11 := Aside0.mk (HB10.out.trans (hb.mono (below_size HB10.out))); clear hb; refine ⟨_, rfl, ?_⟩)
        | ((with_reducible refine gate_callee (f := 15) rfl ?_); refine goesL_ (some 133) rfl rfl Tryd.func15 (by kernel_rfl) rfl #[.string c] rfl (by (try simp only [List.map_toArray, List.map_cons, List.map_nil]); first | done | rfl | (simp only [List.length_drop, List.length_take]; rfl)) ?_; (with_reducible refine (whole_is c true HWC.out w11 (by have := HSB.out; have := HCB.out; have := HDB.out; omega) (Utf8Tabs_below HT.out HB11.out)).mono ?_); rintro e w12 ⟨rfl, hb⟩; have HB12 := Aside0.mk (HB11.out.trans (hb.mono (below_size HB11.out))); clear hb; refine ⟨_, rfl, ?_⟩)
        | (go_at_call 15; (with_reducible refine (whole_is d _ HWD.out w12 (by have := HSB.out; have := HCB.out; have := HDB.out; omega) (Utf8Tabs_below HT.out HB12.out)).mono ?_); rintro e w13 ⟨rfl, hb⟩; have HB13 := Aside0.mk (HB12.out.trans (hb.mono (below_size HB12.out))); clear hb)
        | (go_at_call 17; (with_reducible refine (wakes_true w13 (Utf8Tabs_below HT.out HB13.out)).mono ?_); rintro e w14 ⟨rfl, hb⟩; have HB14 := Aside0.mk (HB13.out.trans (hb.mono (below_size HB13.out))); clear hb))
            go_ret
            exact ⟨rfl, HB14.out⟩
        | false =>
          obtain rfl : ws = false := by rw [HW.out]; rfl
          go_wp2_with (first
        | ((with_reducible refine gate_callee (f := 15) rfl ?_); refine goesL_ (some 131) rfl rfl Tryd.func15 (by kernel_rfl) rfl #[.string s] rfl (by (try simp only [List.map_toArray, List.map_cons, List.map_nil]); first | done | rfl | (simp only [List.length_drop, List.length_take]; rfl)) ?_; (with_reducible refine (whole_is s _ HWS.out w10 (by have := HSB.out; have := HCB.out; have := HDB.out; omega) (Utf8Tabs_below HT.out HB10.out)).mono ?_); rintro e w11 ⟨rfl, hb⟩; have HB11 := Aside0.mk (HB10.out.trans (hb.mono (below_size HB10.out))); clear hb; refine ⟨_, rfl, ?_⟩)
        | ((with_reducible refine gate_callee (f := 15) rfl ?_); refine goesL_ (some 133) rfl rfl Tryd.func15 (by kernel_rfl) rfl #[.string c] rfl (by (try simp only [List.map_toArray, List.map_cons, List.map_nil]); first | done | rfl | (simp only [List.length_drop, List.length_take]; rfl)) ?_; (with_reducible refine (whole_is c false HWC.out w11 (by have := HSB.out; have := HCB.out; have := HDB.out; omega) (Utf8Tabs_below HT.out HB11.out)).mono ?_); rintro e w12 ⟨rfl, hb⟩; have HB12 := Aside0.mk (HB11.out.trans (hb.mono (below_size HB11.out))); clear hb; refine ⟨_, rfl, ?_⟩)
        | (go_at_call 17; (with_reducible refine (wakes_true w12 (Utf8Tabs_below HT.out HB12.out)).mono ?_); rintro e w13 ⟨rfl, hb⟩; have HB13 := Aside0.mk (HB12.out.trans (hb.mono (below_size HB12.out))); clear hb))
          go_ret
          exact ⟨rfl, HB13.out⟩
      | true =>
        by_cases z0 : c.toList = []
        · have x0 : c.toList.isEmpty = true := by rw [z0]; rfl
          have x0' : (!c.toList.isEmpty) = false := by rw [x0]; rfl
          cases wc with
          | true =>
            obtain rfl : ws = wd := by rw [HW.out]; rfl
            cases ws
            all_goals
              go_wp2_with (first
        | ((with_reducible refine gate_callee (f := 15) rfl ?_); refine goesL_ (some 131) rfl rfl Tryd.func15 (by kernel_rfl) rfl #[.string s] rfl (by (try simp only [List.map_toArray, List.map_cons, List.map_nil]); first | done | rfl | (simp only [List.length_drop, List.length_take]; rfl)) ?_; (with_reducible refine (whole_is s _ HWS.out w10 (by have := HSB.out; have := HCB.out; have := HDB.out; omega) (Utf8Tabs_below HT.out HB10.out)).mono ?_); rintro e w11 ⟨rfl, hb⟩; have HB11 := Aside0.mk (HB10.out.trans (hb.mono (below_size HB10.out))); clear hb; refine ⟨_, rfl, ?_⟩)
        | ((with_reducible refine gate_callee (f := 15) rfl ?_); refine goesL_ (some 133) rfl rfl Tryd.func15 (by kernel_rfl) rfl #[.string c] rfl (by (try simp only [List.map_toArray, List.map_cons, List.map_nil]); first | done | rfl | (simp only [List.length_drop, List.length_take]; rfl)) ?_; (with_reducible refine (whole_is c true HWC.out w11 (by have := HSB.out; have := HCB.out; have := HDB.out; omega) (Utf8Tabs_below HT.out HB11.out)).mono ?_); rintro e w12 ⟨rfl, hb⟩; have HB12 := Aside0.mk (HB11.out.trans (hb.mono (below_size HB11.out))); clear hb; refine ⟨_, rfl, ?_⟩)
        | (go_at_call 15; (with_reducible refine (whole_is d _ HWD.out w12 (by have := HSB.out; have := HCB.out; have := HDB.out; omega) (Utf8Tabs_below HT.out HB12.out)).mono ?_); rintro e w13 ⟨rfl, hb⟩; have HB13 := Aside0.mk (HB12.out.trans (hb.mono (below_size HB12.out))); clear hb)
        | (go_at_call 17; (with_reducible refine (wakes_true w13 (Utf8Tabs_below HT.out HB13.out)).mono ?_); rintro e w14 ⟨rfl, hb⟩; have HB14 := Aside0.mk (HB13.out.trans (hb.mono (below_size HB13.out))); clear hb))
              go_ret
              exact ⟨rfl, HB14.out⟩
          | false =>
            obtain rfl : ws = false := by rw [HW.out]; rfl
            go_wp2_with (first
        | ((with_reducible refine gate_callee (f := 15) rfl ?_); refine goesL_ (some 131) rfl rfl Tryd.func15 (by kernel_rfl) rfl #[.string s] rfl (by (try simp only [List.map_toArray, List.map_cons, List.map_nil]); first | done | rfl | (simp only [List.length_drop, List.length_take]; rfl)) ?_; (with_reducible refine (whole_is s _ HWS.out w10 (by have := HSB.out; have := HCB.out; have := HDB.out; omega) (Utf8Tabs_below HT.out HB10.out)).mono ?_); rintro e w11 ⟨rfl, hb⟩; have HB11 := Aside0.mk (HB10.out.trans (hb.mono (below_size HB10.out))); clear hb; refine ⟨_, rfl, ?_⟩)
        | ((with_reducible refine gate_callee (f := 15) rfl ?_); refine goesL_ (some 133) rfl rfl Tryd.func15 (by kernel_rfl) rfl #[.string c] rfl (by (try simp only [List.map_toArray, List.map_cons, List.map_nil]); first | done | rfl | (simp only [List.length_drop, List.length_take]; rfl)) ?_; (with_reducible refine (whole_is c false HWC.out w11 (by have := HSB.out; have := HCB.out; have := HDB.out; omega) (Utf8Tabs_below HT.out HB11.out)).mono ?_); rintro e w12 ⟨rfl, hb⟩; have HB12 := Aside0.mk (HB11.out.trans (hb.mono (below_size HB11.out))); clear hb; refine ⟨_, rfl, ?_⟩)
        | (go_at_call 17; (with_reducible refine (wakes_true w12 (Utf8Tabs_below HT.out HB12.out)).mono ?_); rintro e w13 ⟨rfl, hb⟩; have HB13 := Aside0.mk (HB12.out.trans (hb.mono (below_size HB12.out))); clear hb))
            go_ret
            exact ⟨rfl, HB13.out⟩
        have x0 : c.toList.isEmpty = false := by rw [Bool.eq_false_iff]; intro h; exact z0 (List.isEmpty_iff.1 h)
        have x0' : (!c.toList.isEmpty) = true := by rw [x0]; rfl
        by_cases z1 : c.toList = [46]
        · have x1 : (c.toList == [46]) = true := by rw [z1]; rfl
          cases wc with
          | true =>
            obtain rfl : ws = wd := by rw [HW.out]; rfl
            cases ws
            all_goals
              go_wp2_with (first
        | ((with_reducible refine gate_callee (f := 15) rfl ?_); refine goesL_ (some 131) rfl rfl Tryd.func15 (by kernel_rfl) rfl #[.string s] rfl (by (try simp only [List.map_toArray, List.map_cons, List.map_nil]); first | done | rfl | (simp only [List.length_drop, List.length_take]; rfl)) ?_; (with_reducible refine (whole_is s _ HWS.out w10 (by have := HSB.out; have := HCB.out; have := HDB.out; omega) (Utf8Tabs_below HT.out HB10.out)).mono ?_); rintro e w11 ⟨rfl, hb⟩; have HB11 := Aside0.mk (HB10.out.trans (hb.mono (below_size HB10.out))); clear hb; refine ⟨_, rfl, ?_⟩)
        | ((with_reducible refine gate_callee (f := 15) rfl ?_); refine goesL_ (some 133) rfl rfl Tryd.func15 (by kernel_rfl) rfl #[.string c] rfl (by (try simp only [List.map_toArray, List.map_cons, List.map_nil]); first | done | rfl | (simp only [List.length_drop, List.length_take]; rfl)) ?_; (with_reducible refine (whole_is c true HWC.out w11 (by have := HSB.out; have := HCB.out; have := HDB.out; omega) (Utf8Tabs_below HT.out HB11.out)).mono ?_); rintro e w12 ⟨rfl, hb⟩; have HB12 := Aside0.mk (HB11.out.trans (hb.mono (below_size HB11.out))); clear hb; refine ⟨_, rfl, ?_⟩)
        | (go_at_call 15; (with_reducible refine (whole_is d _ HWD.out w12 (by have := HSB.out; have := HCB.out; have := HDB.out; omega) (Utf8Tabs_below HT.out HB12.out)).mono ?_); rintro e w13 ⟨rfl, hb⟩; have HB13 := Aside0.mk (HB12.out.trans (hb.mono (below_size HB12.out))); clear hb)
        | (go_at_call 17; (with_reducible refine (wakes_true w13 (Utf8Tabs_below HT.out HB13.out)).mono ?_); rintro e w14 ⟨rfl, hb⟩; have HB14 := Aside0.mk (HB13.out.trans (hb.mono (below_size HB13.out))); clear hb))
              go_ret
              exact ⟨rfl, HB14.out⟩
          | false =>
            obtain rfl : ws = false := by rw [HW.out]; rfl
            go_wp2_with (first
        | ((with_reducible refine gate_callee (f := 15) rfl ?_); refine goesL_ (some 131) rfl rfl Tryd.func15 (by kernel_rfl) rfl #[.string s] rfl (by (try simp only [List.map_toArray, List.map_cons, List.map_nil]); first | done | rfl | (simp only [List.length_drop, List.length_take]; rfl)) ?_; (with_reducible refine (whole_is s _ HWS.out w10 (by have := HSB.out; have := HCB.out; have := HDB.out; omega) (Utf8Tabs_below HT.out HB10.out)).mono ?_); rintro e w11 ⟨rfl, hb⟩; have HB11 := Aside0.mk (HB10.out.trans (hb.mono (below_size HB10.out))); clear hb; refine ⟨_, rfl, ?_⟩)
        | ((with_reducible refine gate_callee (f := 15) rfl ?_); refine goesL_ (some 133) rfl rfl Tryd.func15 (by kernel_rfl) rfl #[.string c] rfl (by (try simp only [List.map_toArray, List.map_cons, List.map_nil]); first | done | rfl | (simp only [List.length_drop, List.length_take]; rfl)) ?_; (with_reducible refine (whole_is c false HWC.out w11 (by have := HSB.out; have := HCB.out; have := HDB.out; omega) (Utf8Tabs_below HT.out HB11.out)).mono ?_); rintro e w12 ⟨rfl, hb⟩; have HB12 := Aside0.mk (HB11.out.trans (hb.mono (below_size HB11.out))); clear hb; refine ⟨_, rfl, ?_⟩)
        | (go_at_call 17; (with_reducible refine (wakes_true w12 (Utf8Tabs_below HT.out HB12.out)).mono ?_); rintro e w13 ⟨rfl, hb⟩; have HB13 := Aside0.mk (HB12.out.trans (hb.mono (below_size HB12.out))); clear hb))
            go_ret
            exact ⟨rfl, HB13.out⟩
        have x1 : (c.toList == [46]) = false := beq_eq_false_iff_ne.2 z1
        by_cases z2 : c.toList = [46, 46]
        · have x2 : (c.toList == [46, 46]) = true := by rw [z2]; rfl
          cases wc with
          | true =>
            obtain rfl : ws = wd := by rw [HW.out]; rfl
            cases ws
            all_goals
              go_wp2_with (first
        | ((with_reducible refine gate_callee (f := 15) rfl ?_); refine goesL_ (some 131) rfl rfl Tryd.func15 (by kernel_rfl) rfl #[.string s] rfl (by (try simp only [List.map_toArray, List.map_cons, List.map_nil]); first | done | rfl | (simp only [List.length_drop, List.length_take]; rfl)) ?_; (with_reducible refine (whole_is s _ HWS.out w10 (by have := HSB.out; have := HCB.out; have := HDB.out; omega) (Utf8Tabs_below HT.out HB10.out)).mono ?_); rintro e w11 ⟨rfl, hb⟩; have HB11 := Aside0.mk (HB10.out.trans (hb.mono (below_size HB10.out))); clear hb; refine ⟨_, rfl, ?_⟩)
        | ((with_reducible refine gate_callee (f := 15) rfl ?_); refine goesL_ (some 133) rfl rfl Tryd.func15 (by kernel_rfl) rfl #[.string c] rfl (by (try simp only [List.map_toArray, List.map_cons, List.map_nil]); first | done | rfl | (simp only [List.length_drop, List.length_take]; rfl)) ?_; (with_reducible refine (whole_is c true HWC.out w11 (by have := HSB.out; have := HCB.out; have := HDB.out; omega) (Utf8Tabs_below HT.out HB11.out)).mono ?_); rintro e w12 ⟨rfl, hb⟩; have HB12 := Aside0.mk (HB11.out.trans (hb.mono (below_size HB11.out))); clear hb; refine ⟨_, rfl, ?_⟩)
        | (go_at_call 15; (with_reducible refine (whole_is d _ HWD.out w12 (by have := HSB.out; have := HCB.out; have := HDB.out; omega) (Utf8Tabs_below HT.out HB12.out)).mono ?_); rintro e w13 ⟨rfl, hb⟩; have HB13 := Aside0.mk (HB12.out.trans (hb.mono (below_size HB12.out))); clear hb)
        | (go_at_call 17; (with_reducible refine (wakes_true w13 (Utf8Tabs_below HT.out HB13.out)).mono ?_); rintro e w14 ⟨rfl, hb⟩; have HB14 := Aside0.mk (HB13.out.trans (hb.mono (below_size HB13.out))); clear hb))
              go_ret
              exact ⟨rfl, HB14.out⟩
          | false =>
            obtain rfl : ws = false := by rw [HW.out]; rfl
            go_wp2_with (first
        | ((with_reducible refine gate_callee (f := 15) rfl ?_); refine goesL_ (some 131) rfl rfl Tryd.func15 (by kernel_rfl) rfl #[.string s] rfl (by (try simp only [List.map_toArray, List.map_cons, List.map_nil]); first | done | rfl | (simp only [List.length_drop, List.length_take]; rfl)) ?_; (with_reducible refine (whole_is s _ HWS.out w10 (by have := HSB.out; have := HCB.out; have := HDB.out; omega) (Utf8Tabs_below HT.out HB10.out)).mono ?_); rintro e w11 ⟨rfl, hb⟩; have HB11 := Aside0.mk (HB10.out.trans (hb.mono (below_size HB10.out))); clear hb; refine ⟨_, rfl, ?_⟩)
        | ((with_reducible refine gate_callee (f := 15) rfl ?_); refine goesL_ (some 133) rfl rfl Tryd.func15 (by kernel_rfl) rfl #[.string c] rfl (by (try simp only [List.map_toArray, List.map_cons, List.map_nil]); first | done | rfl | (simp only [List.length_drop, List.length_take]; rfl)) ?_; (with_reducible refine (whole_is c false HWC.out w11 (by have := HSB.out; have := HCB.out; have := HDB.out; omega) (Utf8Tabs_below HT.out HB11.out)).mono ?_); rintro e w12 ⟨rfl, hb⟩; have HB12 := Aside0.mk (HB11.out.trans (hb.mono (below_size HB11.out))); clear hb; refine ⟨_, rfl, ?_⟩)
        | (go_at_call 17; (with_reducible refine (wakes_true w12 (Utf8Tabs_below HT.out HB12.out)).mono ?_); rintro e w13 ⟨rfl, hb⟩; have HB13 := Aside0.mk (HB12.out.trans (hb.mono (below_size HB12.out))); clear hb))
            go_ret
            exact ⟨rfl, HB13.out⟩
        have x2 : (c.toList == [46, 46]) = false := beq_eq_false_iff_ne.2 z2
        have HVC := Aside0.mk (HVCI.out rfl z0 z1 z2)
        cases wc with
        | true =>
          obtain rfl : ws = wd := by rw [HW.out]; rfl
          cases ws
          all_goals
            go_wp2_with (first
        | (go_at_call 10; (with_reducible refine (valid_is c true HVC.out w10 (by have := HSB.out; have := HCB.out; have := HDB.out; omega) (Utf8Tabs_below HT.out HB10.out)).mono ?_); rintro e w11 ⟨rfl, hb⟩; have HB11 := Aside0.mk (HB10.out.trans (hb.mono (below_size HB10.out))); clear hb)
        | ((with_reducible refine gate_callee (f := 15) rfl ?_); refine goesL_ (some 131) rfl rfl Tryd.func15 (by kernel_rfl) rfl #[.string s] rfl (by (try simp only [List.map_toArray, List.map_cons, List.map_nil]); first | done | rfl | (simp only [List.length_drop, List.length_take]; rfl)) ?_; (with_reducible refine (whole_is s _ HWS.out w11 (by have := HSB.out; have := HCB.out; have := HDB.out; omega) (Utf8Tabs_below HT.out HB11.out)).mono ?_); rintro e w12 ⟨rfl, hb⟩; have HB12 := Aside0.mk (HB11.out.trans (hb.mono (below_size HB11.out))); clear hb; refine ⟨_, rfl, ?_⟩)
        | ((with_reducible refine gate_callee (f := 15) rfl ?_); refine goesL_ (some 133) rfl rfl Tryd.func15 (by kernel_rfl) rfl #[.string c] rfl (by (try simp only [List.map_toArray, List.map_cons, List.map_nil]); first | done | rfl | (simp only [List.length_drop, List.length_take]; rfl)) ?_; (with_reducible refine (whole_is c true HWC.out w12 (by have := HSB.out; have := HCB.out; have := HDB.out; omega) (Utf8Tabs_below HT.out HB12.out)).mono ?_); rintro e w13 ⟨rfl, hb⟩; have HB13 := Aside0.mk (HB12.out.trans (hb.mono (below_size HB12.out))); clear hb; refine ⟨_, rfl, ?_⟩)
        | (go_at_call 15; (with_reducible refine (whole_is d _ HWD.out w13 (by have := HSB.out; have := HCB.out; have := HDB.out; omega) (Utf8Tabs_below HT.out HB13.out)).mono ?_); rintro e w14 ⟨rfl, hb⟩; have HB14 := Aside0.mk (HB13.out.trans (hb.mono (below_size HB13.out))); clear hb)
        | (go_at_call 17; (with_reducible refine (wakes_true w14 (Utf8Tabs_below HT.out HB14.out)).mono ?_); rintro e w15 ⟨rfl, hb⟩; have HB15 := Aside0.mk (HB14.out.trans (hb.mono (below_size HB14.out))); clear hb))
            go_ret
            exact ⟨rfl, HB15.out⟩
        | false =>
          obtain rfl : ws = false := by rw [HW.out]; rfl
          go_wp2_with (first
        | (go_at_call 10; (with_reducible refine (valid_is c true HVC.out w10 (by have := HSB.out; have := HCB.out; have := HDB.out; omega) (Utf8Tabs_below HT.out HB10.out)).mono ?_); rintro e w11 ⟨rfl, hb⟩; have HB11 := Aside0.mk (HB10.out.trans (hb.mono (below_size HB10.out))); clear hb)
        | ((with_reducible refine gate_callee (f := 15) rfl ?_); refine goesL_ (some 131) rfl rfl Tryd.func15 (by kernel_rfl) rfl #[.string s] rfl (by (try simp only [List.map_toArray, List.map_cons, List.map_nil]); first | done | rfl | (simp only [List.length_drop, List.length_take]; rfl)) ?_; (with_reducible refine (whole_is s _ HWS.out w11 (by have := HSB.out; have := HCB.out; have := HDB.out; omega) (Utf8Tabs_below HT.out HB11.out)).mono ?_); rintro e w12 ⟨rfl, hb⟩; have HB12 := Aside0.mk (HB11.out.trans (hb.mono (below_size HB11.out))); clear hb; refine ⟨_, rfl, ?_⟩)
        | ((with_reducible refine gate_callee (f := 15) rfl ?_); refine goesL_ (some 133) rfl rfl Tryd.func15 (by kernel_rfl) rfl #[.string c] rfl (by (try simp only [List.map_toArray, List.map_cons, List.map_nil]); first | done | rfl | (simp only [List.length_drop, List.length_take]; rfl)) ?_; (with_reducible refine (whole_is c false HWC.out w12 (by have := HSB.out; have := HCB.out; have := HDB.out; omega) (Utf8Tabs_below HT.out HB12.out)).mono ?_); rintro e w13 ⟨rfl, hb⟩; have HB13 := Aside0.mk (HB12.out.trans (hb.mono (below_size HB12.out))); clear hb; refine ⟨_, rfl, ?_⟩)
        | (go_at_call 17; (with_reducible refine (wakes_true w13 (Utf8Tabs_below HT.out HB13.out)).mono ?_); rintro e w14 ⟨rfl, hb⟩; have HB14 := Aside0.mk (HB13.out.trans (hb.mono (below_size HB13.out))); clear hb))
          go_ret
          exact ⟨rfl, HB14.out⟩
set_option maxHeartbeats 4000000 in
set_option maxRecDepth 1000000 in
theorem parts_zA (n : Int) (w : World) (hpos : n ≤ 0) (HSB : Aside0 ((⟨#[]⟩ : ByteArray).size ≤ 4398046511104)) (HMB : Aside0 ((⟨#[]⟩ : ByteArray).size ≤ (⟨#[]⟩ : ByteArray).size)) (HT : Aside0 (Lib.Utf8Tabs 0 1 w)) (HCUT : Aside0 ((⟨#[]⟩ : ByteArray).extract 0 (cutN (⟨#[]⟩ : ByteArray).data.toList n) = ⟨#[]⟩)) (HCUT3 : Aside0 ((⟨#[]⟩ : ByteArray).extract 0 (cutN (⟨#[]⟩ : ByteArray).data.toList 0) = ⟨#[]⟩)) (HLS : Aside0 (runes (⟨#[]⟩ : ByteArray).data.toList = [])) (HTK : Aside0 (([] : List Int).take ([] : List Int).length = [])) (HLE : Aside0 (([] : List Int).length ≤ ([] : List Int).length)) (HLL : Aside0 (([] : List Int).length ≤ 9223372036854775806)) (HVS : Aside0 (valid (⟨#[]⟩ : ByteArray).data.toList = false)) (HWS : Aside0 (whole (⟨#[]⟩ : ByteArray).data.toList = true)) (HWE : Aside0 (whole ByteArray.empty.data.toList = true)) (HEB : Aside0 (ByteArray.empty.size = 0)) :
    Calls Tryd.prog 7 #[.string ⟨#[]⟩, .int .i64 n] w fun e w' => e = .returned (.bool true) ∧ Below w.heap.size w w' := by
  go_enter Tryd.func7, Tryd.ntmps7
  go_wp2_with (first
    | ((with_reducible refine gate_callee (f := 20) rfl ?_); refine goesL_ (some 12) rfl rfl Tryd.func20 (by kernel_rfl) rfl #[.string ⟨#[]⟩, .int .i64 n] rfl (by (try simp only [List.map_toArray, List.map_cons, List.map_nil]); first | done | rfl | (simp only [List.length_drop, List.length_take]; rfl)) ?_; (with_reducible refine (cut_is ⟨#[]⟩ n ⟨#[]⟩ HCUT.out w (by have := HSB.out; omega)).mono ?_); rintro e w1 ⟨rfl, hb⟩; have HB1 := Aside0.mk hb; clear hb; refine ⟨_, rfl, ?_⟩)
    | ((with_reducible refine gate_callee (f := 13) rfl ?_); refine goesL_ (some 34) rfl rfl Tryd.func13 (by kernel_rfl) rfl #[.string ⟨#[]⟩] rfl (by (try simp only [List.map_toArray, List.map_cons, List.map_nil]); first | done | rfl | (simp only [List.length_drop, List.length_take]; rfl)) ?_; (with_reducible refine (runes_any ⟨#[]⟩ w1 (by have := HSB.out; have := HMB.out; omega)).mono ?_); rintro e w2 ⟨v2, rfl, hr, hb⟩; rw [HLS.out] at hr; obtain ⟨A2, k2, rfl, hl2, _⟩ := Kd.R_reads hr; have HR2 := Aside0.mk hr; have HD2 := Aside0.mk hb; have HL2 := Aside0.mk hl2; have HB2 := Aside0.mk (HB1.out.trans (hb.mono (below_size HB1.out))); clear hb; clear hr hl2; refine ⟨_, rfl, ?_⟩)
    | ((with_reducible refine gate_callee (f := 13) rfl ?_); refine goesL_ (some 36) rfl rfl Tryd.func13 (by kernel_rfl) rfl #[.string ⟨#[]⟩] rfl (by (try simp only [List.map_toArray, List.map_cons, List.map_nil]); first | done | rfl | (simp only [List.length_drop, List.length_take]; rfl)) ?_; (with_reducible refine (runes_any ⟨#[]⟩ w2 (by have := HSB.out; have := HMB.out; omega)).mono ?_); rintro e w3 ⟨v3, rfl, hr, hb⟩; rw [HLS.out] at hr; obtain ⟨A3, k3, rfl, hl3, _⟩ := Kd.R_reads hr; have HR3 := Aside0.mk hr; have HD3 := Aside0.mk hb; have HL3 := Aside0.mk hl3; have HB3 := Aside0.mk (HB2.out.trans (hb.mono (below_size HB2.out))); clear hb; have hLk := Nat.le_trans HLE.out HL2.out; clear hr hl3; refine ⟨_, rfl, ?_⟩)
    | (go_at_call 12; (refine (hayricklaw10_same.calls _ A2 k2 ([] : List Int) A3 k3 ([] : List Int) true w3 (by have h := Kd.R_take (Kd.R_below HR2.out HD3.out) HLE.out; rw [HTK.out] at h; exact (Kd.R_reads' h).2.2) (Nat.le_trans HLE.out HL2.out) (by have h := HR3.out; exact (Kd.R_reads' h).2.2) HL3.out ((NMV.same_f _ _ HLL.out _ (Nat.le_refl _)).trans (congrArg some (decide_eq_true rfl)))).mono ?_); rintro e w4 ⟨rfl, ⟨nd4, rfl⟩⟩; obtain ⟨w4, hw4⟩ : ∃ w4, w4 = w3.drewN nd4 := ⟨_, rfl⟩; have HB4 := Aside0.mk (show Below w.heap.size w w4 from hw4 ▸ pw_below_drewN HB3.out nd4); rw [← hw4]; clear hw4)
    | ((with_reducible refine gate_callee (f := 20) rfl ?_); refine goesL_ (some 64) rfl rfl Tryd.func20 (by kernel_rfl) rfl #[.string ⟨#[]⟩, .int .i64 n] rfl (by (try simp only [List.map_toArray, List.map_cons, List.map_nil]); first | done | rfl | (simp only [List.length_drop, List.length_take]; rfl)) ?_; (with_reducible refine (cut_is ⟨#[]⟩ n ⟨#[]⟩ HCUT.out w4 (by have := HSB.out; omega)).mono ?_); rintro e w5 ⟨rfl, hb⟩; have HB5 := Aside0.mk (HB4.out.trans (hb.mono (below_size HB4.out))); clear hb; refine ⟨_, rfl, ?_⟩)
    | (go_at_call 20; (with_reducible refine (cut_is ⟨#[]⟩ 0 ⟨#[]⟩ HCUT3.out w5 (by have := HSB.out; omega)).mono ?_); rintro e w6 ⟨rfl, hb⟩; have HB6 := Aside0.mk (HB5.out.trans (hb.mono (below_size HB5.out))); clear hb)
    | ((with_reducible refine gate_callee (f := 10) rfl ?_); refine goesL_ (some 112) rfl rfl Tryd.func10 (by kernel_rfl) rfl #[.string ⟨#[]⟩] rfl (by (try simp only [List.map_toArray, List.map_cons, List.map_nil]); first | done | rfl | (simp only [List.length_drop, List.length_take]; rfl)) ?_; (with_reducible refine (valid_is ⟨#[]⟩ false HVS.out w6 (by have := HSB.out; omega) (Utf8Tabs_below HT.out HB6.out)).mono ?_); rintro e w7 ⟨rfl, hb⟩; have HB7 := Aside0.mk (HB6.out.trans (hb.mono (below_size HB6.out))); clear hb; refine ⟨_, rfl, ?_⟩)
    | ((with_reducible refine gate_callee (f := 15) rfl ?_); refine goesL_ (some 131) rfl rfl Tryd.func15 (by kernel_rfl) rfl #[.string ⟨#[]⟩] rfl (by (try simp only [List.map_toArray, List.map_cons, List.map_nil]); first | done | rfl | (simp only [List.length_drop, List.length_take]; rfl)) ?_; (with_reducible refine (whole_is ⟨#[]⟩ true HWS.out w7 (by have := HSB.out; omega) (Utf8Tabs_below HT.out HB7.out)).mono ?_); rintro e w8 ⟨rfl, hb⟩; have HB8 := Aside0.mk (HB7.out.trans (hb.mono (below_size HB7.out))); clear hb; refine ⟨_, rfl, ?_⟩)
    | ((with_reducible refine gate_callee (f := 15) rfl ?_); refine goesL_ (some 133) rfl rfl Tryd.func15 (by kernel_rfl) rfl #[.string ⟨#[]⟩] rfl (by (try simp only [List.map_toArray, List.map_cons, List.map_nil]); first | done | rfl | (simp only [List.length_drop, List.length_take]; rfl)) ?_; (with_reducible refine (whole_is ⟨#[]⟩ true HWS.out w8 (by have := HSB.out; omega) (Utf8Tabs_below HT.out HB8.out)).mono ?_); rintro e w9 ⟨rfl, hb⟩; have HB9 := Aside0.mk (HB8.out.trans (hb.mono (below_size HB8.out))); clear hb; refine ⟨_, rfl, ?_⟩)
    | (go_at_call 15; (with_reducible refine (whole_is ByteArray.empty true HWE.out w9 (by have := HEB.out; omega) (Utf8Tabs_below HT.out HB9.out)).mono ?_); rintro e w10 ⟨rfl, hb⟩; have HB10 := Aside0.mk (HB9.out.trans (hb.mono (below_size HB9.out))); clear hb)
    | (go_at_call 17; (with_reducible refine (wakes_true w10 (Utf8Tabs_below HT.out HB10.out)).mono ?_); rintro e w11 ⟨rfl, hb⟩; have HB11 := Aside0.mk (HB10.out.trans (hb.mono (below_size HB10.out))); clear hb))
  go_ret
  exact ⟨rfl, HB11.out⟩
set_option maxHeartbeats 4000000 in
set_option maxRecDepth 1000000 in
theorem parts_zB (s m : ByteArray) (n : Int) (LA LM : List Int) (w : World) (hpos : n ≤ 0) (HZB : Aside0 ((⟨#[]⟩ : ByteArray).size = 0)) (HSB : Aside0 (s.size ≤ 4398046511104)) (HMB : Aside0 (m.size ≤ s.size)) (HT : Aside0 (Lib.Utf8Tabs 0 1 w)) (HCUT : Aside0 (s.extract 0 (cutN s.data.toList n) = ⟨#[]⟩)) (HCUT2 : Aside0 ((⟨#[]⟩ : ByteArray).extract 0 (cutN (⟨#[]⟩ : ByteArray).data.toList n) = ⟨#[]⟩)) (HCUT3 : Aside0 (s.extract 0 (cutN s.data.toList 0) = ⟨#[]⟩)) (HCUT4 : Aside0 (s.extract 0 (cutN s.data.toList 4) = m)) (HLA : Aside0 (runes s.data.toList = LA)) (HLS : Aside0 (runes (⟨#[]⟩ : ByteArray).data.toList = [])) (HLM : Aside0 (runes m.data.toList = LM)) (HTK : Aside0 (LA.take ([] : List Int).length = [])) (HLE : Aside0 (([] : List Int).length ≤ LA.length)) (HLL : Aside0 (([] : List Int).length ≤ 9223372036854775806)) (y0 : ¬ s.toList = []) (y1 : s.toList.isEmpty = false) (q1 : 0 < LA.length) (q2 : 0 < LM.length) (vs ws : Bool) (HVS : Aside0 (valid s.data.toList = vs)) (HWS : Aside0 (whole s.data.toList = ws)) (HWC : Aside0 (whole (⟨#[]⟩ : ByteArray).data.toList = true)) (HDB : Aside0 ((s.extract 0 s.size).size ≤ s.size)) (HWD : Aside0 (whole (s.extract 0 s.size).data.toList = ws)) :
    Calls Tryd.prog 7 #[.string s, .int .i64 n] w fun e w' => e = .returned (.bool true) ∧ Below w.heap.size w w' := by
  have q3 : ¬ LM.length ≤ 0 := by omega
  have q4 : ¬ LM = [] := by intro h; rw [h] at q2; exact absurd q2 (by decide)
  have q5 : ¬ LA = [] := by intro h; rw [h] at q1; exact absurd q1 (by decide)
  have q6 : (0 : Int) < (LA.length : Int) := by omega
  have q7 : ((0 : Int) == (LA.length : Int)) = false := by rw [beq_eq_false_iff_ne]; omega
  go_enter Tryd.func7, Tryd.ntmps7
  go_wp2_with (first
    | ((with_reducible refine gate_callee (f := 20) rfl ?_); refine goesL_ (some 12) rfl rfl Tryd.func20 (by kernel_rfl) rfl #[.string s, .int .i64 n] rfl (by (try simp only [List.map_toArray, List.map_cons, List.map_nil]); first | done | rfl | (simp only [List.length_drop, List.length_take]; rfl)) ?_; (with_reducible refine (cut_is s n ⟨#[]⟩ HCUT.out w (by have := HZB.out; have := HSB.out; omega)).mono ?_); rintro e w1 ⟨rfl, hb⟩; have HB1 := Aside0.mk hb; clear hb; refine ⟨_, rfl, ?_⟩)
    | ((with_reducible refine gate_callee (f := 13) rfl ?_); refine goesL_ (some 34) rfl rfl Tryd.func13 (by kernel_rfl) rfl #[.string s] rfl (by (try simp only [List.map_toArray, List.map_cons, List.map_nil]); first | done | rfl | (simp only [List.length_drop, List.length_take]; rfl)) ?_; (with_reducible refine (runes_any s w1 (by have := HZB.out; have := HSB.out; have := HMB.out; omega)).mono ?_); rintro e w2 ⟨v2, rfl, hr, hb⟩; rw [HLA.out] at hr; obtain ⟨A2, k2, rfl, hl2, _⟩ := Kd.R_reads hr; have HR2 := Aside0.mk hr; have HD2 := Aside0.mk hb; have HL2 := Aside0.mk hl2; have HB2 := Aside0.mk (HB1.out.trans (hb.mono (below_size HB1.out))); clear hb; clear hr hl2; refine ⟨_, rfl, ?_⟩)
    | ((with_reducible refine gate_callee (f := 13) rfl ?_); refine goesL_ (some 36) rfl rfl Tryd.func13 (by kernel_rfl) rfl #[.string ⟨#[]⟩] rfl (by (try simp only [List.map_toArray, List.map_cons, List.map_nil]); first | done | rfl | (simp only [List.length_drop, List.length_take]; rfl)) ?_; (with_reducible refine (runes_any ⟨#[]⟩ w2 (by have := HZB.out; have := HSB.out; have := HMB.out; omega)).mono ?_); rintro e w3 ⟨v3, rfl, hr, hb⟩; rw [HLS.out] at hr; obtain ⟨A3, k3, rfl, hl3, _⟩ := Kd.R_reads hr; have HR3 := Aside0.mk hr; have HD3 := Aside0.mk hb; have HL3 := Aside0.mk hl3; have HB3 := Aside0.mk (HB2.out.trans (hb.mono (below_size HB2.out))); clear hb; have hLk := Nat.le_trans HLE.out HL2.out; clear hr hl3; refine ⟨_, rfl, ?_⟩)
    | (go_at_call 12; (refine (hayricklaw10_same.calls _ A2 k2 ([] : List Int) A3 k3 ([] : List Int) true w3 (by have h := Kd.R_take (Kd.R_below HR2.out HD3.out) HLE.out; rw [HTK.out] at h; exact (Kd.R_reads' h).2.2) (Nat.le_trans HLE.out HL2.out) (by have h := HR3.out; exact (Kd.R_reads' h).2.2) HL3.out ((NMV.same_f _ _ HLL.out _ (Nat.le_refl _)).trans (congrArg some (decide_eq_true rfl)))).mono ?_); rintro e w4 ⟨rfl, ⟨nd4, rfl⟩⟩; obtain ⟨w4, hw4⟩ : ∃ w4, w4 = w3.drewN nd4 := ⟨_, rfl⟩; have HB4 := Aside0.mk (show Below w.heap.size w w4 from hw4 ▸ pw_below_drewN HB3.out nd4); rw [← hw4]; clear hw4)
    | ((with_reducible refine gate_callee (f := 20) rfl ?_); refine goesL_ (some 64) rfl rfl Tryd.func20 (by kernel_rfl) rfl #[.string ⟨#[]⟩, .int .i64 n] rfl (by (try simp only [List.map_toArray, List.map_cons, List.map_nil]); first | done | rfl | (simp only [List.length_drop, List.length_take]; rfl)) ?_; (with_reducible refine (cut_is ⟨#[]⟩ n ⟨#[]⟩ HCUT2.out w4 (by have := HZB.out; have := HSB.out; omega)).mono ?_); rintro e w5 ⟨rfl, hb⟩; have HB5 := Aside0.mk (HB4.out.trans (hb.mono (below_size HB4.out))); clear hb; refine ⟨_, rfl, ?_⟩)
    | (go_at_call 20; (with_reducible refine (cut_is s 0 ⟨#[]⟩ HCUT3.out w5 (by have := HZB.out; have := HSB.out; omega)).mono ?_); rintro e w6 ⟨rfl, hb⟩; have HB6 := Aside0.mk (HB5.out.trans (hb.mono (below_size HB5.out))); clear hb)
    | ((with_reducible refine gate_callee (f := 20) rfl ?_); refine goesL_ (some 84) rfl rfl Tryd.func20 (by kernel_rfl) rfl #[.string s, .int .i64 4] rfl (by (try simp only [List.map_toArray, List.map_cons, List.map_nil]); first | done | rfl | (simp only [List.length_drop, List.length_take]; rfl)) ?_; (with_reducible refine (cut_is s 4 m HCUT4.out w6 (by have := HZB.out; have := HSB.out; omega)).mono ?_); rintro e w7 ⟨rfl, hb⟩; have HB7 := Aside0.mk (HB6.out.trans (hb.mono (below_size HB6.out))); clear hb; refine ⟨_, rfl, ?_⟩)
    | ((with_reducible refine gate_callee (f := 13) rfl ?_); refine goesL_ (some 86) rfl rfl Tryd.func13 (by kernel_rfl) rfl #[.string m] rfl (by (try simp only [List.map_toArray, List.map_cons, List.map_nil]); first | done | rfl | (simp only [List.length_drop, List.length_take]; rfl)) ?_; (with_reducible refine (runes_any m w7 (by have := HZB.out; have := HSB.out; have := HMB.out; omega)).mono ?_); rintro e w8 ⟨v8, rfl, hr, hb⟩; rw [HLM.out] at hr; obtain ⟨A8, k8, rfl, hl8, _⟩ := Kd.R_reads hr; have HR8 := Aside0.mk hr; have HD8 := Aside0.mk hb; have HL8 := Aside0.mk hl8; have HB8 := Aside0.mk (HB7.out.trans (hb.mono (below_size HB7.out))); clear hb; clear hr hl8; refine ⟨_, rfl, ?_⟩))
  go_loopw [9] (fun i wr => i = .int .i64 1 ∧ wr = w8) (fun _ _ => 0)
  case atStart => exact ⟨rfl, rfl⟩
  case round =>
    obtain ⟨rfl, hwr⟩ := hrel
    rw [hwr]
    clear hwr
    have hn1 : ¬ (1 : Int) ≤ n := by omega
    have hn2 : n < (1 : Int) := by omega
    cases vs
    all_goals
      cases ws
      all_goals
        go_wp2_with (first
    | ((with_reducible refine gate_callee (f := 10) rfl ?_); refine goesL_ (some 112) rfl rfl Tryd.func10 (by kernel_rfl) rfl #[.string s] rfl (by (try simp only [List.map_toArray, List.map_cons, List.map_nil]); first | done | rfl | (simp only [List.length_drop, List.length_take]; rfl)) ?_; (with_reducible refine (valid_is s _ HVS.out w8 (by have := HZB.out; have := HSB.out; omega) (Utf8Tabs_below HT.out HB8.out)).mono ?_); rintro e w9 ⟨rfl, hb⟩; have HB9 := Aside0.mk (HB8.out.trans (hb.mono (below_size HB8.out))); clear hb; refine ⟨_, rfl, ?_⟩)
    | ((with_reducible refine gate_callee (f := 15) rfl ?_); refine goesL_ (some 131) rfl rfl Tryd.func15 (by kernel_rfl) rfl #[.string s] rfl (by (try simp only [List.map_toArray, List.map_cons, List.map_nil]); first | done | rfl | (simp only [List.length_drop, List.length_take]; rfl)) ?_; (with_reducible refine (whole_is s _ HWS.out w9 (by have := HZB.out; have := HSB.out; omega) (Utf8Tabs_below HT.out HB9.out)).mono ?_); rintro e w10 ⟨rfl, hb⟩; have HB10 := Aside0.mk (HB9.out.trans (hb.mono (below_size HB9.out))); clear hb; refine ⟨_, rfl, ?_⟩)
    | ((with_reducible refine gate_callee (f := 15) rfl ?_); refine goesL_ (some 133) rfl rfl Tryd.func15 (by kernel_rfl) rfl #[.string ⟨#[]⟩] rfl (by (try simp only [List.map_toArray, List.map_cons, List.map_nil]); first | done | rfl | (simp only [List.length_drop, List.length_take]; rfl)) ?_; (with_reducible refine (whole_is ⟨#[]⟩ true HWC.out w10 (by have := HZB.out; have := HSB.out; omega) (Utf8Tabs_below HT.out HB10.out)).mono ?_); rintro e w11 ⟨rfl, hb⟩; have HB11 := Aside0.mk (HB10.out.trans (hb.mono (below_size HB10.out))); clear hb; refine ⟨_, rfl, ?_⟩)
    | (go_at_call 15; (with_reducible refine (whole_is s _ HWS.out w11 (by have := HZB.out; have := HSB.out; omega) (Utf8Tabs_below HT.out HB11.out)).mono ?_); rintro e w12 ⟨rfl, hb⟩; have HB12 := Aside0.mk (HB11.out.trans (hb.mono (below_size HB11.out))); clear hb)
    | (go_at_call 15; (with_reducible refine (whole_is (s.extract 0 s.size) _ HWD.out w11 (by have := HZB.out; have := HSB.out; have := HDB.out; omega) (Utf8Tabs_below HT.out HB11.out)).mono ?_); rintro e w12 ⟨rfl, hb⟩; have HB12 := Aside0.mk (HB11.out.trans (hb.mono (below_size HB11.out))); clear hb)
    | (go_at_call 17; (with_reducible refine (wakes_true w12 (Utf8Tabs_below HT.out HB12.out)).mono ?_); rintro e w13 ⟨rfl, hb⟩; have HB13 := Aside0.mk (HB12.out.trans (hb.mono (below_size HB12.out))); clear hb))
        go_ret
        exact ⟨rfl, HB13.out⟩
theorem cut_in (l : List UInt8) : ∀ n m : Int, m ≤ n → cutN (l.take (cutN l n)) m = cutN l m := by
  refine rune_ind (p := fun l => ∀ n m : Int, m ≤ n → cutN (l.take (cutN l n)) m = cutN l m) ?_ ?_ l
  · intro n m _
    rw [cut_nil]; rfl
  · intro l hl ih n m hmn
    by_cases h : ((decL l).2 : Int) ≤ n
    · rw [cut_step hl n, if_pos h]
      have hp := decL_pos l
      have ht : l.take ((decL l).2 + cutN (l.drop (decL l).2) (n - (decL l).2)) ≠ [] := take_ne hl (by omega)
      have hd : decL (l.take ((decL l).2 + cutN (l.drop (decL l).2) (n - (decL l).2))) = decL l := decL_take hl (by omega)
      rw [cut_step ht m, cut_step hl m, hd]
      by_cases h2 : ((decL l).2 : Int) ≤ m
      · rw [if_pos h2, if_pos h2]
        have e : (l.take ((decL l).2 + cutN (l.drop (decL l).2) (n - (decL l).2))).drop (decL l).2 = (l.drop (decL l).2).take (cutN (l.drop (decL l).2) (n - (decL l).2)) := by
          rw [List.drop_take]; congr 1; omega
        rw [e, ih (n - (decL l).2) (m - (decL l).2) (by omega)]
      · rw [if_neg h2, if_neg h2]
    · rw [cut_step hl n, if_neg h, cut_step hl m, if_neg (by omega), List.take_zero, cut_nil]
theorem cut_of_take (l : List UInt8) (C r : Nat) (hself : cutN l (C : Int) = C) (h4 : cutN l ((C : Int) + 4) = C + r) : cutN (l.take (C + r)) (C : Int) = C := by
  have h1 := cut_in l ((C : Int) + 4) (C : Int) (by omega)
  rwa [h4, hself] at h1
theorem bytes_ext {a b : ByteArray} (h : a.data.toList = b.data.toList) : a = b := by
  cases a; cases b
  exact congrArg ByteArray.mk (Array.toList_inj.1 h)
theorem size_list (s : ByteArray) : s.data.toList.length = s.size := (Lib.size_eq s).symm
theorem take_all {l : List UInt8} {n : Nat} (h : l.length ≤ n) : l.take n = l := List.take_of_length_le h
theorem runes_valid {l : List UInt8} (n : Int) (hv : valid l = true) (h0 : ¬ l.take (cutN l n) = []) (h1 : ¬ l.take (cutN l n) = [46]) (h2 : ¬ l.take (cutN l n) = [46, 46]) : valid (l.take (cutN l n)) = true := by
  obtain ⟨hr, hw⟩ := cut_runes l n
  have hb := (cut_bound l n).1
  unfold valid at hv ⊢
  simp only [Bool.and_eq_true, decide_eq_true_eq] at hv ⊢
  obtain ⟨v1, v2, v3, v4, v5, v6⟩ := hv
  rw [hw, Bool.and_eq_true] at v3
  rw [hr, List.all_append, Bool.and_eq_true] at v6
  refine ⟨?_, by rw [List.length_take]; omega, v3.1, h1, h2, v6.1⟩
  have := List.length_pos_iff.2 h0
  omega
set_option maxHeartbeats 1000000 in
theorem parts_law (s : ByteArray) (n : Int) (w : World) (hs : s.size ≤ 4398046511104) (wf : (Lit.int .i64 n).wf = true) (hT : Lib.Utf8Tabs 0 1 w) :
    Calls Tryd.prog 7 #[.string s, .int .i64 n] w fun e w' => e = .returned (.bool true) ∧ Below w.heap.size w w' := by
  have hn : -9223372036854775808 ≤ n ∧ n ≤ 9223372036854775807 := by
    have h : IntKind.i64.min ≤ n ∧ n ≤ 9223372036854775807 := by simpa [Lit.wf] using wf
    exact ⟨h.1, h.2⟩
  obtain ⟨C, hC⟩ : ∃ C, cutN s.data.toList n = C := ⟨_, rfl⟩
  obtain ⟨hb1, hb2⟩ := cut_bound s.data.toList n
  rw [hC] at hb1 hb2
  have hl := size_list s
  rw [hl] at hb1
  have hcd : (s.extract 0 C).data.toList = s.data.toList.take C := by rw [extract_data, List.drop_zero]
  have hdd : (s.extract C s.size).data.toList = s.data.toList.drop C := extract_end s C
  have hcs : (s.extract 0 C).size = C := by rw [← size_list, hcd, List.length_take]; omega
  have hds : (s.extract C s.size).size ≤ s.size := by rw [← size_list, hdd, List.length_drop]; omega
  have hmd : ∀ k, (s.extract 0 k).size ≤ s.size := fun k => by rw [← size_list, extract_data, List.length_drop, List.length_take]; omega
  obtain ⟨hr, hw⟩ := cut_runes s.data.toList n
  rw [hC] at hr hw
  have hself : cutN s.data.toList (C : Int) = C := by have := cut_self s.data.toList n; rwa [hC] at this
  have htake : cutN (s.data.toList.take C) n = C := by have := cut_take s.data.toList n; rwa [hC] at this
  have hcut2 : (s.extract 0 C).extract 0 (cutN (s.extract 0 C).data.toList n) = s.extract 0 C := bytes_ext (by
    rw [hcd, htake, extract_data, List.drop_zero, hcd, List.take_take, Nat.min_self])
  have hle : (runes (s.data.toList.take C)).length ≤ (runes s.data.toList).length := by rw [hr, List.length_append]; omega
  have htk : (runes s.data.toList).take (runes (s.data.toList.take C)).length = runes (s.data.toList.take C) := by rw [hr]; exact List.take_left' rfl
  have hll : (runes (s.data.toList.take C)).length ≤ 9223372036854775806 := by have := runes_le s.data.toList; omega
  have hcl : (s.extract 0 C).toList = s.data.toList.take C := (Lib.toList_data _).trans hcd
  have hsl : s.toList = s.data.toList := Lib.toList_data s
  have hvc : ∀ vs, valid s.data.toList = vs → vs = true → ¬ (s.extract 0 C).toList = [] → ¬ (s.extract 0 C).toList = [46] → ¬ (s.extract 0 C).toList = [46, 46] → valid (s.extract 0 C).data.toList = true := by
    rintro vs rfl hv
    rw [hcl, hcd, ← hC]
    exact runes_valid n hv
  have hwd : whole s.data.toList = (whole (s.extract 0 C).data.toList && whole (s.extract C s.size).data.toList) := by rw [hcd, hdd]; exact hw
  by_cases hall : C = s.size
  · -- all runes are kept
    have hcc : s.extract 0 C = s := bytes_ext (by rw [hcd, hall]; exact take_all (by rw [hl]; exact Nat.le_refl _))
    by_cases hpos : 0 < n
    · have hCn : (C : Int) ≤ n := by rcases hb2 with h | h <;> omega
      refine parts_pA s (s.extract 0 C) (s.extract C s.size) s n C (runes s.data.toList) [] w ⟨hs⟩ ⟨by omega⟩ ⟨hds⟩ ⟨Nat.le_refl _⟩ ⟨hT⟩ rfl hcs rfl (by omega) hn.1 hn.2 ⟨by rw [hC]⟩ ⟨hcut2⟩ ⟨by rw [hself]⟩
        ⟨rfl⟩ ⟨by rw [hcc]⟩ ⟨List.take_of_length_le (Nat.le_refl _)⟩ ⟨Nat.le_refl _⟩ ⟨by have := runes_le s.data.toList; omega⟩ hpos hCn (by omega)
        _ false _ _ _ ⟨rfl⟩ ⟨?_⟩ ⟨rfl⟩ ⟨rfl⟩ ⟨rfl⟩ ⟨hwd⟩ (by rw [hcc])
      intro h1 h2 h3 h4
      exact hvc _ rfl h1 (by rw [hcc]; exact h2) (by rw [hcc]; exact h3) (by rw [hcc]; exact h4)
    · have hC0 : C = 0 := by rcases hb2 with h | h <;> omega
      have hs0 : s = ⟨#[]⟩ := bytes_ext (List.eq_nil_of_length_eq_zero (by omega))
      subst hs0
      exact parts_zA n w (by omega) ⟨by decide⟩ ⟨Nat.le_refl _⟩ ⟨hT⟩ ⟨rfl⟩ ⟨rfl⟩ ⟨rfl⟩ ⟨rfl⟩ ⟨Nat.le_refl _⟩ ⟨by decide⟩ ⟨rfl⟩ ⟨rfl⟩ ⟨rfl⟩ ⟨rfl⟩
  · -- a rune is left out
    have hlt : C < s.size := by omega
    have hne : s.data.toList.drop C ≠ [] := fun h => by have := congrArg List.length h; rw [List.length_drop, List.length_nil] at this; omega
    have hpos4 := cut_pos hne
    have h4 : cutN s.data.toList ((C : Int) + 4) = C + cutN (s.data.toList.drop C) 4 := by
      have := cut_more s.data.toList 4 (by decide) n
      rwa [hC] at this
    have hnext : n < (C : Int) + 4 := by
      have := cut_next s.data.toList n (by rw [hC, hl]; exact hlt)
      rw [hC] at this
      have h5 := decL_four (s.data.toList.drop C)
      omega
    obtain ⟨r4, _⟩ := cut_runes s.data.toList ((C : Int) + 4)
    have hrne : runes (s.data.toList.drop C) ≠ [] := runes_ne hne
    have hlen : (runes (s.data.toList.take C)).length < (runes s.data.toList).length := by
      rw [hr, List.length_append]
      have := List.length_pos_iff.2 hrne
      omega
    have hmore : (runes (s.data.toList.take C)).length < (runes (s.data.toList.take (C + cutN (s.data.toList.drop C) 4))).length := by
      have e1 : s.data.toList.take C = (s.data.toList.take (C + cutN (s.data.toList.drop C) 4)).take (cutN (s.data.toList.take (C + cutN (s.data.toList.drop C) 4)) (C : Int)) := by
        have e2 : cutN (s.data.toList.take (C + cutN (s.data.toList.drop C) 4)) (C : Int) = C := by
          exact cut_of_take s.data.toList C _ hself h4
        rw [e2, List.take_take, Nat.min_eq_left (by omega)]
      obtain ⟨r5, _⟩ := cut_runes (s.data.toList.take (C + cutN (s.data.toList.drop C) 4)) (C : Int)
      rw [← e1] at r5
      rw [r5, List.length_append]
      have : runes ((s.data.toList.take (C + cutN (s.data.toList.drop C) 4)).drop (cutN (s.data.toList.take (C + cutN (s.data.toList.drop C) 4)) (C : Int))) ≠ [] := runes_ne (fun h => by
        have h7 := congrArg List.length h
        have h8 := cut_of_take s.data.toList C _ hself h4
        rw [h8, List.length_drop, List.length_take, List.length_nil] at h7
        have h9 := (cut_bound (s.data.toList.drop C) 4).1
        rw [List.length_drop] at h9
        omega)
      have := List.length_pos_iff.2 this
      omega
    have hmdd : (s.extract 0 (cutN s.data.toList ((C : Int) + 4))).data.toList = s.data.toList.take (C + cutN (s.data.toList.drop C) 4) := by rw [extract_data, List.drop_zero, h4]
    by_cases hpos : 0 < n
    · have hCn : (C : Int) ≤ n := by rcases hb2 with h | h <;> omega
      refine parts_pB s (s.extract 0 C) (s.extract C s.size) (s.extract 0 (cutN s.data.toList ((C : Int) + 4))) n C (runes s.data.toList) (runes (s.data.toList.take C)) (runes (s.data.toList.take (C + cutN (s.data.toList.drop C) 4))) w
        ⟨hs⟩ ⟨by omega⟩ ⟨hds⟩ ⟨hmd _⟩ ⟨hT⟩ rfl hcs rfl (by omega) hn.1 hn.2 ⟨by rw [hC]⟩ ⟨hcut2⟩ ⟨by rw [hself]⟩ ⟨rfl⟩ ⟨by rw [hcd]⟩ ⟨htk⟩ ⟨hle⟩ ⟨hll⟩ hpos hCn (by omega)
        _ false _ _ _ ⟨rfl⟩ ⟨hvc _ rfl⟩ ⟨rfl⟩ ⟨rfl⟩ ⟨rfl⟩ ⟨hwd⟩ ?_ hlen hmore ⟨by rw [hmdd]⟩ ⟨rfl⟩ ⟨?_⟩ (.inl hnext)
      · rw [hcl, hsl]
        intro h
        have := congrArg List.length h
        rw [List.length_take] at this
        omega
      · intro k hk1 hk2
        have := cut_mid s.data.toList n (k : Int) (by rw [hC]; omega) hk2
        rw [this, hC]
    · have hC0 : C = 0 := by rcases hb2 with h | h <;> omega
      subst hC0
      have hce : s.extract 0 0 = ⟨#[]⟩ := bytes_ext (by rw [hcd]; rfl)
      have h4' : cutN s.data.toList 4 = 0 + cutN (s.data.toList.drop 0) 4 := h4
      refine parts_zB s (s.extract 0 (cutN s.data.toList 4)) n (runes s.data.toList) (runes (s.data.toList.take (0 + cutN (s.data.toList.drop 0) 4))) w (by omega) ⟨rfl⟩ ⟨hs⟩ ⟨hmd _⟩ ⟨hT⟩ ⟨by rw [hC, hce]⟩ ⟨?_⟩ ⟨?_⟩ ⟨rfl⟩ ⟨rfl⟩ ⟨rfl⟩ ⟨by rw [extract_data, List.drop_zero, h4']⟩ ⟨rfl⟩ ⟨Nat.zero_le _⟩ ⟨by decide⟩
        ?_ ?_ (Nat.lt_of_le_of_lt (Nat.zero_le _) hlen) (Nat.lt_of_le_of_lt (Nat.zero_le _) hmore) _ _ ⟨rfl⟩ ⟨rfl⟩ ⟨rfl⟩ ⟨hds⟩ ⟨?_⟩
      · exact bytes_ext (by rw [extract_data]; exact List.eq_nil_of_length_eq_zero (by simp))
      · rw [show cutN s.data.toList 0 = 0 from hself, hce]
      · rw [hsl]; intro h; rw [h] at hl; simp at hl; omega
      · rw [hsl, List.isEmpty_eq_false_iff]; intro h; rw [h] at hl; simp at hl; omega
      · rw [hdd, List.drop_zero]
end Go.Proofs.YtdgiinjibcfjgaaDoor.NM
