/- EntryMaps: the law's own walk. -/
import Derived.Test.YtneanbckmekdkaaDoorMMaps
namespace Go.Proofs.YtneanbckmekdkaaDoor.EN
open Go Go.RowKit Go.Proofs.YtneanbckmekdkaaDoorX Go.Proofs.YtneanbckmekdkaaDoor.NM Go.Proofs.YtneanbckmekdkaaDoorW.PrintWords Go.Proofs.YtneanbckmekdkaaDoorW.PrintLast Go.Proofs.YtneanbckmekdkaaDoorW.PrintMore Go.Proofs.YtneanbckmekdkaaDoor.PEntryForms
set_option linter.unusedVariables false
set_option linter.unusedSimpArgs false
set_option maxHeartbeats 16000000 in
set_option maxRecDepth 100000 in
theorem maps_no_none (A : Option Addr) (c : Nat) (l : List S42) (a : Int) (s : ByteArray) (g : Nat) (w : World) (hr : Row w A l) (hl : l.length ≤ 1048576) (hz : ∀ x ∈ l, x.f1.size ≤ 1048576) (hs : s.size ≤ 1048576) (hg : g < 256) (hT : Lib.Utf8Tabs 1 2 w) (y : Int) (he : insErr (bE l) ⟨a, s⟩ = some y) (hn : bE l = []) :
    Calls Tryd.prog 8 #[.slice A l.length c, .agg (cellsE a s), .int .u8 (g : Int)] w fun e w' => e = .returned (.bool true) ∧ Below w.heap.size w w' := by
  have HR := Aside0.mk hr
  have HL := Aside0.mk hl
  have HZ := Aside0.mk hz
  have HS := Aside0.mk hs
  have HSZ := Aside0.mk (show s.size ≤ 17592186044416 by omega)
  have HT := Aside0.mk hT
  have hu42 := Aside0.mk Tryd.underlying42
  have hdm := bE_may l
  have hdz : ∀ y ∈ bE l, y.f1.size ≤ 1048576 := fun y hy => hz y (bE_mem hy)
  obtain ⟨D, hD⟩ : ∃ D, bE l = D := ⟨_, rfl⟩
  rw [hD] at hdm hdz he hn
  have HD := Aside0.mk hD
  have hd64 := ((mayE_iff D).1 hdm).1
  have HDM := Aside0.mk hdm
  have HDL := Aside0.mk (show D.length ≤ 9223372036854775807 by omega)
  have HDL6 := Aside0.mk (show D.length ≤ 9223372036854775806 by omega)
  have HDL2 := Aside0.mk (show D.length ≤ 1048576 by omega)
  have HDZ := Aside0.mk (show ∀ y ∈ D, y.f1.size ≤ 17592186044416 from fun y hy => Nat.le_trans (hdz y hy) (by decide))
  have HDZ2 := Aside0.mk hdz
  have HDZ3 := Aside0.mk (show ∀ y ∈ D, y.f1.size ≤ 140737488351232 from fun y hy => Nat.le_trans (hdz y hy) (by decide))
  obtain ⟨hy0, _⟩ := insErr_some hdm he
  have HIX := Aside0.mk (show (insR D ⟨a, s⟩).2 = y by unfold insR; rw [he])
  have HIR := Aside0.mk (show (insR D ⟨a, s⟩).1 = [] by unfold insR; rw [he])
  have hyb : (y == 0) = false := beq_eq_false_iff_ne.2 hy0
  clear he
  have HD0 := Aside0.mk (show (D.length : Int) = 0 by rw [hn]; rfl)
  have HRN := Aside0.mk (show remR D s = ([], 0, 32) by rw [hn]; exact rem_nil s)
  clear hn
  clear hr hl hz hs hg hT hdz hD hd64
  go_enter Tryd.func8, Tryd.ntmps8
  go_wp2_with (first
    | (have hz := HB2.out; clear hz; go_at_call 15; refine (may_any w2 Bd cd D R2.out (Utf8Tabs_below HT.out HB2.out)).mono ?_; rw [HDM.out]; rintro e w3 ⟨rfl, hb⟩; have HB3 := Aside0.mk (below_step HB2.out hb); have BG3 := Aside0.mk (blk_below BG2.out hb); have R3 := Aside0.mk (R2.out.below hb); clear hb)
    | (have hz := HB1.out; clear hz; go_at_call 26; refine (built_any A c l w1 (HR.out.below HB1.out) HL.out HZ.out (Utf8Tabs_below HT.out HB1.out)).mono ?_; rw [HD.out]; rintro e w2 ⟨v, rfl, ho, hb⟩; obtain ⟨Bd, cd, rfl⟩ := own_slice ho; have R2 := Aside0.mk (own_row ho HDZ3.out); have CD := Aside0.mk (own_cap ho); have HB2 := Aside0.mk (below_step HB1.out hb); have BG2 := Aside0.mk (blk_below BG1.out hb); clear hb ho)
    | ((with_reducible refine gate_dst (N := 4) rfl ?_); refine box_event ?hg (N := 4) ?hd (cs := cellsE a s) (t := 42) ?hr ?_; (case hd => rfl); (case hg => rfl); (case hr => first | (go_simp; done) | (go_simp; rfl) | kernel_rfl); intro gg hg w1 hbox hb; have HB1 := Aside0.mk (hb); have BG1 := Aside0.mk (hbox); clear hb hbox hg))
  go_loopw [9] (fun i wr => ∃ j : Nat, j ≤ D.length ∧ i = .int .i64 j ∧ Aside0 (Below w3.heap.size w3 wr)) (fun i _ => D.length - (intOf i).toNat)
  case atStart => exact ⟨0, Nat.zero_le _, rfl, ⟨Below.refl _ _⟩⟩
  case round =>
    obtain ⟨j, hj, rfl, HW⟩ := hrel
    by_cases hlt : j < D.length
    · exact absurd hlt (by have := HD0.out; omega)
    · have hjn : j = D.length := by omega
      subst hjn
      clear hlt hj
      have hDL := HDL.out
      obtain ⟨wl, hwl⟩ : ∃ x, wr = x := ⟨_, rfl⟩
      rw [hwl] at HW ⊢
      have HBL := Aside0.mk (below_step HB3.out HW.out)
      have RL := Aside0.mk (R3.out.below HW.out)
      have BGL := Aside0.mk (blk_below BG3.out HW.out)
      have d1 : wl.cell? ⟨gg, 1, none⟩ = some (.string s) := (blk_cell BGL.out 1).trans (cellE_one a s)
      have d0 : wl.cell? ⟨gg, 0, none⟩ = some (.int .i64 a) := (blk_cell BGL.out 0).trans (cellE_zero a s)
      clear hwl HW BG1 BG2 BG3 R2 R3 HB1 HB2 HB3
      have hD0 := HD0.out
      go_wp2_with (first
    | (have hz := Z1.out; clear hz; go_at_call 17; refine (wakes_true wz1 (Utf8Tabs_below HT.out (below_then HBL.out HBL.out.size Z1.out))).mono ?_; rintro e wz9 ⟨rfl, hb⟩; have Z9 := Aside0.mk (below_then Z1.out Z1.out.size hb); clear hb)
    | (have hz := Z0.out; clear hz; go_at_call 23; refine (rem_all Bd cd D wz0 (RL.out.below Z0.out) HDL2.out HDZ2.out (Utf8Tabs_below HT.out (below_then HBL.out HBL.out.size Z0.out)) s HS.out).mono ?_; rw [HRN.out]; rintro e wz1 ⟨v, rfl, ho, hb⟩; have Z1 := Aside0.mk (below_then Z0.out Z0.out.size hb); clear hb ho)
    | (have hz := HBL.out; clear hz; go_at_call 20; refine (ins_all Bd cd D wl RL.out HDL2.out HDZ2.out (Utf8Tabs_below HT.out HBL.out) a s HS.out).mono ?_; rw [HIX.out, HIR.out]; rintro e wz0 ⟨v, rfl, ho, hb⟩; have Z0 := Aside0.mk (hb); have d0 := pw_cell_below hb d0; have d1 := pw_cell_below hb d1; clear hb ho)
    | (have hz := HBL.out; clear hz; (with_reducible refine gate_dst (N := 65) rfl ?_); refine wpList_load_row rfl 42 (.tmp 4) (by kernel_rfl) gg (by kernel_rfl) _ _ _ _ BGL.out hu42.out rfl (sizeEntry a s) ?_))
      go_ret
      exact ⟨rfl, below_then HBL.out HBL.out.size Z9.out⟩
set_option maxHeartbeats 16000000 in
set_option maxRecDepth 100000 in
theorem maps_no_some (A : Option Addr) (c : Nat) (l : List S42) (a : Int) (s : ByteArray) (g : Nat) (w : World) (hr : Row w A l) (hl : l.length ≤ 1048576) (hz : ∀ x ∈ l, x.f1.size ≤ 1048576) (hs : s.size ≤ 1048576) (hg : g < 256) (hT : Lib.Utf8Tabs 1 2 w) (y : Int) (he : insErr (bE l) ⟨a, s⟩ = some y) (hn : 0 < (bE l).length) :
    Calls Tryd.prog 8 #[.slice A l.length c, .agg (cellsE a s), .int .u8 (g : Int)] w fun e w' => e = .returned (.bool true) ∧ Below w.heap.size w w' := by
  have HR := Aside0.mk hr
  have HL := Aside0.mk hl
  have HZ := Aside0.mk hz
  have HS := Aside0.mk hs
  have HSZ := Aside0.mk (show s.size ≤ 17592186044416 by omega)
  have HT := Aside0.mk hT
  have hu42 := Aside0.mk Tryd.underlying42
  have hdm := bE_may l
  have hdz : ∀ y ∈ bE l, y.f1.size ≤ 1048576 := fun y hy => hz y (bE_mem hy)
  obtain ⟨D, hD⟩ : ∃ D, bE l = D := ⟨_, rfl⟩
  rw [hD] at hdm hdz he hn
  have HD := Aside0.mk hD
  have hd64 := ((mayE_iff D).1 hdm).1
  have HDM := Aside0.mk hdm
  have HDL := Aside0.mk (show D.length ≤ 9223372036854775807 by omega)
  have HDL6 := Aside0.mk (show D.length ≤ 9223372036854775806 by omega)
  have HDL2 := Aside0.mk (show D.length ≤ 1048576 by omega)
  have HDZ := Aside0.mk (show ∀ y ∈ D, y.f1.size ≤ 17592186044416 from fun y hy => Nat.le_trans (hdz y hy) (by decide))
  have HDZ2 := Aside0.mk hdz
  have HDZ3 := Aside0.mk (show ∀ y ∈ D, y.f1.size ≤ 140737488351232 from fun y hy => Nat.le_trans (hdz y hy) (by decide))
  obtain ⟨hy0, _⟩ := insErr_some hdm he
  have HIX := Aside0.mk (show (insR D ⟨a, s⟩).2 = y by unfold insR; rw [he])
  have HIR := Aside0.mk (show (insR D ⟨a, s⟩).1 = [] by unfold insR; rw [he])
  have hyb : (y == 0) = false := beq_eq_false_iff_ne.2 hy0
  clear he
  obtain ⟨K, hK⟩ : ∃ K, g % D.length = K := ⟨_, rfl⟩
  have hkl : K < D.length := by rw [← hK]; exact Nat.mod_lt _ hn
  obtain ⟨X, hX⟩ : ∃ X : Int, X = ((1 + g % 64 : Nat) : Int) := ⟨_, rfl⟩
  have hXok : okIno X = true := by simp [okIno]; omega
  have hRK := rem_own hdm hkl
  have hIK := ins_back hdm hkl
  have hSK := set_own hdm hkl hXok
  have hLM := less_may hdm K
  have hOM := set_keep hdm hkl hXok
  have hSB := set_back hkl X
  have hLl := List.length_eraseIdx (l := D) (i := K)
  rw [if_pos hkl] at hLl
  obtain ⟨kx, hkx, ekx⟩ := nameAt_mem hkl
  have hkz := hdz kx hkx
  rw [← ekx] at hkz
  have hLz : ∀ y ∈ D.eraseIdx K, y.f1.size ≤ 1048576 := fun y hy => hdz y (List.mem_of_mem_eraseIdx hy)
  have hOz : ∀ y ∈ D.set K ⟨X, nameAt D K⟩, y.f1.size ≤ 1048576 := fun y hy => by
    rcases List.mem_or_eq_of_mem_set hy with h | h
    · exact hdz y h
    · rw [h]; exact hkz
  have hOl : (D.set K ⟨X, nameAt D K⟩).length = D.length := List.length_set ..
  have hOn : nameAt (D.set K ⟨X, nameAt D K⟩) K = nameAt D K ∧ inoAt (D.set K ⟨X, nameAt D K⟩) K = X := by
    have h1 : K < (D.set K ⟨X, nameAt D K⟩).length := by rw [hOl]; exact hkl
    rw [(at_get h1).1, (at_get h1).2, List.getElem_set_self]
    exact ⟨rfl, rfl⟩
  obtain ⟨kin, hkin⟩ : ∃ x, inoAt D K = x := ⟨_, rfl⟩
  obtain ⟨knm, hknm⟩ : ∃ x, nameAt D K = x := ⟨_, rfl⟩
  rw [hkin] at hRK hIK hSK hSB
  rw [hknm] at hRK hIK hSK hSB hOM hkz hOz hOl hOn
  obtain ⟨LS, hLS⟩ : ∃ x, D.eraseIdx K = x := ⟨_, rfl⟩
  rw [hLS] at hRK hIK hLM hLz hLl
  obtain ⟨OT, hOT⟩ : ∃ x, D.set K ⟨X, knm⟩ = x := ⟨_, rfl⟩
  rw [hOT] at hSK hOM hSB hOz hOl hOn
  have HK := Aside0.mk hkl
  have HKI := Aside0.mk (And.intro hkin hknm)
  have HRK := Aside0.mk hRK
  have HIK := Aside0.mk hIK
  have HSK := Aside0.mk hSK
  have HLM := Aside0.mk hLM
  have HOM := Aside0.mk hOM
  have HSB := Aside0.mk hSB
  have HLS := Aside0.mk (show LS = LS from rfl)
  have HKZ := Aside0.mk hkz
  have HLZ2 := Aside0.mk hLz
  have HLZ3 := Aside0.mk (show ∀ y ∈ LS, y.f1.size ≤ 140737488351232 from fun y hy => Nat.le_trans (hLz y hy) (by decide))
  have HLL2 := Aside0.mk (show LS.length ≤ 1048576 by omega)
  have HOZ3 := Aside0.mk (show ∀ y ∈ OT, y.f1.size ≤ 140737488351232 from fun y hy => Nat.le_trans (hOz y hy) (by decide))
  have HOTL := Aside0.mk hOl
  have HO0 := Aside0.mk (show 0 < OT.length by omega)
  have HKO := Aside0.mk (show K < OT.length by omega)
  have HON := Aside0.mk hOn.1
  have HOK := Aside0.mk hOn.2
  have hwL : IntKind.wrap .i64 ((D.length : Int) - 1) = (LS.length : Int) := (IntWalk.i64_in _ ⟨by omega, by omega⟩).trans (by omega)
  have hk0 : (0 : Int) ≤ (K : Int) := Int.natCast_nonneg _
  have hk1 : (K : Int) < (D.length : Int) := by omega
  have hD0 : ¬ ((D.length : Int) = 0) := by omega
  have hD0b : ((D.length : Int) == 0) = false := beq_eq_false_iff_ne.2 hD0
  have htm : Int.tmod (g : Int) (D.length : Int) = (K : Int) := by rw [← hK]; exact (Int.ofNat_tmod g D.length).symm
  have htx : Int.tmod (g : Int) 64 = ((g % 64 : Nat) : Int) := (Int.ofNat_tmod g 64).symm
  have hwg : IntKind.wrap .i64 (g : Int) = (g : Int) := IntWalk.i64_in _ ⟨by omega, by omega⟩
  have hwk : IntKind.wrap .i64 (K : Int) = (K : Int) := IntWalk.i64_in _ ⟨by omega, by omega⟩
  have hw6 : IntKind.wrap .i64 ((g % 64 : Nat) : Int) = ((g % 64 : Nat) : Int) := IntWalk.i64_in _ ⟨by omega, by omega⟩
  have hwX : IntKind.wrap .i64 (1 + ((g % 64 : Nat) : Int)) = X := by rw [hX]; exact (IntWalk.i64_in _ ⟨by omega, by omega⟩).trans (by omega)
  obtain ⟨g6, hg6⟩ : ∃ q, g % 64 = q := ⟨_, rfl⟩
  rw [hg6] at htx hw6 hwX
  clear hn hK hkl hX hXok hRK hIK hSK hLM hOM hSB hLl hkx ekx hkz hLz hOz hOl hOn hkin hknm hLS hOT hg6
  clear hr hl hz hs hg hT hdz hD hd64
  go_enter Tryd.func8, Tryd.ntmps8
  go_wp2_with (first
    | (have hz := HB2.out; clear hz; go_at_call 15; refine (may_any w2 Bd cd D R2.out (Utf8Tabs_below HT.out HB2.out)).mono ?_; rw [HDM.out]; rintro e w3 ⟨rfl, hb⟩; have HB3 := Aside0.mk (below_step HB2.out hb); have BG3 := Aside0.mk (blk_below BG2.out hb); have R3 := Aside0.mk (R2.out.below hb); clear hb)
    | (have hz := HB1.out; clear hz; go_at_call 26; refine (built_any A c l w1 (HR.out.below HB1.out) HL.out HZ.out (Utf8Tabs_below HT.out HB1.out)).mono ?_; rw [HD.out]; rintro e w2 ⟨v, rfl, ho, hb⟩; obtain ⟨Bd, cd, rfl⟩ := own_slice ho; have R2 := Aside0.mk (own_row ho HDZ3.out); have CD := Aside0.mk (own_cap ho); have HB2 := Aside0.mk (below_step HB1.out hb); have BG2 := Aside0.mk (blk_below BG1.out hb); clear hb ho)
    | ((with_reducible refine gate_dst (N := 4) rfl ?_); refine box_event ?hg (N := 4) ?hd (cs := cellsE a s) (t := 42) ?hr ?_; (case hd => rfl); (case hg => rfl); (case hr => first | (go_simp; done) | (go_simp; rfl) | kernel_rfl); intro gg hg w1 hbox hb; have HB1 := Aside0.mk (hb); have BG1 := Aside0.mk (hbox); clear hb hbox hg))
  go_loopw [9] (fun i wr => ∃ j : Nat, j ≤ D.length ∧ i = .int .i64 j ∧ Aside0 (Below w3.heap.size w3 wr)) (fun i _ => D.length - (intOf i).toNat)
  case atStart => exact ⟨0, Nat.zero_le _, rfl, ⟨Below.refl _ _⟩⟩
  case round =>
    obtain ⟨j, hj, rfl, HW⟩ := hrel
    by_cases hlt : j < D.length
    · have hlt' : (j : Int) < (D.length : Int) := by omega
      have hj0' : (0 : Int) ≤ (j : Int) := Int.natCast_nonneg _
      have hDL := HDL.out
      obtain ⟨ad, hAd, q0, q1⟩ := (R3.out.below HW.out).at_ hlt
      cases hAd
      obtain ⟨hAT, hIS⟩ := find_own HDM.out hlt
      obtain ⟨nx, hnx, enx⟩ := nameAt_mem hlt
      have hnz := HDZ.out nx hnx
      rw [← enx] at hnz
      obtain ⟨nm, hnm⟩ : ∃ x, nameAt D j = x := ⟨_, rfl⟩
      rw [hnm] at q1 hAT hIS hnz
      have HAT := Aside0.mk hAT
      have HIS := Aside0.mk hIS
      have HNZ := Aside0.mk hnz
      clear hAT hIS hnz hnm hnx enx
      go_wp2_with (first
    | (go_at_call 18; refine (find_any (some ad) cd D nm wr (R3.out.below HW.out) HDL.out HDZ.out HNZ.out).mono ?_; rw [HAT.out, HIS.out]; rintro e wn ⟨rfl, hb⟩; have HWN := Aside0.mk (below_then HW.out HW.out.size hb); clear hb))
      go_roundw
      case rel => exact ⟨j + 1, by omega, by go_num, HWN⟩
      case measure => simp [intOf]; omega
    · have hjn : j = D.length := by omega
      subst hjn
      clear hlt hj
      have hDL := HDL.out
      obtain ⟨wl, hwl⟩ : ∃ x, wr = x := ⟨_, rfl⟩
      rw [hwl] at HW ⊢
      have HBL := Aside0.mk (below_step HB3.out HW.out)
      have RL := Aside0.mk (R3.out.below HW.out)
      have BGL := Aside0.mk (blk_below BG3.out HW.out)
      have d1 : wl.cell? ⟨gg, 1, none⟩ = some (.string s) := (blk_cell BGL.out 1).trans (cellE_one a s)
      have d0 : wl.cell? ⟨gg, 0, none⟩ = some (.int .i64 a) := (blk_cell BGL.out 0).trans (cellE_zero a s)
      clear hwl HW BG1 BG2 BG3 R2 R3 HB1 HB2 HB3
      obtain ⟨ad, hAd, c0, c1⟩ := RL.out.at_ HK.out
      cases hAd
      rw [HKI.out.1] at c0
      rw [HKI.out.2] at c1
      go_wp2_with (first
    | (have hz := Z8.out; clear hz; go_at_call 17; refine (wakes_true wz8 (Utf8Tabs_below HT.out (below_then HBL.out HBL.out.size Z8.out))).mono ?_; rintro e wz9 ⟨rfl, hb⟩; have Z9 := Aside0.mk (below_then Z8.out Z8.out.size hb); clear hb)
    | (have hz := Z7.out; clear hz; go_at_call 14; refine (same_call wz7 (some ⟨g11, 0, none⟩) (some ad) c11 cd D HDL6.out R13.out (RL.out.below Z7.out) C13.out CD.out).mono ?_; rintro e wz8 ⟨rfl, hb⟩; have Z8 := Aside0.mk (below_then Z7.out Z7.out.size hb); clear hb)
    | (have hz := Z6.out; clear hz; (with_reducible refine gate_store (t := 3) (p := 243) (v := .tmp 241) rfl ?_); refine ev_store (by rfl) 3 (.tmp 243) (.tmp 241) (by rfl) g11 (K * 2) cur11.toList [.int .i64 kin] (.int .i64 kin) (by kernel_rfl) (by kernel_rfl) (by rfl) 42 BG12.out sizeInt (by have := CS.out; have := CN.out; have := HKO.out; simp only [List.length_cons, List.length_nil]; omega) (by simp [Value.oneCell']) ?_; intro wz7 hbox hg; rw [show [Value.int .i64 kin].length = 1 from rfl, list_set (by have := CS.out; have := CN.out; have := HKO.out; omega)] at hbox; have ho := own_of (l := OT.set K ⟨kin, knm⟩) (base := wz4.heap.size) GB.out hbox (by rw [List.length_set]; exact CN.out) CM.out (by rw [List.length_set]; exact CS.out) (by rw [List.length_set, List.take_set, CT.out, rowsE_set kin knm OT K HKO.out HON.out]); rw [HSB.out] at ho; have R13 := Aside0.mk (own_row ho HDZ3.out); have C13 := Aside0.mk (own_cap ho); have Z7 := Aside0.mk (Z6.out.grown hg Z6.out.size (fun k e => by cases e; exact Nat.le_trans Z4.out.size GB.out)); clear hbox hg ho)
    | (have hz := Z5.out; clear hz; go_at_call 15; have hmo := may_any wz5 (some ⟨g11, 0, none⟩) c11 OT R11.out (Utf8Tabs_below HT.out (below_then HBL.out HBL.out.size Z5.out)); rw [HOTL.out] at hmo; refine hmo.mono ?_; rw [HOM.out]; rintro e wz6 ⟨rfl, hb⟩; have BG12 := Aside0.mk (blk_below BG11.out hb); have f0 := pw_cell_below hb f0; have S56 := Aside0.mk (hb); have Z6 := Aside0.mk (below_then Z5.out Z5.out.size hb); have c0 := pw_cell_below hb c0; have c1 := pw_cell_below hb c1; clear hb hmo)
    | (have hz := Z4.out; clear hz; go_at_call 21; refine (set_all (some ad) cd D wz4 (RL.out.below Z4.out) HDL2.out HDZ2.out (Utf8Tabs_below HT.out (below_then HBL.out HBL.out.size Z4.out)) knm X HKZ.out).mono ?_; rw [HSK.out]; rintro e wz5 ⟨v, rfl, ho, hb⟩; dsimp only at ho; obtain ⟨g11, c11, cur11, hv11, hgb11, hh11, hn11, hm11, hs11, ht11⟩ := own_form ho HO0.out; subst hv11; have R11 := Aside0.mk (own_row ho HOZ3.out); rw [HOTL.out]; have GB := Aside0.mk (hgb11); have BG11 := Aside0.mk (show wz5.heap[g11]? = some (.cells cur11.toList.toArray 42 (0, 0)) from by simpa using hh11); have CN := Aside0.mk (hn11); have CM := Aside0.mk (hm11); have CS := Aside0.mk (show cur11.toList.length = c11 * 2 from by simpa using hs11); have CT := Aside0.mk (ht11); obtain ⟨ad11, e11, f0, f1⟩ := R11.out.at_ HKO.out; cases e11; rw [HOK.out, add_plain] at f0; have Z5 := Aside0.mk (below_then Z4.out Z4.out.size hb); have c0 := pw_cell_below hb c0; have c1 := pw_cell_below hb c1; clear hb ho hgb11 hh11 hn11 hm11 hs11 ht11 f1)
    | (have hz := Z3.out; clear hz; go_at_call 14; refine (same_call wz3 B9 (some ad) c9 cd D HDL6.out R9.out (RL.out.below Z3.out) C9.out CD.out).mono ?_; rintro e wz4 ⟨rfl, hb⟩; have Z4 := Aside0.mk (below_then Z3.out Z3.out.size hb); have c0 := pw_cell_below hb c0; have c1 := pw_cell_below hb c1; clear hb)
    | (have hz := Z2.out; clear hz; go_at_call 20; refine (ins_all B7 c7 LS wz2 R72.out HLL2.out HLZ2.out (Utf8Tabs_below HT.out (below_then HBL.out HBL.out.size Z2.out)) kin knm HKZ.out).mono ?_; rw [HIK.out]; rintro e wz3 ⟨v, rfl, ho, hb⟩; obtain ⟨B9, c9, rfl⟩ := own_slice ho; have R9 := Aside0.mk (own_row ho HDZ3.out); have C9 := Aside0.mk (own_cap ho); have Z3 := Aside0.mk (below_then Z2.out Z2.out.size hb); have c0 := pw_cell_below hb c0; have c1 := pw_cell_below hb c1; clear hb ho)
    | (have hz := Z2.out; clear hz; (with_reducible refine gate_dst (N := 184) rfl ?_); refine wpList_load_pair rfl 42 (.tmp 183) rfl (ad.add (K * 2)) (by kernel_rfl) _ _ _ c0 c1 hu42.out rfl (by kernel_rfl) ?_)
    | (have hz := Z1.out; clear hz; go_at_call 15; refine (may_any wz1 B7 c7 LS R7.out (Utf8Tabs_below HT.out (below_then HBL.out HBL.out.size Z1.out))).mono ?_; rw [HLM.out]; rintro e wz2 ⟨rfl, hb⟩; have R72 := Aside0.mk (R7.out.below hb); have Z2 := Aside0.mk (below_then Z1.out Z1.out.size hb); have c0 := pw_cell_below hb c0; have c1 := pw_cell_below hb c1; clear hb)
    | (have hz := Z0.out; clear hz; go_at_call 23; refine (rem_all (some ad) cd D wz0 (RL.out.below Z0.out) HDL2.out HDZ2.out (Utf8Tabs_below HT.out (below_then HBL.out HBL.out.size Z0.out)) knm HKZ.out).mono ?_; rw [HRK.out]; rintro e wz1 ⟨v, rfl, ho, hb⟩; dsimp only at ho; obtain ⟨B7, c7, rfl⟩ := own_slice ho; have R7 := Aside0.mk (own_row ho HLZ3.out); have Z1 := Aside0.mk (below_then Z0.out Z0.out.size hb); have c0 := pw_cell_below hb c0; have c1 := pw_cell_below hb c1; clear hb ho)
    | (have hz := HBL.out; clear hz; go_at_call 20; refine (ins_all (some ad) cd D wl RL.out HDL2.out HDZ2.out (Utf8Tabs_below HT.out HBL.out) a s HS.out).mono ?_; rw [HIX.out, HIR.out]; rintro e wz0 ⟨v, rfl, ho, hb⟩; have Z0 := Aside0.mk (hb); have c0 := pw_cell_below hb c0; have c1 := pw_cell_below hb c1; have d0 := pw_cell_below hb d0; have d1 := pw_cell_below hb d1; clear hb ho)
    | (have hz := HBL.out; clear hz; (with_reducible refine gate_dst (N := 65) rfl ?_); refine wpList_load_row rfl 42 (.tmp 4) (by kernel_rfl) gg (by kernel_rfl) _ _ _ _ BGL.out hu42.out rfl (sizeEntry a s) ?_))
      go_ret
      exact ⟨rfl, below_then HBL.out HBL.out.size Z9.out⟩
set_option maxHeartbeats 16000000 in
set_option maxRecDepth 100000 in
theorem maps_yes_none (A : Option Addr) (c : Nat) (l : List S42) (a : Int) (s : ByteArray) (g : Nat) (w : World) (hr : Row w A l) (hl : l.length ≤ 1048576) (hz : ∀ x ∈ l, x.f1.size ≤ 1048576) (hs : s.size ≤ 1048576) (hg : g < 256) (hT : Lib.Utf8Tabs 1 2 w) (he : insErr (bE l) ⟨a, s⟩ = none) (hn : bE l = []) :
    Calls Tryd.prog 8 #[.slice A l.length c, .agg (cellsE a s), .int .u8 (g : Int)] w fun e w' => e = .returned (.bool true) ∧ Below w.heap.size w w' := by
  have HR := Aside0.mk hr
  have HL := Aside0.mk hl
  have HZ := Aside0.mk hz
  have HS := Aside0.mk hs
  have HSZ := Aside0.mk (show s.size ≤ 17592186044416 by omega)
  have HT := Aside0.mk hT
  have hu42 := Aside0.mk Tryd.underlying42
  have hdm := bE_may l
  have hdz : ∀ y ∈ bE l, y.f1.size ≤ 1048576 := fun y hy => hz y (bE_mem hy)
  obtain ⟨D, hD⟩ : ∃ D, bE l = D := ⟨_, rfl⟩
  rw [hD] at hdm hdz he hn
  have HD := Aside0.mk hD
  have hd64 := ((mayE_iff D).1 hdm).1
  have HDM := Aside0.mk hdm
  have HDL := Aside0.mk (show D.length ≤ 9223372036854775807 by omega)
  have HDL6 := Aside0.mk (show D.length ≤ 9223372036854775806 by omega)
  have HDL2 := Aside0.mk (show D.length ≤ 1048576 by omega)
  have HDZ := Aside0.mk (show ∀ y ∈ D, y.f1.size ≤ 17592186044416 from fun y hy => Nat.le_trans (hdz y hy) (by decide))
  have HDZ2 := Aside0.mk hdz
  have HDZ3 := Aside0.mk (show ∀ y ∈ D, y.f1.size ≤ 140737488351232 from fun y hy => Nat.le_trans (hdz y hy) (by decide))
  obtain ⟨hMm, hMa, hMi, hMe⟩ := ins_may_yes hdm he
  have hRM := rem_ins hdm he
  have hIR := insR_yes he
  have hat := atE_le D s
  have hMl := insE_length (l := D) ⟨a, s⟩ hat
  have hMc := insE_at D ⟨a, s⟩ hat
  dsimp only at hMm hMa hMi hMe hRM hIR hMc
  have hMz : ∀ y ∈ insE D (atE D s) ⟨a, s⟩, y.f1.size ≤ 1048576 := fun y hy => by
    simp only [insE, List.mem_append, List.mem_singleton] at hy
    rcases hy with (h | h) | h
    · exact hdz y (List.mem_of_mem_take h)
    · rw [h]; exact hs
    · exact hdz y (List.mem_of_mem_drop h)
  obtain ⟨J, hJ⟩ : ∃ J, atE D s = J := ⟨_, rfl⟩
  rw [hJ] at hMm hMa hMi hMe hRM hIR hMl hMc hMz hat
  obtain ⟨M, hM⟩ : ∃ M, insE D J ⟨a, s⟩ = M := ⟨_, rfl⟩
  rw [hM] at hMm hMa hMi hMe hRM hIR hMl hMc hMz
  have HMM := Aside0.mk hMm
  have HMA := Aside0.mk hMa
  have HMI := Aside0.mk hMi
  have HRM := Aside0.mk hRM
  have HIX := Aside0.mk (show (insR D ⟨a, s⟩).2 = 0 by rw [hIR])
  have HIR := Aside0.mk (show (insR D ⟨a, s⟩).1 = M by rw [hIR])
  have HM0 := Aside0.mk (show 0 < M.length by omega)
  have HML64 := Aside0.mk (show M.length ≤ 9223372036854775807 by omega)
  have HML2 := Aside0.mk (show M.length ≤ 1048576 by omega)
  have HMZ := Aside0.mk (show ∀ y ∈ M, y.f1.size ≤ 17592186044416 from fun y hy => Nat.le_trans (hMz y hy) (by decide))
  have HMZ2 := Aside0.mk hMz
  have HMZ3 := Aside0.mk (show ∀ y ∈ M, y.f1.size ≤ 140737488351232 from fun y hy => Nat.le_trans (hMz y hy) (by decide))
  have HJM := Aside0.mk (show J < M.length by omega)
  have HMC := Aside0.mk hMc
  have HW1 := Aside0.mk (show IntKind.wrap .i64 ((D.length : Int) + 1) = (M.length : Int) from (IntWalk.i64_in _ ⟨by omega, by omega⟩).trans (by omega))
  have hj0 : (0 : Int) ≤ (J : Int) := Int.natCast_nonneg _
  have hj1 : (J : Int) < (M.length : Int) := by omega
  clear hMm hMa hMi hMe hRM hIR hMl hMc hMz hat hJ hM he
  have HD0 := Aside0.mk (show (D.length : Int) = 0 by rw [hn]; rfl)
  have HRN := Aside0.mk (show remR D s = ([], 0, 32) by rw [hn]; exact rem_nil s)
  clear hn
  clear hr hl hz hs hg hT hdz hD hd64
  go_enter Tryd.func8, Tryd.ntmps8
  go_wp2_with (first
    | (have hz := HB2.out; clear hz; go_at_call 15; refine (may_any w2 Bd cd D R2.out (Utf8Tabs_below HT.out HB2.out)).mono ?_; rw [HDM.out]; rintro e w3 ⟨rfl, hb⟩; have HB3 := Aside0.mk (below_step HB2.out hb); have BG3 := Aside0.mk (blk_below BG2.out hb); have R3 := Aside0.mk (R2.out.below hb); clear hb)
    | (have hz := HB1.out; clear hz; go_at_call 26; refine (built_any A c l w1 (HR.out.below HB1.out) HL.out HZ.out (Utf8Tabs_below HT.out HB1.out)).mono ?_; rw [HD.out]; rintro e w2 ⟨v, rfl, ho, hb⟩; obtain ⟨Bd, cd, rfl⟩ := own_slice ho; have R2 := Aside0.mk (own_row ho HDZ3.out); have CD := Aside0.mk (own_cap ho); have HB2 := Aside0.mk (below_step HB1.out hb); have BG2 := Aside0.mk (blk_below BG1.out hb); clear hb ho)
    | ((with_reducible refine gate_dst (N := 4) rfl ?_); refine box_event ?hg (N := 4) ?hd (cs := cellsE a s) (t := 42) ?hr ?_; (case hd => rfl); (case hg => rfl); (case hr => first | (go_simp; done) | (go_simp; rfl) | kernel_rfl); intro gg hg w1 hbox hb; have HB1 := Aside0.mk (hb); have BG1 := Aside0.mk (hbox); clear hb hbox hg))
  go_loopw [9] (fun i wr => ∃ j : Nat, j ≤ D.length ∧ i = .int .i64 j ∧ Aside0 (Below w3.heap.size w3 wr)) (fun i _ => D.length - (intOf i).toNat)
  case atStart => exact ⟨0, Nat.zero_le _, rfl, ⟨Below.refl _ _⟩⟩
  case round =>
    obtain ⟨j, hj, rfl, HW⟩ := hrel
    by_cases hlt : j < D.length
    · exact absurd hlt (by have := HD0.out; omega)
    · have hjn : j = D.length := by omega
      subst hjn
      clear hlt hj
      have hDL := HDL.out
      obtain ⟨wl, hwl⟩ : ∃ x, wr = x := ⟨_, rfl⟩
      rw [hwl] at HW ⊢
      have HBL := Aside0.mk (below_step HB3.out HW.out)
      have RL := Aside0.mk (R3.out.below HW.out)
      have BGL := Aside0.mk (blk_below BG3.out HW.out)
      have d1 : wl.cell? ⟨gg, 1, none⟩ = some (.string s) := (blk_cell BGL.out 1).trans (cellE_one a s)
      have d0 : wl.cell? ⟨gg, 0, none⟩ = some (.int .i64 a) := (blk_cell BGL.out 0).trans (cellE_zero a s)
      clear hwl HW BG1 BG2 BG3 R2 R3 HB1 HB2 HB3
      go_wp2_with (first
    | (have hz := Y1.out; clear hz; go_at_call 18; refine (find_any (some ⟨g4, 0, none⟩) c4 M s wy1 R4.out HML64.out HMZ.out HSZ.out).mono ?_; rw [HMA.out, HMI.out]; rintro e wy2 ⟨rfl, hb⟩; have R5 := Aside0.mk (R4.out.below hb); have BG5 := Aside0.mk (blk_below BG4.out hb); have Y2 := Aside0.mk (below_then Y1.out Y1.out.size hb); have d0 := pw_cell_below hb d0; have d1 := pw_cell_below hb d1; clear hb)
    | (have hz := HBL.out; clear hz; go_at_call 20; refine (ins_all Bd cd D wl RL.out HDL2.out HDZ2.out (Utf8Tabs_below HT.out HBL.out) a s HS.out).mono ?_; rw [HIX.out, HIR.out]; rintro e wy1 ⟨v, rfl, ho, hb⟩; obtain ⟨B4, c4, rfl⟩ := own_slice ho; obtain ⟨g4, cap4, cur4, hv4, _⟩ := own_form ho HM0.out; injection hv4 with h41 h42 h43; subst h41 h43; have R4 := Aside0.mk (own_row ho HMZ3.out); clear h42; have Y1 := Aside0.mk (hb); have d0 := pw_cell_below hb d0; have d1 := pw_cell_below hb d1; have BG4 := Aside0.mk (blk_below BGL.out hb); clear hb ho)
    | (have hz := HBL.out; clear hz; (with_reducible refine gate_dst (N := 65) rfl ?_); refine wpList_load_row rfl 42 (.tmp 4) (by kernel_rfl) gg (by kernel_rfl) _ _ _ _ BGL.out hu42.out rfl (sizeEntry a s) ?_))
      obtain ⟨ad4, hAd4, k0, k1⟩ := R5.out.at_ HJM.out
      cases hAd4
      rw [HMC.out.1, add_plain] at k0
      rw [HMC.out.2, add_plain] at k1
      have K0 := Aside0.mk k0
      have K1 := Aside0.mk k1
      refine wp_region_held_drew (S := fun W => Below wy2.heap.size wy2 W) (by kernel_rfl) (below_drew (Below.refl wy2.heap.size wy2)) (fun hHeld => ?_)
      refine wpAnyH_take (i := 0) (oi := ⟨some 78, _, _, _, _, _⟩) (v := (.bool true)) rfl (by kernel_rfl) (by kernel_rfl) (by kernel_rfl) (fun _ _ _ h => h) (Or.inl ⟨by rfl, fun W hS => by go_simp⟩) hHeld ?_
      (try simp only [Act.put, List.setIfInBounds_toArray, List.set_cons_zero, List.set_cons_succ])
      refine wpAnyH_take (i := 1) (oi := ⟨some 79, _, _, _, _, _⟩) (v := (.bool false)) rfl (by kernel_rfl) (by kernel_rfl) (by kernel_rfl) (fun _ _ _ h => h) (Or.inl ⟨by rfl, fun W hS => by go_simp⟩) hHeld ?_
      (try simp only [Act.put, List.setIfInBounds_toArray, List.set_cons_zero, List.set_cons_succ])
      refine wpAnyH_take (i := 2) (oi := ⟨some 80, _, _, _, _, _⟩) (v := (.bool false)) rfl (by kernel_rfl) (by kernel_rfl) (by kernel_rfl) (fun _ _ _ h => h) (Or.inl ⟨by rfl, fun W hS => by go_simp⟩) hHeld ?_
      (try simp only [Act.put, List.setIfInBounds_toArray, List.set_cons_zero, List.set_cons_succ])
      refine wpAnyH_take (i := 3) (oi := ⟨some 81, _, _, _, _, _⟩) (v := (.slice (some ⟨g4, 0, none⟩) M.length c4)) rfl (by kernel_rfl) (by kernel_rfl) (by kernel_rfl) (fun _ _ _ h => h) (Or.inl ⟨by rfl, fun W hS => by go_simp⟩) hHeld ?_
      (try simp only [Act.put, List.setIfInBounds_toArray, List.set_cons_zero, List.set_cons_succ])
      refine wpAnyH_take (i := 4) (oi := ⟨some 82, _, _, _, _, _⟩) (v := (.int .i64 (J : Int))) rfl (by kernel_rfl) (by kernel_rfl) (by kernel_rfl) (fun _ _ _ h => h) (Or.inl ⟨by rfl, fun W hS => by go_simp⟩) hHeld ?_
      (try simp only [Act.put, List.setIfInBounds_toArray, List.set_cons_zero, List.set_cons_succ])
      refine wpAnyH_take (i := 5) (oi := ⟨some 83, _, _, _, _, _⟩) (v := (.pointer (some ⟨g4, J * 2, none⟩))) rfl (by kernel_rfl) (by kernel_rfl) (by kernel_rfl) (fun _ _ _ h => h) (Or.inl ⟨by rfl, fun W hS => by go_simp⟩) hHeld ?_
      (try simp only [Act.put, List.setIfInBounds_toArray, List.set_cons_zero, List.set_cons_succ])
      refine wpAnyH_take (i := 6) (oi := ⟨some 84, _, _, _, _, _⟩) (v := (.agg #[.int .i64 a, .string s])) rfl (by kernel_rfl) (by kernel_rfl) (by kernel_rfl) (fun _ _ _ h => h) (Or.inl ⟨by rfl, fun W hS => by have k0 := pw_cell_below hS K0.out; have k1 := pw_cell_below hS K1.out; have hl := run_load_pair W ⟨g4, J * 2, none⟩ 42 _ _ _ k0 k1 Tryd.underlying42 rfl (by kernel_rfl); go_simp⟩) hHeld ?_
      (try simp only [Act.put, List.setIfInBounds_toArray, List.set_cons_zero, List.set_cons_succ])
      refine wpAnyH_take (i := 7) (oi := ⟨some 85, _, _, _, _, _⟩) rfl (by kernel_rfl) (by kernel_rfl) (by kernel_rfl) (fun _ _ _ h => h) (yieldsIf_load_mid (by rfl) 42 (.tmp 4) rfl gg 0 rfl [.int .i64 a, .string s] _ (fun W hS => rangeAt_blk (blk_below BG5.out hS)) Tryd.underlying42 rfl (by kernel_rfl)) hHeld ?_
      (try simp only [Act.put, List.setIfInBounds_toArray, List.set_cons_zero, List.set_cons_succ])
      refine wpAnyH_take (i := 8) (oi := ⟨some 86, _, _, _, _, _⟩) (v := (.bool false)) rfl (by kernel_rfl) (by kernel_rfl) (by kernel_rfl) (fun _ _ _ h => h) (Or.inl ⟨by rfl, fun W hS => by have hq := ent_neq W a s; go_simp⟩) hHeld ?_
      (try simp only [Act.put, List.setIfInBounds_toArray, List.set_cons_zero, List.set_cons_succ])
      refine wpAnyH_take (i := 9) (oi := ⟨some 87, _, _, _, _, _⟩) (v := (.bool false)) rfl (by kernel_rfl) (by kernel_rfl) (by kernel_rfl) (fun _ _ _ h => h) (Or.inl ⟨by rfl, fun W hS => by go_simp⟩) hHeld ?_
      (try simp only [Act.put, List.setIfInBounds_toArray, List.set_cons_zero, List.set_cons_succ])
      refine wpAnyH_take (i := 10) (oi := ⟨some 88, _, _, _, _, _⟩) (v := (.bool false)) rfl (by kernel_rfl) (by kernel_rfl) (by kernel_rfl) (fun _ _ _ h => h) (Or.inl ⟨by rfl, fun W hS => by go_simp⟩) hHeld ?_
      (try simp only [Act.put, List.setIfInBounds_toArray, List.set_cons_zero, List.set_cons_succ])
      refine wpAnyH_take (i := 11) (oi := ⟨some 89, _, _, _, _, _⟩) (v := (.slice (some ⟨g4, 0, none⟩) M.length c4)) rfl (by kernel_rfl) (by kernel_rfl) (by kernel_rfl) (fun _ _ _ h => h) (Or.inl ⟨by rfl, fun W hS => by go_simp⟩) hHeld ?_
      (try simp only [Act.put, List.setIfInBounds_toArray, List.set_cons_zero, List.set_cons_succ])
      refine wpAnyH_take (i := 12) (oi := ⟨some 90, _, _, _, _, _⟩) (v := (.int .i64 (M.length : Int))) rfl (by kernel_rfl) (by kernel_rfl) (by kernel_rfl) (fun _ _ _ h => h) (Or.inl ⟨by rfl, fun W hS => by go_simp⟩) hHeld ?_
      (try simp only [Act.put, List.setIfInBounds_toArray, List.set_cons_zero, List.set_cons_succ])
      refine wpAnyH_take (i := 13) (oi := ⟨some 91, _, _, _, _, _⟩) (v := (.slice Bd D.length cd)) rfl (by kernel_rfl) (by kernel_rfl) (by kernel_rfl) (fun _ _ _ h => h) (Or.inl ⟨by rfl, fun W hS => by go_simp⟩) hHeld ?_
      (try simp only [Act.put, List.setIfInBounds_toArray, List.set_cons_zero, List.set_cons_succ])
      refine wpAnyH_take (i := 14) (oi := ⟨some 92, _, _, _, _, _⟩) (v := (.int .i64 (D.length : Int))) rfl (by kernel_rfl) (by kernel_rfl) (by kernel_rfl) (fun _ _ _ h => h) (Or.inl ⟨by rfl, fun W hS => by go_simp⟩) hHeld ?_
      (try simp only [Act.put, List.setIfInBounds_toArray, List.set_cons_zero, List.set_cons_succ])
      refine wpAnyH_take (i := 15) (oi := ⟨some 93, _, _, _, _, _⟩) (v := (.int .i64 (M.length : Int))) rfl (by kernel_rfl) (by kernel_rfl) (by kernel_rfl) (fun _ _ _ h => h) (Or.inl ⟨by rfl, fun W hS => by have hw := HW1.out; go_simp⟩) hHeld ?_
      (try simp only [Act.put, List.setIfInBounds_toArray, List.set_cons_zero, List.set_cons_succ])
      refine wpAnyH_take (i := 16) (oi := ⟨some 94, _, _, _, _, _⟩) (v := (.bool false)) rfl (by kernel_rfl) (by kernel_rfl) (by kernel_rfl) (fun _ _ _ h => h) (Or.inl ⟨by rfl, fun W hS => by go_simp⟩) hHeld ?_
      (try simp only [Act.put, List.setIfInBounds_toArray, List.set_cons_zero, List.set_cons_succ])
      refine wpAnyH_take (i := 17) (oi := ⟨some 95, _, _, _, _, _⟩) (v := (.bool false)) rfl (by kernel_rfl) (by kernel_rfl) (by kernel_rfl) (fun _ _ _ h => h) (Or.inl ⟨by rfl, fun W hS => by go_simp⟩) hHeld ?_
      (try simp only [Act.put, List.setIfInBounds_toArray, List.set_cons_zero, List.set_cons_succ])
      refine wpAnyH_take (i := 18) (oi := ⟨some 96, _, _, _, _, _⟩) (v := (.bool false)) rfl (by kernel_rfl) (by kernel_rfl) (by kernel_rfl) (fun _ _ _ h => h) (Or.inl ⟨by rfl, fun W hS => by go_simp⟩) hHeld ?_
      (try simp only [Act.put, List.setIfInBounds_toArray, List.set_cons_zero, List.set_cons_succ])
      refine wpAnyH_take (i := 19) (oi := ⟨some 97, _, _, _, _, _⟩) (v := (.slice (some ⟨g4, 0, none⟩) M.length c4)) rfl (by kernel_rfl) (by kernel_rfl) (by kernel_rfl) (fun _ _ _ h => h) (Or.inl ⟨by rfl, fun W hS => by go_simp⟩) hHeld ?_
      (try simp only [Act.put, List.setIfInBounds_toArray, List.set_cons_zero, List.set_cons_succ])
      refine wpAnyH_ready (rs := [20]) (by kernel_rfl) (by simp) ?_
      refine AllReadyH.cons rfl (fun K hK => ?_) AllReadyH.nil
      rw [if_pos (by rfl)]
      go_simp
      refine (may_any _ (some ⟨g4, 0, none⟩) c4 M (R5.out.below hHeld) (Utf8Tabs_below HT.out (below_then HBL.out HBL.out.size (below_then Y2.out Y2.out.size hHeld)))).mono ?_
      rw [HMM.out]
      rintro e wy3 ⟨rfl, hb⟩
      dsimp only
      refine hK.out _ _ (below_step hHeld hb) (fun hH => ?_)
      clear hK K hHeld hb
      have hHeld := hH
      clear hH
      (try simp only [Act.put, List.setIfInBounds_toArray, List.set_cons_zero, List.set_cons_succ])
      refine wpAnyH_take (i := 21) (oi := ⟨some 99, _, _, _, _, _⟩) (v := (.bool false)) rfl (by kernel_rfl) (by kernel_rfl) (by kernel_rfl) (fun _ _ _ h => h) (Or.inl ⟨by rfl, fun W hS => by go_simp⟩) hHeld ?_
      (try simp only [Act.put, List.setIfInBounds_toArray, List.set_cons_zero, List.set_cons_succ])
      refine wpAnyH_take (i := 22) (oi := ⟨some 100, _, _, _, _, _⟩) (v := (.bool false)) rfl (by kernel_rfl) (by kernel_rfl) (by kernel_rfl) (fun _ _ _ h => h) (Or.inl ⟨by rfl, fun W hS => by go_simp⟩) hHeld ?_
      (try simp only [Act.put, List.setIfInBounds_toArray, List.set_cons_zero, List.set_cons_succ])
      refine wpAnyH_done (by kernel_rfl) ?_ _
      (try simp only [Exit.then])
      have Y3 := Aside0.mk (below_then Y2.out Y2.out.size hHeld)
      have R6 := Aside0.mk (R5.out.below hHeld)
      have d0 := pw_cell_below hHeld d0
      have d1 := pw_cell_below hHeld d1
      clear hHeld k0 k1
      have hD0 := HD0.out
      go_wp2_with (first
    | (have hz := Z1.out; clear hz; go_at_call 17; refine (wakes_true wz1 (Utf8Tabs_below HT.out (below_then HBL.out HBL.out.size Z1.out))).mono ?_; rintro e wz9 ⟨rfl, hb⟩; have Z9 := Aside0.mk (below_then Z1.out Z1.out.size hb); clear hb)
    | (have hz := Z0.out; clear hz; go_at_call 23; refine (rem_all Bd cd D wz0 (RL.out.below Z0.out) HDL2.out HDZ2.out (Utf8Tabs_below HT.out (below_then HBL.out HBL.out.size Z0.out)) s HS.out).mono ?_; rw [HRN.out]; rintro e wz1 ⟨v, rfl, ho, hb⟩; have Z1 := Aside0.mk (below_then Z0.out Z0.out.size hb); clear hb ho)
    | (have hz := Y4.out; clear hz; go_at_call 14; refine (same_call wy4 B8 Bd c8 cd D HDL6.out R8.out (RL.out.below Y4.out) C8.out CD.out).mono ?_; rintro e wz0 ⟨rfl, hb⟩; have Z0 := Aside0.mk (below_then Y4.out Y4.out.size hb); have d0 := pw_cell_below hb d0; have d1 := pw_cell_below hb d1; clear hb)
    | (have hz := Y3.out; clear hz; go_at_call 23; refine (rem_all (some ⟨g4, 0, none⟩) c4 M wy3 R6.out HML2.out HMZ2.out (Utf8Tabs_below HT.out (below_then HBL.out HBL.out.size Y3.out)) s HS.out).mono ?_; rw [HRM.out]; rintro e wy4 ⟨v, rfl, ho, hb⟩; obtain ⟨B8, c8, rfl⟩ := own_slice ho; have R8 := Aside0.mk (own_row ho HDZ3.out); have C8 := Aside0.mk (own_cap ho); have Y4 := Aside0.mk (below_then Y3.out Y3.out.size hb); have d0 := pw_cell_below hb d0; have d1 := pw_cell_below hb d1; clear hb ho))
      go_ret
      exact ⟨rfl, below_then HBL.out HBL.out.size Z9.out⟩
set_option maxHeartbeats 16000000 in
set_option maxRecDepth 100000 in
theorem maps_yes_some (A : Option Addr) (c : Nat) (l : List S42) (a : Int) (s : ByteArray) (g : Nat) (w : World) (hr : Row w A l) (hl : l.length ≤ 1048576) (hz : ∀ x ∈ l, x.f1.size ≤ 1048576) (hs : s.size ≤ 1048576) (hg : g < 256) (hT : Lib.Utf8Tabs 1 2 w) (he : insErr (bE l) ⟨a, s⟩ = none) (hn : 0 < (bE l).length) :
    Calls Tryd.prog 8 #[.slice A l.length c, .agg (cellsE a s), .int .u8 (g : Int)] w fun e w' => e = .returned (.bool true) ∧ Below w.heap.size w w' := by
  have HR := Aside0.mk hr
  have HL := Aside0.mk hl
  have HZ := Aside0.mk hz
  have HS := Aside0.mk hs
  have HSZ := Aside0.mk (show s.size ≤ 17592186044416 by omega)
  have HT := Aside0.mk hT
  have hu42 := Aside0.mk Tryd.underlying42
  have hdm := bE_may l
  have hdz : ∀ y ∈ bE l, y.f1.size ≤ 1048576 := fun y hy => hz y (bE_mem hy)
  obtain ⟨D, hD⟩ : ∃ D, bE l = D := ⟨_, rfl⟩
  rw [hD] at hdm hdz he hn
  have HD := Aside0.mk hD
  have hd64 := ((mayE_iff D).1 hdm).1
  have HDM := Aside0.mk hdm
  have HDL := Aside0.mk (show D.length ≤ 9223372036854775807 by omega)
  have HDL6 := Aside0.mk (show D.length ≤ 9223372036854775806 by omega)
  have HDL2 := Aside0.mk (show D.length ≤ 1048576 by omega)
  have HDZ := Aside0.mk (show ∀ y ∈ D, y.f1.size ≤ 17592186044416 from fun y hy => Nat.le_trans (hdz y hy) (by decide))
  have HDZ2 := Aside0.mk hdz
  have HDZ3 := Aside0.mk (show ∀ y ∈ D, y.f1.size ≤ 140737488351232 from fun y hy => Nat.le_trans (hdz y hy) (by decide))
  obtain ⟨hMm, hMa, hMi, hMe⟩ := ins_may_yes hdm he
  have hRM := rem_ins hdm he
  have hIR := insR_yes he
  have hat := atE_le D s
  have hMl := insE_length (l := D) ⟨a, s⟩ hat
  have hMc := insE_at D ⟨a, s⟩ hat
  dsimp only at hMm hMa hMi hMe hRM hIR hMc
  have hMz : ∀ y ∈ insE D (atE D s) ⟨a, s⟩, y.f1.size ≤ 1048576 := fun y hy => by
    simp only [insE, List.mem_append, List.mem_singleton] at hy
    rcases hy with (h | h) | h
    · exact hdz y (List.mem_of_mem_take h)
    · rw [h]; exact hs
    · exact hdz y (List.mem_of_mem_drop h)
  obtain ⟨J, hJ⟩ : ∃ J, atE D s = J := ⟨_, rfl⟩
  rw [hJ] at hMm hMa hMi hMe hRM hIR hMl hMc hMz hat
  obtain ⟨M, hM⟩ : ∃ M, insE D J ⟨a, s⟩ = M := ⟨_, rfl⟩
  rw [hM] at hMm hMa hMi hMe hRM hIR hMl hMc hMz
  have HMM := Aside0.mk hMm
  have HMA := Aside0.mk hMa
  have HMI := Aside0.mk hMi
  have HRM := Aside0.mk hRM
  have HIX := Aside0.mk (show (insR D ⟨a, s⟩).2 = 0 by rw [hIR])
  have HIR := Aside0.mk (show (insR D ⟨a, s⟩).1 = M by rw [hIR])
  have HM0 := Aside0.mk (show 0 < M.length by omega)
  have HML64 := Aside0.mk (show M.length ≤ 9223372036854775807 by omega)
  have HML2 := Aside0.mk (show M.length ≤ 1048576 by omega)
  have HMZ := Aside0.mk (show ∀ y ∈ M, y.f1.size ≤ 17592186044416 from fun y hy => Nat.le_trans (hMz y hy) (by decide))
  have HMZ2 := Aside0.mk hMz
  have HMZ3 := Aside0.mk (show ∀ y ∈ M, y.f1.size ≤ 140737488351232 from fun y hy => Nat.le_trans (hMz y hy) (by decide))
  have HJM := Aside0.mk (show J < M.length by omega)
  have HMC := Aside0.mk hMc
  have HW1 := Aside0.mk (show IntKind.wrap .i64 ((D.length : Int) + 1) = (M.length : Int) from (IntWalk.i64_in _ ⟨by omega, by omega⟩).trans (by omega))
  have hj0 : (0 : Int) ≤ (J : Int) := Int.natCast_nonneg _
  have hj1 : (J : Int) < (M.length : Int) := by omega
  clear hMm hMa hMi hMe hRM hIR hMl hMc hMz hat hJ hM he
  obtain ⟨K, hK⟩ : ∃ K, g % D.length = K := ⟨_, rfl⟩
  have hkl : K < D.length := by rw [← hK]; exact Nat.mod_lt _ hn
  obtain ⟨X, hX⟩ : ∃ X : Int, X = ((1 + g % 64 : Nat) : Int) := ⟨_, rfl⟩
  have hXok : okIno X = true := by simp [okIno]; omega
  have hRK := rem_own hdm hkl
  have hIK := ins_back hdm hkl
  have hSK := set_own hdm hkl hXok
  have hLM := less_may hdm K
  have hOM := set_keep hdm hkl hXok
  have hSB := set_back hkl X
  have hLl := List.length_eraseIdx (l := D) (i := K)
  rw [if_pos hkl] at hLl
  obtain ⟨kx, hkx, ekx⟩ := nameAt_mem hkl
  have hkz := hdz kx hkx
  rw [← ekx] at hkz
  have hLz : ∀ y ∈ D.eraseIdx K, y.f1.size ≤ 1048576 := fun y hy => hdz y (List.mem_of_mem_eraseIdx hy)
  have hOz : ∀ y ∈ D.set K ⟨X, nameAt D K⟩, y.f1.size ≤ 1048576 := fun y hy => by
    rcases List.mem_or_eq_of_mem_set hy with h | h
    · exact hdz y h
    · rw [h]; exact hkz
  have hOl : (D.set K ⟨X, nameAt D K⟩).length = D.length := List.length_set ..
  have hOn : nameAt (D.set K ⟨X, nameAt D K⟩) K = nameAt D K ∧ inoAt (D.set K ⟨X, nameAt D K⟩) K = X := by
    have h1 : K < (D.set K ⟨X, nameAt D K⟩).length := by rw [hOl]; exact hkl
    rw [(at_get h1).1, (at_get h1).2, List.getElem_set_self]
    exact ⟨rfl, rfl⟩
  obtain ⟨kin, hkin⟩ : ∃ x, inoAt D K = x := ⟨_, rfl⟩
  obtain ⟨knm, hknm⟩ : ∃ x, nameAt D K = x := ⟨_, rfl⟩
  rw [hkin] at hRK hIK hSK hSB
  rw [hknm] at hRK hIK hSK hSB hOM hkz hOz hOl hOn
  obtain ⟨LS, hLS⟩ : ∃ x, D.eraseIdx K = x := ⟨_, rfl⟩
  rw [hLS] at hRK hIK hLM hLz hLl
  obtain ⟨OT, hOT⟩ : ∃ x, D.set K ⟨X, knm⟩ = x := ⟨_, rfl⟩
  rw [hOT] at hSK hOM hSB hOz hOl hOn
  have HK := Aside0.mk hkl
  have HKI := Aside0.mk (And.intro hkin hknm)
  have HRK := Aside0.mk hRK
  have HIK := Aside0.mk hIK
  have HSK := Aside0.mk hSK
  have HLM := Aside0.mk hLM
  have HOM := Aside0.mk hOM
  have HSB := Aside0.mk hSB
  have HLS := Aside0.mk (show LS = LS from rfl)
  have HKZ := Aside0.mk hkz
  have HLZ2 := Aside0.mk hLz
  have HLZ3 := Aside0.mk (show ∀ y ∈ LS, y.f1.size ≤ 140737488351232 from fun y hy => Nat.le_trans (hLz y hy) (by decide))
  have HLL2 := Aside0.mk (show LS.length ≤ 1048576 by omega)
  have HOZ3 := Aside0.mk (show ∀ y ∈ OT, y.f1.size ≤ 140737488351232 from fun y hy => Nat.le_trans (hOz y hy) (by decide))
  have HOTL := Aside0.mk hOl
  have HO0 := Aside0.mk (show 0 < OT.length by omega)
  have HKO := Aside0.mk (show K < OT.length by omega)
  have HON := Aside0.mk hOn.1
  have HOK := Aside0.mk hOn.2
  have hwL : IntKind.wrap .i64 ((D.length : Int) - 1) = (LS.length : Int) := (IntWalk.i64_in _ ⟨by omega, by omega⟩).trans (by omega)
  have hk0 : (0 : Int) ≤ (K : Int) := Int.natCast_nonneg _
  have hk1 : (K : Int) < (D.length : Int) := by omega
  have hD0 : ¬ ((D.length : Int) = 0) := by omega
  have hD0b : ((D.length : Int) == 0) = false := beq_eq_false_iff_ne.2 hD0
  have htm : Int.tmod (g : Int) (D.length : Int) = (K : Int) := by rw [← hK]; exact (Int.ofNat_tmod g D.length).symm
  have htx : Int.tmod (g : Int) 64 = ((g % 64 : Nat) : Int) := (Int.ofNat_tmod g 64).symm
  have hwg : IntKind.wrap .i64 (g : Int) = (g : Int) := IntWalk.i64_in _ ⟨by omega, by omega⟩
  have hwk : IntKind.wrap .i64 (K : Int) = (K : Int) := IntWalk.i64_in _ ⟨by omega, by omega⟩
  have hw6 : IntKind.wrap .i64 ((g % 64 : Nat) : Int) = ((g % 64 : Nat) : Int) := IntWalk.i64_in _ ⟨by omega, by omega⟩
  have hwX : IntKind.wrap .i64 (1 + ((g % 64 : Nat) : Int)) = X := by rw [hX]; exact (IntWalk.i64_in _ ⟨by omega, by omega⟩).trans (by omega)
  obtain ⟨g6, hg6⟩ : ∃ q, g % 64 = q := ⟨_, rfl⟩
  rw [hg6] at htx hw6 hwX
  clear hn hK hkl hX hXok hRK hIK hSK hLM hOM hSB hLl hkx ekx hkz hLz hOz hOl hOn hkin hknm hLS hOT hg6
  clear hr hl hz hs hg hT hdz hD hd64
  go_enter Tryd.func8, Tryd.ntmps8
  go_wp2_with (first
    | (have hz := HB2.out; clear hz; go_at_call 15; refine (may_any w2 Bd cd D R2.out (Utf8Tabs_below HT.out HB2.out)).mono ?_; rw [HDM.out]; rintro e w3 ⟨rfl, hb⟩; have HB3 := Aside0.mk (below_step HB2.out hb); have BG3 := Aside0.mk (blk_below BG2.out hb); have R3 := Aside0.mk (R2.out.below hb); clear hb)
    | (have hz := HB1.out; clear hz; go_at_call 26; refine (built_any A c l w1 (HR.out.below HB1.out) HL.out HZ.out (Utf8Tabs_below HT.out HB1.out)).mono ?_; rw [HD.out]; rintro e w2 ⟨v, rfl, ho, hb⟩; obtain ⟨Bd, cd, rfl⟩ := own_slice ho; have R2 := Aside0.mk (own_row ho HDZ3.out); have CD := Aside0.mk (own_cap ho); have HB2 := Aside0.mk (below_step HB1.out hb); have BG2 := Aside0.mk (blk_below BG1.out hb); clear hb ho)
    | ((with_reducible refine gate_dst (N := 4) rfl ?_); refine box_event ?hg (N := 4) ?hd (cs := cellsE a s) (t := 42) ?hr ?_; (case hd => rfl); (case hg => rfl); (case hr => first | (go_simp; done) | (go_simp; rfl) | kernel_rfl); intro gg hg w1 hbox hb; have HB1 := Aside0.mk (hb); have BG1 := Aside0.mk (hbox); clear hb hbox hg))
  go_loopw [9] (fun i wr => ∃ j : Nat, j ≤ D.length ∧ i = .int .i64 j ∧ Aside0 (Below w3.heap.size w3 wr)) (fun i _ => D.length - (intOf i).toNat)
  case atStart => exact ⟨0, Nat.zero_le _, rfl, ⟨Below.refl _ _⟩⟩
  case round =>
    obtain ⟨j, hj, rfl, HW⟩ := hrel
    by_cases hlt : j < D.length
    · have hlt' : (j : Int) < (D.length : Int) := by omega
      have hj0' : (0 : Int) ≤ (j : Int) := Int.natCast_nonneg _
      have hDL := HDL.out
      obtain ⟨ad, hAd, q0, q1⟩ := (R3.out.below HW.out).at_ hlt
      cases hAd
      obtain ⟨hAT, hIS⟩ := find_own HDM.out hlt
      obtain ⟨nx, hnx, enx⟩ := nameAt_mem hlt
      have hnz := HDZ.out nx hnx
      rw [← enx] at hnz
      obtain ⟨nm, hnm⟩ : ∃ x, nameAt D j = x := ⟨_, rfl⟩
      rw [hnm] at q1 hAT hIS hnz
      have HAT := Aside0.mk hAT
      have HIS := Aside0.mk hIS
      have HNZ := Aside0.mk hnz
      clear hAT hIS hnz hnm hnx enx
      go_wp2_with (first
    | (go_at_call 18; refine (find_any (some ad) cd D nm wr (R3.out.below HW.out) HDL.out HDZ.out HNZ.out).mono ?_; rw [HAT.out, HIS.out]; rintro e wn ⟨rfl, hb⟩; have HWN := Aside0.mk (below_then HW.out HW.out.size hb); clear hb))
      go_roundw
      case rel => exact ⟨j + 1, by omega, by go_num, HWN⟩
      case measure => simp [intOf]; omega
    · have hjn : j = D.length := by omega
      subst hjn
      clear hlt hj
      have hDL := HDL.out
      obtain ⟨wl, hwl⟩ : ∃ x, wr = x := ⟨_, rfl⟩
      rw [hwl] at HW ⊢
      have HBL := Aside0.mk (below_step HB3.out HW.out)
      have RL := Aside0.mk (R3.out.below HW.out)
      have BGL := Aside0.mk (blk_below BG3.out HW.out)
      have d1 : wl.cell? ⟨gg, 1, none⟩ = some (.string s) := (blk_cell BGL.out 1).trans (cellE_one a s)
      have d0 : wl.cell? ⟨gg, 0, none⟩ = some (.int .i64 a) := (blk_cell BGL.out 0).trans (cellE_zero a s)
      clear hwl HW BG1 BG2 BG3 R2 R3 HB1 HB2 HB3
      obtain ⟨ad, hAd, c0, c1⟩ := RL.out.at_ HK.out
      cases hAd
      rw [HKI.out.1] at c0
      rw [HKI.out.2] at c1
      go_wp2_with (first
    | (have hz := Y1.out; clear hz; go_at_call 18; refine (find_any (some ⟨g4, 0, none⟩) c4 M s wy1 R4.out HML64.out HMZ.out HSZ.out).mono ?_; rw [HMA.out, HMI.out]; rintro e wy2 ⟨rfl, hb⟩; have R5 := Aside0.mk (R4.out.below hb); have BG5 := Aside0.mk (blk_below BG4.out hb); have Y2 := Aside0.mk (below_then Y1.out Y1.out.size hb); have c0 := pw_cell_below hb c0; have c1 := pw_cell_below hb c1; have d0 := pw_cell_below hb d0; have d1 := pw_cell_below hb d1; clear hb)
    | (have hz := HBL.out; clear hz; go_at_call 20; refine (ins_all (some ad) cd D wl RL.out HDL2.out HDZ2.out (Utf8Tabs_below HT.out HBL.out) a s HS.out).mono ?_; rw [HIX.out, HIR.out]; rintro e wy1 ⟨v, rfl, ho, hb⟩; obtain ⟨B4, c4, rfl⟩ := own_slice ho; obtain ⟨g4, cap4, cur4, hv4, _⟩ := own_form ho HM0.out; injection hv4 with h41 h42 h43; subst h41 h43; have R4 := Aside0.mk (own_row ho HMZ3.out); clear h42; have Y1 := Aside0.mk (hb); have c0 := pw_cell_below hb c0; have c1 := pw_cell_below hb c1; have d0 := pw_cell_below hb d0; have d1 := pw_cell_below hb d1; have BG4 := Aside0.mk (blk_below BGL.out hb); clear hb ho)
    | (have hz := HBL.out; clear hz; (with_reducible refine gate_dst (N := 65) rfl ?_); refine wpList_load_row rfl 42 (.tmp 4) (by kernel_rfl) gg (by kernel_rfl) _ _ _ _ BGL.out hu42.out rfl (sizeEntry a s) ?_))
      obtain ⟨ad4, hAd4, k0, k1⟩ := R5.out.at_ HJM.out
      cases hAd4
      rw [HMC.out.1, add_plain] at k0
      rw [HMC.out.2, add_plain] at k1
      have K0 := Aside0.mk k0
      have K1 := Aside0.mk k1
      refine wp_region_held_drew (S := fun W => Below wy2.heap.size wy2 W) (by kernel_rfl) (below_drew (Below.refl wy2.heap.size wy2)) (fun hHeld => ?_)
      refine wpAnyH_take (i := 0) (oi := ⟨some 78, _, _, _, _, _⟩) (v := (.bool true)) rfl (by kernel_rfl) (by kernel_rfl) (by kernel_rfl) (fun _ _ _ h => h) (Or.inl ⟨by rfl, fun W hS => by go_simp⟩) hHeld ?_
      (try simp only [Act.put, List.setIfInBounds_toArray, List.set_cons_zero, List.set_cons_succ])
      refine wpAnyH_take (i := 1) (oi := ⟨some 79, _, _, _, _, _⟩) (v := (.bool false)) rfl (by kernel_rfl) (by kernel_rfl) (by kernel_rfl) (fun _ _ _ h => h) (Or.inl ⟨by rfl, fun W hS => by go_simp⟩) hHeld ?_
      (try simp only [Act.put, List.setIfInBounds_toArray, List.set_cons_zero, List.set_cons_succ])
      refine wpAnyH_take (i := 2) (oi := ⟨some 80, _, _, _, _, _⟩) (v := (.bool false)) rfl (by kernel_rfl) (by kernel_rfl) (by kernel_rfl) (fun _ _ _ h => h) (Or.inl ⟨by rfl, fun W hS => by go_simp⟩) hHeld ?_
      (try simp only [Act.put, List.setIfInBounds_toArray, List.set_cons_zero, List.set_cons_succ])
      refine wpAnyH_take (i := 3) (oi := ⟨some 81, _, _, _, _, _⟩) (v := (.slice (some ⟨g4, 0, none⟩) M.length c4)) rfl (by kernel_rfl) (by kernel_rfl) (by kernel_rfl) (fun _ _ _ h => h) (Or.inl ⟨by rfl, fun W hS => by go_simp⟩) hHeld ?_
      (try simp only [Act.put, List.setIfInBounds_toArray, List.set_cons_zero, List.set_cons_succ])
      refine wpAnyH_take (i := 4) (oi := ⟨some 82, _, _, _, _, _⟩) (v := (.int .i64 (J : Int))) rfl (by kernel_rfl) (by kernel_rfl) (by kernel_rfl) (fun _ _ _ h => h) (Or.inl ⟨by rfl, fun W hS => by go_simp⟩) hHeld ?_
      (try simp only [Act.put, List.setIfInBounds_toArray, List.set_cons_zero, List.set_cons_succ])
      refine wpAnyH_take (i := 5) (oi := ⟨some 83, _, _, _, _, _⟩) (v := (.pointer (some ⟨g4, J * 2, none⟩))) rfl (by kernel_rfl) (by kernel_rfl) (by kernel_rfl) (fun _ _ _ h => h) (Or.inl ⟨by rfl, fun W hS => by go_simp⟩) hHeld ?_
      (try simp only [Act.put, List.setIfInBounds_toArray, List.set_cons_zero, List.set_cons_succ])
      refine wpAnyH_take (i := 6) (oi := ⟨some 84, _, _, _, _, _⟩) (v := (.agg #[.int .i64 a, .string s])) rfl (by kernel_rfl) (by kernel_rfl) (by kernel_rfl) (fun _ _ _ h => h) (Or.inl ⟨by rfl, fun W hS => by have k0 := pw_cell_below hS K0.out; have k1 := pw_cell_below hS K1.out; have hl := run_load_pair W ⟨g4, J * 2, none⟩ 42 _ _ _ k0 k1 Tryd.underlying42 rfl (by kernel_rfl); go_simp⟩) hHeld ?_
      (try simp only [Act.put, List.setIfInBounds_toArray, List.set_cons_zero, List.set_cons_succ])
      refine wpAnyH_take (i := 7) (oi := ⟨some 85, _, _, _, _, _⟩) rfl (by kernel_rfl) (by kernel_rfl) (by kernel_rfl) (fun _ _ _ h => h) (yieldsIf_load_mid (by rfl) 42 (.tmp 4) rfl gg 0 rfl [.int .i64 a, .string s] _ (fun W hS => rangeAt_blk (blk_below BG5.out hS)) Tryd.underlying42 rfl (by kernel_rfl)) hHeld ?_
      (try simp only [Act.put, List.setIfInBounds_toArray, List.set_cons_zero, List.set_cons_succ])
      refine wpAnyH_take (i := 8) (oi := ⟨some 86, _, _, _, _, _⟩) (v := (.bool false)) rfl (by kernel_rfl) (by kernel_rfl) (by kernel_rfl) (fun _ _ _ h => h) (Or.inl ⟨by rfl, fun W hS => by have hq := ent_neq W a s; go_simp⟩) hHeld ?_
      (try simp only [Act.put, List.setIfInBounds_toArray, List.set_cons_zero, List.set_cons_succ])
      refine wpAnyH_take (i := 9) (oi := ⟨some 87, _, _, _, _, _⟩) (v := (.bool false)) rfl (by kernel_rfl) (by kernel_rfl) (by kernel_rfl) (fun _ _ _ h => h) (Or.inl ⟨by rfl, fun W hS => by go_simp⟩) hHeld ?_
      (try simp only [Act.put, List.setIfInBounds_toArray, List.set_cons_zero, List.set_cons_succ])
      refine wpAnyH_take (i := 10) (oi := ⟨some 88, _, _, _, _, _⟩) (v := (.bool false)) rfl (by kernel_rfl) (by kernel_rfl) (by kernel_rfl) (fun _ _ _ h => h) (Or.inl ⟨by rfl, fun W hS => by go_simp⟩) hHeld ?_
      (try simp only [Act.put, List.setIfInBounds_toArray, List.set_cons_zero, List.set_cons_succ])
      refine wpAnyH_take (i := 11) (oi := ⟨some 89, _, _, _, _, _⟩) (v := (.slice (some ⟨g4, 0, none⟩) M.length c4)) rfl (by kernel_rfl) (by kernel_rfl) (by kernel_rfl) (fun _ _ _ h => h) (Or.inl ⟨by rfl, fun W hS => by go_simp⟩) hHeld ?_
      (try simp only [Act.put, List.setIfInBounds_toArray, List.set_cons_zero, List.set_cons_succ])
      refine wpAnyH_take (i := 12) (oi := ⟨some 90, _, _, _, _, _⟩) (v := (.int .i64 (M.length : Int))) rfl (by kernel_rfl) (by kernel_rfl) (by kernel_rfl) (fun _ _ _ h => h) (Or.inl ⟨by rfl, fun W hS => by go_simp⟩) hHeld ?_
      (try simp only [Act.put, List.setIfInBounds_toArray, List.set_cons_zero, List.set_cons_succ])
      refine wpAnyH_take (i := 13) (oi := ⟨some 91, _, _, _, _, _⟩) (v := (.slice (some ad) D.length cd)) rfl (by kernel_rfl) (by kernel_rfl) (by kernel_rfl) (fun _ _ _ h => h) (Or.inl ⟨by rfl, fun W hS => by go_simp⟩) hHeld ?_
      (try simp only [Act.put, List.setIfInBounds_toArray, List.set_cons_zero, List.set_cons_succ])
      refine wpAnyH_take (i := 14) (oi := ⟨some 92, _, _, _, _, _⟩) (v := (.int .i64 (D.length : Int))) rfl (by kernel_rfl) (by kernel_rfl) (by kernel_rfl) (fun _ _ _ h => h) (Or.inl ⟨by rfl, fun W hS => by go_simp⟩) hHeld ?_
      (try simp only [Act.put, List.setIfInBounds_toArray, List.set_cons_zero, List.set_cons_succ])
      refine wpAnyH_take (i := 15) (oi := ⟨some 93, _, _, _, _, _⟩) (v := (.int .i64 (M.length : Int))) rfl (by kernel_rfl) (by kernel_rfl) (by kernel_rfl) (fun _ _ _ h => h) (Or.inl ⟨by rfl, fun W hS => by have hw := HW1.out; go_simp⟩) hHeld ?_
      (try simp only [Act.put, List.setIfInBounds_toArray, List.set_cons_zero, List.set_cons_succ])
      refine wpAnyH_take (i := 16) (oi := ⟨some 94, _, _, _, _, _⟩) (v := (.bool false)) rfl (by kernel_rfl) (by kernel_rfl) (by kernel_rfl) (fun _ _ _ h => h) (Or.inl ⟨by rfl, fun W hS => by go_simp⟩) hHeld ?_
      (try simp only [Act.put, List.setIfInBounds_toArray, List.set_cons_zero, List.set_cons_succ])
      refine wpAnyH_take (i := 17) (oi := ⟨some 95, _, _, _, _, _⟩) (v := (.bool false)) rfl (by kernel_rfl) (by kernel_rfl) (by kernel_rfl) (fun _ _ _ h => h) (Or.inl ⟨by rfl, fun W hS => by go_simp⟩) hHeld ?_
      (try simp only [Act.put, List.setIfInBounds_toArray, List.set_cons_zero, List.set_cons_succ])
      refine wpAnyH_take (i := 18) (oi := ⟨some 96, _, _, _, _, _⟩) (v := (.bool false)) rfl (by kernel_rfl) (by kernel_rfl) (by kernel_rfl) (fun _ _ _ h => h) (Or.inl ⟨by rfl, fun W hS => by go_simp⟩) hHeld ?_
      (try simp only [Act.put, List.setIfInBounds_toArray, List.set_cons_zero, List.set_cons_succ])
      refine wpAnyH_take (i := 19) (oi := ⟨some 97, _, _, _, _, _⟩) (v := (.slice (some ⟨g4, 0, none⟩) M.length c4)) rfl (by kernel_rfl) (by kernel_rfl) (by kernel_rfl) (fun _ _ _ h => h) (Or.inl ⟨by rfl, fun W hS => by go_simp⟩) hHeld ?_
      (try simp only [Act.put, List.setIfInBounds_toArray, List.set_cons_zero, List.set_cons_succ])
      refine wpAnyH_ready (rs := [20]) (by kernel_rfl) (by simp) ?_
      refine AllReadyH.cons rfl (fun K hK => ?_) AllReadyH.nil
      rw [if_pos (by rfl)]
      go_simp
      refine (may_any _ (some ⟨g4, 0, none⟩) c4 M (R5.out.below hHeld) (Utf8Tabs_below HT.out (below_then HBL.out HBL.out.size (below_then Y2.out Y2.out.size hHeld)))).mono ?_
      rw [HMM.out]
      rintro e wy3 ⟨rfl, hb⟩
      dsimp only
      refine hK.out _ _ (below_step hHeld hb) (fun hH => ?_)
      clear hK K hHeld hb
      have hHeld := hH
      clear hH
      (try simp only [Act.put, List.setIfInBounds_toArray, List.set_cons_zero, List.set_cons_succ])
      refine wpAnyH_take (i := 21) (oi := ⟨some 99, _, _, _, _, _⟩) (v := (.bool false)) rfl (by kernel_rfl) (by kernel_rfl) (by kernel_rfl) (fun _ _ _ h => h) (Or.inl ⟨by rfl, fun W hS => by go_simp⟩) hHeld ?_
      (try simp only [Act.put, List.setIfInBounds_toArray, List.set_cons_zero, List.set_cons_succ])
      refine wpAnyH_take (i := 22) (oi := ⟨some 100, _, _, _, _, _⟩) (v := (.bool false)) rfl (by kernel_rfl) (by kernel_rfl) (by kernel_rfl) (fun _ _ _ h => h) (Or.inl ⟨by rfl, fun W hS => by go_simp⟩) hHeld ?_
      (try simp only [Act.put, List.setIfInBounds_toArray, List.set_cons_zero, List.set_cons_succ])
      refine wpAnyH_done (by kernel_rfl) ?_ _
      (try simp only [Exit.then])
      have Y3 := Aside0.mk (below_then Y2.out Y2.out.size hHeld)
      have R6 := Aside0.mk (R5.out.below hHeld)
      have c0 := pw_cell_below hHeld c0
      have c1 := pw_cell_below hHeld c1
      have d0 := pw_cell_below hHeld d0
      have d1 := pw_cell_below hHeld d1
      clear hHeld k0 k1
      go_wp2_with (first
    | (have hz := Z8.out; clear hz; go_at_call 17; refine (wakes_true wz8 (Utf8Tabs_below HT.out (below_then HBL.out HBL.out.size Z8.out))).mono ?_; rintro e wz9 ⟨rfl, hb⟩; have Z9 := Aside0.mk (below_then Z8.out Z8.out.size hb); clear hb)
    | (have hz := Z7.out; clear hz; go_at_call 14; refine (same_call wz7 (some ⟨g11, 0, none⟩) (some ad) c11 cd D HDL6.out R13.out (RL.out.below Z7.out) C13.out CD.out).mono ?_; rintro e wz8 ⟨rfl, hb⟩; have Z8 := Aside0.mk (below_then Z7.out Z7.out.size hb); clear hb)
    | (have hz := Z6.out; clear hz; (with_reducible refine gate_store (t := 3) (p := 243) (v := .tmp 241) rfl ?_); refine ev_store (by rfl) 3 (.tmp 243) (.tmp 241) (by rfl) g11 (K * 2) cur11.toList [.int .i64 kin] (.int .i64 kin) (by kernel_rfl) (by kernel_rfl) (by rfl) 42 BG12.out sizeInt (by have := CS.out; have := CN.out; have := HKO.out; simp only [List.length_cons, List.length_nil]; omega) (by simp [Value.oneCell']) ?_; intro wz7 hbox hg; rw [show [Value.int .i64 kin].length = 1 from rfl, list_set (by have := CS.out; have := CN.out; have := HKO.out; omega)] at hbox; have ho := own_of (l := OT.set K ⟨kin, knm⟩) (base := wz4.heap.size) GB.out hbox (by rw [List.length_set]; exact CN.out) CM.out (by rw [List.length_set]; exact CS.out) (by rw [List.length_set, List.take_set, CT.out, rowsE_set kin knm OT K HKO.out HON.out]); rw [HSB.out] at ho; have R13 := Aside0.mk (own_row ho HDZ3.out); have C13 := Aside0.mk (own_cap ho); have Z7 := Aside0.mk (Z6.out.grown hg Z6.out.size (fun k e => by cases e; exact Nat.le_trans Z4.out.size GB.out)); clear hbox hg ho)
    | (have hz := Z5.out; clear hz; go_at_call 15; have hmo := may_any wz5 (some ⟨g11, 0, none⟩) c11 OT R11.out (Utf8Tabs_below HT.out (below_then HBL.out HBL.out.size Z5.out)); rw [HOTL.out] at hmo; refine hmo.mono ?_; rw [HOM.out]; rintro e wz6 ⟨rfl, hb⟩; have BG12 := Aside0.mk (blk_below BG11.out hb); have f0 := pw_cell_below hb f0; have S56 := Aside0.mk (hb); have Z6 := Aside0.mk (below_then Z5.out Z5.out.size hb); have c0 := pw_cell_below hb c0; have c1 := pw_cell_below hb c1; clear hb hmo)
    | (have hz := Z4.out; clear hz; go_at_call 21; refine (set_all (some ad) cd D wz4 (RL.out.below Z4.out) HDL2.out HDZ2.out (Utf8Tabs_below HT.out (below_then HBL.out HBL.out.size Z4.out)) knm X HKZ.out).mono ?_; rw [HSK.out]; rintro e wz5 ⟨v, rfl, ho, hb⟩; dsimp only at ho; obtain ⟨g11, c11, cur11, hv11, hgb11, hh11, hn11, hm11, hs11, ht11⟩ := own_form ho HO0.out; subst hv11; have R11 := Aside0.mk (own_row ho HOZ3.out); rw [HOTL.out]; have GB := Aside0.mk (hgb11); have BG11 := Aside0.mk (show wz5.heap[g11]? = some (.cells cur11.toList.toArray 42 (0, 0)) from by simpa using hh11); have CN := Aside0.mk (hn11); have CM := Aside0.mk (hm11); have CS := Aside0.mk (show cur11.toList.length = c11 * 2 from by simpa using hs11); have CT := Aside0.mk (ht11); obtain ⟨ad11, e11, f0, f1⟩ := R11.out.at_ HKO.out; cases e11; rw [HOK.out, add_plain] at f0; have Z5 := Aside0.mk (below_then Z4.out Z4.out.size hb); have c0 := pw_cell_below hb c0; have c1 := pw_cell_below hb c1; clear hb ho hgb11 hh11 hn11 hm11 hs11 ht11 f1)
    | (have hz := Z3.out; clear hz; go_at_call 14; refine (same_call wz3 B9 (some ad) c9 cd D HDL6.out R9.out (RL.out.below Z3.out) C9.out CD.out).mono ?_; rintro e wz4 ⟨rfl, hb⟩; have Z4 := Aside0.mk (below_then Z3.out Z3.out.size hb); have c0 := pw_cell_below hb c0; have c1 := pw_cell_below hb c1; clear hb)
    | (have hz := Z2.out; clear hz; go_at_call 20; refine (ins_all B7 c7 LS wz2 R72.out HLL2.out HLZ2.out (Utf8Tabs_below HT.out (below_then HBL.out HBL.out.size Z2.out)) kin knm HKZ.out).mono ?_; rw [HIK.out]; rintro e wz3 ⟨v, rfl, ho, hb⟩; obtain ⟨B9, c9, rfl⟩ := own_slice ho; have R9 := Aside0.mk (own_row ho HDZ3.out); have C9 := Aside0.mk (own_cap ho); have Z3 := Aside0.mk (below_then Z2.out Z2.out.size hb); have c0 := pw_cell_below hb c0; have c1 := pw_cell_below hb c1; clear hb ho)
    | (have hz := Z2.out; clear hz; (with_reducible refine gate_dst (N := 184) rfl ?_); refine wpList_load_pair rfl 42 (.tmp 183) rfl (ad.add (K * 2)) (by kernel_rfl) _ _ _ c0 c1 hu42.out rfl (by kernel_rfl) ?_)
    | (have hz := Z1.out; clear hz; go_at_call 15; refine (may_any wz1 B7 c7 LS R7.out (Utf8Tabs_below HT.out (below_then HBL.out HBL.out.size Z1.out))).mono ?_; rw [HLM.out]; rintro e wz2 ⟨rfl, hb⟩; have R72 := Aside0.mk (R7.out.below hb); have Z2 := Aside0.mk (below_then Z1.out Z1.out.size hb); have c0 := pw_cell_below hb c0; have c1 := pw_cell_below hb c1; clear hb)
    | (have hz := Z0.out; clear hz; go_at_call 23; refine (rem_all (some ad) cd D wz0 (RL.out.below Z0.out) HDL2.out HDZ2.out (Utf8Tabs_below HT.out (below_then HBL.out HBL.out.size Z0.out)) knm HKZ.out).mono ?_; rw [HRK.out]; rintro e wz1 ⟨v, rfl, ho, hb⟩; dsimp only at ho; obtain ⟨B7, c7, rfl⟩ := own_slice ho; have R7 := Aside0.mk (own_row ho HLZ3.out); have Z1 := Aside0.mk (below_then Z0.out Z0.out.size hb); have c0 := pw_cell_below hb c0; have c1 := pw_cell_below hb c1; clear hb ho)
    | (have hz := Y4.out; clear hz; go_at_call 14; refine (same_call wy4 B8 (some ad) c8 cd D HDL6.out R8.out (RL.out.below Y4.out) C8.out CD.out).mono ?_; rintro e wz0 ⟨rfl, hb⟩; have Z0 := Aside0.mk (below_then Y4.out Y4.out.size hb); have c0 := pw_cell_below hb c0; have c1 := pw_cell_below hb c1; have d0 := pw_cell_below hb d0; have d1 := pw_cell_below hb d1; clear hb)
    | (have hz := Y3.out; clear hz; go_at_call 23; refine (rem_all (some ⟨g4, 0, none⟩) c4 M wy3 R6.out HML2.out HMZ2.out (Utf8Tabs_below HT.out (below_then HBL.out HBL.out.size Y3.out)) s HS.out).mono ?_; rw [HRM.out]; rintro e wy4 ⟨v, rfl, ho, hb⟩; obtain ⟨B8, c8, rfl⟩ := own_slice ho; have R8 := Aside0.mk (own_row ho HDZ3.out); have C8 := Aside0.mk (own_cap ho); have Y4 := Aside0.mk (below_then Y3.out Y3.out.size hb); have c0 := pw_cell_below hb c0; have c1 := pw_cell_below hb c1; have d0 := pw_cell_below hb d0; have d1 := pw_cell_below hb d1; clear hb ho))
      go_ret
      exact ⟨rfl, below_then HBL.out HBL.out.size Z9.out⟩
theorem maps_walk (A : Option Addr) (c : Nat) (l : List S42) (a : Int) (s : ByteArray) (g : Nat) (w : World) (hr : Row w A l) (hl : l.length ≤ 1048576) (hz : ∀ x ∈ l, x.f1.size ≤ 1048576) (hs : s.size ≤ 1048576) (hg : g < 256) (hT : Lib.Utf8Tabs 1 2 w) :
    Calls Tryd.prog 8 #[.slice A l.length c, .agg (cellsE a s), .int .u8 (g : Int)] w fun e w' => e = .returned (.bool true) ∧ Below w.heap.size w w' := by
  cases he : insErr (bE l) ⟨a, s⟩ with
  | none =>
    rcases Nat.eq_zero_or_pos (bE l).length with h | h
    · exact maps_yes_none A c l a s g w hr hl hz hs hg hT he (List.eq_nil_of_length_eq_zero h)
    · exact maps_yes_some A c l a s g w hr hl hz hs hg hT he h
  | some y =>
    rcases Nat.eq_zero_or_pos (bE l).length with h | h
    · exact maps_no_none A c l a s g w hr hl hz hs hg hT y he (List.eq_nil_of_length_eq_zero h)
    · exact maps_no_some A c l a s g w hr hl hz hs hg hT y he h
theorem u8_range {x : Int} (h : (Lit.int .u8 x).wf = true) : 0 ≤ x ∧ x < 256 := by
  have h' : IntKind.u8.min ≤ x ∧ x ≤ IntKind.u8.max := by simpa [Lit.wf] using h
  have e1 : IntKind.u8.min = 0 := by decide
  have e2 : IntKind.u8.max = 255 := by decide
  omega
theorem maps_u8 (A : Option Addr) (c : Nat) (l : List S42) (a : Int) (s : ByteArray) (x : Int) (w : World) (hr : Row w A l) (hl : l.length ≤ 1048576) (hz : ∀ x ∈ l, x.f1.size ≤ 1048576) (hs : s.size ≤ 1048576) (hx : (Lit.int .u8 x).wf = true) (hT : Lib.Utf8Tabs 1 2 w) :
    Calls Tryd.prog 8 #[.slice A l.length c, .agg (cellsE a s), .int .u8 x] w fun e w' => e = .returned (.bool true) ∧ Below w.heap.size w w' := by
  obtain ⟨h0, h1⟩ := u8_range hx
  obtain ⟨g, rfl⟩ : ∃ g : Nat, x = (g : Int) := ⟨x.toNat, (Int.toNat_of_nonneg h0).symm⟩
  exact maps_walk A c l a s g w hr hl hz hs (by omega) hT
end Go.Proofs.YtneanbckmekdkaaDoor.EN
