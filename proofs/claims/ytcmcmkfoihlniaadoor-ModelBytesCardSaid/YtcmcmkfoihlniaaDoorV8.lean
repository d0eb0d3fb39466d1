/- What this claim uses of the texts that were printed for it. -/
import Derived.Lib.SmallJoins
import Derived.Lib.SlBytesConst
import Derived.Test.YtcmcmkfoihlniaaDoorCards
import Derived.Deep.SlicePairs
import Derived.SizedLaws
import Derived.WideShapes
import Derived.OpenShut
import Derived.ChangeMaps5
import Derived.Test.YtcmcmkfoihlniaaDoorV7
section
namespace Go.Proofs.YtcmcmkfoihlniaaDoor.MM
open Go Go.RowKit Go.Maps Go.Proofs.YtcmcmkfoihlniaaDoorX Go.Proofs.YtcmcmkfoihlniaaDoor.NM Go.Proofs.YtcmcmkfoihlniaaDoor.EN Go.Proofs.YtcmcmkfoihlniaaDoorW.PrintWords Go.Proofs.YtcmcmkfoihlniaaDoorW.PrintLast Go.Proofs.YtcmcmkfoihlniaaDoorW.PrintMore Go.Proofs.YtcmcmkfoihlniaaDoor.PModelUndoes
set_option linter.unusedVariables false
set_option linter.unusedSimpArgs false
set_option maxRecDepth 100000
set_option maxHeartbeats 4000000
attribute [local go_sem] max2_int min2_int max_two min_two
theorem rmdir_any {w : World} {pb mb : Nat} {q : Int} {T : Tree} (h : Mdl w pb mb q T) (hO : Ok T) (p : ByteArray) (hT : Lib.Utf8Tabs 2 3 w) :
    Calls Tryd.prog 16 #[mp pb, .string p] w (Out w pb mb q (rmdirR T p)) := by
  have HM := Aside0.mk h
  have HO := Aside0.mk hO
  have HT := Aside0.mk hT
  have HSP := Aside0.mk (msplit_any h p hT)
  obtain ⟨R, hR⟩ : ∃ R, rmdirR T p = R := ⟨_, rfl⟩
  rw [hR]
  unfold rmdirR at hR
  have hgood := @splitR_good p
  obtain ⟨y1, hy1⟩ : ∃ y, (splitR p).2 = y := ⟨_, rfl⟩
  obtain ⟨L, hL⟩ : ∃ y, (splitR p).1 = y := ⟨_, rfl⟩
  rw [hy1, hL] at hR hgood HSP
  clear h hO hT hy1 hL
  by_cases h1 : y1 = 0
  · subst h1
    rw [if_neg (fun h => h rfl)] at hR
    obtain ⟨hL3, hval⟩ := hgood rfl
    by_cases h0 : L.length = 0
    · rw [if_pos h0] at hR
      have HR := Aside0.mk hR
      have e0 : ((L.length : Int) == 0) = true := beq_iff_eq.2 (by omega)
      clear hR hgood hval h0 hL3
      go_enter Tryd.func16, Tryd.ntmps16
      go_wp2_with (first
        | (go_at_call 23; refine Calls.mono HSP.out ?_; rintro e w1 ⟨A, c, rfl, hs, hc, hb⟩; have HB1 := Aside0.mk hb; have HS1 := Aside0.mk hs; have HC1 := Aside0.mk hc; clear hb hs hc))
      go_ret
      rw [← HR.out]
      exact Out.same HM.out (HB1.out) _
    · rw [if_neg h0] at hR
      have e0 : ((L.length : Int) == 0) = false := beq_eq_false_iff_ne.2 (by omega)
      have h0 : 0 < L.length := by omega
      have HNS := Aside0.mk (show ∀ n ∈ L, n.size ≤ 1048576 from fun n hn => by have := valid_size (hval n hn); omega)
      have HL1 := Aside0.mk (show L.length ≤ 1048576 by omega)
      have hwl3 : L.length ≤ 300 := hL3
      obtain ⟨y2, hy2⟩ : ∃ y, (wayR T 1 L).2 = y := ⟨_, rfl⟩
      obtain ⟨way, hway⟩ : ∃ y, (wayR T 1 L).1 = y := ⟨_, rfl⟩
      have hne := @wayR_ne T L 1
      have hin := @wayR_in T HO.out L 1 ⟨by decide, by decide⟩
      have hwl := @way_last T L
      have hws := @way_second T L
      have herr := @wayR_err T L 1
      rw [hy2, hway] at hR hne hwl hws herr
      rw [hway] at hin
      have HY2 := Aside0.mk hy2
      have HWY := Aside0.mk hway
      clear hgood hy2 hway
      by_cases h3 : y2 = 0
      · subst h3
        rw [if_neg (fun h => h rfl)] at hR
        have hl := hne rfl
        have HWP := Aside0.mk (show 0 < way.length by omega)
        have HWL := Aside0.mk (show way.length ≤ 1048577 by omega)
        have hii : inR (lastI way) := hin _ (lastI_mem (List.length_pos_iff.1 HWP.out))
        obtain ⟨ino, hino⟩ : ∃ a, lastI way = a := ⟨_, rfl⟩
        rw [hino] at hR hii
        have HINO := Aside0.mk hino
        have HII := Aside0.mk hii
        obtain ⟨dl, dy, hdd⟩ : ∃ l y, dirR (T ino) = (l, y) := ⟨_, _, rfl⟩
        rw [hdd] at hR
        have HDD := Aside0.mk hdd
        simp only at hR
        by_cases h5 : dy = 0
        · subst h5
          rw [if_neg (fun h => h rfl)] at hR
          by_cases h6 : 0 < dl.length
          · rw [if_pos h6] at hR
            have HR := Aside0.mk hR
            have e6 : decide (0 < dl.length) = true := decide_eq_true h6
            clear hR h6 hin hwl hws hne hl hino hii herr hval h0 hL3 hwl3 hdd
            go_enter Tryd.func16, Tryd.ntmps16
            go_wp2_with (first
              | (have hz := HB3.out; clear hz; go_at_call 38; refine Calls.mono (dir_any (HM.out.below HB3.out) HII.out) ?_; rw [HDD.out]; rintro e w4 ⟨A4, c4, rfl, _, _, hb⟩; have HB4 := Aside0.mk (below_step HB3.out hb); have HR4 := Aside0.mk (Kd.C_below HR3.out hb); have HS4 := Aside0.mk (Kd.C_below HS3.out hb);  clear hb)
              | (have hz := HB2.out; clear hz; go_at_call 32; refine Calls.mono (lastI_any A2 c2 way w2 HR2.out HC2.out HWP.out HWL.out) ?_; rw [HINO.out]; rintro e w3 ⟨rfl, hb⟩; have HB3 := Aside0.mk (below_step HB2.out hb); have HR3 := Aside0.mk (Kd.C_below HR2.out hb); have HS3 := Aside0.mk (Kd.C_below HS2.out hb);  clear hb)
              | (have hz := HB1.out; clear hz; go_at_call 31; refine Calls.mono (way_any (HM.out.below HB1.out) HO.out A c L HS1.out HC1.out HNS.out HL1.out) ?_; rw [HY2.out, HWY.out]; rintro e w2 ⟨A2, c2, rfl, hr2, hc2, hb⟩; have HB2 := Aside0.mk (below_step HB1.out hb); have HR2 := Aside0.mk hr2; have HC2 := Aside0.mk hc2; have HS2 := Aside0.mk (Kd.C_below HS1.out hb); clear hb hr2 hc2)
              | (go_at_call 23; refine Calls.mono HSP.out ?_; rintro e w1 ⟨A, c, rfl, hs, hc, hb⟩; have HB1 := Aside0.mk hb; have HS1 := Aside0.mk hs; have HC1 := Aside0.mk hc; clear hb hs hc))
            go_ret
            rw [← HR.out]
            exact Out.same HM.out (HB4.out) _
          · rw [if_neg h6] at hR
            have e6 : decide (0 < dl.length) = false := decide_eq_false h6
            obtain ⟨l0, hTi⟩ : ∃ l, T ino = some (.dir l) := by
              rcases dirR_or (T ino) with ⟨l, e⟩ | ⟨e, _⟩
              · exact ⟨l, e⟩
              · rw [e] at hdd; cases hdd
            have hse2 := (hws h0 rfl).2
            have hst := (hwl h0 rfl).2.2.1
            obtain ⟨a, ha⟩ : ∃ a, parR T L = a := ⟨_, rfl⟩
            obtain ⟨d, hdd2⟩ := step_dir hst
            have hda := hdd2.1
            have hgone := isGone hda
            rw [HWY.out, hino, ha] at hgone
            rw [ha] at hda hse2
            have HDA := Aside0.mk hda
            obtain ⟨l1, hl1⟩ : ∃ l1, upd T a (some (.dir (remR d (lastS L)).1)) ino = some (.dir l1) := by
              by_cases e : ino = a
              · rw [e, upd_same]; exact ⟨_, rfl⟩
              · rw [upd_other _ _ e]; exact ⟨l0, hTi⟩
            have HT1 := Aside0.mk hl1
            have HRR := Aside0.mk (show R = (upd (upd T a (some (.dir (remR d (lastS L)).1))) ino none, 0) by
              rw [← hR, hgone]
              unfold lessR
              rw [HT1.out])
            have HL0 := Aside0.mk h0
            have HNM := Aside0.mk (HNS.out _ (lastS_mem h0))
            obtain ⟨J, hJ⟩ : ∃ J, J = L.length - 1 := ⟨_, rfl⟩
            rw [← hJ] at hse2
            have hwj : (way.length : Int) - 2 = (J : Int) := by omega
            have j0 : (0 : Int) ≤ (J : Int) := Int.natCast_nonneg _
            have j1 : (J : Int) < (way.length : Int) := by omega
            have hwlb : way.length ≤ 1048577 := HWL.out
            have HSE := Aside0.mk hse2
            clear hR hin hwl hws hne hl hino hii hst ha hgone hda hTi hJ hse2 hval herr hL3 h0 hdd2 hl1 h6 hdd hwl3
            go_enter Tryd.func16, Tryd.ntmps16
            go_wp2_with (first
              | (have hz := HB3.out; clear hz; go_at_call 38; refine Calls.mono (dir_any (HM.out.below HB3.out) HII.out) ?_; rw [HDD.out]; rintro e w4 ⟨A4, c4, rfl, _, _, hb⟩; have HB4 := Aside0.mk (below_step HB3.out hb); have HR4 := Aside0.mk (Kd.C_below HR3.out hb); have HS4 := Aside0.mk (Kd.C_below HS3.out hb); obtain ⟨ad2, rfl, hx⟩ := Kd.at_int HR4.out (J : Int) j0 j1; rw [HSE.out, Int.toNat_natCast] at hx; have CA := Aside0.mk hx; have HM4 := Aside0.mk ((HM.out.below HB3.out).below hb); have NA := Aside0.mk (cell_ne CA.out HM4.out.2); clear hx; clear hb)
              | (have hz := HB2.out; clear hz; go_at_call 32; refine Calls.mono (lastI_any A2 c2 way w2 HR2.out HC2.out HWP.out HWL.out) ?_; rw [HINO.out]; rintro e w3 ⟨rfl, hb⟩; have HB3 := Aside0.mk (below_step HB2.out hb); have HR3 := Aside0.mk (Kd.C_below HR2.out hb); have HS3 := Aside0.mk (Kd.C_below HS2.out hb);  clear hb)
              | (have hz := HB1.out; clear hz; go_at_call 31; refine Calls.mono (way_any (HM.out.below HB1.out) HO.out A c L HS1.out HC1.out HNS.out HL1.out) ?_; rw [HY2.out, HWY.out]; rintro e w2 ⟨A2, c2, rfl, hr2, hc2, hb⟩; have HB2 := Aside0.mk (below_step HB1.out hb); have HR2 := Aside0.mk hr2; have HC2 := Aside0.mk hc2; have HS2 := Aside0.mk (Kd.C_below HS1.out hb); clear hb hr2 hc2)
              | (go_at_call 23; refine Calls.mono HSP.out ?_; rintro e w1 ⟨A, c, rfl, hs, hc, hb⟩; have HB1 := Aside0.mk hb; have HS1 := Aside0.mk hs; have HC1 := Aside0.mk hc; clear hb hs hc))
            have HMd := Aside0.mk ((HM.out.below HB4.out).below (below_drew (Below.refl w4.heap.size w4)))
            have HUd := Aside0.mk (Utf8Tabs_below (Utf8Tabs_below HT.out HB4.out) (below_drew (Below.refl w4.heap.size w4)))
            have HLS := Aside0.mk (lastS_any A c L w4.drew (Kd.C_below HS4.out (below_drew (Below.refl w4.heap.size w4))) HC1.out HL0.out HL1.out)
            refine wp_region_held_drew (S := fun W => Turn1 mb w4 W) (by kernel_rfl) (below_turn1 (below_drew (Below.refl _ _))) (fun hHeld => ?_)
            refine wpAnyH_take (i := 0) (oi := ⟨some 49, _, _, _, _, _⟩) (v := (mp pb)) rfl (by kernel_rfl) (by kernel_rfl) (by kernel_rfl) (fun _ _ _ h => h) (Or.inl ⟨by rfl, fun W hS => by go_simp⟩) hHeld ?_
            (try simp only [Act.put, List.setIfInBounds_toArray, List.set_cons_zero, List.set_cons_succ])
            refine wpAnyH_take (i := 1) (oi := ⟨some 50, _, _, _, _, _⟩) (v := (.slice (some ad2) way.length c2)) rfl (by kernel_rfl) (by kernel_rfl) (by kernel_rfl) (fun _ _ _ h => h) (Or.inl ⟨by rfl, fun W hS => by go_simp⟩) hHeld ?_
            (try simp only [Act.put, List.setIfInBounds_toArray, List.set_cons_zero, List.set_cons_succ])
            refine wpAnyH_take (i := 2) (oi := ⟨some 51, _, _, _, _, _⟩) (v := (.slice (some ad2) way.length c2)) rfl (by kernel_rfl) (by kernel_rfl) (by kernel_rfl) (fun _ _ _ h => h) (Or.inl ⟨by rfl, fun W hS => by go_simp⟩) hHeld ?_
            (try simp only [Act.put, List.setIfInBounds_toArray, List.set_cons_zero, List.set_cons_succ])
            refine wpAnyH_take (i := 3) (oi := ⟨some 52, _, _, _, _, _⟩) (v := (.int .i64 way.length)) rfl (by kernel_rfl) (by kernel_rfl) (by kernel_rfl) (fun _ _ _ h => h) (Or.inl ⟨by rfl, fun W hS => by go_simp⟩) hHeld ?_
            (try simp only [Act.put, List.setIfInBounds_toArray, List.set_cons_zero, List.set_cons_succ])
            refine wpAnyH_take (i := 4) (oi := ⟨some 53, _, _, _, _, _⟩) (v := (.int .i64 (J : Int))) rfl (by kernel_rfl) (by kernel_rfl) (by kernel_rfl) (fun _ _ _ h => h) (Or.inl ⟨by rfl, fun W hS => by go_simp; exact IntWalk.i64_in _ ⟨by omega, by omega⟩⟩) hHeld ?_
            (try simp only [Act.put, List.setIfInBounds_toArray, List.set_cons_zero, List.set_cons_succ])
            refine wpAnyH_take (i := 5) (oi := ⟨some 54, _, _, _, _, _⟩) (v := (.pointer (some (ad2.add J)))) rfl (by kernel_rfl) (by kernel_rfl) (by kernel_rfl) (fun _ _ _ h => h) (Or.inl ⟨by rfl, fun W hS => by go_simp⟩) hHeld ?_
            (try simp only [Act.put, List.setIfInBounds_toArray, List.set_cons_zero, List.set_cons_succ])
            refine wpAnyH_take (i := 6) (oi := ⟨some 55, _, _, _, _, _⟩) (v := (.int .i64 a)) rfl (by kernel_rfl) (by kernel_rfl) (by kernel_rfl) (fun _ _ _ h => h) (Or.inl ⟨by rfl, fun W hS => by have cc := (show Turn1 mb w4 W from hS).cell CA.out NA.out; go_simp⟩) hHeld ?_
            (try simp only [Act.put, List.setIfInBounds_toArray, List.set_cons_zero, List.set_cons_succ])
            refine wpAnyH_take (i := 7) (oi := ⟨some 56, _, _, _, _, _⟩) (v := (.slice A L.length c)) rfl (by kernel_rfl) (by kernel_rfl) (by kernel_rfl) (fun _ _ _ h => h) (Or.inl ⟨by rfl, fun W hS => by go_simp⟩) hHeld ?_
            (try simp only [Act.put, List.setIfInBounds_toArray, List.set_cons_zero, List.set_cons_succ])
            refine wpAnyH_ready (rs := [8]) (by kernel_rfl) (by simp) ?_
            refine AllReadyH.cons rfl (fun K hK => ?_) AllReadyH.nil
            go_simp
            refine (HLS.out).mono ?_
            rintro e wl ⟨rfl, hb⟩
            dsimp only
            refine hK.out _ _ (turn1_step hHeld (below_turn1 hb)) (fun hH => ?_)
            have HMl := Aside0.mk (HMd.out.below hb)
            have HTl := Aside0.mk (Utf8Tabs_below HUd.out hb)
            clear hK K hHeld hb
            have hHeld := hH
            clear hH
            (try simp only [Act.put, List.setIfInBounds_toArray, List.set_cons_zero, List.set_cons_succ])
            refine wpAnyH_ready (rs := [9]) (by kernel_rfl) (by simp) ?_
            refine AllReadyH.cons rfl (fun K hK => ?_) AllReadyH.nil
            go_simp
            refine (drop_any HMl.out HO.out HDA.out (lastS L) HNM.out HTl.out).mono ?_
            rintro e wd ⟨rfl, hm, ht⟩
            dsimp only
            refine hK.out _ _ (turn1_step hHeld ht) (fun hH => ?_)
            have HMd2 := Aside0.mk hm
            have hb := trivial
            clear hm ht
            clear hK K hHeld hb
            have hHeld := hH
            clear hH
            (try simp only [Act.put, List.setIfInBounds_toArray, List.set_cons_zero, List.set_cons_succ])
            refine wpAnyH_done (by kernel_rfl) ?_ _
            have HTT := Aside0.mk (show Turn1 mb w4 wd from hHeld)
            clear hHeld
            (try simp only [Exit.then])
            go_wp2_with (go_at_call 35; refine Calls.mono (less_dir HMd2.out HT1.out) ?_; rintro e w9 ⟨rfl, hm, ht⟩; have HM9 := Aside0.mk hm; have HT9 := Aside0.mk (turn1_step (turn1_step (below_turn1 HB4.out) HTT.out) ht); clear hm ht)
            go_ret
            rw [HRR.out]
            exact ⟨rfl, mb, .inl rfl, HM9.out, HT9.out.turn⟩
        · rw [if_pos h5] at hR
          have HR := Aside0.mk hR
          have e5 : (dy == 0) = false := beq_eq_false_iff_ne.2 h5
          have e5' : (dy != 0) = true := by simp [h5]
          clear hR h5 hin hwl hws hne hl hino hii herr hval h0 hL3 hwl3 hdd
          go_enter Tryd.func16, Tryd.ntmps16
          go_wp2_with (first
            | (have hz := HB3.out; clear hz; go_at_call 38; refine Calls.mono (dir_any (HM.out.below HB3.out) HII.out) ?_; rw [HDD.out]; rintro e w4 ⟨A4, c4, rfl, _, _, hb⟩; have HB4 := Aside0.mk (below_step HB3.out hb); have HR4 := Aside0.mk (Kd.C_below HR3.out hb); have HS4 := Aside0.mk (Kd.C_below HS3.out hb);  clear hb)
            | (have hz := HB2.out; clear hz; go_at_call 32; refine Calls.mono (lastI_any A2 c2 way w2 HR2.out HC2.out HWP.out HWL.out) ?_; rw [HINO.out]; rintro e w3 ⟨rfl, hb⟩; have HB3 := Aside0.mk (below_step HB2.out hb); have HR3 := Aside0.mk (Kd.C_below HR2.out hb); have HS3 := Aside0.mk (Kd.C_below HS2.out hb);  clear hb)
            | (have hz := HB1.out; clear hz; go_at_call 31; refine Calls.mono (way_any (HM.out.below HB1.out) HO.out A c L HS1.out HC1.out HNS.out HL1.out) ?_; rw [HY2.out, HWY.out]; rintro e w2 ⟨A2, c2, rfl, hr2, hc2, hb⟩; have HB2 := Aside0.mk (below_step HB1.out hb); have HR2 := Aside0.mk hr2; have HC2 := Aside0.mk hc2; have HS2 := Aside0.mk (Kd.C_below HS1.out hb); clear hb hr2 hc2)
            | (go_at_call 23; refine Calls.mono HSP.out ?_; rintro e w1 ⟨A, c, rfl, hs, hc, hb⟩; have HB1 := Aside0.mk hb; have HS1 := Aside0.mk hs; have HC1 := Aside0.mk hc; clear hb hs hc))
          go_ret
          rw [← HR.out]
          exact Out.same HM.out (HB4.out) _
      · rw [if_pos h3] at hR
        have HR := Aside0.mk hR
        obtain rfl := herr h3
        have e3 : (y2 == 0) = false := beq_eq_false_iff_ne.2 h3
        have e3' : (y2 != 0) = true := by simp [h3]
        clear hR h3 hne hwl hws hin herr hval h0 hL3 hwl3
        go_enter Tryd.func16, Tryd.ntmps16
        go_wp2_with (first
          | (have hz := HB1.out; clear hz; go_at_call 31; refine Calls.mono (way_any (HM.out.below HB1.out) HO.out A c L HS1.out HC1.out HNS.out HL1.out) ?_; rw [HY2.out, HWY.out]; rintro e w2 ⟨A2, c2, rfl, hr2, hc2, hb⟩; have HB2 := Aside0.mk (below_step HB1.out hb); have HR2 := Aside0.mk hr2; have HC2 := Aside0.mk hc2; have HS2 := Aside0.mk (Kd.C_below HS1.out hb); clear hb hr2 hc2)
          | (go_at_call 23; refine Calls.mono HSP.out ?_; rintro e w1 ⟨A, c, rfl, hs, hc, hb⟩; have HB1 := Aside0.mk hb; have HS1 := Aside0.mk hs; have HC1 := Aside0.mk hc; clear hb hs hc))
        go_ret
        rw [← HR.out]
        exact Out.same HM.out (HB2.out) _
  · rw [if_pos h1] at hR
    have HR := Aside0.mk hR
    have e1 : (y1 == 0) = false := beq_eq_false_iff_ne.2 h1
    have e1' : (y1 != 0) = true := by simp [h1]
    clear hR h1 hgood
    go_enter Tryd.func16, Tryd.ntmps16
    go_wp2_with (first
      | (go_at_call 23; refine Calls.mono HSP.out ?_; rintro e w1 ⟨A, c, rfl, hs, hc, hb⟩; have HB1 := Aside0.mk hb; have HS1 := Aside0.mk hs; have HC1 := Aside0.mk hc; clear hb hs hc))
    go_ret
    rw [← HR.out]
    exact Out.same HM.out (HB1.out) _
end Go.Proofs.YtcmcmkfoihlniaaDoor.MM
end

section
namespace Go.Proofs.YtcmcmkfoihlniaaDoor.MM
open Go Go.RowKit Go.Maps Go.Proofs.YtcmcmkfoihlniaaDoorX Go.Proofs.YtcmcmkfoihlniaaDoor.NM Go.Proofs.YtcmcmkfoihlniaaDoor.EN Go.Proofs.YtcmcmkfoihlniaaDoorW.PrintWords Go.Proofs.YtcmcmkfoihlniaaDoorW.PrintLast Go.Proofs.YtcmcmkfoihlniaaDoorW.PrintMore Go.Proofs.YtcmcmkfoihlniaaDoor.PModelUndoes
set_option linter.unusedVariables false
set_option linter.unusedSimpArgs false
set_option maxRecDepth 100000
set_option maxHeartbeats 1000000
attribute [local go_sem] max2_int min2_int max_two min_two
def layB (b : List Int) (o : Nat) (d : List Int) : List Int := splice (cutB b (max b.length (o + d.length))) o d
theorem layB_length (b : List Int) (o : Nat) (d : List Int) : (layB b o d).length = max b.length (o + d.length) := by
  unfold layB
  rw [length_splice _ _ _ (by rw [cutB_length]; omega), cutB_length]
theorem nu_splice (a : List Int) (o : Nat) (d : List Int) : splice (nu a) o (nu d) = nu (splice a o d) := by
  unfold splice nu Go.Proofs.YtcmcmkfoihlniaaDoorW.PrintWords.nums
  rw [List.map_append, List.map_append, List.map_take, List.map_drop, List.length_map]
theorem cutB_long {b : List Int} {n : Nat} (h : b.length ≤ n) : cutB b n = b ++ List.replicate (n - b.length) 0 := by unfold cutB; rw [List.take_of_length_le h]
theorem reads_all {w : World} {B : Option Addr} {b : List Int} (h : ReadsInt w .u8 B b.length b) (h0 : 0 < (nu b).length) : ∃ ad, B = some ad ∧ ∀ j v, (nu b)[j]? = some v → w.cell? (ad.add j) = some v := by
  obtain ⟨ad, e, hc⟩ := h.2.2 (by rw [← nu_length]; exact h0)
  refine ⟨ad, e, fun j v hj => ?_⟩
  obtain ⟨h1, rfl⟩ := nu_get hj
  exact hc j h1
def writeR (q : Int) (T : Tree) (p : ByteArray) (off : Int) (d : List Int) : Tree × Int :=
  if (openR T p).2.2.2 ≠ 0 then (T, (openR T p).2.2.2) else if off < 0 then (T, 1) else if 2000 < d.length then (T, 3) else if 3808 - (d.length : Int) < off then (T, 39) else if d.length = 0 then (T, 0) else
  tryR q T (upd T (openR T p).1 (some (.file (layB (openR T p).2.1 off.toNat d) (openR T p).2.2.1)))
theorem write_any {w : World} {pb mb : Nat} {q : Int} {T : Tree} (h : Mdl w pb mb q T) (hO : Ok T) (p : ByteArray) (off : Int) (DA : Option Addr) (dc : Nat) (d : List Int) (hd : ReadsInt w .u8 DA d.length d) (hdc : d.length ≤ dc) (hT : Lib.Utf8Tabs 2 3 w) :
    Calls Tryd.prog 9 #[mp pb, .string p, .int .i64 off, .slice DA d.length dc] w (Out w pb mb q (writeR q T p off d)) := by
  have HOP := Aside0.mk (open_any h hO p hT)
  have hgood := @openR_good T p
  have HM := Aside0.mk h
  have HO := Aside0.mk hO
  have HD := Aside0.mk hd
  have hdl := hd.2.1
  obtain ⟨R, hR⟩ : ∃ R, writeR q T p off d = R := ⟨_, rfl⟩
  rw [hR]
  unfold writeR at hR
  obtain ⟨ino, b, k, y, hop⟩ : ∃ i b k y, openR T p = (i, b, k, y) := ⟨_, _, _, _, rfl⟩
  rw [hop] at hR HOP hgood
  simp only at hR HOP hgood
  clear hop h hO hT hd hdc
  by_cases h1 : y = 0
  · subst h1
    rw [if_neg (fun h => h rfl)] at hR
    have hTi := hgood rfl
    have hfb := HO.out.files ino b k hTi
    have HIN := Aside0.mk (HM.out.2.1 ino (by rw [hTi]; simp))
    have HFB := Aside0.mk hfb
    clear hgood hTi
    by_cases hc : off < 0
    · rw [if_pos hc] at hR
      have HR := Aside0.mk hR
      have o1 : decide (off < 0) = true := decide_eq_true hc
      clear hR hc hfb
      go_enter Tryd.func9, Tryd.ntmps9
      go_wp2_with (go_at_call 25; refine Calls.mono HOP.out ?_; rintro e w1 ⟨B, cb, rfl, hrb, hcb, hb⟩; have HB1 := Aside0.mk hb; clear hb hrb hcb)
      go_ret
      rw [← HR.out]
      exact Out.same HM.out (below_alloc HB1.out _) _
    · rw [if_neg hc] at hR
      have o1 : decide (off < 0) = false := decide_eq_false hc
      obtain ⟨o, rfl⟩ : ∃ n : Nat, off = (n : Int) := ⟨off.toNat, by omega⟩
      clear hc
      by_cases hc : 2000 < d.length
      · rw [if_pos hc] at hR
        have HR := Aside0.mk hR
        have o2 : decide ((2000 : Int) < (d.length : Int)) = true := decide_eq_true (by omega)
        clear hR hc hfb
        go_enter Tryd.func9, Tryd.ntmps9
        go_wp2_with (go_at_call 25; refine Calls.mono HOP.out ?_; rintro e w1 ⟨B, cb, rfl, hrb, hcb, hb⟩; have HB1 := Aside0.mk hb; clear hb hrb hcb)
        go_ret
        rw [← HR.out]
        exact Out.same HM.out (below_alloc HB1.out _) _
      · rw [if_neg hc] at hR
        have o2 : decide ((2000 : Int) < (d.length : Int)) = false := decide_eq_false (by omega)
        have hd2 : d.length ≤ 2000 := by omega
        clear hc
        by_cases hc : 3808 - (d.length : Int) < (o : Int)
        · rw [if_pos hc] at hR
          have HR := Aside0.mk hR
          have o3 : decide (3808 - (d.length : Int) < (o : Int)) = true := decide_eq_true hc
          clear hR hc hfb
          go_enter Tryd.func9, Tryd.ntmps9
          go_wp2_with (go_at_call 25; refine Calls.mono HOP.out ?_; rintro e w1 ⟨B, cb, rfl, hrb, hcb, hb⟩; have HB1 := Aside0.mk hb; clear hb hrb hcb)
          go_ret
          rw [← HR.out]
          exact Out.same HM.out (below_alloc HB1.out _) _
        · rw [if_neg hc] at hR
          have o3 : decide (3808 - (d.length : Int) < (o : Int)) = false := decide_eq_false hc
          have ho2 : o + d.length ≤ 3808 := by omega
          clear hc
          by_cases hc : d.length = 0
          · rw [if_pos hc] at hR
            have HR := Aside0.mk hR
            have o4 : ((d.length : Int) == 0) = true := beq_iff_eq.2 (by omega)
            clear hR hc hfb
            go_enter Tryd.func9, Tryd.ntmps9
            go_wp2_with (go_at_call 25; refine Calls.mono HOP.out ?_; rintro e w1 ⟨B, cb, rfl, hrb, hcb, hb⟩; have HB1 := Aside0.mk hb; clear hb hrb hcb)
            go_ret
            rw [← HR.out]
            exact Out.same HM.out (below_alloc HB1.out _) _
          · rw [if_neg hc] at hR
            have o4 : ((d.length : Int) == 0) = false := beq_eq_false_iff_ne.2 (by omega)
            have hd0 : 0 < d.length := by omega
            clear hc
            obtain ⟨n, hn⟩ : ∃ n : Nat, n = max b.length (o + d.length) := ⟨_, rfl⟩
            have HN := Aside0.mk (show n ≤ 3808 by omega)
            have HNO := Aside0.mk (show d.length ≤ n - o by omega)
            have HNO2 := Aside0.mk (show o + d.length ≤ n by omega)
            have HLL := Aside0.mk (show (splice (cutB b n) o d).length = n by rw [length_splice _ _ _ (by rw [cutB_length]; omega), cutB_length])
            have HRR := Aside0.mk (show tryR q T (upd T ino (some (.file (splice (cutB b n) o d) k))) = R by rw [hn]; exact hR)
            have e1 : (if (b.length : Int) < (o : Int) + (d.length : Int) then (o : Int) + (d.length : Int) else (b.length : Int)) = (n : Int) := by split <;> omega
            have e2 : (o : Int) ≤ (n : Int) := by omega
            have e3 : ¬ n = o := by omega
            clear hR hn hfb hdl
            go_enter Tryd.func9, Tryd.ntmps9
            go_wp2_with (first
              | (have hz := GB4.out; clear hz; go_at_call 27; refine Calls.mono (put_any' (HM.out.below HB4.out) HO.out ino HIN.out B b.length cb k HFB.out.2 (some ⟨g, 0, none⟩) n n (splice (cutB b n) o d) HLL.out HN.out HRC.out (Nat.le_refl n)) ?_; rw [HRR.out]; rintro e w5 ho; have HFIN := Aside0.mk (ho.lift HB4.out); obtain ⟨rfl, _⟩ := ho)
              | (have hz := GB3.out; clear hz; (with_reducible refine gate_dst (N := 58) rfl ?_); refine ev_copy rfl (.tmp 56) (.tmp 57) 23 23 rfl 5 Tryd.underlying23 sizeU8 (some ⟨g, o, none⟩) DA (n - o) (n - o) d.length dc (by kernel_rfl) (by kernel_rfl) g o (nu (cutB b n)) 5 GB3.out (nu d) (by rw [nu_length]; exact (Nat.min_eq_left HNO.out).symm) (fun h0 => ⟨rfl, reads_all HDR.out h0⟩) (by rw [nu_length, nu_length, cutB_length]; exact HNO2.out) (one_nums _ _) ?_; intro w4 hbox hg; rw [nu_splice] at hbox; have GB4 := Aside0.mk hbox; have HB4 := Aside0.mk (HB3.out.grown hg HB3.out.size (fun q e => by cases e; rw [HGS.out]; exact HBV.out.size)); have hcn3 := cell_keep hcn hg (by rw [HGS.out]; exact Nat.ne_of_lt HLT.out); have hcn4 := cell_keep hcn2 hg (by rw [HGS.out]; exact Nat.ne_of_lt HLT.out); have HRC := Aside0.mk (show ReadsInt w4 .u8 (some ⟨g, 0, none⟩) (splice (cutB b n) o d).length (splice (cutB b n) o d) from reads_block hbox (by rw [HLL.out]; have := HN.out; omega)); clear hbox hg)
              | (have hz := HGS.out; clear hz; (with_reducible refine gate_dst (N := 53) rfl ?_); refine ev_copy rfl (.tmp 50) (.tmp 52) 23 23 rfl 5 Tryd.underlying23 sizeU8 (some ⟨g, 0, none⟩) B n n b.length cb (by kernel_rfl) (by kernel_rfl) g 0 (nu (List.replicate n 0)) 5 GB.out (nu (b.take n)) (by rw [nu_length, List.length_take]; exact Nat.min_comm _ _) (fun h0 => ⟨rfl, reads_src HR2.out n h0⟩) (by rw [nu_length, nu_length, List.length_take, List.length_replicate]; omega) (one_nums _ _) ?_; intro w3 hbox hg; rw [nums_splice] at hbox; have GB3 := Aside0.mk hbox; have HB3 := Aside0.mk (HB2.out.grown hg HB2.out.size (fun q e => by cases e; rw [HGS.out]; exact HBV.out.size)); have hcn := cell_keep c02 hg (by rw [HGS.out]; exact Nat.ne_of_lt HLT.out); have hcn2 := cell_keep c12 hg (by rw [HGS.out]; exact Nat.ne_of_lt HLT.out); have HDR := Aside0.mk (HD.out.below (HB3.out)); clear hbox hg)
              | ((with_reducible refine gate_dst (N := 49) rfl ?_); rw [← HW1.out]; refine ev_make rfl (.tmp 48) (.tmp 48) 23 5 .u8 1 rfl Tryd.underlying23 info5 n n .i64 .i64 (n : Int) (n : Int) (by kernel_rfl) (by kernel_rfl) rfl rfl (Nat.le_refl _) (by have := HN.out; omega) (by have := HN.out; omega) ?_; intro g hg w2 hbox hb; have HB2 := Aside0.mk (below_step HBV.out hb); have GB := Aside0.mk hbox; have HGS := Aside0.mk hg; have c02 := pw_cell_below hb C0.out; have c12 := pw_cell_below hb C1.out; have HR2 := Aside0.mk (HRB.out.below hb); clear hb hbox hg)
              | (go_at_call 25; refine Calls.mono HOP.out ?_; rintro e w1 ⟨B, cb, rfl, hrb, hcb, hb⟩; have HB1 := Aside0.mk hb; obtain ⟨W1, hW1⟩ : ∃ W1, W1 = w1.alloc (.cells #[.slice B b.length cb, .int .i64 k] 62) := ⟨_, rfl⟩; have HW1 := Aside0.mk hW1; have hb1 := (show Below w1.heap.size w1 W1 by rw [hW1]; exact below_alloc (Below.refl _ _) _); have HBV := Aside0.mk (below_step HB1.out hb1); have HRB := Aside0.mk (hrb.below hb1); have hg3 := (show W1.heap[w1.heap.size]? = some (.cells #[.slice B b.length cb, .int .i64 k] 62 (0, 0)) by rw [hW1]; exact heap_new _ _); have C0 := Aside0.mk (show W1.cell? ⟨w1.heap.size, 0, none⟩ = some (.slice B b.length cb) by simp [World.cell?, hg3]); have C1 := Aside0.mk (show W1.cell? ⟨w1.heap.size, 1, none⟩ = some (.int .i64 k) by simp [World.cell?, hg3]); have HLT := Aside0.mk (blk_lt hg3); clear hb hrb hcb hb1 hW1 hg3))
            go_ret
            exact HFIN.out
  · rw [if_pos h1] at hR
    have HR := Aside0.mk hR
    have y1 : (y == 0) = false := beq_eq_false_iff_ne.2 h1
    have y2 : (y != 0) = true := by simp [h1]
    clear hR h1 hgood
    go_enter Tryd.func9, Tryd.ntmps9
    go_wp2_with (go_at_call 25; refine Calls.mono HOP.out ?_; rintro e w1 ⟨B, cb, rfl, hrb, hcb, hb⟩; have HB1 := Aside0.mk hb; clear hb hrb hcb)
    go_ret
    rw [← HR.out]
    exact Out.same HM.out (below_alloc HB1.out _) _
end Go.Proofs.YtcmcmkfoihlniaaDoor.MM
end

section
namespace Go.Proofs.YtcmcmkfoihlniaaDoor.MM
open Go Go.RowKit Go.Maps Go.Proofs.YtcmcmkfoihlniaaDoorX Go.Proofs.YtcmcmkfoihlniaaDoor.NM Go.Proofs.YtcmcmkfoihlniaaDoor.EN Go.Proofs.YtcmcmkfoihlniaaDoorW.PrintWords Go.Proofs.YtcmcmkfoihlniaaDoorW.PrintLast Go.Proofs.YtcmcmkfoihlniaaDoorW.PrintMore Go.Proofs.YtcmcmkfoihlniaaDoor.PModelUndoes
set_option linter.unusedVariables false
set_option linter.unusedSimpArgs false
set_option maxRecDepth 100000
set_option maxHeartbeats 8000000
attribute [local go_sem] max2_int min2_int max_two min_two
structure OpV where
  what : Int
  p : ByteArray
  q : ByteArray
  off : Int
  n : Int
  data : List Int
abbrev opC (A : Option Addr) (c : Nat) (o : OpV) : Array Value := #[.int .i64 o.what, .string o.p, .string o.q, .int .i64 o.off, .int .i64 o.n, .slice A o.data.length c]
def doR (q : Int) (T : Tree) (o : OpV) : Tree × Int :=
  if o.what = 0 then makeR q T o.p (.file [] 1) else if o.what = 1 then makeR q T o.p (.dir []) else if o.what = 2 then linkR q T o.p o.q else
  if o.what = 3 then unlinkR T o.p else if o.what = 4 then rmdirR T o.p else if o.what = 5 then renameR q T o.p o.q else
  if o.what = 7 then writeR q T o.p o.off o.data else if o.what = 8 then truncR q T o.p o.n else (T, 0)
theorem do_any {w : World} {pb mb : Nat} {q : Int} {T : Tree} (h : Mdl w pb mb q T) (hO : Ok T) (hroot : ∃ d, T 1 = some (.dir d)) (hnd : ∀ k n, (stepR (T k) n).2 = 0 → T (stepR (T k) n).1 ≠ none) (o : OpV) (A : Option Addr) (c : Nat) (hd : ReadsInt w .u8 A o.data.length o.data) (hdc : o.data.length ≤ c) (hT : Lib.Utf8Tabs 2 3 w) :
    Calls Tryd.prog 20 #[mp pb, .agg (opC A c o)] w (Out w pb mb q (doR q T o)) := by
  have HM := Aside0.mk h
  have HO := Aside0.mk hO
  have HR := Aside0.mk hroot
  have HN := Aside0.mk hnd
  have HT := Aside0.mk hT
  have HD := Aside0.mk hd
  have HC := Aside0.mk hdc
  clear h hO hroot hnd hT hd hdc
  obtain ⟨R, hR⟩ : ∃ R, doR q T o = R := ⟨_, rfl⟩
  rw [hR]
  unfold doR at hR
  by_cases h0 : o.what = 0
  · rw [if_pos h0] at hR
    have HRR := Aside0.mk hR
    have e0 : (o.what == 0) = true := beq_iff_eq.2 h0
    clear hR h0
    go_enter Tryd.func20, Tryd.ntmps20
    go_wp2_with (first
      | (go_at_call 12; refine Calls.mono (create_any (HM.out.below HB.out) HO.out o.p (Utf8Tabs_below HT.out HB.out)) ?_; rw [HRR.out]; rintro e w9 ⟨rfl, hx⟩; have HFIN := Aside0.mk (Out.lift ⟨rfl, hx⟩ HB.out); clear hx)
      | ((with_reducible refine gate_dst (N := 3) rfl ?_); refine box_event ?hg (N := 3) ?hd (cs := #[.int .i64 o.what, .string o.p, .string o.q, .int .i64 o.off, .int .i64 o.n, .slice A o.data.length c]) (t := 48) ?hr ?_; (case hd => rfl); (case hg => rfl); (case hr => first | (go_simp; done) | (go_simp; rfl)); intro g1 hg w1 hbox hb; have HB := Aside0.mk hb; have c0 : w1.cell? ⟨g1, 0, none⟩ = some (.int .i64 o.what) := (blk_cell hbox 0).trans rfl; have c1 : w1.cell? ⟨g1, 1, none⟩ = some (.string o.p) := (blk_cell hbox 1).trans rfl; have c2 : w1.cell? ⟨g1, 2, none⟩ = some (.string o.q) := (blk_cell hbox 2).trans rfl; have c3 : w1.cell? ⟨g1, 3, none⟩ = some (.int .i64 o.off) := (blk_cell hbox 3).trans rfl; have c4 : w1.cell? ⟨g1, 4, none⟩ = some (.int .i64 o.n) := (blk_cell hbox 4).trans rfl; have c5 : w1.cell? ⟨g1, 5, none⟩ = some (.slice A o.data.length c) := (blk_cell hbox 5).trans rfl; clear hg hb hbox))
    go_ret
    exact HFIN.out
  rw [if_neg h0] at hR
  have e0 : (o.what == 0) = false := beq_eq_false_iff_ne.2 h0
  clear h0
  by_cases h1 : o.what = 1
  · rw [if_pos h1] at hR
    have HRR := Aside0.mk hR
    have e1 : (o.what == 1) = true := beq_iff_eq.2 h1
    clear hR h1
    go_enter Tryd.func20, Tryd.ntmps20
    go_wp2_with (first
      | (go_at_call 15; refine Calls.mono (mkdir_any (HM.out.below HB.out) HO.out o.p (Utf8Tabs_below HT.out HB.out)) ?_; rw [HRR.out]; rintro e w9 ⟨rfl, hx⟩; have HFIN := Aside0.mk (Out.lift ⟨rfl, hx⟩ HB.out); clear hx)
      | ((with_reducible refine gate_dst (N := 3) rfl ?_); refine box_event ?hg (N := 3) ?hd (cs := #[.int .i64 o.what, .string o.p, .string o.q, .int .i64 o.off, .int .i64 o.n, .slice A o.data.length c]) (t := 48) ?hr ?_; (case hd => rfl); (case hg => rfl); (case hr => first | (go_simp; done) | (go_simp; rfl)); intro g1 hg w1 hbox hb; have HB := Aside0.mk hb; have c0 : w1.cell? ⟨g1, 0, none⟩ = some (.int .i64 o.what) := (blk_cell hbox 0).trans rfl; have c1 : w1.cell? ⟨g1, 1, none⟩ = some (.string o.p) := (blk_cell hbox 1).trans rfl; have c2 : w1.cell? ⟨g1, 2, none⟩ = some (.string o.q) := (blk_cell hbox 2).trans rfl; have c3 : w1.cell? ⟨g1, 3, none⟩ = some (.int .i64 o.off) := (blk_cell hbox 3).trans rfl; have c4 : w1.cell? ⟨g1, 4, none⟩ = some (.int .i64 o.n) := (blk_cell hbox 4).trans rfl; have c5 : w1.cell? ⟨g1, 5, none⟩ = some (.slice A o.data.length c) := (blk_cell hbox 5).trans rfl; clear hg hb hbox))
    go_ret
    exact HFIN.out
  rw [if_neg h1] at hR
  have e1 : (o.what == 1) = false := beq_eq_false_iff_ne.2 h1
  clear h1
  by_cases h2 : o.what = 2
  · rw [if_pos h2] at hR
    have HRR := Aside0.mk hR
    have e2 : (o.what == 2) = true := beq_iff_eq.2 h2
    clear hR h2
    go_enter Tryd.func20, Tryd.ntmps20
    go_wp2_with (first
      | (go_at_call 17; refine Calls.mono (link_any (HM.out.below HB.out) HO.out o.p o.q (Utf8Tabs_below HT.out HB.out)) ?_; rw [HRR.out]; rintro e w9 ⟨rfl, hx⟩; have HFIN := Aside0.mk (Out.lift ⟨rfl, hx⟩ HB.out); clear hx)
      | ((with_reducible refine gate_dst (N := 3) rfl ?_); refine box_event ?hg (N := 3) ?hd (cs := #[.int .i64 o.what, .string o.p, .string o.q, .int .i64 o.off, .int .i64 o.n, .slice A o.data.length c]) (t := 48) ?hr ?_; (case hd => rfl); (case hg => rfl); (case hr => first | (go_simp; done) | (go_simp; rfl)); intro g1 hg w1 hbox hb; have HB := Aside0.mk hb; have c0 : w1.cell? ⟨g1, 0, none⟩ = some (.int .i64 o.what) := (blk_cell hbox 0).trans rfl; have c1 : w1.cell? ⟨g1, 1, none⟩ = some (.string o.p) := (blk_cell hbox 1).trans rfl; have c2 : w1.cell? ⟨g1, 2, none⟩ = some (.string o.q) := (blk_cell hbox 2).trans rfl; have c3 : w1.cell? ⟨g1, 3, none⟩ = some (.int .i64 o.off) := (blk_cell hbox 3).trans rfl; have c4 : w1.cell? ⟨g1, 4, none⟩ = some (.int .i64 o.n) := (blk_cell hbox 4).trans rfl; have c5 : w1.cell? ⟨g1, 5, none⟩ = some (.slice A o.data.length c) := (blk_cell hbox 5).trans rfl; clear hg hb hbox))
    go_ret
    exact HFIN.out
  rw [if_neg h2] at hR
  have e2 : (o.what == 2) = false := beq_eq_false_iff_ne.2 h2
  clear h2
  by_cases h3 : o.what = 3
  · rw [if_pos h3] at hR
    have HRR := Aside0.mk hR
    have e3 : (o.what == 3) = true := beq_iff_eq.2 h3
    clear hR h3
    go_enter Tryd.func20, Tryd.ntmps20
    go_wp2_with (first
      | (go_at_call 13; refine Calls.mono (unlink_any (HM.out.below HB.out) HO.out HR.out o.p (Utf8Tabs_below HT.out HB.out)) ?_; rw [HRR.out]; rintro e w9 ⟨rfl, hx⟩; have HFIN := Aside0.mk (Out.lift ⟨rfl, hx⟩ HB.out); clear hx)
      | ((with_reducible refine gate_dst (N := 3) rfl ?_); refine box_event ?hg (N := 3) ?hd (cs := #[.int .i64 o.what, .string o.p, .string o.q, .int .i64 o.off, .int .i64 o.n, .slice A o.data.length c]) (t := 48) ?hr ?_; (case hd => rfl); (case hg => rfl); (case hr => first | (go_simp; done) | (go_simp; rfl)); intro g1 hg w1 hbox hb; have HB := Aside0.mk hb; have c0 : w1.cell? ⟨g1, 0, none⟩ = some (.int .i64 o.what) := (blk_cell hbox 0).trans rfl; have c1 : w1.cell? ⟨g1, 1, none⟩ = some (.string o.p) := (blk_cell hbox 1).trans rfl; have c2 : w1.cell? ⟨g1, 2, none⟩ = some (.string o.q) := (blk_cell hbox 2).trans rfl; have c3 : w1.cell? ⟨g1, 3, none⟩ = some (.int .i64 o.off) := (blk_cell hbox 3).trans rfl; have c4 : w1.cell? ⟨g1, 4, none⟩ = some (.int .i64 o.n) := (blk_cell hbox 4).trans rfl; have c5 : w1.cell? ⟨g1, 5, none⟩ = some (.slice A o.data.length c) := (blk_cell hbox 5).trans rfl; clear hg hb hbox))
    go_ret
    exact HFIN.out
  rw [if_neg h3] at hR
  have e3 : (o.what == 3) = false := beq_eq_false_iff_ne.2 h3
  clear h3
  by_cases h4 : o.what = 4
  · rw [if_pos h4] at hR
    have HRR := Aside0.mk hR
    have e4 : (o.what == 4) = true := beq_iff_eq.2 h4
    clear hR h4
    go_enter Tryd.func20, Tryd.ntmps20
    go_wp2_with (first
      | (go_at_call 16; refine Calls.mono (rmdir_any (HM.out.below HB.out) HO.out o.p (Utf8Tabs_below HT.out HB.out)) ?_; rw [HRR.out]; rintro e w9 ⟨rfl, hx⟩; have HFIN := Aside0.mk (Out.lift ⟨rfl, hx⟩ HB.out); clear hx)
      | ((with_reducible refine gate_dst (N := 3) rfl ?_); refine box_event ?hg (N := 3) ?hd (cs := #[.int .i64 o.what, .string o.p, .string o.q, .int .i64 o.off, .int .i64 o.n, .slice A o.data.length c]) (t := 48) ?hr ?_; (case hd => rfl); (case hg => rfl); (case hr => first | (go_simp; done) | (go_simp; rfl)); intro g1 hg w1 hbox hb; have HB := Aside0.mk hb; have c0 : w1.cell? ⟨g1, 0, none⟩ = some (.int .i64 o.what) := (blk_cell hbox 0).trans rfl; have c1 : w1.cell? ⟨g1, 1, none⟩ = some (.string o.p) := (blk_cell hbox 1).trans rfl; have c2 : w1.cell? ⟨g1, 2, none⟩ = some (.string o.q) := (blk_cell hbox 2).trans rfl; have c3 : w1.cell? ⟨g1, 3, none⟩ = some (.int .i64 o.off) := (blk_cell hbox 3).trans rfl; have c4 : w1.cell? ⟨g1, 4, none⟩ = some (.int .i64 o.n) := (blk_cell hbox 4).trans rfl; have c5 : w1.cell? ⟨g1, 5, none⟩ = some (.slice A o.data.length c) := (blk_cell hbox 5).trans rfl; clear hg hb hbox))
    go_ret
    exact HFIN.out
  rw [if_neg h4] at hR
  have e4 : (o.what == 4) = false := beq_eq_false_iff_ne.2 h4
  clear h4
  by_cases h5 : o.what = 5
  · rw [if_pos h5] at hR
    have HRR := Aside0.mk hR
    have e5 : (o.what == 5) = true := beq_iff_eq.2 h5
    clear hR h5
    go_enter Tryd.func20, Tryd.ntmps20
    go_wp2_with (first
      | (go_at_call 18; refine Calls.mono (rename_any (HM.out.below HB.out) HO.out HN.out o.p o.q (Utf8Tabs_below HT.out HB.out)) ?_; rw [HRR.out]; rintro e w9 ⟨rfl, hx⟩; have HFIN := Aside0.mk (Out.lift ⟨rfl, hx⟩ HB.out); clear hx)
      | ((with_reducible refine gate_dst (N := 3) rfl ?_); refine box_event ?hg (N := 3) ?hd (cs := #[.int .i64 o.what, .string o.p, .string o.q, .int .i64 o.off, .int .i64 o.n, .slice A o.data.length c]) (t := 48) ?hr ?_; (case hd => rfl); (case hg => rfl); (case hr => first | (go_simp; done) | (go_simp; rfl)); intro g1 hg w1 hbox hb; have HB := Aside0.mk hb; have c0 : w1.cell? ⟨g1, 0, none⟩ = some (.int .i64 o.what) := (blk_cell hbox 0).trans rfl; have c1 : w1.cell? ⟨g1, 1, none⟩ = some (.string o.p) := (blk_cell hbox 1).trans rfl; have c2 : w1.cell? ⟨g1, 2, none⟩ = some (.string o.q) := (blk_cell hbox 2).trans rfl; have c3 : w1.cell? ⟨g1, 3, none⟩ = some (.int .i64 o.off) := (blk_cell hbox 3).trans rfl; have c4 : w1.cell? ⟨g1, 4, none⟩ = some (.int .i64 o.n) := (blk_cell hbox 4).trans rfl; have c5 : w1.cell? ⟨g1, 5, none⟩ = some (.slice A o.data.length c) := (blk_cell hbox 5).trans rfl; clear hg hb hbox))
    go_ret
    exact HFIN.out
  rw [if_neg h5] at hR
  have e5 : (o.what == 5) = false := beq_eq_false_iff_ne.2 h5
  clear h5
  by_cases h7 : o.what = 7
  · rw [if_pos h7] at hR
    have HRR := Aside0.mk hR
    have e7 : (o.what == 7) = true := beq_iff_eq.2 h7
    clear hR h7
    go_enter Tryd.func20, Tryd.ntmps20
    go_wp2_with (first
      | (go_at_call 9; refine Calls.mono (write_any (HM.out.below HB.out) HO.out o.p o.off A c o.data (HD.out.below HB.out) HC.out (Utf8Tabs_below HT.out HB.out)) ?_; rw [HRR.out]; rintro e w9 ⟨rfl, hx⟩; have HFIN := Aside0.mk (Out.lift ⟨rfl, hx⟩ HB.out); clear hx)
      | ((with_reducible refine gate_dst (N := 3) rfl ?_); refine box_event ?hg (N := 3) ?hd (cs := #[.int .i64 o.what, .string o.p, .string o.q, .int .i64 o.off, .int .i64 o.n, .slice A o.data.length c]) (t := 48) ?hr ?_; (case hd => rfl); (case hg => rfl); (case hr => first | (go_simp; done) | (go_simp; rfl)); intro g1 hg w1 hbox hb; have HB := Aside0.mk hb; have c0 : w1.cell? ⟨g1, 0, none⟩ = some (.int .i64 o.what) := (blk_cell hbox 0).trans rfl; have c1 : w1.cell? ⟨g1, 1, none⟩ = some (.string o.p) := (blk_cell hbox 1).trans rfl; have c2 : w1.cell? ⟨g1, 2, none⟩ = some (.string o.q) := (blk_cell hbox 2).trans rfl; have c3 : w1.cell? ⟨g1, 3, none⟩ = some (.int .i64 o.off) := (blk_cell hbox 3).trans rfl; have c4 : w1.cell? ⟨g1, 4, none⟩ = some (.int .i64 o.n) := (blk_cell hbox 4).trans rfl; have c5 : w1.cell? ⟨g1, 5, none⟩ = some (.slice A o.data.length c) := (blk_cell hbox 5).trans rfl; clear hg hb hbox))
    go_ret
    exact HFIN.out
  rw [if_neg h7] at hR
  have e7 : (o.what == 7) = false := beq_eq_false_iff_ne.2 h7
  clear h7
  by_cases h8 : o.what = 8
  · rw [if_pos h8] at hR
    have HRR := Aside0.mk hR
    have e8 : (o.what == 8) = true := beq_iff_eq.2 h8
    clear hR h8
    go_enter Tryd.func20, Tryd.ntmps20
    go_wp2_with (first
      | (go_at_call 10; refine Calls.mono (trunc_any (HM.out.below HB.out) HO.out o.p o.n (Utf8Tabs_below HT.out HB.out)) ?_; rw [HRR.out]; rintro e w9 ⟨rfl, hx⟩; have HFIN := Aside0.mk (Out.lift ⟨rfl, hx⟩ HB.out); clear hx)
      | ((with_reducible refine gate_dst (N := 3) rfl ?_); refine box_event ?hg (N := 3) ?hd (cs := #[.int .i64 o.what, .string o.p, .string o.q, .int .i64 o.off, .int .i64 o.n, .slice A o.data.length c]) (t := 48) ?hr ?_; (case hd => rfl); (case hg => rfl); (case hr => first | (go_simp; done) | (go_simp; rfl)); intro g1 hg w1 hbox hb; have HB := Aside0.mk hb; have c0 : w1.cell? ⟨g1, 0, none⟩ = some (.int .i64 o.what) := (blk_cell hbox 0).trans rfl; have c1 : w1.cell? ⟨g1, 1, none⟩ = some (.string o.p) := (blk_cell hbox 1).trans rfl; have c2 : w1.cell? ⟨g1, 2, none⟩ = some (.string o.q) := (blk_cell hbox 2).trans rfl; have c3 : w1.cell? ⟨g1, 3, none⟩ = some (.int .i64 o.off) := (blk_cell hbox 3).trans rfl; have c4 : w1.cell? ⟨g1, 4, none⟩ = some (.int .i64 o.n) := (blk_cell hbox 4).trans rfl; have c5 : w1.cell? ⟨g1, 5, none⟩ = some (.slice A o.data.length c) := (blk_cell hbox 5).trans rfl; clear hg hb hbox))
    go_ret
    exact HFIN.out
  rw [if_neg h8] at hR
  have e8 : (o.what == 8) = false := beq_eq_false_iff_ne.2 h8
  clear h8
  go_enter Tryd.func20, Tryd.ntmps20
  go_wp2_with (first
    | ((with_reducible refine gate_dst (N := 3) rfl ?_); refine box_event ?hg (N := 3) ?hd (cs := #[.int .i64 o.what, .string o.p, .string o.q, .int .i64 o.off, .int .i64 o.n, .slice A o.data.length c]) (t := 48) ?hr ?_; (case hd => rfl); (case hg => rfl); (case hr => first | (go_simp; done) | (go_simp; rfl)); intro g1 hg w1 hbox hb; have HB := Aside0.mk hb; have c0 : w1.cell? ⟨g1, 0, none⟩ = some (.int .i64 o.what) := (blk_cell hbox 0).trans rfl; have c1 : w1.cell? ⟨g1, 1, none⟩ = some (.string o.p) := (blk_cell hbox 1).trans rfl; have c2 : w1.cell? ⟨g1, 2, none⟩ = some (.string o.q) := (blk_cell hbox 2).trans rfl; have c3 : w1.cell? ⟨g1, 3, none⟩ = some (.int .i64 o.off) := (blk_cell hbox 3).trans rfl; have c4 : w1.cell? ⟨g1, 4, none⟩ = some (.int .i64 o.n) := (blk_cell hbox 4).trans rfl; have c5 : w1.cell? ⟨g1, 5, none⟩ = some (.slice A o.data.length c) := (blk_cell hbox 5).trans rfl; clear hg hb hbox))
  go_ret
  rw [← hR]
  exact Out.same HM.out HB.out _
end Go.Proofs.YtcmcmkfoihlniaaDoor.MM
end

section
namespace Go.Proofs.YtcmcmkfoihlniaaDoor.MM
open Go Go.RowKit Go.Maps Go.Proofs.YtcmcmkfoihlniaaDoorX Go.Proofs.YtcmcmkfoihlniaaDoor.NM Go.Proofs.YtcmcmkfoihlniaaDoor.EN Go.Proofs.YtcmcmkfoihlniaaDoorW.PrintWords Go.Proofs.YtcmcmkfoihlniaaDoorW.PrintLast Go.Proofs.YtcmcmkfoihlniaaDoorW.PrintMore Go.Proofs.YtcmcmkfoihlniaaDoor.PModelUndoes
set_option linter.unusedVariables false
set_option linter.unusedSimpArgs false
def Good2 (q : Int) (T : Tree) : Prop := Inv T ∧ usedT T ≤ q
theorem move_inv {T : Tree} (hI : Inv T) {x y : List ByteArray} {i a b : Int} {da db : List S90} (ha : T a = some (.dir da)) (hb : T b = some (.dir db)) (hm : (⟨i, lastS x⟩ : S90) ∈ da) (hv : valid (lastS y).data.toList = true) (hl : a ≠ b → db.length < 64) (hf : ∀ j, (⟨j, lastS y⟩ : S90) ∉ midD a b da db (lastS x)) : Inv (moveR T x y i a b) := by
  rw [moveR_is ha hb]; exact inv_move hI ha hb hm hv hl hf
theorem mv_free {T : Tree} (hO : Ok T) {x y : List ByteArray} {i a b : Int} {da db : List S90} (h : Mv T x y i a b da db) : ∀ j, (⟨j, lastS y⟩ : S90) ∉ midD a b da db (lastS x) := by
  intro j hj
  unfold midD at hj
  by_cases e : b = a
  · rw [if_pos e] at hj
    have h1 := h.dest.dir
    rw [e, h.from_.dir] at h1
    obtain rfl : da = db := Nd.dir.inj (Option.some.inj h1)
    exact h.dest.free j ((rem_mem (hO.dirs _ _ h.from_.dir) h.from_.mem _).1 hj).1
  · rw [if_neg e] at hj
    exact h.dest.free j hj
theorem mv_inv {T : Tree} (hI : Inv T) {x y : List ByteArray} {i a b : Int} {da db : List S90} (h : Mv T x y i a b da db) : Inv (moveR T x y i a b) :=
  move_inv hI h.from_.dir h.dest.dir h.from_.mem h.dest.val h.len (mv_free hI.ok h)
theorem over_inv {q : Int} {T : Tree} (hI : Inv T) {x y : List ByteArray} {a b i o : Int} {da db : List S90} (hg : Got T x a da i) (hb : T b = some (.dir db)) (hm : (⟨o, lastS y⟩ : S90) ∈ db) (hv : valid (lastS y).data.toList = true) (ho : o ≠ i) (ht : (∃ b n, T o = some (.file b n)) ∨ T o = some (.dir [])) (hu : usedT T ≤ q) :
    Good2 q (moveR (lessR (upd T b (some (.dir (remR db (lastS y)).1))) o) x y i a b) := by
  have hI2 := inv_gone hI hb hm ht
  have hob : b ≠ o := fun e => by
    rw [← e, hb] at ht
    rcases ht with ⟨b, n, h⟩ | h
    · cases h
    · rw [Nd.dir.inj (Option.some.inj h)] at hm; cases hm
  have hoa : a ≠ o := fun e => by
    rw [← e, hg.dir] at ht
    have := hg.mem
    rcases ht with ⟨b, n, h⟩ | h
    · cases h
    · rw [Nd.dir.inj (Option.some.inj h)] at this; cases this
  obtain ⟨T2, hT2⟩ : ∃ T2, lessR (upd T b (some (.dir (remR db (lastS y)).1))) o = T2 := ⟨_, rfl⟩
  have hb2 : T2 b = some (.dir (remR db (lastS y)).1) := by rw [← hT2, lessR_other hob, upd_same]
  obtain ⟨da2, ha2, hm2, hda2⟩ : ∃ da2, T2 a = some (.dir da2) ∧ (⟨i, lastS x⟩ : S90) ∈ da2 ∧ (b = a → da2 = (remR db (lastS y)).1) := by
    by_cases e : b = a
    · subst e
      refine ⟨_, hb2, ?_, fun _ => rfl⟩
      obtain rfl : da = db := Nd.dir.inj (Option.some.inj (hg.dir.symm.trans hb))
      refine (rem_mem (hI.ok.dirs _ _ hb) hm _).2 ⟨hg.mem, fun en => ?_⟩
      have en : lastS x = lastS y := en
      have := hg.mem
      rw [en] at this
      exact ho (mem_once (hI.ok.dirs _ _ hb) hm this)
    · exact ⟨da, by rw [← hT2, lessR_other hoa, upd_other _ _ (fun h => e h.symm)]; exact hg.dir, hg.mem, fun h => absurd h e⟩
  have hlen := rem_len (hI.ok.dirs _ _ hb) hm
  have h64 := may_len (hI.ok.dirs _ _ hb)
  have hfree0 : ∀ j, (⟨j, lastS y⟩ : S90) ∉ (remR db (lastS y)).1 := fun j hj => ((rem_mem (hI.ok.dirs _ _ hb) hm _).1 hj).2 rfl
  rw [hT2] at hI2 ⊢
  have hfree : ∀ j, (⟨j, lastS y⟩ : S90) ∉ midD a b da2 (remR db (lastS y)).1 (lastS x) := by
    intro j hj
    unfold midD at hj
    by_cases e : b = a
    · rw [if_pos e] at hj
      have hj := ((rem_mem (hI2.ok.dirs _ _ ha2) hm2 _).1 hj).1
      rw [hda2 e] at hj
      exact hfree0 j hj
    · rw [if_neg e] at hj; exact hfree0 j hj
  refine ⟨move_inv hI2 ha2 hb2 hm2 hv (fun _ => by omega) hfree, Int.le_trans ?_ hu⟩
  rw [moveR_is ha2 hb2]
  refine Int.le_trans (usedT_mono (fun k => ?_)) (Int.le_refl _)
  have herr := mid_err hI2 ha2 hb2 hm2 hv (fun _ => by omega) hfree
  have hil := ins_len herr
  have hmid : (midD a b da2 (remR db (lastS y)).1 (lastS x)).length + 1 ≤ db.length := by
    unfold midD
    by_cases e : b = a
    · rw [if_pos e]
      have := remR_len da2 (lastS x)
      rw [hda2 e] at this ⊢
      omega
    · rw [if_neg e]; omega
  by_cases ek : k = b
  · subst ek
    unfold costT
    rw [upd_same, hb]
    exact useI_mono (dir_le (by omega))
  · refine Int.le_trans (Int.le_of_eq (show _ = costT (upd T2 a (some (.dir (remR da2 (lastS x)).1))) k by unfold costT; rw [upd_other _ _ ek])) ?_
    refine Int.le_trans (costT_upd_le ha2 (dir_le (remR_len da2 (lastS x))) k) ?_
    rw [← hT2]
    exact Int.le_trans (costT_less_le _ _ _) (costT_upd_le hb (dir_le (remR_len db (lastS y))) k)
theorem try_good {q : Int} {T F : Tree} (hT : Good2 q T) (hF : Inv F) : Good2 q (tryR q T F).1 := by
  unfold tryR
  split
  · exact hT
  · next h => exact ⟨hF, by show usedT F ≤ q; omega⟩
theorem make_good {q : Int} {T : Tree} (h : Good2 q T) (p : ByteArray) (x : Nd) (hx : x = .file [] 1 ∨ x = .dir []) : Good2 q (makeR q T p x).1 := by
  rcases make_or (q := q) h.1.ok p x with ⟨y, _, e⟩ | ⟨_, a, d, k, hp, hl, hk, hk2, hu, e⟩
  · rw [e]; exact h
  · rw [e]; exact ⟨inv_make h.1 hp hl hk hk2 x hx, hu⟩
theorem link_good {q : Int} {T : Tree} (h : Good2 q T) (p s : ByteArray) : Good2 q (linkR q T p s).1 := by
  rcases link_or (q := q) h.1.ok p s with ⟨y, _, e⟩ | ⟨_, a, d, k, b, n, hp, hl, hk, hn, hu, e⟩
  · rw [e]; exact h
  · rw [e]; exact ⟨inv_link h.1 hp hl hk hn, hu⟩
theorem unlink_good {q : Int} {T : Tree} (h : Good2 q T) (p : ByteArray) : Good2 q (unlinkR T p).1 := by
  rcases unlink_or h.1 p with ⟨y, _, e⟩ | ⟨_, a, d, i, b, n, hg, hi, e⟩
  · rw [e]; exact h
  · rw [e]; exact ⟨inv_gone h.1 hg.dir hg.mem (.inl ⟨b, n, hi⟩), Int.le_trans (used_gone _ hg.dir) h.2⟩
theorem rmdir_good {q : Int} {T : Tree} (h : Good2 q T) (p : ByteArray) : Good2 q (rmdirR T p).1 := by
  rcases rmdir_or h.1 p with ⟨y, _, e⟩ | ⟨_, a, d, i, hg, hi, e⟩
  · rw [e]; exact h
  · rw [e]; exact ⟨inv_gone h.1 hg.dir hg.mem (.inr hi), Int.le_trans (used_gone _ hg.dir) h.2⟩
theorem rename_good {q : Int} {T : Tree} (h : Good2 q T) (p s : ByteArray) : Good2 q (renameR q T p s).1 := by
  rcases rename_or (q := q) h.1 p s with ⟨y, _, e⟩ | ⟨_, a, b, i, o, da, db, hg, hb, hm, hv, ho, ht, e⟩ | ⟨_, _, a, b, i, da, db, hm, hu, e⟩
  · rw [e]; exact h
  · rw [e]; exact over_inv h.1 hg hb hm hv ho ht h.2
  · rw [e]; exact ⟨mv_inv h.1 hm, hu⟩
theorem bytes_good {q : Int} {T : Tree} (h : Good2 q T) {p : ByteArray} (he : (openR T p).2.2.2 = 0) (b' : List Int) (hb : b'.length ≤ 3808) : Good2 q (tryR q T (upd T (openR T p).1 (some (.file b' (openR T p).2.2.1)))).1 :=
  try_good h (h.1.bytes (openR_good he) b' hb)
theorem write_good {q : Int} {T : Tree} (h : Good2 q T) (p : ByteArray) (off : Int) (d : List Int) : Good2 q (writeR q T p off d).1 := by
  unfold writeR
  split; · exact h
  next h1 =>
  have h1 : (openR T p).2.2.2 = 0 := Decidable.not_not.1 h1
  split; · exact h
  split; · exact h
  split; · exact h
  split; · exact h
  refine bytes_good h h1 _ ?_
  rw [layB_length]
  have := (h.1.ok.files _ _ _ (openR_good h1)).1
  omega
theorem trunc_good {q : Int} {T : Tree} (h : Good2 q T) (p : ByteArray) (n : Int) : Good2 q (truncR q T p n).1 := by
  unfold truncR
  split; · exact h
  next h1 =>
  have h1 : (openR T p).2.2.2 = 0 := Decidable.not_not.1 h1
  split; · exact h
  split; · exact h
  split; · exact h
  refine bytes_good h h1 _ ?_
  rw [cutB_length]
  omega
theorem do_good {q : Int} {T : Tree} (h : Good2 q T) (o : OpV) : Good2 q (doR q T o).1 := by
  unfold doR
  split; · exact make_good h _ _ (.inl rfl)
  split; · exact make_good h _ _ (.inr rfl)
  split; · exact link_good h _ _
  split; · exact unlink_good h _
  split; · exact rmdir_good h _
  split; · exact rename_good h _ _
  split; · exact write_good h _ _ _
  split; · exact trunc_good h _ _
  exact h
def grownR (q : Int) (T : Tree) (l : List OpV) : Tree := l.foldl (fun T o => (doR q T o).1) T
theorem grown_good {q : Int} : ∀ (l : List OpV) {T : Tree}, Good2 q T → Good2 q (grownR q T l)
  | [], T, h => h
  | o :: l, T, h => grown_good l (do_good h o)
end Go.Proofs.YtcmcmkfoihlniaaDoor.MM
end

section
namespace Go.Proofs.YtcmcmkfoihlniaaDoor.MM
open Go Go.RowKit Go.Maps Go.Proofs.YtcmcmkfoihlniaaDoorX Go.Proofs.YtcmcmkfoihlniaaDoor.NM Go.Proofs.YtcmcmkfoihlniaaDoor.EN Go.Proofs.YtcmcmkfoihlniaaDoorW.PrintWords Go.Proofs.YtcmcmkfoihlniaaDoorW.PrintLast Go.Proofs.YtcmcmkfoihlniaaDoorW.PrintMore Go.Proofs.YtcmcmkfoihlniaaDoor.PModelUndoes
set_option linter.unusedVariables false
set_option linter.unusedSimpArgs false
set_option maxRecDepth 100000
set_option maxHeartbeats 1000000
attribute [local go_sem] max2_int min2_int max_two min_two
theorem quota_wide : room_Quota.f 1 30 40 128 = some 6720 := by kernel_rfl
theorem accepts_wide : room_Accepts.f 1 30 40 128 = some true := by kernel_rfl
abbrev wideV : Value := .agg #[.int .i64 30, .int .i64 40, .int .i64 128]
def T0 : Tree := fun k => if k = 1 then some (.dir []) else none
theorem mapT_new (w : World) : MapT (w.alloc (.map #[] 0)) w.heap.size (fun _ => none) :=
  ⟨fun k h => absurd rfl h, .map [], fun _ => .nilIface, (Go.Joins.ownsMap_empty (heap_new _ _)).mono (Nat.zero_le _), fun k _ => ⟨rfl, rfl, ⟨fun h => (nomatch (show (false : Bool) = true from h)), fun h => absurd rfl h⟩⟩⟩
theorem upd_T0 : upd (fun _ => none) 1 (some (.dir [])) = T0 := by
  funext k; unfold upd T0; rfl
theorem new_any (w : World) : Calls Tryd.prog 19 #[wideV] w fun e w' => ∃ pb mb, e = .returned (.tuple #[mp pb, .int .i64 0]) ∧ w.heap.size ≤ pb ∧ w.heap.size ≤ mb ∧ Mdl w' pb mb 6720 T0 ∧ Below w.heap.size w w' := by
  have hu27 := Tryd.underlying27
  go_enter Tryd.func19, Tryd.ntmps19
  go_wp2_with (first
    | ((with_reducible refine gate_dst (N := 13) rfl ?_); refine box_event ?hg (N := 13) ?hd (cs := #[.int .i64 6720, .map (some w3.heap.size)]) (t := 60) ?hr ?_; (case hd => rfl); (case hg => rfl); (case hr => first | (go_simp; done) | (go_simp; rfl)); intro g2 hg w5 hbox hb; have HB5 := Aside0.mk (below_step HB4.out hb); have HM5 := Aside0.mk (HM4.out.below hb); have HP := Aside0.mk hbox; have HGE := Aside0.mk (show w.heap.size ≤ g2 by rw [hg]; exact HB4.out.size); clear hg hb hbox)
    | (go_at_call 49; (with_reducible refine (room_Quota.calls 1 30 40 128 6720 _ quota_wide).mono ?_); rintro e w3 ⟨rfl, hb⟩; have HB3 := Aside0.mk (below_step HB2.out hb); obtain ⟨w4, hrun, hM, hg⟩ := (mapT_new w3).store (k := 1) ⟨by decide, by decide⟩ (nil_dir (w3.alloc (.map #[] 0))); rw [upd_T0] at hM; have HM4 := Aside0.mk hM; have HB4 := Aside0.mk (show Below w.heap.size w w4 from Below.grown (below_alloc HB3.out _) hg (Nat.le_trans HB3.out.size (by simp)) (fun k e => by cases e; exact HB3.out.size)); have HSZ := Aside0.mk HB3.out.size; have hmk : (Instr.makeMap 58 none).run Tryd.prog w3 = .ok (.map (some w3.heap.size)) (w3.alloc (.map #[] 0)) := rfl; clear hb hM hg)
    | (go_at_call 48; (refine (room_Accepts.calls 1 30 40 128 true _ accepts_wide).mono ?_; rintro e w2 ⟨rfl, hb⟩; have HB2 := Aside0.mk (below_step HB1.out hb); have BK2 := Aside0.mk (blk_keep BK.out hb); have d0 : w2.cell? ⟨g1, 0, none⟩ = some (.int .i64 30) := (blk_cell BK2.out 0).trans rfl; have d1 : w2.cell? ⟨g1, 1, none⟩ = some (.int .i64 40) := (blk_cell BK2.out 1).trans rfl; have d2 : w2.cell? ⟨g1, 2, none⟩ = some (.int .i64 128) := (blk_cell BK2.out 2).trans rfl; have y0 := blk_frozen BK2.out 0; have y1 := blk_frozen BK2.out 1; have y2 := blk_frozen BK2.out 2; clear hb))
    | ((with_reducible refine gate_dst (N := 1) rfl ?_); refine box_event ?hg (N := 1) ?hd (cs := #[.int .i64 30, .int .i64 40, .int .i64 128]) (t := 27) ?hr ?_; (case hd => rfl); (case hg => rfl); (case hr => first | (go_simp; done) | (go_simp; rfl)); intro g1 hg w1 hbox hb; have HB1 := Aside0.mk hb; have BK := Aside0.mk hbox; have c0 : w1.cell? ⟨g1, 0, none⟩ = some (.int .i64 30) := (blk_cell hbox 0).trans rfl; have c1 : w1.cell? ⟨g1, 1, none⟩ = some (.int .i64 40) := (blk_cell hbox 1).trans rfl; have c2 : w1.cell? ⟨g1, 2, none⟩ = some (.int .i64 128) := (blk_cell hbox 2).trans rfl; have z0 := blk_frozen hbox 0; have z1 := blk_frozen hbox 1; have z2 := blk_frozen hbox 2; clear hg hb hbox))
  go_ret2
  exact ⟨g2, w3.heap.size, rfl, HGE.out, HSZ.out, ⟨HP.out, HM5.out⟩, HB5.out⟩
end Go.Proofs.YtcmcmkfoihlniaaDoor.MM
end

section
namespace Go.Proofs.YtcmcmkfoihlniaaDoor.MM
open Go Go.RowKit Go.Maps Go.Proofs.YtcmcmkfoihlniaaDoorX Go.Proofs.YtcmcmkfoihlniaaDoor.NM Go.Proofs.YtcmcmkfoihlniaaDoor.EN Go.Proofs.YtcmcmkfoihlniaaDoorW.PrintWords Go.Proofs.YtcmcmkfoihlniaaDoorW.PrintLast Go.Proofs.YtcmcmkfoihlniaaDoorW.PrintMore Go.Proofs.YtcmcmkfoihlniaaDoor.PModelUndoes
set_option linter.unusedVariables false
set_option linter.unusedSimpArgs false
set_option maxRecDepth 100000
set_option maxHeartbeats 1000000
attribute [local go_sem] max2_int min2_int max_two min_two
theorem T0_ok : Ok T0 := by
  refine ⟨fun k l h => ?_, fun k b n h => ?_⟩
  · unfold T0 at h
    split at h
    · rw [← Nd.dir.inj (Option.some.inj h)]; decide
    · cases h
  · unfold T0 at h
    split at h
    · cases h
    · cases h
theorem T0_dirL (k : Int) : dirL (T0 k) = [] := by unfold T0; split <;> rfl
theorem T0_good : Good2 6720 T0 := by
  refine ⟨⟨T0_ok, fun k h => ?_, ⟨[], rfl⟩, fun k => ?_⟩, ?_⟩
  · unfold T0 at h
    split at h
    · next e => rw [e]; decide
    · exact absurd rfl h
  · have h1 : cntT T0 k = 0 := sumT_zero 64 (fun j _ _ => by rw [T0_dirL]; rfl)
    rw [h1]
    unfold lnk T0
    split
    · rfl
    · rfl
  · have h1 : usedT T0 = sumT (fun k => if k = 1 then 1 else 0) 64 := sumT_same 64 (fun k _ _ => by
      unfold costT T0
      by_cases e : k = 1
      · rw [if_pos e, if_pos e]; rfl
      · rw [if_neg e, if_neg e])
    rw [h1]
    decide
theorem grownR_snoc (q : Int) (T : Tree) (l : List OpV) (o : OpV) : grownR q T (l ++ [o]) = (doR q (grownR q T l) o).1 := by unfold grownR; rw [List.foldl_append]; rfl
def OpsAt (w : World) (A : Option Addr) (l : List OpV) : Prop := ∀ i (h : i < l.length), ∃ ad B cb, A = some ad ∧ ReadsInt w .u8 B l[i].data.length l[i].data ∧ l[i].data.length ≤ cb ∧
  w.cell? (ad.add (i * 6)) = some (.int .i64 l[i].what) ∧ w.cell? ⟨(ad.add (i * 6)).block, (ad.add (i * 6)).off + 1, none⟩ = some (.string l[i].p) ∧ w.cell? ⟨(ad.add (i * 6)).block, (ad.add (i * 6)).off + 2, none⟩ = some (.string l[i].q) ∧
  w.cell? ⟨(ad.add (i * 6)).block, (ad.add (i * 6)).off + 3, none⟩ = some (.int .i64 l[i].off) ∧ w.cell? ⟨(ad.add (i * 6)).block, (ad.add (i * 6)).off + 4, none⟩ = some (.int .i64 l[i].n) ∧ w.cell? ⟨(ad.add (i * 6)).block, (ad.add (i * 6)).off + 5, none⟩ = some (.slice B l[i].data.length cb)
theorem OpsAt.below {w w' : World} {A : Option Addr} {l : List OpV} (h : OpsAt w A l) (hb : Below w.heap.size w w') : OpsAt w' A l := fun i hi => by
  obtain ⟨ad, B, cb, e, hr, hc, h0, h1, h2, h3, h4, h5⟩ := h i hi
  exact ⟨ad, B, cb, e, hr.below hb, hc, pw_cell_below hb h0, pw_cell_below hb h1, pw_cell_below hb h2, pw_cell_below hb h3, pw_cell_below hb h4, pw_cell_below hb h5⟩
theorem grown_any (w : World) (A : Option Addr) (c : Nat) (l : List OpV) (hl : OpsAt w A l) (hT : Lib.Utf8Tabs 2 3 w) (hlen : l.length ≤ 9223372036854775807) :
    Calls Tryd.prog 5 #[wideV, .slice A l.length c, .int .i64 60] w fun e w' => ∃ pb mb, e = .returned (mp pb) ∧ w.heap.size ≤ pb ∧ w.heap.size ≤ mb ∧ Mdl w' pb mb 6720 (grownR 6720 T0 (l.take 60)) ∧ Below w.heap.size w w' := by
  have hu48 := Tryd.underlying48
  have HL := Aside0.mk hl
  have HT := Aside0.mk hT
  have HLN := Aside0.mk hlen
  clear hl hT hlen
  go_enter Tryd.func5, Tryd.ntmps5
  go_wp2_with (first
    | (go_at_call 19; refine (new_any w1).mono ?_; rintro e w2 ⟨pb, mb, rfl, hp, hm, hM, hb⟩; have HB2 := Aside0.mk (below_step HB1.out hb); have HP := Aside0.mk (Nat.le_trans HB1.out.size hp); have HMB := Aside0.mk (Nat.le_trans HB1.out.size hm); have HM2 := Aside0.mk hM; clear hp hm hM hb)
    | ((with_reducible refine gate_dst (N := 3) rfl ?_); refine box_event ?hg (N := 3) ?hd (cs := #[.int .i64 30, .int .i64 40, .int .i64 128]) (t := 27) ?hr ?_; (case hd => rfl); (case hg => rfl); (case hr => first | (go_simp; done) | (go_simp; rfl)); intro g1 hg w1 hbox hb; have HB1 := Aside0.mk hb; have c0 : w1.cell? ⟨g1, 0, none⟩ = some (.int .i64 30) := (blk_cell hbox 0).trans rfl; have c1 : w1.cell? ⟨g1, 1, none⟩ = some (.int .i64 40) := (blk_cell hbox 1).trans rfl; have c2 : w1.cell? ⟨g1, 2, none⟩ = some (.int .i64 128) := (blk_cell hbox 2).trans rfl; clear hg hb hbox))
  clear c0 c1 c2
  go_loopw [9] (fun v wr => ∃ (j mbr : Nat), v = .int .i64 j ∧ Aside0 (j ≤ l.length ∧ j ≤ 60) ∧ Aside0 (Good2 6720 (grownR 6720 T0 (l.take j))) ∧ Aside0 (Mdl wr pb mbr 6720 (grownR 6720 T0 (l.take j))) ∧ Aside0 (w.heap.size ≤ mbr) ∧ Aside0 (Below w.heap.size w wr)) (fun v _ => l.length - (intOf v).toNat)
  case atStart => exact ⟨0, mb, rfl, ⟨Nat.zero_le _, Nat.zero_le _⟩, ⟨T0_good⟩, HM2, HMB, HB2⟩
  case round =>
    obtain ⟨j, mbr, rfl, HJ, HG, HM, HMR, HW⟩ := hrel
    by_cases hlt : j < l.length
    · have k0 : (0 : Int) ≤ (j : Int) := Int.natCast_nonneg _
      have k1 : (j : Int) < (l.length : Int) := by omega
      by_cases h60 : j < 60
      · have k2 : (j : Int) < 60 := by omega
        have HK := Aside0.mk hlt
        have H60 := Aside0.mk h60
        obtain ⟨ad, B, cb, rfl, hr, hc, c0, c1, c2, c3, c4, c5⟩ := (HL.out.below HW.out) j hlt
        obtain ⟨o, ho⟩ : ∃ o, l[j] = o := ⟨_, rfl⟩
        rw [ho] at hr hc c0 c1 c2 c3 c4 c5
        have HRR := Aside0.mk hr
        have HCC := Aside0.mk hc
        have HO := Aside0.mk (show l[j]? = some o by rw [List.getElem?_eq_getElem hlt, ho])
        clear hr hc ho hlt h60
        go_wp2_with (go_at_call 20; refine Calls.mono (do_any HM.out HG.out.1.ok HG.out.1.root HG.out.1.hnd o B cb HRR.out HCC.out (Utf8Tabs_below HT.out HW.out)) ?_; rintro e w3 ⟨rfl, mb3, hm3, hM3, ht⟩; have HM3 := Aside0.mk hM3; have HB3 := Aside0.mk (show Below w.heap.size w w3 from Below.trans HW.out (ht.below HW.out.size (fun k hk => by rcases hk with e | e; exact e ▸ HP.out; exact e ▸ HMR.out))); have HMB3 := Aside0.mk (show w.heap.size ≤ mb3 from by rcases hm3 with e | e; exact e ▸ HMR.out; exact Nat.le_trans HW.out.size e); clear hm3 hM3 ht)
        go_roundw
        case rel =>
          have hk := HK.out
          have e : grownR 6720 T0 (l.take (j + 1)) = (doR 6720 (grownR 6720 T0 (l.take j)) o).1 := by
            rw [List.take_add_one, HO.out, ← grownR_snoc]; rfl
          refine ⟨j + 1, mb3, by congr 1, ⟨hk, H60.out⟩, ⟨?_⟩, ⟨?_⟩, HMB3, HB3⟩
          · rw [e]; exact do_good HG.out o
          · rw [e]; exact HM3.out
        case measure => have := HK.out; simp only [intOf]; omega
      · have k2 : ¬ (j : Int) < 60 := by omega
        have e60 : j = 60 := by have := HJ.out.2; omega
        have HE := Aside0.mk e60
        clear hlt h60 e60
        go_wp2
        go_ret
        exact ⟨pb, rfl, HP.out, mbr, HMR.out, by have := HM.out; rw [HE.out] at this; exact this, HW.out⟩
    · obtain rfl : j = l.length := by have := HJ.out.1; omega
      have HE := Aside0.mk (show l.take 60 = l.take l.length from by rw [List.take_of_length_le HJ.out.2, List.take_length])
      go_wp2
      go_ret
      exact ⟨pb, mbr, rfl, HP.out, HMR.out, by rw [HE.out]; exact HM.out, HW.out⟩
end Go.Proofs.YtcmcmkfoihlniaaDoor.MM
end

section
namespace Go.Proofs.YtcmcmkfoihlniaaDoor.MM
open Go Go.RowKit Go.Maps Go.Proofs.YtcmcmkfoihlniaaDoorX Go.Proofs.YtcmcmkfoihlniaaDoor.NM Go.Proofs.YtcmcmkfoihlniaaDoor.EN Go.Proofs.YtcmcmkfoihlniaaDoorW.PrintWords Go.Proofs.YtcmcmkfoihlniaaDoorW.PrintLast Go.Proofs.YtcmcmkfoihlniaaDoorW.PrintMore Go.Proofs.YtcmcmkfoihlniaaDoor.PModelUndoes
set_option linter.unusedVariables false
set_option linter.unusedSimpArgs false
set_option maxRecDepth 100000
set_option maxHeartbeats 1000000
attribute [local go_sem] max2_int min2_int max_two min_two
theorem paths_leaf {w : World} {pb mb : Nat} {q : Int} {T : Tree} (h : Mdl w pb mb q T) (m : Addr) (hm : w.cell? m = some (mp pb)) {k : Int} (hk : inR k) {b : List Int} {n : Int} (hT : T k = some (.file b n)) (s : ByteArray) (p3 p4 : Value) :
    Calls Tryd.prog 51 #[.int .i64 k, .string s, .pointer (some m), p3, p4] w fun e w' => e = .returned (.tuple #[]) ∧ Below w.heap.size w w' := by
  have h1 := h.at_
  obtain ⟨v, hl, hv⟩ := h.2.look hk
  clear h
  rw [hT] at hv
  obtain ⟨A, c, rfl, hr, hc⟩ := hv
  clear hT hr hc
  go_enter Tryd.func51, Tryd.ntmps51
  go_wp2
  go_loopw [23] (fun v wr => v = .int .i64 0 ∧ wr = w) (fun _ _ => 0)
  case atStart => exact ⟨rfl, rfl⟩
  case round =>
    obtain ⟨rfl, rfl⟩ := hrel
    go_wp2
    go_end0
    exact ⟨rfl, Below.refl _ _⟩
theorem paths_node {w0 w : World} {pb mb : Nat} {q : Int} {T : Tree} (h : Mdl w0 pb mb q T) (hB : Below w0.heap.size w0 w) (gm g3 g4 : Nat) (v : Value) (acc : List ByteArray) (b1 : w.heap[gm]? = some (.cells #[mp pb] 24 (0, 0))) (b2 : w.heap[g3]? = some (.cells #[v] 50 (0, 0)))
    (b3 : w.heap[g4]? = some (.cells #[.func (.func 51) #[] #[.pointer (some ⟨gm, 0, none⟩), .pointer (some ⟨g3, 0, none⟩), .pointer (some ⟨g4, 0, none⟩)]] 74 (0, 0))) (hg3 : w0.heap.size ≤ g3) (hR : Kd.R Kd.string 9 w w0.heap.size (fun _ => True) v acc) (ha : acc.length ≤ 1000)
    {k i : Int} {nm : ByteArray} (hk : inR k) (hi : inR i) (hT : T k = some (.dir [⟨i, nm⟩])) {b : List Int} {n : Int} (hi2 : T i = some (.file b n)) (s : ByteArray) (hs : s.size ≤ 1000) (hn : nm.size ≤ 1000) :
    Calls Tryd.prog 51 #[.int .i64 k, .string s, .pointer (some ⟨gm, 0, none⟩), .pointer (some ⟨g3, 0, none⟩), .pointer (some ⟨g4, 0, none⟩)] w fun e w' => e = .returned (.tuple #[]) ∧ ∃ v', w'.heap[g3]? = some (.cells #[v'] 50 (0, 0)) ∧ Kd.R Kd.string 9 w' w0.heap.size (fun _ => True) v' (acc ++ [s ++ nm]) ∧ Below w0.heap.size w0 w' := by
  have hM := h.below hB
  have h1 := hM.at_
  obtain ⟨u, hl, hv⟩ := hM.2.look hk
  rw [hT] at hv
  obtain ⟨A, c, rfl, hr, hc⟩ := hv
  have c1 : w.cell? ⟨gm, 0, none⟩ = some (mp pb) := by simp [World.cell?, b1]
  have ea : ∀ ad : Addr, ad.add (0 * 2) = ad := fun ad => by unfold Addr.add; simp
  obtain ⟨ad, rfl, e0', e1'⟩ := hr.at_ (j := 0) (Nat.zero_lt_one)
  rw [ea] at e0' e1'
  have e0 : w.cell? ad = some (.int .i64 i) := e0'
  have e1 : w.cell? ⟨ad.block, ad.off + 1, none⟩ = some (.string nm) := e1'
  clear e0' e1' ea
  have hu90 := Tryd.underlying90
  have HB0 := Aside0.mk hB
  have HM := Aside0.mk h
  have B1 := Aside0.mk b1
  have B2 := Aside0.mk b2
  have B3 := Aside0.mk b3
  have HR := Aside0.mk hR
  have HA := Aside0.mk ha
  have HI := Aside0.mk hi
  have HI2 := Aside0.mk hi2
  have HG3 := Aside0.mk hg3
  have hsz : s.size + nm.size ≤ 2000 := by omega
  clear hr hc h hM hB b1 b2 b3 hR ha hi hi2 hT hg3
  go_enter Tryd.func51, Tryd.ntmps51
  go_wp2
  go_loopw [23] (fun v wr => (v = .int .i64 0 ∧ wr = w) ∨ v = .int .i64 1 ∧ Aside0 (∃ v', wr.heap[g3]? = some (.cells #[v'] 50 (0, 0)) ∧ Kd.R Kd.string 9 wr w0.heap.size (fun _ => True) v' (acc ++ [s ++ nm]) ∧ Below w0.heap.size w0 wr)) (fun v _ => 1 - (intOf v).toNat)
  case atStart => exact .inl ⟨rfl, rfl⟩
  case round =>
    rcases hrel with ⟨rfl, rfl⟩ | ⟨rfl, HX⟩
    · go_wp2_with (first
        | (have hz := R8.out; clear hz; go_at_call 51; refine (paths_leaf (HM.out.below F8.out) ⟨gm, 0, none⟩ m8 HI.out HI2.out _ _ _).mono ?_; rintro e w9 ⟨rfl, hb⟩; have HFIN := Aside0.mk (show ∃ v', w9.heap[g3]? = some (.cells #[v'] 50 (0, 0)) ∧ Kd.R Kd.string 9 w9 w0.heap.size (fun _ => True) v' (acc ++ [s ++ nm]) ∧ Below w0.heap.size w0 w9 from ⟨_, blk_below G8.out hb, Kd.R_below R8.out hb, below_step F8.out hb⟩); clear hb)
        | (have hz := R7.out; clear hz; (with_reducible refine gate_store (t := 50) (p := 3) (v := .tmp 33) rfl ?_); refine ev_store (by rfl) 50 (.tmp 3) (.tmp 33) (by rfl) g3 0 [v] [.slice A1 N1 c1'] (.slice A1 N1 c1') (by rfl) (by rfl) (by rfl) 50 B27.out (by kernel_rfl) (Nat.le_refl 1) (by simp [Value.oneCell']) ?_; intro w8 hbox hgr; have G8 := Aside0.mk (show w8.heap[g3]? = some (.cells #[.slice A1 N1 c1'] 50 (0, 0)) by simpa using hbox); have F8 := Aside0.mk (pw_below_grown F7.out _ F7.out.size hgr (fun q e => by cases e; exact HG3.out)); have R8 := Aside0.mk (show Kd.R Kd.string 9 w8 w0.heap.size (fun _ => True) (.slice A1 N1 c1') (acc ++ [s ++ nm]) from Kd.R_mono (Kd.R_grown (Kd.R_types R7.out B27.out (by decide)) hgr (fun k hk e => hk.2 (Option.some.inj e))) (fun _ _ => trivial)); have m8 : w8.cell? ⟨gm, 0, none⟩ = some (mp pb) := (by have := blk_grown B17.out hgr (fun e => blk_ne B17.out B27.out (by decide) (Option.some.inj e)); simp [World.cell?, this]); have f8 : w8.cell? ⟨g4, 0, none⟩ = some (.func (.func 51) #[] #[.pointer (some ⟨gm, 0, none⟩), .pointer (some ⟨g3, 0, none⟩), .pointer (some ⟨g4, 0, none⟩)]) := (by have := blk_grown B37.out hgr (fun e => blk_ne B37.out B27.out (by decide) (Option.some.inj e)); simp [World.cell?, this]); have k8 := blk_grown BK7.out hgr (fun e => blk_ne BK7.out B27.out (by decide) (Option.some.inj e)); have q0 : w8.cell? ⟨g10, 0, none⟩ = some (.int .i64 i) := (blk_cell k8 0).trans rfl; have q1 : w8.cell? ⟨g10, 1, none⟩ = some (.string nm) := (blk_cell k8 1).trans rfl; clear hbox hgr k8)
        | ((with_reducible refine gate_builtin (b := .append) (xs := #[.tmp 27, .tmp 32]) rfl ?_); at_builtin; refine Kd.R_append Kd.string (w0 := w0) w0.heap.size rfl (.tmp 27) (.tmp 32) 50 9 (.string ⟨#[]⟩) 16 rfl Tryd.underlying50 infoS rfl (by decide) (by omega) v acc (s ++ nm) [.string (s ++ nm)] (fun _ => True) (fun _ => False) rfl rfl ?aP (fun _ hk => hk.elim) ?aF ?aO ?aB ?aS ?aL ?_; (case aP => exact rfl); (case aB => exact F2.out); (case aF => exact (fun _ _ => trivial)); (case aO => exact R2.out); (case aS => exact F2.out.size); (case aL => have := HA.out; omega); intro v1 w7 ho hb hg hat; obtain ⟨A1, c1', hv⟩ := Kd.R_slice ho; obtain ⟨N1, hN1⟩ : ∃ N, (acc ++ [s ++ nm]).length = N := ⟨_, rfl⟩; rw [hN1] at hv; subst hv; clear hN1; have R7 := Aside0.mk ho; have F7 := Aside0.mk hb; have B17 := Aside0.mk (blk_grown B12.out hg (Kd.R_ne R2.out B12.out (by decide))); have B27 := Aside0.mk (blk_grown B22.out hg (Kd.R_ne R2.out B22.out (by decide))); have B37 := Aside0.mk (blk_grown B32.out hg (Kd.R_ne R2.out B32.out (by decide))); have BK7 := Aside0.mk (blk_grown BK2.out hg (Kd.R_ne R2.out BK2.out (by decide))); clear ho hb hg hat)
        | ((with_reducible refine gate_store (t := 90) (p := 10) (v := .tmp 26) rfl ?_); refine ev_store_row (by rfl) 90 (.tmp 10) (.tmp 26) (by rfl) g10 (#[.int .i64 i, .string nm]) (by rfl) (by rfl) 90 _ BK1.out (by kernel_rfl) (by rfl) (by simp [Value.oneCell']) ?_; intro w2 hbox hgr; have HX := Aside0.mk (show Below wr.heap.size wr w2 from pw_below_grown L1.out _ L1.out.size hgr (fun q e => by cases e; exact Nat.le_of_eq GE.out.symm)); have BK2 := Aside0.mk hbox; have F2 := Aside0.mk (below_step HB0.out HX.out); have R2 := Aside0.mk (Kd.R_below HR.out HX.out); have B12 := Aside0.mk (blk_below B1.out HX.out); have B22 := Aside0.mk (blk_below B2.out HX.out); have B32 := Aside0.mk (blk_below B3.out HX.out); have d3 : w2.cell? ⟨g3, 0, none⟩ = some v := (by simp [World.cell?, B22.out]); have d1 : w2.cell? ⟨g10, 1, none⟩ = some (.string nm) := (blk_cell hbox 1).trans rfl; clear hbox hgr)
        | ((with_reducible refine gate_dst (N := 10) rfl ?_); refine box_event ?hg (N := 10) ?hd (cs := #[.int .i64 0, .string ⟨#[]⟩]) (t := 90) ?hr ?_; (case hd => rfl); (case hg => rfl); (case hr => first | (go_simp; done) | (go_simp; rfl) | kernel_rfl); intro g10 hg w1 hbox hb; have BK1 := Aside0.mk hbox; have L1 := Aside0.mk hb; have GE := Aside0.mk hg; clear hg hb hbox))
      go_roundw
      case rel => exact .inr ⟨rfl, HFIN⟩
      case measure => simp only [intOf]; decide
    · go_wp2
      go_end0
      exact ⟨rfl, HX.out⟩
theorem repsS (w : World) (base : Nat) (ok : Nat → Prop) (a : ByteArray) : Reps (Kd.string.M w base ok) 1 [a] [.string a] := by
  have := Reps.snoc (Reps.none (Kd.string.M w base ok) 1) (p := a) (c := [.string a]) rfl rfl
  simpa using this
theorem paths_any {w : World} {pb mb : Nat} {q : Int} {T : Tree} (h : Mdl w pb mb q T) {i : Int} {nm : ByteArray} (hi : inR i) (hT : T 1 = some (.dir [⟨i, nm⟩])) {b : List Int} {n : Int} (hi2 : T i = some (.file b n)) (hn : nm.size ≤ 1000) :
    Calls Tryd.prog 22 #[mp pb] w fun e w' => ∃ A c, e = .returned (.slice A 2 c) ∧ St w' A [⟨#[47]⟩, ⟨#[47]⟩ ++ nm] ∧ Below w.heap.size w w' := by
  have HM := Aside0.mk h
  have HI := Aside0.mk hi
  have HI2 := Aside0.mk hi2
  have HTT := Aside0.mk hT
  have HN := Aside0.mk hn
  clear h hi hi2 hT hn
  go_enter Tryd.func22, Tryd.ntmps22
  go_wp2_with (first
    | (have hz := G47.out; clear hz; go_at_call 51; refine (paths_node HM.out FB7.out gm g3 g4 (.slice (some ⟨gr, 0, none⟩) 1 1) [⟨#[47]⟩] G17.out G37.out G47.out HG3.out R7.out (by decide) ⟨by decide, by decide⟩ HI.out HTT.out HI2.out ⟨#[47]⟩ (by decide) HN.out).mono ?_; rintro e w8 ⟨rfl, v', hbk, hR, hb⟩; obtain ⟨A8, c8, hv, hc8, hC⟩ := Kd.R_reads hR; subst hv; have HS8 := Aside0.mk hC; have c38 : w8.cell? ⟨g3, 0, none⟩ = some (.slice A8 2 c8) := (by simp [World.cell?, hbk]); have HB8 := Aside0.mk hb; clear hbk hR hb hC hc8)
    | (have hz := G46.out; clear hz; (with_reducible refine gate_store (t := 74) (p := 4) (v := .tmp 8) rfl ?_); refine ev_store (by rfl) 74 (.tmp 4) (.tmp 8) (by rfl) g4 0 [.nilFunc] [.func (.func 51) #[] #[.pointer (some ⟨gm, 0, none⟩), .pointer (some ⟨g3, 0, none⟩), .pointer (some ⟨g4, 0, none⟩)]] (.func (.func 51) #[] #[.pointer (some ⟨gm, 0, none⟩), .pointer (some ⟨g3, 0, none⟩), .pointer (some ⟨g4, 0, none⟩)]) (by rfl) (by rfl) (by rfl) 74 G46.out (by kernel_rfl) (Nat.le_refl 1) (by simp [Value.oneCell']) ?_; intro w7 hbox hgr; have G47 := Aside0.mk (show w7.heap[g4]? = some (.cells #[.func (.func 51) #[] #[.pointer (some ⟨gm, 0, none⟩), .pointer (some ⟨g3, 0, none⟩), .pointer (some ⟨g4, 0, none⟩)]] 74 (0, 0)) by simpa using hbox); have G17 := Aside0.mk (blk_grown G16.out hgr (fun e => blk_ne G16.out G46.out (by decide) (Option.some.inj e))); have G37 := Aside0.mk (blk_grown G36.out hgr (fun e => blk_ne G36.out G46.out (by decide) (Option.some.inj e))); have R7 := Aside0.mk (show Kd.R Kd.string 9 w7 w.heap.size (fun _ => True) (.slice (some ⟨gr, 0, none⟩) 1 1) [⟨#[47]⟩] from Kd.R_mono (Kd.R_grown (Kd.R_types R6.out G46.out (by decide)) hgr (fun k hk e => hk.2 (Option.some.inj e))) (fun _ _ => trivial)); have FB7 := Aside0.mk (pw_below_grown FB6.out _ FB6.out.size hgr (fun q e => by cases e; exact HG4.out)); have c47 : w7.cell? ⟨g4, 0, none⟩ = some (.func (.func 51) #[] #[.pointer (some ⟨gm, 0, none⟩), .pointer (some ⟨g3, 0, none⟩), .pointer (some ⟨g4, 0, none⟩)]) := (by simp [World.cell?, G47.out]); clear hbox hgr)
    | ((with_reducible refine gate_dst (N := 4) rfl ?_); refine box_event ?hg (N := 4) ?hd (cs := #[.nilFunc]) (t := 74) ?hr ?_; (case hd => rfl); (case hg => rfl); (case hr => first | (go_simp; done) | (go_simp; rfl) | kernel_rfl); intro g4 hg w6 hbox hb; have G46 := Aside0.mk hbox; have G16 := Aside0.mk (blk_below G15.out hb); have G36 := Aside0.mk (blk_below G35.out hb); have R6 := Aside0.mk (Kd.R_below R5.out hb); have FB6 := Aside0.mk (below_step FB5.out hb); have HG4 := Aside0.mk (show w.heap.size ≤ g4 from hg ▸ FB5.out.size); clear hg hb hbox)
    | (have hz := G34.out; clear hz; (with_reducible refine gate_store (t := 50) (p := 3) (v := .tmp 7) rfl ?_); refine ev_store (by rfl) 50 (.tmp 3) (.tmp 7) (by rfl) g3 0 [.slice none 0 0] [.slice (some ⟨gr, 0, none⟩) 1 1] (.slice (some ⟨gr, 0, none⟩) 1 1) (by rfl) (by rfl) (by rfl) 50 G34.out (by kernel_rfl) (Nat.le_refl 1) (by simp [Value.oneCell']) ?_; intro w5 hbox hgr; have G35 := Aside0.mk (show w5.heap[g3]? = some (.cells #[.slice (some ⟨gr, 0, none⟩) 1 1] 50 (0, 0)) by simpa using hbox); have G15 := Aside0.mk (blk_grown G14.out hgr (fun e => blk_ne G14.out G34.out (by decide) (Option.some.inj e))); have R5 := Aside0.mk (show Kd.R Kd.string 9 w5 w.heap.size (fun _ => True) (.slice (some ⟨gr, 0, none⟩) 1 1) [⟨#[47]⟩] from Kd.R_mono (Kd.R_grown (Kd.R_types R4.out G34.out (by decide)) hgr (fun k hk e => hk.2 (Option.some.inj e))) (fun _ _ => trivial)); have FB5 := Aside0.mk (pw_below_grown FB4.out _ FB4.out.size hgr (fun q e => by cases e; exact HG3.out)); clear hbox hgr)
    | ((with_reducible refine gate_dst (N := 3) rfl ?_); refine box_event ?hg (N := 3) ?hd (cs := #[.slice none 0 0]) (t := 50) ?hr ?_; (case hd => rfl); (case hg => rfl); (case hr => first | (go_simp; done) | (go_simp; rfl) | kernel_rfl); intro g3 hg w4 hbox hb; obtain ⟨gr, hgr⟩ : ∃ g, w2.heap.size = g := ⟨_, rfl⟩; have R4 := Aside0.mk (show Kd.R Kd.string 9 w4 w.heap.size (fun _ => True) (.slice (some ⟨gr, 0, none⟩) 1 1) [⟨#[47]⟩] from hgr ▸ Kd.R_below ⟨fun _ _ => trivial, OwnRow.lit w2 w.heap.size (repsS _ _ _ ⟨#[47]⟩) HB2.out.size (by decide)⟩ hb); have G14 := Aside0.mk (blk_below (blk_alloc G12.out _) hb); have G34 := Aside0.mk hbox; have FB4 := Aside0.mk (below_step (below_alloc HB2.out _) hb); have HG3 := Aside0.mk (show w.heap.size ≤ g3 from hg ▸ Nat.le_trans HB2.out.size (by simp)); rw [hgr]; clear hg hb hbox hgr)
    | (go_at_call 28; refine (none_any (HM.out.below HB1.out)).mono ?_; rintro e w2 ⟨rfl, hb⟩; have HB2 := Aside0.mk (below_step HB1.out hb); have G12 := Aside0.mk (blk_below G11.out hb); clear hb)
    | ((with_reducible refine gate_dst (N := 1) rfl ?_); refine box_event ?hg (N := 1) ?hd (cs := #[mp pb]) (t := 24) ?hr ?_; (case hd => rfl); (case hg => rfl); (case hr => first | (go_simp; done) | (go_simp; rfl) | kernel_rfl); intro gm hg w1 hbox hb; have HB1 := Aside0.mk hb; have G11 := Aside0.mk hbox; have c1 : w1.cell? ⟨gm, 0, none⟩ = some (mp pb) := (by simp [World.cell?, hbox]); clear hg hb hbox))
  go_ret
  exact ⟨A8, c8, rfl, HS8.out, HB8.out⟩
end Go.Proofs.YtcmcmkfoihlniaaDoor.MM
end

section
namespace Go.Proofs.YtcmcmkfoihlniaaDoor.MM
open Go Go.RowKit Go.Maps Go.Proofs.YtcmcmkfoihlniaaDoorX Go.Proofs.YtcmcmkfoihlniaaDoor.NM Go.Proofs.YtcmcmkfoihlniaaDoor.EN Go.Proofs.YtcmcmkfoihlniaaDoorW.PrintWords Go.Proofs.YtcmcmkfoihlniaaDoorW.PrintLast Go.Proofs.YtcmcmkfoihlniaaDoorW.PrintMore Go.Proofs.YtcmcmkfoihlniaaDoor.PModelUndoes
set_option linter.unusedVariables false
set_option linter.unusedSimpArgs false
set_option maxRecDepth 100000
abbrev sA : ByteArray := ⟨#[47, 97]⟩
abbrev sAB : ByteArray := ⟨#[47, 97, 47, 98]⟩
abbrev sCB : ByteArray := ⟨#[47, 99, 47, 98]⟩
abbrev sABC : ByteArray := ⟨#[47, 97, 47, 98, 47, 99]⟩
abbrev sD : ByteArray := ⟨#[47, 100]⟩
abbrev sX : ByteArray := ⟨#[47, 120]⟩
abbrev sXY : ByteArray := ⟨#[47, 120, 47, 121]⟩
abbrev sXYZ : ByteArray := ⟨#[47, 120, 47, 121, 47, 122]⟩
abbrev na : ByteArray := ⟨#[97]⟩
abbrev nb : ByteArray := ⟨#[98]⟩
abbrev nd : ByteArray := ⟨#[100]⟩
abbrev nx : ByteArray := ⟨#[120]⟩
abbrev ny : ByteArray := ⟨#[121]⟩
def T1 : Tree := upd (upd T0 2 (some (.dir []))) 1 (some (.dir [⟨2, na⟩]))
def T2 : Tree := upd (upd T1 3 (some (.file [] 1))) 2 (some (.dir [⟨3, nb⟩]))
def xyz : List Int := [120, 121, 122]
def T3 : Tree := upd T2 3 (some (.file (layB [] 200 xyz) 1))
def T4 : Tree := upd (upd T3 3 (some (.file (layB [] 200 xyz) 2))) 1 (some (.dir [⟨2, na⟩, ⟨3, nd⟩]))
def T5 : Tree := upd (upd T4 2 (some (.dir []))) 3 (some (.file (layB [] 200 xyz) 1))
def T6 : Tree := upd (upd T5 1 (some (.dir [⟨3, nd⟩]))) 2 none
def T7 : Tree := upd (upd T6 2 (some (.dir []))) 1 (some (.dir [⟨3, nd⟩, ⟨2, nx⟩]))
def T8 : Tree := upd (upd T7 4 (some (.dir []))) 2 (some (.dir [⟨4, ny⟩]))
theorem wk1 : makeR 6720 T0 sA (.dir []) = (T1, 0) := by kernel_rfl
theorem wk2 : makeR 6720 T1 sAB (.file [] 1) = (T2, 0) := by kernel_rfl
theorem wk2b : makeR 6720 T2 sAB (.file [] 1) = (T2, 33) := by kernel_rfl
theorem wk2c : makeR 6720 T2 sCB (.file [] 1) = (T2, 32) := by kernel_rfl
theorem wk2d : makeR 6720 T2 sABC (.file [] 1) = (T2, 34) := by kernel_rfl
theorem wk3 : writeR 6720 T2 sAB 200 xyz = (T3, 0) := by kernel_rfl
theorem wk3s : statR T3 sAB = ((3, 1, 203, 1), 0) := by kernel_rfl
theorem wk3u : usedT T3 = 7 := by kernel_rfl
theorem wk4 : linkR 6720 T3 sAB sD = (T4, 0) := by kernel_rfl
theorem wk5 : unlinkR T4 sAB = (T5, 0) := by kernel_rfl
theorem wk6 : rmdirR T5 sA = (T6, 0) := by kernel_rfl
theorem wk6r : readR T6 sD 198 10 = ([0, 0, 120, 121, 122], 0) := by kernel_rfl
theorem wk7 : makeR 6720 T6 sX (.dir []) = (T7, 0) := by kernel_rfl
theorem wk8 : makeR 6720 T7 sXY (.dir []) = (T8, 0) := by kernel_rfl
theorem wk8a : renameR 6720 T8 sX sXYZ = (T8, 37) := by kernel_rfl
theorem wk8b : renameR 6720 T8 sXY sX = (T8, 36) := by kernel_rfl
theorem T6_root : T6 1 = some (.dir [⟨3, nd⟩]) := by kernel_rfl
theorem T6_file : T6 3 = some (.file (layB [] 200 xyz) 1) := by kernel_rfl
end Go.Proofs.YtcmcmkfoihlniaaDoor.MM
end

section
namespace Go.Proofs.YtcmcmkfoihlniaaDoor.MM
open Go Go.RowKit Go.Maps Go.Proofs.YtcmcmkfoihlniaaDoorX Go.Proofs.YtcmcmkfoihlniaaDoor.NM Go.Proofs.YtcmcmkfoihlniaaDoor.EN Go.Proofs.YtcmcmkfoihlniaaDoorW.PrintWords Go.Proofs.YtcmcmkfoihlniaaDoorW.PrintLast Go.Proofs.YtcmcmkfoihlniaaDoorW.PrintMore Go.Proofs.YtcmcmkfoihlniaaDoor.PModelUndoes
set_option linter.unusedVariables false
set_option linter.unusedSimpArgs false
theorem find_live {T : Tree} (hI : Inv T) {l : List ByteArray} (h : (findR T l).2 = 0) : T (findR T l).1 ≠ none := by
  by_cases hw : (wayR T 1 l).2 = 0
  · rw [find_of hw]
    show T (lastI (wayR T 1 l).1) ≠ none
    rcases Nat.eq_zero_or_pos l.length with h0 | h0
    · rw [List.eq_nil_of_length_eq_zero h0, way_nil]
      obtain ⟨d, hd⟩ := hI.root
      rw [hd]; simp
    · obtain ⟨_, _, h3, h4⟩ := way_last h0 hw
      rw [← h4]; exact Inv.hnd hI _ _ h3
  · rw [find_bad hw] at h; exact absurd h hw
structure Stt (w wi : World) (pb mb : Nat) (T : Tree) : Prop where
  m : Mdl wi pb mb 6720 T
  b : Below w.heap.size w wi
  p : w.heap.size ≤ pb
  q : w.heap.size ≤ mb
  g : Good2 6720 T
theorem Stt.step {w wi w' : World} {pb mb : Nat} {T : Tree} (h : Stt w wi pb mb T) (hb : Below wi.heap.size wi w') : Stt w w' pb mb T := ⟨h.m.below hb, below_step h.b hb, h.p, h.q, h.g⟩
theorem Stt.out {w wi w' : World} {pb mb : Nat} {T F : Tree} (h : Stt w wi pb mb T) {y : Int} {e : Ending} (hg : Good2 6720 F) (ho : Out wi pb mb 6720 (F, y) e w') : e = .returned (.int .i64 y) ∧ ∃ mb', Stt w w' pb mb' F := by
  obtain ⟨he, mb', h1, h2, h3⟩ := ho
  refine ⟨he, mb', h2, h.b.trans (h3.below h.b.size (fun k hk => by rcases hk with e | e; exact e ▸ h.p; exact e ▸ h.q)), h.p, ?_, hg⟩
  rcases h1 with e | e
  · exact e ▸ h.q
  · exact Nat.le_trans h.b.size e
section
variable {w wi : World} {pb mb : Nat} {T F : Tree} (h : Stt w wi pb mb T) (hT : Lib.Utf8Tabs 2 3 w) {y : Int}
include h hT
theorem Stt.tabs : Lib.Utf8Tabs 2 3 wi := Utf8Tabs_below hT h.b
theorem Stt.create {p : ByteArray} (hR : makeR 6720 T p (.file [] 1) = (F, y)) : Calls Tryd.prog 12 #[mp pb, .string p] wi fun e w' => e = .returned (.int .i64 y) ∧ ∃ mb', Stt w w' pb mb' F :=
  (create_any h.m h.g.1.ok p (h.tabs hT)).mono fun e w' ho => h.out (by have := make_good h.g p (.file [] 1) (.inl rfl); rw [hR] at this; exact this) (by rw [hR] at ho; exact ho)
theorem Stt.mkdir {p : ByteArray} (hR : makeR 6720 T p (.dir []) = (F, y)) : Calls Tryd.prog 15 #[mp pb, .string p] wi fun e w' => e = .returned (.int .i64 y) ∧ ∃ mb', Stt w w' pb mb' F :=
  (mkdir_any h.m h.g.1.ok p (h.tabs hT)).mono fun e w' ho => h.out (by have := make_good h.g p (.dir []) (.inr rfl); rw [hR] at this; exact this) (by rw [hR] at ho; exact ho)
theorem Stt.link {p s : ByteArray} (hR : linkR 6720 T p s = (F, y)) : Calls Tryd.prog 17 #[mp pb, .string p, .string s] wi fun e w' => e = .returned (.int .i64 y) ∧ ∃ mb', Stt w w' pb mb' F :=
  (link_any h.m h.g.1.ok p s (h.tabs hT)).mono fun e w' ho => h.out (by have := link_good h.g p s; rw [hR] at this; exact this) (by rw [hR] at ho; exact ho)
theorem Stt.unlink {p : ByteArray} (hR : unlinkR T p = (F, y)) : Calls Tryd.prog 13 #[mp pb, .string p] wi fun e w' => e = .returned (.int .i64 y) ∧ ∃ mb', Stt w w' pb mb' F :=
  (unlink_any h.m h.g.1.ok h.g.1.root p (h.tabs hT)).mono fun e w' ho => h.out (by have := unlink_good h.g p; rw [hR] at this; exact this) (by rw [hR] at ho; exact ho)
theorem Stt.rmdir {p : ByteArray} (hR : rmdirR T p = (F, y)) : Calls Tryd.prog 16 #[mp pb, .string p] wi fun e w' => e = .returned (.int .i64 y) ∧ ∃ mb', Stt w w' pb mb' F :=
  (rmdir_any h.m h.g.1.ok p (h.tabs hT)).mono fun e w' ho => h.out (by have := rmdir_good h.g p; rw [hR] at this; exact this) (by rw [hR] at ho; exact ho)
theorem Stt.rename {p s : ByteArray} (hR : renameR 6720 T p s = (F, y)) : Calls Tryd.prog 18 #[mp pb, .string p, .string s] wi fun e w' => e = .returned (.int .i64 y) ∧ ∃ mb', Stt w w' pb mb' F :=
  (rename_any h.m h.g.1.ok h.g.1.hnd p s (h.tabs hT)).mono fun e w' ho => h.out (by have := rename_good h.g p s; rw [hR] at this; exact this) (by rw [hR] at ho; exact ho)
theorem Stt.write {p : ByteArray} {off : Int} {A : Option Addr} {c : Nat} {d : List Int} (hd : ReadsInt wi .u8 A d.length d) (hc : d.length ≤ c) (hR : writeR 6720 T p off d = (F, y)) : Calls Tryd.prog 9 #[mp pb, .string p, .int .i64 off, .slice A d.length c] wi fun e w' => e = .returned (.int .i64 y) ∧ ∃ mb', Stt w w' pb mb' F :=
  (write_any h.m h.g.1.ok p off A c d hd hc (h.tabs hT)).mono fun e w' ho => h.out (by have := write_good h.g p off d; rw [hR] at this; exact this) (by rw [hR] at ho; exact ho)
theorem Stt.stat {p : ByteArray} {s : Int × Int × Int × Int} (hR : statR T p = (s, y)) : Calls Tryd.prog 7 #[mp pb, .string p] wi fun e w' => e = .returned (.tuple #[.agg (stC s), .int .i64 y]) ∧ Below wi.heap.size wi w' :=
  (stat_any h.m h.g.1.ok p (h.tabs hT) (find_live h.g.1)).mono fun e w' ho => by rw [hR] at ho; exact ho
theorem Stt.read {p : ByteArray} {off n : Int} {d : List Int} (hR : readR T p off n = (d, y)) : Calls Tryd.prog 8 #[mp pb, .string p, .int .i64 off, .int .i64 n] wi fun e w' => ∃ B cb, e = .returned (.tuple #[.slice B d.length cb, .int .i64 y]) ∧ ReadsInt w' .u8 B d.length d ∧ d.length ≤ cb ∧ Below wi.heap.size wi w' :=
  (read_any h.m h.g.1.ok p off n (h.tabs hT) (by
    by_cases he : (openR T p).2.2.2 = 0
    · exact (h.g.1.ok.files _ _ _ (openR_good he)).1
    · unfold openR at he ⊢
      split
      · exact Nat.zero_le _
      · split
        · exact Nat.zero_le _
        · next h1 h2 =>
          rw [if_neg h1, if_neg h2] at he
          revert he
          split
          · intro he; exact absurd rfl he
          · intro _; exact Nat.zero_le _)).mono fun e w' ho => by rw [hR] at ho; exact ho
end
theorem Stt.used {w wi : World} {pb mb : Nat} {T : Tree} (h : Stt w wi pb mb T) : Calls Tryd.prog 21 #[mp pb] wi fun e w' => e = .returned (.int .i64 (usedT T)) ∧ Below wi.heap.size wi w' := used_any h.m h.g.1.ok
end Go.Proofs.YtcmcmkfoihlniaaDoor.MM
end

section
namespace Go.Proofs.YtcmcmkfoihlniaaDoor.MM
open Go Go.RowKit Go.Maps Go.Proofs.YtcmcmkfoihlniaaDoorX Go.Proofs.YtcmcmkfoihlniaaDoor.NM Go.Proofs.YtcmcmkfoihlniaaDoor.EN Go.Proofs.YtcmcmkfoihlniaaDoorW.PrintWords Go.Proofs.YtcmcmkfoihlniaaDoorW.PrintLast Go.Proofs.YtcmcmkfoihlniaaDoorW.PrintMore Go.Proofs.YtcmcmkfoihlniaaDoor.PModelUndoes
set_option linter.unusedVariables false
set_option linter.unusedSimpArgs false
set_option maxRecDepth 100000
set_option maxHeartbeats 8000000
attribute [local go_sem] max2_int min2_int max_two min_two
structure Wide (w : World) : Prop where
  a : w.cell? ⟨0, 0, none⟩ = some (.int .i64 30)
  b : w.cell? ⟨0, 1, none⟩ = some (.int .i64 40)
  c : w.cell? ⟨0, 2, none⟩ = some (.int .i64 128)
theorem xyz_reads (w : World) : ReadsInt (w.alloc (.cells #[.int .u8 120, .int .u8 121, .int .u8 122] 5 (3, 4))) .u8 (some ⟨w.heap.size, 0, none⟩) xyz.length xyz := by
  refine ⟨rfl, by decide, fun _ => ⟨_, rfl, fun j hj => ?_⟩⟩
  have hj : j < 3 := hj
  have hc : ∀ j, (w.alloc (.cells #[.int .u8 120, .int .u8 121, .int .u8 122] 5 (3, 4))).cell? ⟨w.heap.size, j, none⟩ = #[Value.int .u8 120, .int .u8 121, .int .u8 122][j]? := fun j => World.cell?_alloc_mark w _ 5 (3, 4) j
  match j, hj with
  | 0, _ => exact (hc 0).trans rfl
  | 1, _ => exact (hc 1).trans rfl
  | 2, _ => exact (hc 2).trans rfl
theorem wakes_any (w : World) (hW : Wide w) (hT : Lib.Utf8Tabs 2 3 w) : Calls Tryd.prog 6 #[] w fun e w' => e = .returned (.bool true) ∧ Below w.heap.size w w' := by
  have c0 := hW.a
  have c1 := hW.b
  have c2 := hW.c
  have hu27 := Tryd.underlying27
  have kc := fun (w : World) (C : Array Value) (n c : Nat) => Lib.run_convert_bytes_const (P := Tryd.prog) w 23 5 C n c Tryd.underlying23 Tryd.underlying5
  have hu30 := Tryd.underlying30
  have HT := Aside0.mk hT
  clear hW hT
  go_enter Tryd.func6, Tryd.ntmps6
  go_wp2_with (first
    | (have hz := S16.out; clear hz; go_at_call 18; refine (S16.out.rename HT.out wk8b).mono ?_; rintro e w17 ⟨rfl, mb17, hs⟩; have S17 := Aside0.mk hs; clear hs)
    | (have hz := S15.out; clear hz; go_at_call 18; refine (S15.out.rename HT.out wk8a).mono ?_; rintro e w16 ⟨rfl, mb16, hs⟩; have S16 := Aside0.mk hs; clear hs)
    | (have hz := S14.out; clear hz; go_at_call 15; refine (S14.out.mkdir HT.out wk8).mono ?_; rintro e w15 ⟨rfl, mb15, hs⟩; have S15 := Aside0.mk hs; clear hs)
    | (have hz := S13.out; clear hz; go_at_call 15; refine (S13.out.mkdir HT.out wk7).mono ?_; rintro e w14 ⟨rfl, mb14, hs⟩; have S14 := Aside0.mk hs; clear hs)
    | (have hz := S12.out; clear hz; go_at_call 8; refine (S12.out.read HT.out wk6r).mono ?_; rintro e w13 ⟨A13, c13, rfl, hr, hc, hb⟩; have S13 := Aside0.mk (S12.out.step hb); have R13 := Aside0.mk hr; obtain ⟨ad, hA, q0⟩ := Kd.at_string (Kd.C_below P12.out hb) 1 (by decide) (by decide); subst hA; have q1 : w13.cell? ⟨ad.block, ad.off + 1, none⟩ = some (.string ⟨#[47, 100]⟩) := (by exact q0); have kb : (convert 23 9 (.slice A13 5 c13)).run Tryd.prog w13 = .ok (.string ⟨#[0, 0, 120, 121, 122]⟩) w13 := (by exact (string_of_reads Tryd.underlying23 Tryd.underlying5 Tryd.underlying9 hr)); clear hr hc hb q0)
    | (have hz := S11.out; clear hz; go_at_call 22; refine (paths_any S11.out.m ⟨by decide, by decide⟩ T6_root T6_file (by decide)).mono ?_; rintro e w12 ⟨A12, c12, rfl, hs, hb⟩; have S12 := Aside0.mk (S11.out.step hb); have P12 := Aside0.mk hs; clear hs hb)
    | (have hz := S10.out; clear hz; go_at_call 16; refine (S10.out.rmdir HT.out wk6).mono ?_; rintro e w11 ⟨rfl, mb11, hs⟩; have S11 := Aside0.mk hs; clear hs)
    | (have hz := S9.out; clear hz; go_at_call 13; refine (S9.out.unlink HT.out wk5).mono ?_; rintro e w10 ⟨rfl, mb10, hs⟩; have S10 := Aside0.mk hs; clear hs)
    | (have hz := S8.out; clear hz; go_at_call 17; refine (S8.out.link HT.out wk4).mono ?_; rintro e w9 ⟨rfl, mb9, hs⟩; have S9 := Aside0.mk hs; clear hs)
    | (have hz := S7.out; clear hz; go_at_call 21; refine (S7.out.used).mono ?_; rw [wk3u]; rintro e w8 ⟨rfl, hb⟩; have S8 := Aside0.mk (S7.out.step hb); clear hb)
    | (have hz := S6.out; clear hz; (with_reducible refine gate_store (t := 30) (p := 3) (v := .tmp 48) rfl ?_); refine ev_store_row (by rfl) 30 (.tmp 3) (.tmp 48) (by rfl) g3 (stC (3, 1, 203, 1)) (by rfl) (by rfl) 30 _ B6.out (by kernel_rfl) (by rfl) (by simp [Value.oneCell']) ?_; intro w7 hbox hgr; have S7 := Aside0.mk (S5.out.step (pw_below_grown L6.out _ L6.out.size hgr (fun q e => by cases e; exact Nat.le_of_eq GE.out.symm))); have B7 := Aside0.mk hbox; have d0 : w7.cell? ⟨g3, 0, none⟩ = some (.int .i64 3) := (blk_cell hbox 0).trans rfl; have d1 : w7.cell? ⟨g3, 1, none⟩ = some (.int .i64 1) := (blk_cell hbox 1).trans rfl; have d2 : w7.cell? ⟨g3, 2, none⟩ = some (.int .i64 203) := (blk_cell hbox 2).trans rfl; have d3 : w7.cell? ⟨g3, 3, none⟩ = some (.int .i64 1) := (blk_cell hbox 3).trans rfl; clear hbox hgr)
    | (have hz := S5.out; clear hz; (with_reducible refine gate_dst (N := 3) rfl ?_); refine box_event ?hg (N := 3) ?hd (cs := stC (0, 0, 0, 0)) (t := 30) ?hr ?_; (case hd => rfl); (case hg => rfl); (case hr => first | (go_simp; done) | (go_simp; rfl) | kernel_rfl); intro g3 hg w6 hbox hb; have S6 := Aside0.mk (S5.out.step hb); have B6 := Aside0.mk hbox; have L6 := Aside0.mk hb; have GE := Aside0.mk hg; clear hg hb hbox)
    | (have hz := S4.out; clear hz; go_at_call 7; refine (S4.out.stat HT.out wk3s).mono ?_; rintro e w5 ⟨rfl, hb⟩; have S5 := Aside0.mk (S4.out.step hb); clear hb)
    | (have hz := S3d.out; clear hz; go_at_call 9; refine ((S3d.out.step (below_alloc (Below.refl _ _) (.cells #[.int .u8 120, .int .u8 121, .int .u8 122] 5 (3, 4)))).write HT.out (xyz_reads w33) (by decide) wk3).mono ?_; rintro e w4 ⟨rfl, mb4, hs⟩; have S4 := Aside0.mk hs; clear hs)
    | (have hz := S3c.out; clear hz; go_at_call 12; refine (S3c.out.create HT.out wk2d).mono ?_; rintro e w33 ⟨rfl, mb33, hs⟩; have S3d := Aside0.mk hs; clear hs)
    | (have hz := S3b.out; clear hz; go_at_call 12; refine (S3b.out.create HT.out wk2c).mono ?_; rintro e w32 ⟨rfl, mb32, hs⟩; have S3c := Aside0.mk hs; clear hs)
    | (have hz := S3.out; clear hz; go_at_call 12; refine (S3.out.create HT.out wk2b).mono ?_; rintro e w31 ⟨rfl, mb31, hs⟩; have S3b := Aside0.mk hs; clear hs)
    | (have hz := S2.out; clear hz; go_at_call 12; refine (S2.out.create HT.out wk2).mono ?_; rintro e w3 ⟨rfl, mb3, hs⟩; have S3 := Aside0.mk hs; clear hs)
    | (have hz := S1.out; clear hz; go_at_call 15; refine (S1.out.mkdir HT.out wk1).mono ?_; rintro e w2 ⟨rfl, mb2, hs⟩; have S2 := Aside0.mk hs; clear hs)
    | (go_at_call 19; refine (new_any w).mono ?_; rintro e w1 ⟨pb, mb1, rfl, hp, hm, hM, hb⟩; have S1 := Aside0.mk (show Stt w w1 pb mb1 T0 from ⟨hM, hb, hp, hm, T0_good⟩); clear hp hm hM hb))
  go_ret
  exact ⟨rfl, S17.out.b⟩
end Go.Proofs.YtcmcmkfoihlniaaDoor.MM
end

section
namespace Go.Proofs.YtcmcmkfoihlniaaDoor.MM
open Go Go.RowKit Go.Maps Go.Proofs.YtcmcmkfoihlniaaDoorX Go.Proofs.YtcmcmkfoihlniaaDoor.NM Go.Proofs.YtcmcmkfoihlniaaDoor.EN Go.Proofs.YtcmcmkfoihlniaaDoorW.PrintWords Go.Proofs.YtcmcmkfoihlniaaDoorW.PrintLast Go.Proofs.YtcmcmkfoihlniaaDoorW.PrintMore Go.Proofs.YtcmcmkfoihlniaaDoor.PModelUndoes Go.ChangeShapes Go.WideShapes
set_option linter.unusedVariables false
set_option linter.unusedSimpArgs false
theorem cells48 : Tryd.prog.cellsOf 48 = 6 := by kernel_rfl
theorem cells3 : Tryd.prog.cellsOf 3 = 1 := by kernel_rfl
theorem cells9 : Tryd.prog.cellsOf 9 = 1 := by kernel_rfl
theorem cells23 : Tryd.prog.cellsOf 23 = 1 := by kernel_rfl
theorem cells5 : Tryd.prog.cellsOf 5 = 1 := by kernel_rfl
section
variable {H : Type} {enc : TypeId × Value → H}
theorem add_pos (a : Addr) {n : Nat} (h : n ≠ 0) : a.add n = ⟨a.block, a.off + n, none⟩ := by
  unfold Addr.add; simp [h]
theorem add_two (a : Addr) (i j : Nat) (h : j ≠ 0) : (a.add i).add j = ⟨(a.add i).block, (a.add i).off + j, none⟩ := add_pos _ h
theorem open_bytes' {W : World} {fuel base : Nat} {sp : Nat → Bool} {held : Bool} {v : Value} {y : DataW H × List MemPlace} (h : DataW.trod enc Tryd.prog W base sp held fuel 23 [v] = some y) :
    ∃ (B : Option Addr) (cb : Nat) (b : List Int), v = .slice B b.length cb ∧ ReadsInt W .u8 B b.length b ∧ b.length ≤ cb := by
  rcases open_ints Tryd.underlying23 Tryd.underlying5 cells5 h with ⟨hcs, _⟩ | ⟨a1, l1, c1, zs, hcs, _, hl1, hm1, hz1, hx1, hcell, hwz⟩
  · exact ⟨none, 0, [], by simpa using hcs, ⟨rfl, Nat.zero_le _, fun h => absurd h (Nat.lt_irrefl 0)⟩, Nat.le_refl _⟩
  · have hzl : l1 ≤ zs.length := by rw [hz1]; split <;> omega
    have htl : (zs.take l1).length = l1 := by rw [List.length_take]; omega
    refine ⟨some a1, c1, zs.take l1, by rw [htl]; simpa using hcs, ⟨rfl, ?_, fun hp => ⟨a1, rfl, fun j hj => ?_⟩⟩, by rw [htl]; exact hl1⟩
    · rw [htl]; simp only [maxLen] at hm1; omega
    · have hj' : j < l1 := by rw [← htl]; exact hj
      rw [hcell j (by omega)]
      simp [List.getD_eq_getElem?_getD, hj']
def OpAt (W : World) (ad : Addr) (o : OpV) : Prop := ∃ B cb, ReadsInt W .u8 B o.data.length o.data ∧ o.data.length ≤ cb ∧
  W.cell? ad = some (.int .i64 o.what) ∧ W.cell? ⟨ad.block, ad.off + 1, none⟩ = some (.string o.p) ∧ W.cell? ⟨ad.block, ad.off + 2, none⟩ = some (.string o.q) ∧
  W.cell? ⟨ad.block, ad.off + 3, none⟩ = some (.int .i64 o.off) ∧ W.cell? ⟨ad.block, ad.off + 4, none⟩ = some (.int .i64 o.n) ∧ W.cell? ⟨ad.block, ad.off + 5, none⟩ = some (.slice B o.data.length cb)
set_option maxRecDepth 100000 in
theorem open_ops {W : World} {v : Value} {d : DataW H} {ps : List MemPlace} {b0 : Nat} {r : Reach} (hv : Value.okWide Tryd.prog W r b0 22 v) (h : DataW.Trod enc Tryd.prog W 0 (fun _ => true) true 22 v d ps) :
    ∃ (A : Option Addr) (c : Nat) (l : List OpV), v = .slice A l.length c ∧ OpsAt W A l ∧ l.length ≤ 9223372036854775807 := by
  obtain ⟨A, n, c, rfl⟩ := okWide_slice Tryd.underlying22 hv
  obtain ⟨fuel, hf⟩ := h
  rcases Go.Deep.open_slice Tryd.underlying22 hf with ⟨hcs, _⟩ | ⟨a, len, cap, m, k, D, Pl, hcs, hb, hl, hm, hmm, hx0, hx⟩
  · simp [Value.cells] at hcs
    obtain ⟨rfl, rfl, rfl⟩ := hcs
    exact ⟨none, 0, [], rfl, fun i hi => absurd hi (Nat.not_lt_zero _), Nat.zero_le _⟩
  · simp [Value.cells] at hcs
    obtain ⟨rfl, rfl, rfl⟩ := hcs
    have hlm : n ≤ m := by rw [hmm]; simp; exact hl
    have each : ∀ i, i < n → ∃ o : OpV, OpAt W (a.add (i * 6)) o := by
      intro i hi
      obtain ⟨cs', h1, h2⟩ := hx i (by omega)
      rw [cells48] at h1
      obtain ⟨_, hlen, hcell⟩ := World.cells?_some h1
      obtain ⟨xs, k', hk, hxy, _, hxl, hfl⟩ := DataW.trod_struct Tryd.underlying48 h2
      match xs, hxl, cs', hlen with
      | [y0, y1, y2, y3, y4, y5], _, [v0, v1, v2, v3, v4, v5], _ =>
        have g0 := hfl 0 _ rfl
        have g1 := hfl 1 _ rfl
        have g2 := hfl 2 _ rfl
        have g3 := hfl 3 _ rfl
        have g4 := hfl 4 _ rfl
        have g5 := hfl 5 _ rfl
        simp [cells3, cells9, cells23] at g0 g1 g2 g3 g4 g5
        obtain ⟨x0, e0, _, _⟩ := DataW.trod_int Tryd.underlying3 g0
        obtain ⟨x1, e1, _, _⟩ := DataW.trod_string Tryd.underlying9 g1
        obtain ⟨x2, e2, _, _⟩ := DataW.trod_string Tryd.underlying9 g2
        obtain ⟨x3, e3, _, _⟩ := DataW.trod_int Tryd.underlying3 g3
        obtain ⟨x4, e4, _, _⟩ := DataW.trod_int Tryd.underlying3 g4
        obtain ⟨B, cb, b, rfl, hr, hc⟩ := open_bytes' g5
        simp only [List.cons.injEq, and_true] at e0 e1 e2 e3 e4
        subst e0 e1 e2 e3 e4
        have q0 := hcell 0 (by omega)
        have q1 := hcell 1 (by omega)
        have q2 := hcell 2 (by omega)
        have q3 := hcell 3 (by omega)
        have q4 := hcell 4 (by omega)
        have q5 := hcell 5 (by omega)
        rw [add_two _ _ _ (by decide)] at q1 q2 q3 q4 q5
        refine ⟨⟨x0, x1, x2, x3, x4, b⟩, B, cb, hr, hc, ?_, ?_, ?_, ?_, ?_, ?_⟩
        · have : (a.add (i * 6)).add 0 = a.add (i * 6) := by rw [add_add, Nat.add_zero]
          rw [this] at q0; simpa using q0
        · simpa using q1
        · simpa using q2
        · simpa using q3
        · simpa using q4
        · simpa using q5
    classical
    obtain ⟨G, hG⟩ : ∃ G : Nat → OpV, ∀ i, i < n → OpAt W (a.add (i * 6)) (G i) := ⟨fun i => if hin : i < n then Classical.choose (each i hin) else ⟨0, ByteArray.empty, ByteArray.empty, 0, 0, []⟩, fun i hin => by
      show OpAt W (a.add (i * 6)) (if hin : i < n then Classical.choose (each i hin) else ⟨0, ByteArray.empty, ByteArray.empty, 0, 0, []⟩)
      rw [dif_pos hin]
      exact Classical.choose_spec (each i hin)⟩
    have hll : ((List.range n).map G).length = n := by rw [List.length_map, List.length_range]
    refine ⟨some a, c, (List.range n).map G, by rw [hll], fun i hi => ?_, by rw [hll]; simp only [maxLen] at hm; omega⟩
    have hin : i < n := by rw [← hll]; exact hi
    have hget : ((List.range n).map G)[i] = G i := by simp
    rw [hget]
    obtain ⟨B, cb, h1, h2, h3⟩ := hG i hin
    exact ⟨a, B, cb, rfl, h1, h2, h3⟩
end
end Go.Proofs.YtcmcmkfoihlniaaDoor.MM
end

section
namespace Go.Proofs.YtcmcmkfoihlniaaDoor.MM
open Go Go.RowKit Go.Maps Go.Proofs.YtcmcmkfoihlniaaDoorX Go.Proofs.YtcmcmkfoihlniaaDoor.NM Go.Proofs.YtcmcmkfoihlniaaDoor.EN Go.Proofs.YtcmcmkfoihlniaaDoorW.PrintWords Go.Proofs.YtcmcmkfoihlniaaDoorW.PrintLast Go.Proofs.YtcmcmkfoihlniaaDoorW.PrintMore Go.Proofs.YtcmcmkfoihlniaaDoor.PModelUndoes
set_option linter.unusedVariables false
set_option linter.unusedSimpArgs false
def Opn (T : Tree) (p : ByteArray) (i : Int) (b : List Int) (n : Int) : Prop := (splitR p).2 = 0 ∧ findR T (splitR p).1 = (i, 0) ∧ T i = some (.file b n)
theorem Opn.open_ {T : Tree} {p : ByteArray} {i : Int} {b : List Int} {n : Int} (h : Opn T p i b n) : openR T p = (i, b, n, 0) := by
  obtain ⟨h1, h2, h3⟩ := h
  unfold openR
  rw [if_neg (fun h => h h1), h2, if_neg (fun h => h rfl)]
  simp only [h3]
theorem stat_opn {T : Tree} {p : ByteArray} {s : Int × Int × Int × Int} (h : statR T p = (s, 0)) (hk : s.2.1 = 1) (hI : Inv T) : ∃ b n, Opn T p s.1 b n := by
  unfold statR at h
  by_cases h1 : (splitR p).2 = 0
  · rw [if_neg (fun h => h h1)] at h
    by_cases h2 : (findR T (splitR p).1).2 = 0
    · rw [if_neg (fun h => h h2)] at h
      rcases hT : T (findR T (splitR p).1).1 with _ | (⟨b, n⟩ | l)
      · exact absurd hT (find_live hI h2)
      · rw [hT] at h
        have h := (Prod.mk.inj h).1
        exact ⟨b, n, h1, by rw [← h]; exact Prod.ext rfl h2, by rw [← h]; exact hT⟩
      · rw [hT] at h
        have h := (Prod.mk.inj h).1
        rw [← h] at hk
        exact absurd (show (2 : Int) = 1 from hk) (by decide)
    · rw [if_pos h2] at h
      exact absurd (Prod.mk.inj h).2 h2
  · rw [if_pos h1] at h
    exact absurd (Prod.mk.inj h).2 h1
theorem opn_len {T : Tree} (hI : Inv T) {p : ByteArray} {i : Int} {b : List Int} {n : Int} (h : Opn T p i b n) : b.length ≤ 3808 := (hI.ok.files _ _ _ h.2.2).1
theorem opn_read {T : Tree} (hI : Inv T) {p : ByteArray} {i : Int} {b : List Int} {n : Int} (h : Opn T p i b n) {off : Int} (h0 : 0 ≤ off) : readR T p off 5000 = (b.drop off.toNat, 0) := by
  unfold readR
  rw [h.open_]
  rw [if_neg (fun h => h rfl), if_neg (by omega), if_neg (by decide)]
  have := opn_len hI h
  rw [List.take_of_length_le (by rw [List.length_drop]; show b.length - off.toNat ≤ 5000; omega)]
theorem way_same {T F : Tree} (h : ∀ c n, stepR (F c) n = stepR (T c) n) : ∀ {l : List ByteArray} {a : Int}, wayR F a l = wayR T a l
  | [], a => rfl
  | n :: l, a => by
    rw [wayR, wayR, h a n, way_same h]
theorem step_put {T : Tree} {i : Int} {b b' : List Int} {n n' : Int} (h : T i = some (.file b n)) (c : Int) (m : ByteArray) : stepR (upd T i (some (.file b' n')) c) m = stepR (T c) m := by
  by_cases e : c = i
  · rw [e, upd_same, h]; rfl
  · rw [upd_other _ _ e]
theorem find_put {T : Tree} {i : Int} {b b' : List Int} {n n' : Int} (h : T i = some (.file b n)) (l : List ByteArray) : findR (upd T i (some (.file b' n'))) l = findR T l := by
  unfold findR
  rw [way_same (step_put h)]
theorem opn_put {T : Tree} {p : ByteArray} {i : Int} {b : List Int} {n : Int} (h : Opn T p i b n) (b' : List Int) : Opn (upd T i (some (.file b' n))) p i b' n :=
  ⟨h.1, (find_put h.2.2 _).trans h.2.1, upd_same _ _ _⟩
theorem opn_put_other {T : Tree} {p q : ByteArray} {i j : Int} {b c : List Int} {n m : Int} (h : Opn T p i b n) (hq : Opn T q j c m) (b' : List Int) : ∃ c', Opn (upd T i (some (.file b' n))) q j c' m ∧ (j ≠ i → c' = c) := by
  by_cases e : j = i
  · subst e
    have e2 := hq.2.2
    rw [h.2.2] at e2
    have e3 := Nd.file.inj (Option.some.inj e2)
    exact ⟨b', ⟨hq.1, (find_put h.2.2 _).trans hq.2.1, by rw [upd_same, e3.2]⟩, fun hn => absurd rfl hn⟩
  · exact ⟨c, ⟨hq.1, (find_put h.2.2 _).trans hq.2.1, by rw [upd_other _ _ e]; exact hq.2.2⟩, fun _ => rfl⟩
structure Bth (T : Tree) (p q : ByteArray) (i j : Int) (b c c0 : List Int) : Prop where
  g : Good2 6720 T
  p : ∃ n, Opn T p i b n
  q : ∃ m, Opn T q j c m
  k : i ≠ j → c = c0
theorem Bth.len {T : Tree} {p q : ByteArray} {i j : Int} {b c c0 : List Int} (h : Bth T p q i j b c c0) : b.length ≤ 3808 := by
  obtain ⟨n, hn⟩ := h.p
  exact opn_len h.g.1 hn
theorem Bth.put {T : Tree} {p q : ByteArray} {i j : Int} {b c c0 : List Int} (h : Bth T p q i j b c c0) {n : Int} (hn : Opn T p i b n) (b' : List Int) (hg : Good2 6720 (upd T i (some (.file b' n)))) : ∃ c', Bth (upd T i (some (.file b' n))) p q i j b' c' c0 := by
  obtain ⟨m, hm⟩ := h.q
  obtain ⟨c', h1, h2⟩ := opn_put_other hn hm b'
  exact ⟨c', hg, ⟨n, opn_put hn b'⟩, ⟨m, h1⟩, fun e => (h2 (fun x => e x.symm)).trans (h.k e)⟩
theorem Bth.read {T : Tree} {p q : ByteArray} {i j : Int} {b c c0 : List Int} (h : Bth T p q i j b c c0) : readR T p 0 5000 = (b, 0) := by
  obtain ⟨n, hn⟩ := h.p
  exact opn_read h.g.1 hn (Int.le_refl 0)
theorem Bth.readAt {T : Tree} {p q : ByteArray} {i j : Int} {b c c0 : List Int} (h : Bth T p q i j b c c0) {off : Int} (h0 : 0 ≤ off) : readR T p off 5000 = (b.drop off.toNat, 0) := by
  obtain ⟨n, hn⟩ := h.p
  exact opn_read h.g.1 hn h0
theorem Bth.readQ {T : Tree} {p q : ByteArray} {i j : Int} {b c c0 : List Int} (h : Bth T p q i j b c c0) : readR T q 0 5000 = (c, 0) := by
  obtain ⟨n, hn⟩ := h.q
  exact opn_read h.g.1 hn (Int.le_refl 0)
theorem Bth.write {T : Tree} {p q : ByteArray} {i j : Int} {b c c0 : List Int} (h : Bth T p q i j b c c0) (off : Int) (d : List Int) :
    (∃ y, writeR 6720 T p off d = (T, y) ∧ (y == 0) = false) ∨ (writeR 6720 T p off d = (T, 0) ∧ d.length = 0) ∨
    (0 ≤ off ∧ off + d.length ≤ 3808 ∧ 0 < d.length ∧ ∃ F c', writeR 6720 T p off d = (F, 0) ∧ Bth F p q i j (layB b off.toNat d) c' c0) := by
  obtain ⟨n, hn⟩ := h.p
  have hgood := write_good h.g p off d
  unfold writeR at hgood ⊢
  rw [hn.open_] at hgood ⊢
  rw [if_neg (fun h => h rfl)] at hgood ⊢
  by_cases h1 : off < 0
  · rw [if_pos h1]; exact .inl ⟨_, rfl, by decide⟩
  · rw [if_neg h1] at hgood ⊢
    by_cases h2 : 2000 < d.length
    · rw [if_pos h2]; exact .inl ⟨_, rfl, by decide⟩
    · rw [if_neg h2] at hgood ⊢
      by_cases h3 : 3808 - (d.length : Int) < off
      · rw [if_pos h3]; exact .inl ⟨_, rfl, by decide⟩
      · rw [if_neg h3] at hgood ⊢
        by_cases h4 : d.length = 0
        · rw [if_pos h4]; exact .inr (.inl ⟨rfl, h4⟩)
        · rw [if_neg h4] at hgood ⊢
          unfold tryR at hgood ⊢
          by_cases h5 : (6720 : Int) < usedT (upd T i (some (.file (layB b off.toNat d) n)))
          · rw [if_pos h5]; exact .inl ⟨_, rfl, by decide⟩
          · rw [if_neg h5] at hgood ⊢
            obtain ⟨c', hc⟩ := h.put hn (layB b off.toNat d) hgood
            exact .inr (.inr ⟨by omega, by omega, by omega, _, c', rfl, hc⟩)
theorem cutB_self (b : List Int) : cutB b b.length = b := by unfold cutB; simp
theorem Bth.trunc {T : Tree} {p q : ByteArray} {i j : Int} {b c c0 : List Int} (h : Bth T p q i j b c c0) (size : Int) :
    (∃ y, truncR 6720 T p size = (T, y) ∧ (y == 0) = false) ∨ (0 ≤ size ∧ size ≤ 3808 ∧ ∃ F c', truncR 6720 T p size = (F, 0) ∧ Bth F p q i j (cutB b size.toNat) c' c0) := by
  obtain ⟨n, hn⟩ := h.p
  have hgood := trunc_good h.g p size
  unfold truncR at hgood ⊢
  rw [hn.open_] at hgood ⊢
  rw [if_neg (fun h => h rfl)] at hgood ⊢
  by_cases h1 : size < 0
  · rw [if_pos h1]; exact .inl ⟨_, rfl, by decide⟩
  · rw [if_neg h1] at hgood ⊢
    by_cases h2 : 3808 < size
    · rw [if_pos h2]; exact .inl ⟨_, rfl, by decide⟩
    · rw [if_neg h2] at hgood ⊢
      by_cases h3 : size = (b.length : Int)
      · rw [if_pos h3]
        refine .inr ⟨by omega, by omega, T, c, rfl, ?_⟩
        rw [h3, Int.toNat_natCast, cutB_self]; exact h
      · rw [if_neg h3] at hgood ⊢
        unfold tryR at hgood ⊢
        by_cases h5 : (6720 : Int) < usedT (upd T i (some (.file (cutB b size.toNat) n)))
        · rw [if_pos h5]; exact .inl ⟨_, rfl, by decide⟩
        · rw [if_neg h5] at hgood ⊢
          obtain ⟨c', hc⟩ := h.put hn (cutB b size.toNat) hgood
          exact .inr ⟨by omega, by omega, _, c', rfl, hc⟩
theorem cutB_take (b : List Int) (n : Nat) : (cutB b n).take (min n b.length) = b.take (min n b.length) := by
  unfold cutB
  rw [List.take_append_of_le_length (by rw [List.length_take]; omega), List.take_take, Nat.min_eq_left (by omega)]
theorem cutB_zero {b : List Int} {n k : Nat} (h1 : b.length ≤ k) (h2 : k < n) : (cutB b n).getD k 0 = 0 := by
  unfold cutB
  rw [List.getD_eq_getElem?_getD, List.getElem?_append_right (by rw [List.length_take]; omega), List.getElem?_replicate]
  split <;> rfl
end Go.Proofs.YtcmcmkfoihlniaaDoor.MM
end
