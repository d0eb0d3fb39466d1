/- What this claim uses of the texts that were printed for it. -/
import Derived.Test.YtcmcmkfoihlniaaDoorV4
section
namespace Go.Proofs.YtcmcmkfoihlniaaDoor.MM
open Go Go.RowKit Go.Maps Go.Proofs.YtcmcmkfoihlniaaDoorX Go.Proofs.YtcmcmkfoihlniaaDoor.NM Go.Proofs.YtcmcmkfoihlniaaDoor.EN Go.Proofs.YtcmcmkfoihlniaaDoorW.PrintWords Go.Proofs.YtcmcmkfoihlniaaDoorW.PrintLast Go.Proofs.YtcmcmkfoihlniaaDoorW.PrintMore Go.Proofs.YtcmcmkfoihlniaaDoor.PModelUndoes
set_option linter.unusedVariables false
set_option linter.unusedSimpArgs false
set_option maxRecDepth 100000
set_option maxHeartbeats 4000000
def dirL (o : Option Nd) : List S90 := match o with | some (.dir l) => l | _ => []
def makeR (q : Int) (T : Tree) (p : ByteArray) (x : Nd) : Tree × Int :=
  if (splitR p).2 ≠ 0 then (T, (splitR p).2) else if (splitR p).1.length = 0 then (T, 33) else
  if (upR T (splitR p).1).2 ≠ 0 then (T, (upR T (splitR p).1).2) else
  if (stepR (T (lastI (upR T (splitR p).1).1)) (lastS (splitR p).1)).2 = 0 then (T, 33) else
  if 64 ≤ (dirL (T (lastI (upR T (splitR p).1).1))).length then (T, 40) else
  if leastR T = 0 then (T, 42) else
  tryR q T (upd (upd T (leastR T) (some x)) (lastI (upR T (splitR p).1).1) (some (.dir (insR (dirL (T (lastI (upR T (splitR p).1).1))) ⟨leastR T, lastS (splitR p).1⟩).1)))
theorem insR_may {d : List S90} (h : mayE d = true) (y : S90) : mayE (insR d y).1 = true := by
  cases he : insErr d y with
  | some z =>
    have : insR d y = ([], z) := by unfold insR; rw [he]
    rw [this]; exact (by decide : mayE [] = true)
  | none => rw [insR_yes he]; exact (ins_may_yes h he).1
theorem cell_new1 (w : World) (u : Value) (t : TypeId) : (w.alloc (.cells #[u] t)).cell? ⟨w.heap.size, 0, none⟩ = some u := by
  unfold World.cell?
  rw [heap_new]; rfl
theorem upR_good {T : Tree} (hO : Ok T) {l : List ByteArray} (h : (upR T l).2 = 0) : 0 < (upR T l).1.length ∧ (upR T l).1.length ≤ l.length + 1 ∧ inR (lastI (upR T l).1) ∧ ∃ d, T (lastI (upR T l).1) = some (.dir d) := by
  revert h
  unfold upR
  split
  · next h1 =>
    intro h
    have hne := wayR_ne h1
    have hpos : 0 < (wayR T 1 l.dropLast).1.length := by omega
    refine ⟨hpos, by rw [hne, List.length_dropLast]; omega, wayR_in hO ⟨by decide, by decide⟩ _ (lastI_mem (List.length_pos_iff.1 hpos)), ?_⟩
    rcases dirR_or (T (lastI (wayR T 1 l.dropLast).1)) with ⟨d, hd⟩ | ⟨hd, _⟩
    · exact ⟨d, hd⟩
    · have h : (dirR (T (lastI (wayR T 1 l.dropLast).1))).2 = 0 := h
      rw [hd] at h; cases h
  · intro h; contradiction
theorem make_any {w : World} {pb mb : Nat} {q : Int} {T : Tree} (h : Mdl w pb mb q T) (hO : Ok T) (p : ByteArray) (t : TypeId) (u : Value) (x : Nd) (hv : Holds w (.iface t u) (some x)) (hxd : ∀ l, x = .dir l → mayE l = true) (hxf : ∀ b n, x = .file b n → b.length ≤ 3808 ∧ 1 ≤ n ∧ n ≤ 64) (hT : Lib.Utf8Tabs 2 3 w) :
    Calls Tryd.prog 30 #[mp pb, .string p, .iface t u] w fun e w' => e = .returned (.int .i64 (makeR q T p x).2) ∧ ∃ mb', (mb' = mb ∨ w.heap.size ≤ mb') ∧ Mdl w' pb mb' q (makeR q T p x).1 ∧ Turn (fun k => k = pb) w w' := by
  have HM := Aside0.mk h
  have HO := Aside0.mk hO
  have HT := Aside0.mk hT
  have HV := Aside0.mk hv
  have HXD := Aside0.mk hxd
  have HXF := Aside0.mk hxf
  obtain ⟨R, hR⟩ : ∃ R, makeR q T p x = R := ⟨_, rfl⟩
  rw [hR]
  unfold makeR at hR
  have hgood := @splitR_good p
  obtain ⟨y1, hy1⟩ : ∃ y, (splitR p).2 = y := ⟨_, rfl⟩
  obtain ⟨L, hL⟩ : ∃ y, (splitR p).1 = y := ⟨_, rfl⟩
  rw [hy1, hL] at hR hgood
  have HY1 := Aside0.mk hy1
  have HL := Aside0.mk hL
  clear h hO hT hv hxd hxf hy1 hL
  by_cases h1 : y1 = 0
  · subst h1
    rw [if_neg (fun h => h rfl)] at hR
    obtain ⟨hL3, hval⟩ := hgood rfl
    by_cases h2 : L.length = 0
    · rw [if_pos h2] at hR
      have e2 : ((L.length : Int) == 0) = true := beq_iff_eq.2 (by omega)
      have HR := Aside0.mk hR
      clear hR hval hL3 h2
      go_enter Tryd.func30, Tryd.ntmps30
      go_wp2_with (first
        | (have hz := HB0.out; clear hz; go_at_call 23; refine Calls.mono (msplit_any (HM.out.below HB0.out) p (Utf8Tabs_below HT.out HB0.out)) ?_; rw [HY1.out, HL.out]; rintro e w1 ⟨A, c, rfl, hs, hc, hb⟩; have HB1 := Aside0.mk (below_step HB0.out hb); have HS1 := Aside0.mk hs; have HC1 := Aside0.mk hc; obtain ⟨W1, hW1⟩ : ∃ W1, W1 = w1.alloc (.cells #[.slice A L.length c] 50) := ⟨_, rfl⟩; have HW1 := Aside0.mk hW1; have HBW := Aside0.mk (show Below w1.heap.size w1 W1 by rw [hW1]; exact below_alloc (Below.refl _ _) _); have HBV := Aside0.mk (below_step HB1.out HBW.out); have C51 := Aside0.mk (pw_cell_below HBW.out (pw_cell_below hb C50.out)); have C7 := Aside0.mk (show W1.cell? ⟨w1.heap.size, 0, none⟩ = some (.slice A L.length c) by rw [hW1]; exact cell_new1 _ _ _); clear hb hs hc hW1)
        | ((with_reducible refine gate_dst (N := 5) rfl ?_); refine box_event ?hg (N := 5) ?hd (cs := #[.iface t u]) (t := 57) ?hr ?_; (case hd => rfl); (case hg => rfl); (case hr => first | (go_simp; done) | (go_simp; rfl) | kernel_rfl); intro g5 hg w0 hbox hb; have HB0 := Aside0.mk hb; have C50 := Aside0.mk (show w0.cell? ⟨g5, 0, none⟩ = some (.iface t u) by simp [World.cell?, hbox]); clear hb hbox hg))
      go_ret
      rw [← HW1.out]
      rw [← HR.out]
      exact ⟨rfl, mb, .inl rfl, HM.out.below HBV.out, Turn.of_below HBV.out⟩
    · rw [if_neg h2] at hR
      have e2 : ((L.length : Int) == 0) = false := beq_eq_false_iff_ne.2 (by omega)
      have HNS := Aside0.mk (show ∀ n ∈ L, n.size ≤ 1048576 from fun n hn => by have := valid_size (hval n hn); omega)
      have HL0 := Aside0.mk (show 0 < L.length by omega)
      have HL1 := Aside0.mk (show L.length ≤ 1048576 by omega)
      have HVL := Aside0.mk (hval _ (lastS_mem (l := L) (by omega)))
      have HNM := Aside0.mk (HNS.out _ (lastS_mem HL0.out))
      have hup := @upR_good T HO.out L
      have hL4 := hL3
      obtain ⟨y2, hy2⟩ : ∃ y, (upR T L).2 = y := ⟨_, rfl⟩
      obtain ⟨way, hway⟩ : ∃ y, (upR T L).1 = y := ⟨_, rfl⟩
      rw [hy2, hway] at hR hup
      have HY2 := Aside0.mk hy2
      have HWY := Aside0.mk hway
      clear h2 hval hy2 hway
      by_cases h3 : y2 = 0
      · subst h3
        rw [if_neg (fun h => h rfl)] at hR
        obtain ⟨hwp, hwl, hai, d, hd⟩ := hup rfl
        have HWP := Aside0.mk hwp
        have HWL := Aside0.mk (show way.length ≤ 1048577 by omega)
        obtain ⟨at_, hat⟩ : ∃ a, lastI way = a := ⟨_, rfl⟩
        rw [hat] at hR hai hd
        have HAT := Aside0.mk hat
        have HAI := Aside0.mk hai
        have HD := Aside0.mk hd
        rw [show dirL (T at_) = d by rw [hd]; rfl] at hR
        obtain ⟨y3, hy3⟩ : ∃ y, (stepR (T at_) (lastS L)).2 = y := ⟨_, rfl⟩
        obtain ⟨i3, hi3⟩ : ∃ y, (stepR (T at_) (lastS L)).1 = y := ⟨_, rfl⟩
        rw [hy3] at hR
        have HY3 := Aside0.mk hy3
        have HI3 := Aside0.mk hi3
        obtain ⟨nm, hnm⟩ : ∃ n, lastS L = n := ⟨_, rfl⟩
        rw [hnm] at hR HY3 HI3 HNM HVL
        have HNE := Aside0.mk hnm
        clear hup hwp hwl hat hai hd hy3 hi3 hnm hL4
        go_enter Tryd.func30, Tryd.ntmps30
        go_wp2_with (first
          | (have hz := HB2.out; clear hz; go_at_call 32; refine Calls.mono (lastI_any A2 c2 way w2 HR2.out HC2.out HWP.out HWL.out) ?_; rw [HAT.out]; rintro e w3 ⟨rfl, hb⟩; have HB3 := Aside0.mk (below_step HB2.out hb); have HS3 := Aside0.mk (Kd.C_below HS2.out hb); have C73 := Aside0.mk (pw_cell_below hb C72.out); have C53 := Aside0.mk (pw_cell_below hb C52.out); clear hb)
          | (have hz := HBV.out; clear hz; go_at_call 40; rw [← HW1.out]; refine Calls.mono (up_any (HM.out.below HBV.out) HO.out A c L (Kd.C_below HS1.out HBW.out) HC1.out HNS.out HL1.out HL0.out) ?_; rw [HY2.out, HWY.out]; rintro e w2 ⟨A2, c2, rfl, hr2, hc2, hb⟩; have HB2 := Aside0.mk (below_step HBV.out hb); have c7 := pw_cell_below hb C7.out; have C72 := Aside0.mk c7; have C52 := Aside0.mk (pw_cell_below hb C51.out); have HR2 := Aside0.mk hr2; have HC2 := Aside0.mk hc2; have HS2 := Aside0.mk (Kd.C_below (Kd.C_below HS1.out HBW.out) hb); clear hb hr2 hc2)
          | (have hz := HB0.out; clear hz; go_at_call 23; refine Calls.mono (msplit_any (HM.out.below HB0.out) p (Utf8Tabs_below HT.out HB0.out)) ?_; rw [HY1.out, HL.out]; rintro e w1 ⟨A, c, rfl, hs, hc, hb⟩; have HB1 := Aside0.mk (below_step HB0.out hb); have HS1 := Aside0.mk hs; have HC1 := Aside0.mk hc; obtain ⟨W1, hW1⟩ : ∃ W1, W1 = w1.alloc (.cells #[.slice A L.length c] 50) := ⟨_, rfl⟩; have HW1 := Aside0.mk hW1; have HBW := Aside0.mk (show Below w1.heap.size w1 W1 by rw [hW1]; exact below_alloc (Below.refl _ _) _); have HBV := Aside0.mk (below_step HB1.out HBW.out); have C51 := Aside0.mk (pw_cell_below HBW.out (pw_cell_below hb C50.out)); have C7 := Aside0.mk (show W1.cell? ⟨w1.heap.size, 0, none⟩ = some (.slice A L.length c) by rw [hW1]; exact cell_new1 _ _ _); clear hb hs hc hW1)
          | ((with_reducible refine gate_dst (N := 5) rfl ?_); refine box_event ?hg (N := 5) ?hd (cs := #[.iface t u]) (t := 57) ?hr ?_; (case hd => rfl); (case hg => rfl); (case hr => first | (go_simp; done) | (go_simp; rfl) | kernel_rfl); intro g5 hg w0 hbox hb; have HB0 := Aside0.mk hb; have C50 := Aside0.mk (show w0.cell? ⟨g5, 0, none⟩ = some (.iface t u) by simp [World.cell?, hbox]); clear hb hbox hg))
        obtain ⟨W3, hW3⟩ : ∃ W3, W3 = w3.alloc (.cells #[.int .i64 at_] 3) := ⟨_, rfl⟩
        have HBW3 := Aside0.mk (show Below w3.heap.size w3 W3 by rw [hW3]; exact below_alloc (Below.refl _ _) _)
        have HBV3 := Aside0.mk (below_step HB3.out HBW3.out)
        have C10 := Aside0.mk (show W3.cell? ⟨w3.heap.size, 0, none⟩ = some (.int .i64 at_) by rw [hW3]; exact cell_new1 _ _ _)
        have C74 := Aside0.mk (pw_cell_below HBW3.out C73.out)
        have C54 := Aside0.mk (pw_cell_below HBW3.out C53.out)
        rw [← hW3]
        have HX3 := Aside0.mk hW3
        have HM3 := Aside0.mk (HM.out.below HBV3.out)
        have HS4 := Aside0.mk (Kd.C_below HS3.out HBW3.out)
        have HLS := Aside0.mk (lastS_any A c L W3.drew (Kd.C_below HS4.out (below_drew (Below.refl W3.heap.size W3))) HC1.out HL0.out HL1.out)
        clear hW3
        refine wp_region_held_drew (S := fun W => Below W3.heap.size W3 W) (by kernel_rfl) (below_drew (Below.refl _ _)) (fun hHeld => ?_)
        refine wpAnyH_take (i := 0) (oi := ⟨some 40, _, _, _, _, _⟩) (v := (mp pb)) rfl (by kernel_rfl) (by kernel_rfl) (by kernel_rfl) (fun _ _ _ h => h) (Or.inl ⟨by rfl, fun W hS => by go_simp⟩) hHeld ?_
        (try simp only [Act.put, List.setIfInBounds_toArray, List.set_cons_zero, List.set_cons_succ])
        refine wpAnyH_take (i := 1) (oi := ⟨some 41, _, _, _, _, _⟩) (v := (.int .i64 at_)) rfl (by kernel_rfl) (by kernel_rfl) (by kernel_rfl) (fun _ _ _ h => h) (Or.inl ⟨by rfl, fun W hS => by have cc := pw_cell_below hS C10.out; go_simp⟩) hHeld ?_
        (try simp only [Act.put, List.setIfInBounds_toArray, List.set_cons_zero, List.set_cons_succ])
        refine wpAnyH_take (i := 2) (oi := ⟨some 42, _, _, _, _, _⟩) (v := (.slice A L.length c)) rfl (by kernel_rfl) (by kernel_rfl) (by kernel_rfl) (fun _ _ _ h => h) (Or.inl ⟨by rfl, fun W hS => by have cc := pw_cell_below hS C74.out; go_simp⟩) hHeld ?_
        (try simp only [Act.put, List.setIfInBounds_toArray, List.set_cons_zero, List.set_cons_succ])
        refine wpAnyH_ready (rs := [3]) (by kernel_rfl) (by simp) ?_
        refine AllReadyH.cons rfl (fun K hK => ?_) AllReadyH.nil
        go_simp
        refine (HLS.out).mono ?_
        rw [HNE.out]
        rintro e w4 ⟨rfl, hb⟩
        dsimp only
        refine hK.out _ _ (below_step hHeld hb) (fun hH => ?_)
        have HB4 := Aside0.mk hb
        clear hK K hHeld hb
        have hHeld := hH
        clear hH
        (try simp only [Act.put, List.setIfInBounds_toArray, List.set_cons_zero, List.set_cons_succ])
        refine wpAnyH_ready (rs := [4]) (by kernel_rfl) (by simp) ?_
        refine AllReadyH.cons rfl (fun K hK => ?_) AllReadyH.nil
        go_simp
        refine (step_any (HM3.out.below hHeld) HO.out HAI.out nm HNM.out).mono ?_
        rw [HY3.out, HI3.out]
        rintro e w5 ⟨rfl, hb⟩
        dsimp only
        refine hK.out _ _ (below_step hHeld hb) (fun hH => ?_)
        have HB5 := Aside0.mk hb
        clear hK K hHeld hb
        have hHeld := hH
        clear hH
        (try simp only [Act.put, List.setIfInBounds_toArray, List.set_cons_zero, List.set_cons_succ])
        refine wpAnyH_take (i := 5) (oi := ⟨some 39, _, _, _, _, _⟩) (v := (.tuple #[.int .i64 i3, .int .i64 y3])) rfl (by kernel_rfl) (by kernel_rfl) (by kernel_rfl) (fun _ _ _ h => h) (Or.inl ⟨by rfl, fun W hS => by go_simp⟩) hHeld ?_
        (try simp only [Act.put, List.setIfInBounds_toArray, List.set_cons_zero, List.set_cons_succ])
        refine wpAnyH_take (i := 6) (oi := ⟨some 45, _, _, _, _, _⟩) (v := (.int .i64 i3)) rfl (by kernel_rfl) (by kernel_rfl) (by kernel_rfl) (fun _ _ _ h => h) (Or.inl ⟨by rfl, fun W hS => by go_simp⟩) hHeld ?_
        (try simp only [Act.put, List.setIfInBounds_toArray, List.set_cons_zero, List.set_cons_succ])
        refine wpAnyH_take (i := 7) (oi := ⟨some 46, _, _, _, _, _⟩) (v := (.int .i64 y3)) rfl (by kernel_rfl) (by kernel_rfl) (by kernel_rfl) (fun _ _ _ h => h) (Or.inl ⟨by rfl, fun W hS => by go_simp⟩) hHeld ?_
        (try simp only [Act.put, List.setIfInBounds_toArray, List.set_cons_zero, List.set_cons_succ])
        refine wpAnyH_take (i := 8) (oi := ⟨some 11, _, _, _, _, _⟩) (v := (.int .i64 i3)) rfl (by kernel_rfl) (by kernel_rfl) (by kernel_rfl) (fun _ _ _ h => h) (Or.inl ⟨by rfl, fun W hS => by go_simp⟩) hHeld ?_
        (try simp only [Act.put, List.setIfInBounds_toArray, List.set_cons_zero, List.set_cons_succ])
        refine wpAnyH_take (i := 9) (oi := ⟨some 12, _, _, _, _, _⟩) (v := (.int .i64 y3)) rfl (by kernel_rfl) (by kernel_rfl) (by kernel_rfl) (fun _ _ _ h => h) (Or.inl ⟨by rfl, fun W hS => by go_simp⟩) hHeld ?_
        (try simp only [Act.put, List.setIfInBounds_toArray, List.set_cons_zero, List.set_cons_succ])
        refine wpAnyH_done (by kernel_rfl) ?_ _
        have HB6 := Aside0.mk hHeld
        have HBV6 := Aside0.mk (below_step HBV3.out hHeld)
        have C76 := Aside0.mk (pw_cell_below hHeld C74.out)
        have C56 := Aside0.mk (pw_cell_below hHeld C54.out)
        have C106 := Aside0.mk (pw_cell_below hHeld C10.out)
        have HS6 := Aside0.mk (Kd.C_below HS4.out hHeld)
        have HM6 := Aside0.mk (HM.out.below HBV6.out)
        clear hHeld
        (try simp only [Exit.then])
        by_cases h4 : y3 = 0
        · subst h4
          rw [if_pos rfl] at hR
          have HR := Aside0.mk hR
          clear hR
          go_wp2
          go_ret
          rw [← HR.out]
          exact ⟨rfl, mb, .inl rfl, HM.out.below HBV6.out, Turn.of_below HBV6.out⟩
        · rw [if_neg h4] at hR
          have e4 : (y3 == 0) = false := beq_eq_false_iff_ne.2 h4
          clear h4
          obtain ⟨v6, hv6, hl6⟩ := HM6.out.2.looks HAI.out
          rw [HD.out] at hv6
          obtain ⟨A6, c6, rfl, _, _⟩ := hv6
          have HL6 := Aside0.mk (show ∀ W, Below w5.heap.size w5 W → (Instr.lookup 58 (.map (some mb)) (.int .i64 at_) false).run Tryd.prog W = .ok (.iface 81 (.slice A6 d.length c6)) W from fun W hS => hl6 W (hS.block mb HM6.out.2.lt))
          have P6 := Aside0.mk HM6.out.at_
          clear hl6
          go_wp2
          obtain ⟨b64, hb64⟩ : ∃ b, decide ((64 : Int) ≤ (d.length : Int)) = b := ⟨_, rfl⟩
          have HB64 := Aside0.mk hb64
          clear hb64
          refine wp_region_held_drew (S := fun W => Below w5.heap.size w5 W) (by kernel_rfl) (below_drew (Below.refl _ _)) (fun hHeld => ?_)
          refine wpAnyH_take (i := 0) (oi := ⟨some 49, _, _, _, _, _⟩) (v := (mp pb)) rfl (by kernel_rfl) (by kernel_rfl) (by kernel_rfl) (fun _ _ _ h => h) (Or.inl ⟨by rfl, fun W hS => by go_simp⟩) hHeld ?_
          (try simp only [Act.put, List.setIfInBounds_toArray, List.set_cons_zero, List.set_cons_succ])
          refine wpAnyH_take (i := 1) (oi := ⟨some 50, _, _, _, _, _⟩) (v := (mp pb)) rfl (by kernel_rfl) (by kernel_rfl) (by kernel_rfl) (fun _ _ _ h => h) (Or.inl ⟨by rfl, fun W hS => by go_simp⟩) hHeld ?_
          (try simp only [Act.put, List.setIfInBounds_toArray, List.set_cons_zero, List.set_cons_succ])
          refine wpAnyH_take (i := 2) (oi := ⟨some 51, _, _, _, _, _⟩) (v := (.pointer (some ⟨pb, 1, none⟩))) rfl (by kernel_rfl) (by kernel_rfl) (by kernel_rfl) (fun _ _ _ h => h) (Or.inl ⟨by rfl, fun W hS => by go_simp⟩) hHeld ?_
          (try simp only [Act.put, List.setIfInBounds_toArray, List.set_cons_zero, List.set_cons_succ])
          refine wpAnyH_take (i := 3) (oi := ⟨some 52, _, _, _, _, _⟩) (v := (.map (some mb))) rfl (by kernel_rfl) (by kernel_rfl) (by kernel_rfl) (fun _ _ _ h => h) (Or.inl ⟨by rfl, fun W hS => by have cc := pw_cell_below hS P6.out; go_simp⟩) hHeld ?_
          (try simp only [Act.put, List.setIfInBounds_toArray, List.set_cons_zero, List.set_cons_succ])
          refine wpAnyH_take (i := 4) (oi := ⟨some 53, _, _, _, _, _⟩) (v := (.int .i64 at_)) rfl (by kernel_rfl) (by kernel_rfl) (by kernel_rfl) (fun _ _ _ h => h) (Or.inl ⟨by rfl, fun W hS => by have cc := pw_cell_below hS C106.out; go_simp⟩) hHeld ?_
          (try simp only [Act.put, List.setIfInBounds_toArray, List.set_cons_zero, List.set_cons_succ])
          refine wpAnyH_take (i := 5) (oi := ⟨some 54, _, _, _, _, _⟩) (v := (.iface 81 (.slice A6 d.length c6))) rfl (by kernel_rfl) (by kernel_rfl) (by kernel_rfl) (fun _ _ _ h => h) (Or.inl ⟨by rfl, fun W hS => by have hl := HL6.out W hS; go_simp⟩) hHeld ?_
          (try simp only [Act.put, List.setIfInBounds_toArray, List.set_cons_zero, List.set_cons_succ])
          refine wpAnyH_take (i := 6) (oi := ⟨some 55, _, _, _, _, _⟩) (v := (.slice A6 d.length c6)) rfl (by kernel_rfl) (by kernel_rfl) (by kernel_rfl) (fun _ _ _ h => h) (Or.inl ⟨by rfl, fun W hS => by go_simp⟩) hHeld ?_
          (try simp only [Act.put, List.setIfInBounds_toArray, List.set_cons_zero, List.set_cons_succ])
          refine wpAnyH_take (i := 7) (oi := ⟨some 56, _, _, _, _, _⟩) (v := (.int .i64 d.length)) rfl (by kernel_rfl) (by kernel_rfl) (by kernel_rfl) (fun _ _ _ h => h) (Or.inl ⟨by rfl, fun W hS => by go_simp⟩) hHeld ?_
          (try simp only [Act.put, List.setIfInBounds_toArray, List.set_cons_zero, List.set_cons_succ])
          refine wpAnyH_take (i := 8) (oi := ⟨some 57, _, _, _, _, _⟩) (v := (.bool b64)) rfl (by kernel_rfl) (by kernel_rfl) (by kernel_rfl) (fun _ _ _ h => h) (Or.inl ⟨by rfl, fun W hS => by have hb := HB64.out; go_simp⟩) hHeld ?_
          (try simp only [Act.put, List.setIfInBounds_toArray, List.set_cons_zero, List.set_cons_succ])
          refine wpAnyH_done (by kernel_rfl) ?_ _
          have HB7 := Aside0.mk hHeld
          have HBV7 := Aside0.mk (below_step HBV6.out hHeld)
          have C77 := Aside0.mk (pw_cell_below hHeld C76.out)
          have C57 := Aside0.mk (pw_cell_below hHeld C56.out)
          have C107 := Aside0.mk (pw_cell_below hHeld C106.out)
          have HS7 := Aside0.mk (Kd.C_below HS6.out hHeld)
          have HM7 := Aside0.mk (HM.out.below HBV7.out)
          clear hHeld
          (try simp only [Exit.then])
          cases b64 with
          | true =>
            rw [if_pos (by have := of_decide_eq_true HB64.out; omega)] at hR
            have HR := Aside0.mk hR
            clear hR
            go_wp2
            go_ret
            rw [← HR.out]
            exact ⟨rfl, mb, .inl rfl, HM.out.below HBV7.out, Turn.of_below HBV7.out⟩
          | false =>
            have hd64 : ¬ 64 ≤ d.length := by have := of_decide_eq_false HB64.out; omega
            rw [if_neg hd64] at hR
            obtain ⟨ino, hino⟩ : ∃ k, leastR T = k := ⟨_, rfl⟩
            rw [hino] at hR
            have HINO := Aside0.mk hino
            clear hino hd64
            by_cases h6 : ino = 0
            · subst h6
              rw [if_pos rfl] at hR
              have HR := Aside0.mk hR
              clear hR
              go_wp2_with (have hz := HB7.out; clear hz; go_at_call 55; refine Calls.mono (least_any HM7.out) ?_; rw [HINO.out]; rintro e w8 ⟨rfl, hb⟩; have HB8 := Aside0.mk (below_step HBV7.out hb); clear hb)
              go_ret
              rw [← HR.out]
              exact ⟨rfl, mb, .inl rfl, HM.out.below (below_alloc HB8.out _), Turn.of_below (below_alloc HB8.out _)⟩
            · rw [if_neg h6] at hR
              have HR := Aside0.mk hR
              have e6 : (ino == 0) = false := beq_eq_false_iff_ne.2 h6
              obtain ⟨i1, i2, i3'⟩ := leastR_is HINO.out h6
              have HIK := Aside0.mk (show 1 ≤ ino ∧ ino ≤ 64 from ⟨i1, i2⟩)
              have HO1 := Aside0.mk (HO.out.upd (k := ino) (o := some x) (fun l e => HXD.out l (Option.some.inj e)) (fun b n e => HXF.out b n (Option.some.inj e)))
              have HD1 := Aside0.mk (show upd T ino (some x) at_ = some (.dir d) by
                rw [upd_other _ _ (fun e => by have h := HD.out; rw [e, i3'] at h; cases h)]; exact HD.out)
              have HFN := Aside0.mk (show Ok (upd (upd T ino (some x)) at_ (some (.dir (insR d ⟨ino, lastS L⟩).1))) from HO1.out.upd (fun l e => by
                have e : (insR d ⟨ino, lastS L⟩).1 = l := Nd.dir.inj (Option.some.inj e)
                rw [← e]; exact insR_may (HO.out.dirs _ _ HD.out) _) (fun b n e => by cases e))
              clear i1 i2 i3'
              clear hR h6
              go_wp2_with (first
                | (have hz := HB8.out; clear hz; go_at_call 42; rw [← HW8.out]; refine Calls.mono (try_make (.pointer (some ⟨g5, 0, none⟩)) (.pointer (some ⟨w8.heap.size, 0, none⟩)) (.pointer (some ⟨w3.heap.size, 0, none⟩)) (.pointer (some ⟨w1.heap.size, 0, none⟩)) (HM.out.below HBV8.out) HFN.out HOF.out) ?_; rintro e w9 ⟨mb', hmb, rfl, hm, ht⟩; have HM9 := Aside0.mk hm; have HT9 := Aside0.mk ht; have HMB := Aside0.mk hmb; clear hm ht hmb)
                | (have hz := HB7.out; clear hz; go_at_call 55; refine Calls.mono (least_any HM7.out) ?_; rw [HINO.out]; rintro e w8 ⟨rfl, hb⟩; have HB8 := Aside0.mk (below_step HBV7.out hb); obtain ⟨W8, hW8⟩ : ∃ W8, W8 = w8.alloc (.cells #[.int .i64 ino] 3) := ⟨_, rfl⟩; have HW8 := Aside0.mk hW8; have HBW8 := Aside0.mk (show Below w8.heap.size w8 W8 by rw [hW8]; exact below_alloc (Below.refl _ _) _); have HBV8 := Aside0.mk (below_step HB8.out HBW8.out); have CI := Aside0.mk (show W8.cell? ⟨w8.heap.size, 0, none⟩ = some (.int .i64 ino) by rw [hW8]; exact cell_new1 _ _ _); have C78 := Aside0.mk (pw_cell_below HBW8.out (pw_cell_below hb C77.out)); have C108 := Aside0.mk (pw_cell_below HBW8.out (pw_cell_below hb C107.out)); have HS8 := Aside0.mk (Kd.C_below (Kd.C_below HS7.out hb) HBW8.out); have C58 := Aside0.mk (pw_cell_below HBW8.out (pw_cell_below hb C57.out)); have HOF := Aside0.mk (fun (W : World) (pb' mb' : Nat) (hB : Below W8.heap.size W8 W) (hM : Mdl W pb' mb' q T) (_ : W8.heap.size ≤ pb') (_ : W8.heap.size ≤ mb') => make_clo hM ⟨g5, 0, none⟩ ⟨w8.heap.size, 0, none⟩ ⟨w3.heap.size, 0, none⟩ ⟨w1.heap.size, 0, none⟩ (.iface t u) x ino at_ A c L d (pw_cell_below hB C58.out) (pw_cell_below hB CI.out) (pw_cell_below hB C108.out) (pw_cell_below hB C78.out) (HV.out.below (below_step HBV8.out hB)) HIK.out HO1.out HD1.out (Kd.C_below HS8.out hB) HC1.out HL0.out HL1.out (by rw [HNE.out]; exact HNM.out) (Utf8Tabs_below HT.out (below_step HBV8.out hB))); clear hb hW8))
              go_ret
              rw [← HR.out, ← HNE.out]
              refine ⟨rfl, mb', ?_, HM9.out, (Turn.of_below HBV8.out : Turn (fun k => k = pb) w W8).trans HT9.out (fun _ _ e => e)⟩
              rcases HMB.out with e | e
              · exact .inl e
              · exact .inr (Nat.le_trans HBV8.out.size e)
      · rw [if_pos h3] at hR
        have HR := Aside0.mk hR
        have e3 : (y2 == 0) = false := beq_eq_false_iff_ne.2 h3
        have e3' : (y2 != 0) = true := by simp [h3]
        clear hR h3 hup hL4
        go_enter Tryd.func30, Tryd.ntmps30
        go_wp2_with (first
          | (have hz := HBV.out; clear hz; go_at_call 40; rw [← HW1.out]; refine Calls.mono (up_any (HM.out.below HBV.out) HO.out A c L (Kd.C_below HS1.out HBW.out) HC1.out HNS.out HL1.out HL0.out) ?_; rw [HY2.out, HWY.out]; rintro e w2 ⟨A2, c2, rfl, hr2, hc2, hb⟩; have HB2 := Aside0.mk (below_step HBV.out hb); have c7 := pw_cell_below hb C7.out; have C72 := Aside0.mk c7; have C52 := Aside0.mk (pw_cell_below hb C51.out); have HR2 := Aside0.mk hr2; have HC2 := Aside0.mk hc2; have HS2 := Aside0.mk (Kd.C_below (Kd.C_below HS1.out HBW.out) hb); clear hb hr2 hc2)
          | (have hz := HB0.out; clear hz; go_at_call 23; refine Calls.mono (msplit_any (HM.out.below HB0.out) p (Utf8Tabs_below HT.out HB0.out)) ?_; rw [HY1.out, HL.out]; rintro e w1 ⟨A, c, rfl, hs, hc, hb⟩; have HB1 := Aside0.mk (below_step HB0.out hb); have HS1 := Aside0.mk hs; have HC1 := Aside0.mk hc; obtain ⟨W1, hW1⟩ : ∃ W1, W1 = w1.alloc (.cells #[.slice A L.length c] 50) := ⟨_, rfl⟩; have HW1 := Aside0.mk hW1; have HBW := Aside0.mk (show Below w1.heap.size w1 W1 by rw [hW1]; exact below_alloc (Below.refl _ _) _); have HBV := Aside0.mk (below_step HB1.out HBW.out); have C51 := Aside0.mk (pw_cell_below HBW.out (pw_cell_below hb C50.out)); have C7 := Aside0.mk (show W1.cell? ⟨w1.heap.size, 0, none⟩ = some (.slice A L.length c) by rw [hW1]; exact cell_new1 _ _ _); clear hb hs hc hW1)
          | ((with_reducible refine gate_dst (N := 5) rfl ?_); refine box_event ?hg (N := 5) ?hd (cs := #[.iface t u]) (t := 57) ?hr ?_; (case hd => rfl); (case hg => rfl); (case hr => first | (go_simp; done) | (go_simp; rfl) | kernel_rfl); intro g5 hg w0 hbox hb; have HB0 := Aside0.mk hb; have C50 := Aside0.mk (show w0.cell? ⟨g5, 0, none⟩ = some (.iface t u) by simp [World.cell?, hbox]); clear hb hbox hg))
        go_ret
        rw [← HR.out]
        exact ⟨rfl, mb, .inl rfl, HM.out.below HB2.out, Turn.of_below HB2.out⟩
  · rw [if_pos h1] at hR
    have HR := Aside0.mk hR
    have e1 : (y1 == 0) = false := beq_eq_false_iff_ne.2 h1
    have e1' : (y1 != 0) = true := by simp [h1]
    clear hR h1 hgood
    go_enter Tryd.func30, Tryd.ntmps30
    go_wp2_with (first
      | (have hz := HB0.out; clear hz; go_at_call 23; refine Calls.mono (msplit_any (HM.out.below HB0.out) p (Utf8Tabs_below HT.out HB0.out)) ?_; rw [HY1.out, HL.out]; rintro e w1 ⟨A, c, rfl, hs, hc, hb⟩; have HB1 := Aside0.mk (below_step HB0.out hb); have HS1 := Aside0.mk hs; have HC1 := Aside0.mk hc; obtain ⟨W1, hW1⟩ : ∃ W1, W1 = w1.alloc (.cells #[.slice A L.length c] 50) := ⟨_, rfl⟩; have HW1 := Aside0.mk hW1; have HBW := Aside0.mk (show Below w1.heap.size w1 W1 by rw [hW1]; exact below_alloc (Below.refl _ _) _); have HBV := Aside0.mk (below_step HB1.out HBW.out); have C51 := Aside0.mk (pw_cell_below HBW.out (pw_cell_below hb C50.out)); have C7 := Aside0.mk (show W1.cell? ⟨w1.heap.size, 0, none⟩ = some (.slice A L.length c) by rw [hW1]; exact cell_new1 _ _ _); clear hb hs hc hW1)
      | ((with_reducible refine gate_dst (N := 5) rfl ?_); refine box_event ?hg (N := 5) ?hd (cs := #[.iface t u]) (t := 57) ?hr ?_; (case hd => rfl); (case hg => rfl); (case hr => first | (go_simp; done) | (go_simp; rfl) | kernel_rfl); intro g5 hg w0 hbox hb; have HB0 := Aside0.mk hb; have C50 := Aside0.mk (show w0.cell? ⟨g5, 0, none⟩ = some (.iface t u) by simp [World.cell?, hbox]); clear hb hbox hg))
    go_ret
    rw [← HW1.out]
    rw [← HR.out]
    exact ⟨rfl, mb, .inl rfl, HM.out.below HBV.out, Turn.of_below HBV.out⟩
end Go.Proofs.YtcmcmkfoihlniaaDoor.MM
end

section
namespace Go.Proofs.YtcmcmkfoihlniaaDoor.MM
open Go Go.RowKit Go.Maps Go.Proofs.YtcmcmkfoihlniaaDoorX Go.Proofs.YtcmcmkfoihlniaaDoor.NM Go.Proofs.YtcmcmkfoihlniaaDoor.EN Go.Proofs.YtcmcmkfoihlniaaDoorW.PrintWords Go.Proofs.YtcmcmkfoihlniaaDoorW.PrintLast Go.Proofs.YtcmcmkfoihlniaaDoorW.PrintMore Go.Proofs.YtcmcmkfoihlniaaDoor.PModelUndoes
set_option linter.unusedVariables false
set_option linter.unusedSimpArgs false
set_option maxRecDepth 100000
set_option maxHeartbeats 1000000
def Out (w : World) (pb mb : Nat) (q : Int) (R : Tree × Int) (e : Ending) (w' : World) : Prop :=
  e = .returned (.int .i64 R.2) ∧ ∃ mb', (mb' = mb ∨ w.heap.size ≤ mb') ∧ Mdl w' pb mb' q R.1 ∧ Turn (fun k => k = pb ∨ k = mb) w w'
theorem Out.mk_ {w w' : World} {pb mb mb' : Nat} {q : Int} {R : Tree × Int} (h1 : mb' = mb ∨ w.heap.size ≤ mb') (h2 : Mdl w' pb mb' q R.1) (h3 : Turn (fun k => k = pb) w w') : Out w pb mb q R (.returned (.int .i64 R.2)) w' :=
  ⟨rfl, mb', h1, h2, h3.mono (fun k _ e => .inl e)⟩
theorem mayNil : mayE [] = true := by decide
theorem nil_dir (w : World) : Holds w (.iface 81 (.slice none 0 0)) (some (.dir [])) := ⟨none, 0, rfl, row_none _, Nat.le_refl _⟩
theorem nil_file (w : World) : Holds w (.iface 62 (.agg #[.slice none 0 0, .int .i64 1])) (some (.file [] 1)) := ⟨none, 0, rfl, ⟨rfl, by decide, fun h => absurd h (by decide)⟩, Nat.le_refl _⟩
theorem create_any {w : World} {pb mb : Nat} {q : Int} {T : Tree} (h : Mdl w pb mb q T) (hO : Ok T) (p : ByteArray) (hT : Lib.Utf8Tabs 2 3 w) : Calls Tryd.prog 12 #[mp pb, .string p] w (Out w pb mb q (makeR q T p (.file [] 1))) := by
  have HC := Aside0.mk (make_any h hO p 62 (.agg #[.slice none 0 0, .int .i64 1]) (.file [] 1) (nil_file w) (fun l e => nomatch e) (fun b n e => by obtain ⟨rfl, rfl⟩ := Nd.file.inj e; exact ⟨Nat.zero_le _, by decide, by decide⟩) hT)
  clear h hO hT
  go_enter Tryd.func12, Tryd.ntmps12
  go_wp2_with (go_at_call 30; refine Calls.mono HC.out ?_; rintro e w1 ⟨rfl, mb', h1, h2, h3⟩; have H := Aside0.mk (Out.mk_ h1 h2 h3); clear h1 h2 h3)
  go_ret
  exact H.out
theorem mkdir_any {w : World} {pb mb : Nat} {q : Int} {T : Tree} (h : Mdl w pb mb q T) (hO : Ok T) (p : ByteArray) (hT : Lib.Utf8Tabs 2 3 w) : Calls Tryd.prog 15 #[mp pb, .string p] w (Out w pb mb q (makeR q T p (.dir []))) := by
  have HC := Aside0.mk (make_any h hO p 81 (.slice none 0 0) (.dir []) (nil_dir w) (fun l e => by rw [← Nd.dir.inj e]; exact mayNil) (fun b n e => nomatch e) hT)
  obtain ⟨R, hR⟩ : ∃ R, makeR q T p (.dir []) = R := ⟨_, rfl⟩
  rw [hR] at HC ⊢
  clear hR
  clear h hO hT
  go_enter Tryd.func15, Tryd.ntmps15
  go_wp2_with (go_at_call 30; refine Calls.mono HC.out ?_; rintro e w1 ⟨rfl, mb', h1, h2, h3⟩; have H := Aside0.mk (Out.mk_ h1 h2 h3); clear h1 h2 h3)
  go_ret
  exact H.out
theorem put_any {w : World} {pb mb : Nat} {q : Int} {T : Tree} (h : Mdl w pb mb q T) (hO : Ok T) (ino : Int) (hino : 1 ≤ ino ∧ ino ≤ 64) (A : Option Addr) (la ca : Nat) (n : Int) (hn : 1 ≤ n ∧ n ≤ 64) (B : Option Addr) (cb : Nat) (b : List Int) (hb : b.length ≤ 3808) (hr : ReadsInt w .u8 B b.length b) (hc : b.length ≤ cb) :
    Calls Tryd.prog 27 #[mp pb, .int .i64 ino, .agg #[.slice A la ca, .int .i64 n], .slice B b.length cb] w (Out w pb mb q (tryR q T (upd T ino (some (.file b n))))) := by
  have HM := Aside0.mk h
  have HOF := Aside0.mk (show Ok (upd T ino (some (.file b n))) from hO.upd (fun l e => nomatch (Option.some.inj e)) (fun b' n' e => by obtain ⟨rfl, rfl⟩ := Nd.file.inj (Option.some.inj e); exact ⟨hb, hn⟩))
  have HR := Aside0.mk hr
  have HC := Aside0.mk hc
  have HI := Aside0.mk hino
  obtain ⟨R, hR⟩ : ∃ R, tryR q T (upd T ino (some (.file b n))) = R := ⟨_, rfl⟩
  rw [hR]
  have HRR := Aside0.mk hR
  clear h hO hr hc hR hb hn hino
  go_enter Tryd.func27, Tryd.ntmps27
  go_wp2_with (first
    | (have hz := HB3.out; clear hz; go_at_call 42; refine Calls.mono (try_put (F := upd T ino (some (.file b n))) (.pointer (some ⟨g7, 0, none⟩)) (.pointer (some ⟨g6, 0, none⟩)) (.pointer (some ⟨g5, 0, none⟩)) (HM.out.below HB3.out) HOF.out (fun W pb' mb' hB hM _ _ => put_clo hM ⟨g7, 0, none⟩ ⟨g5, 0, none⟩ g6 B cb b n ino (pw_cell_below hB C3.out) (pw_cell_below hB C2.out) (pw_cell_below hB C1.out) (HR.out.below (below_step HB3.out hB)) HC.out HI.out)) ?_; rw [HRR.out]; rintro e w4 ⟨mb', h1, rfl, h2, h3⟩; have H := Aside0.mk (show Out w pb mb q R (.returned (.int .i64 R.2)) w4 from Out.mk_ (h1.imp id (fun e => Nat.le_trans HB3.out.size e)) h2 ((Turn.of_below HB3.out : Turn (fun k => k = pb) w w3).trans h3 (fun _ _ e => e))); clear h1 h2 h3)
    | ((with_reducible refine gate_dst (N := 7) rfl ?_); refine box_event ?hg (N := 7) ?hd (cs := #[.slice B b.length cb]) (t := 23) ?hr ?_; (case hd => rfl); (case hg => rfl); (case hr => first | (go_simp; done) | (go_simp; rfl) | kernel_rfl); intro g7 hg w3 hbox hb; have HB3 := Aside0.mk (below_step HB2.out hb); have C3 := Aside0.mk (show w3.cell? ⟨g7, 0, none⟩ = some (.slice B b.length cb) by simp [World.cell?, hbox]); have C2 := Aside0.mk (pw_cell_below hb C21.out); have C1 := Aside0.mk (pw_cell_below hb C12.out); clear hb hbox hg)
    | ((with_reducible refine gate_dst (N := 6) rfl ?_); refine box_event ?hg (N := 6) ?hd (cs := #[.slice A la ca, .int .i64 n]) (t := 62) ?hr ?_; (case hd => rfl); (case hg => rfl); (case hr => first | (go_simp; done) | (go_simp; rfl) | kernel_rfl); intro g6 hg w2 hbox hb; have HB2 := Aside0.mk (below_step HB1.out hb); have C21 := Aside0.mk (show w2.cell? ⟨g6, 1, none⟩ = some (.int .i64 n) by simp [World.cell?, hbox]); have C12 := Aside0.mk (pw_cell_below hb C11.out); clear hb hbox hg)
    | ((with_reducible refine gate_dst (N := 5) rfl ?_); refine box_event ?hg (N := 5) ?hd (cs := #[.int .i64 ino]) (t := 3) ?hr ?_; (case hd => rfl); (case hg => rfl); (case hr => first | (go_simp; done) | (go_simp; rfl) | kernel_rfl); intro g5 hg w1 hbox hb; have HB1 := Aside0.mk (hb); have C11 := Aside0.mk (show w1.cell? ⟨g5, 0, none⟩ = some (.int .i64 ino) by simp [World.cell?, hbox]); clear hb hbox hg))
  go_ret
  exact H.out
end Go.Proofs.YtcmcmkfoihlniaaDoor.MM
end

section
namespace Go.Proofs.YtcmcmkfoihlniaaDoor.MM
open Go Go.RowKit Go.Maps Go.Proofs.YtcmcmkfoihlniaaDoorX Go.Proofs.YtcmcmkfoihlniaaDoor.NM Go.Proofs.YtcmcmkfoihlniaaDoor.EN Go.Proofs.YtcmcmkfoihlniaaDoorW.PrintWords Go.Proofs.YtcmcmkfoihlniaaDoorW.PrintLast Go.Proofs.YtcmcmkfoihlniaaDoorW.PrintMore Go.Proofs.YtcmcmkfoihlniaaDoor.PModelUndoes
set_option linter.unusedVariables false
set_option linter.unusedSimpArgs false
set_option maxRecDepth 100000
set_option maxHeartbeats 1000000
def openR (T : Tree) (p : ByteArray) : Int × List Int × Int × Int :=
  if (splitR p).2 ≠ 0 then (0, [], 0, (splitR p).2) else if (findR T (splitR p).1).2 ≠ 0 then (0, [], 0, (findR T (splitR p).1).2) else
  match T (findR T (splitR p).1).1 with | some (.file b n) => ((findR T (splitR p).1).1, b, n, 0) | _ => (0, [], 0, 35)
theorem size62 : (Tryd.prog.info? 62).map (·.size) = some 2 := by kernel_rfl
theorem all62 (A : Option Addr) (n c : Nat) (k : Int) : (#[.slice A n c, .int .i64 k] : Array Value).all (·.oneCell') = true := by simp [Value.oneCell']
section
variable {P : Program}
theorem results_tct {fn : Func} {p u v : Tmp} {ty : TypeId} (h : fn.results = #[.tmp u, .cell p ty, .tmp v]) (tmps : Array Value) (w : World) (g : Nat) (t : TypeId) (cs : Array Value) (fr : Nat × Nat) (d : TypeDesc)
    (hp : tmps.getD p undef = .pointer (some ⟨g, 0, none⟩)) (hg : w.heap[g]? = some (.cells cs t fr))
    (hu : P.underlying ty = some d) (hd : (match d with | .struct _ | .array _ _ => true | _ => false) = true) (hi : (P.info? ty).map (·.size) = some cs.size) :
    (results fn tmps).run P w = .ok (.tuple #[tmps.getD u undef, .agg cs, tmps.getD v undef]) w := by
  have hp' : tmps[p]?.getD undef = .pointer (some ⟨g, 0, none⟩) := by simpa using hp
  simp [results, h, hp', asAddr, run_loadVar_row w g t ty cs fr d hg hu hd hi]
end
theorem blk_keep {w w' : World} {g : Nat} {o : Obj} (h : w.heap[g]? = some o) (hb : Below w.heap.size w w') : w'.heap[g]? = some o := (hb.block g (Array.getElem?_eq_some_iff.1 h).1).trans h
theorem reads_turn2 {w w' : World} {g : Nat} {A : Option Addr} {n : Nat} {xs : List Int} (h : ReadsInt w .u8 A n xs) (ht : Turn (fun k => k = g) w w') (hg : w.heap[g]? = some (.cells #[.slice none 0 0, .int .i64 0] 62 (0, 0))) : ReadsInt w' .u8 A n xs := by
  refine ⟨h.1, h.2.1, fun hn => ?_⟩
  obtain ⟨ad, e, hc⟩ := h.2.2 hn
  refine ⟨ad, e, fun j hj => ht.cell (hc j hj) (fun s => ?_)⟩
  have hcj := hc j hj
  have s : (ad.add j).block = g := s
  rw [← s] at hg
  simp only [World.cell?, hg] at hcj
  split at hcj
  · cases hcj
  · match hz : (ad.add j).off, hcj with
    | 0, hcj => simp at hcj
    | 1, hcj => simp at hcj
    | n + 2, hcj => simp at hcj
theorem findR_in {T : Tree} (hO : Ok T) {l : List ByteArray} (h : (findR T l).2 = 0) : inR (findR T l).1 := by
  revert h
  unfold findR
  split
  · next h1 =>
    intro _
    exact wayR_in hO ⟨by decide, by decide⟩ _ (lastI_mem (List.length_pos_iff.1 (by rw [wayR_ne h1]; omega)))
  · intro h; contradiction
theorem open_any {w : World} {pb mb : Nat} {q : Int} {T : Tree} (h : Mdl w pb mb q T) (hO : Ok T) (p : ByteArray) (hT : Lib.Utf8Tabs 2 3 w) :
    Calls Tryd.prog 25 #[mp pb, .string p] w fun e w' => ∃ B cb, e = .returned (.tuple #[.int .i64 (openR T p).1, .agg #[.slice B (openR T p).2.1.length cb, .int .i64 (openR T p).2.2.1], .int .i64 (openR T p).2.2.2]) ∧ ReadsInt w' .u8 B (openR T p).2.1.length (openR T p).2.1 ∧ (openR T p).2.1.length ≤ cb ∧ Below w.heap.size w w' := by
  have hu62 := Aside0.mk Tryd.underlying62
  obtain ⟨W0, hW0⟩ : ∃ W0, W0 = w.alloc (.cells #[.slice none 0 0, .int .i64 0] 62) := ⟨_, rfl⟩
  have HW0 := Aside0.mk hW0
  have HBW := Aside0.mk (show Below w.heap.size w W0 by rw [hW0]; exact below_alloc (Below.refl _ _) _)
  have B50 := Aside0.mk (show W0.heap[w.heap.size]? = some (.cells #[.slice none 0 0, .int .i64 0] 62 (0, 0)) by rw [hW0]; exact heap_new _ _)
  have HM := Aside0.mk h
  have HO := Aside0.mk hO
  have HT := Aside0.mk hT
  have HSP := Aside0.mk (msplit_any (h.below HBW.out) p (Utf8Tabs_below hT HBW.out))
  obtain ⟨R, hR⟩ : ∃ R, openR T p = R := ⟨_, rfl⟩
  rw [hR]
  unfold openR at hR
  have hgood := @splitR_good p
  obtain ⟨y1, hy1⟩ : ∃ y, (splitR p).2 = y := ⟨_, rfl⟩
  obtain ⟨L, hL⟩ : ∃ y, (splitR p).1 = y := ⟨_, rfl⟩
  rw [hy1, hL] at hR hgood HSP
  clear h hO hT hy1 hL hW0
  by_cases h1 : y1 = 0
  · subst h1
    rw [if_neg (fun h => h rfl)] at hR
    obtain ⟨hL3, hval⟩ := hgood rfl
    have HNS := Aside0.mk (show ∀ n ∈ L, n.size ≤ 1048576 from fun n hn => by have := valid_size (hval n hn); omega)
    have HL1 := Aside0.mk (show L.length ≤ 1048576 by omega)
    have hfi := @findR_in T HO.out L
    obtain ⟨y2, hy2⟩ : ∃ y, (findR T L).2 = y := ⟨_, rfl⟩
    obtain ⟨ino, hi2⟩ : ∃ y, (findR T L).1 = y := ⟨_, rfl⟩
    rw [hy2, hi2] at hR hfi
    have HY2 := Aside0.mk hy2
    have HI2 := Aside0.mk hi2
    clear hgood hval hy2 hi2
    by_cases h3 : y2 = 0
    · subst h3
      rw [if_neg (fun h => h rfl)] at hR
      have HIN := Aside0.mk (hfi rfl)
      clear hfi
      have hnot : (∃ b n, T ino = some (.file b n)) ∨ (R = (0, [], 0, 35) ∧ ∀ w v, Holds w v (T ino) → (v = .nilIface ∨ ∃ u, v = .iface 81 u)) := by
        rcases hT : T ino with _ | (⟨b, n⟩ | l)
        · rw [hT] at hR; exact .inr ⟨hR.symm, fun w v hv => .inl hv⟩
        · exact .inl ⟨b, n, rfl⟩
        · rw [hT] at hR; exact .inr ⟨hR.symm, fun w v hv => by obtain ⟨A, c, e, _⟩ := hv; exact .inr ⟨_, e⟩⟩
      rcases hnot with ⟨b, n, hTi⟩ | ⟨hRR, hvv⟩
      · rw [hTi] at hR
        have HR := Aside0.mk hR.symm
        have HTI := Aside0.mk hTi
        clear hR hTi
        go_enter Tryd.func25, Tryd.ntmps25
        go_wp2_with (first
          | (have hz := HB1.out; clear hz; go_at_call 24; refine Calls.mono (find_in (HM.out.below HB1.out) HO.out A c L HS1.out HC1.out HNS.out HL1.out) ?_; rw [HY2.out, HI2.out]; rintro e w2 ⟨rfl, hb⟩; have HB2 := Aside0.mk (below_step HB1.out hb); have B52 := Aside0.mk (blk_keep B51.out hb); have hM2 := HM.out.below (below_step HB1.out hb); have p2 := hM2.at_; obtain ⟨v, hl, hv⟩ := hM2.2.look HIN.out; rw [HTI.out] at hv; obtain ⟨B, cb, rfl, hrb, hcb⟩ := hv; have HRB := Aside0.mk hrb; have HCB := Aside0.mk hcb; clear hb hM2 hrb hcb)
          | (go_at_call 23; rw [← HW0.out]; refine Calls.mono HSP.out ?_; rintro e w1 ⟨A, c, rfl, hs, hc, hb⟩; have HB1 := Aside0.mk (below_step HBW.out hb); have B51 := Aside0.mk (blk_keep B50.out hb); have HS1 := Aside0.mk hs; have HC1 := Aside0.mk hc; clear hb hs hc))
        obtain ⟨W3, hW3⟩ : ∃ W3, W3 = w2.alloc (.cells #[.slice B b.length cb, .int .i64 n] 62) := ⟨_, rfl⟩
        have HBW3 := Aside0.mk (show Below w2.heap.size w2 W3 by rw [hW3]; exact below_alloc (Below.refl _ _) _)
        have HG3 := Aside0.mk (show W3.heap[w2.heap.size]? = some (.cells #[.slice B b.length cb, .int .i64 n] 62 (0, 0)) by rw [hW3]; exact heap_new _ _)
        have C0 := Aside0.mk (show W3.cell? ⟨w2.heap.size, 0, none⟩ = some (.slice B b.length cb) by simp [World.cell?, HG3.out])
        have C1 := Aside0.mk (show W3.cell? ⟨w2.heap.size, 1, none⟩ = some (.int .i64 n) by simp [World.cell?, HG3.out])
        have NB := Aside0.mk (show ¬ (fun k => k = w.heap.size) w2.heap.size from fun e => by
          have h1 := blk_lt B52.out
          have e : w2.heap.size = w.heap.size := e
          omega)
        have B53 := Aside0.mk (blk_keep B52.out HBW3.out)
        have B5d := Aside0.mk (show W3.drew.heap[w.heap.size]? = some (.cells #[.slice none 0 0, .int .i64 0] 62 (0, 0)) from B53.out)
        rw [← hW3]
        have HX3 := Aside0.mk hW3
        clear hW3
        refine wp_region_held_drew (S := fun W => Turn (fun k => k = w.heap.size) W3 W) (by kernel_rfl) (Turn.of_below (below_drew (Below.refl _ _))) (fun hHeld => ?_)
        refine wpAnyH_take (i := 0) (oi := ⟨some 45, _, _, _, _, _⟩) (v := (.int .i64 ino)) rfl (by kernel_rfl) (by kernel_rfl) (by kernel_rfl) (fun _ _ _ h => h) (Or.inl ⟨by rfl, fun W hS => by go_simp⟩) hHeld ?_
        (try simp only [Act.put, List.setIfInBounds_toArray, List.set_cons_zero, List.set_cons_succ])
        refine wpAnyH_take (i := 1) (oi := ⟨some 46, _, _, _, _, _⟩) (v := (.agg #[.slice B b.length cb, .int .i64 n])) rfl (by kernel_rfl) (by kernel_rfl) (by kernel_rfl) (fun _ _ _ h => h) (Or.inl ⟨by rfl, fun W hS => by have cc := (show Turn (fun k => k = w.heap.size) W3 W from hS).cell C0.out NB.out; have cd := (show Turn (fun k => k = w.heap.size) W3 W from hS).cell C1.out NB.out; go_simp⟩) hHeld ?_
        (try simp only [Act.put, List.setIfInBounds_toArray, List.set_cons_zero, List.set_cons_succ])
        refine wpAnyH_take (i := 2) (oi := ⟨some 4, _, _, _, _, _⟩) (v := (.int .i64 ino)) rfl (by kernel_rfl) (by kernel_rfl) (by kernel_rfl) (fun _ _ _ h => h) (Or.inl ⟨by rfl, fun W hS => by go_simp⟩) hHeld ?_
        (try simp only [Act.put, List.setIfInBounds_toArray, List.set_cons_zero, List.set_cons_succ])
        refine wpAnyH_ready (rs := [3]) (by kernel_rfl) (by simp) ?_
        refine AllReadyH.cons rfl (fun K hK => ?_) AllReadyH.nil
        refine wp_store_row 62 _ _ rfl w.heap.size (#[.slice B b.length cb, .int .i64 n]) rfl rfl 62 _ B5d.out size62 rfl (all62 _ _ _ _) ?_
        obtain ⟨W4, hW4⟩ : ∃ W4, W4 = W3.drew.setRow w.heap.size (#[.slice B b.length cb, .int .i64 n]) := ⟨_, rfl⟩
        have HG4 := Aside0.mk (show W4.heap[w.heap.size]? = some (.cells (#[.slice B b.length cb, .int .i64 n]) 62 (0, 0)) by rw [hW4]; exact setRow_heap W3.drew w.heap.size _ (#[.slice B b.length cb, .int .i64 n]) 62 (0, 0) B5d.out)
        have HGR := Aside0.mk (show W3.drew.grownBy W4 (some w.heap.size) by rw [hW4]; exact grown_setRow _ _ _)
        rw [← hW4]
        refine hK.out _ _ ((Turn.of_below (below_drew (Below.refl W3.heap.size W3)) : Turn (fun k => k = w.heap.size) W3 W3.drew).trans (Turn.of_grown (S := fun k => k = w.heap.size) HGR.out (fun k e => (Option.some.inj e).symm)) (fun _ _ e => e)) (fun hH => ?_)
        clear hK K hHeld hW4
        have hHeld := hH
        clear hH
        (try simp only [Act.put, List.setIfInBounds_toArray, List.set_cons_zero, List.set_cons_succ])
        refine wpAnyH_take (i := 4) (oi := ⟨some 6, _, _, _, _, _⟩) (v := (.int .i64 0)) rfl (by kernel_rfl) (by kernel_rfl) (by kernel_rfl) (fun _ _ _ h => h) (Or.inl ⟨by rfl, fun W hS => by go_simp⟩) hHeld ?_
        (try simp only [Act.put, List.setIfInBounds_toArray, List.set_cons_zero, List.set_cons_succ])
        refine wpAnyH_done (by kernel_rfl) ?_ _
        have HB4 := Aside0.mk (show Below w.heap.size w W4 from (below_step HB2.out HBW3.out).trans (hHeld.below (below_step HB2.out HBW3.out).size (fun k e => by have e : k = w.heap.size := e; omega)))
        have HRW := Aside0.mk (reads_turn2 (HRB.out.below HBW3.out) hHeld B53.out)
        clear hHeld
        (try simp only [Exit.then])
        go_wp2
        (try simp only [Exit.inBlock, Exit.then])
        refine bodyPost_ret (results_tct rfl _ _ w.heap.size 62 (#[.slice B b.length cb, .int .i64 n]) (0, 0) _ rfl HG4.out hu62.out rfl size62) rfl ?_
        rw [HR.out]
        exact ⟨B, cb, rfl, HRW.out, HCB.out, HB4.out⟩
      · have HR := Aside0.mk hRR
        have HVV := Aside0.mk hvv
        clear hR hRR hvv
        have HLK := Aside0.mk (show ∀ W, Below w.heap.size w W → ∃ v, (Instr.lookup 58 (.map (some mb)) (.int .i64 ino) false).run Tryd.prog W = .ok v W ∧ (Instr.typeAssert v 57 62 true).run Tryd.prog W = .ok (.tuple #[.agg #[.slice none 0 0, .int .i64 0], .bool false]) W from fun W hW => by
          obtain ⟨v, hl, hv⟩ := (HM.out.below hW).2.look HIN.out
          refine ⟨v, hl, ?_⟩
          rcases HVV.out W v hv with rfl | ⟨u, rfl⟩
          · exact as62_nil W
          · exact as62_81 u W)
        clear HVV
        go_enter Tryd.func25, Tryd.ntmps25
        go_wp2_with (first
          | ((with_reducible refine gate_store (t := 62) (p := 5) (v := .tmp 44) rfl ?_); refine ev_store_row (by rfl) 62 (.tmp 5) (.tmp 44) (by rfl) w.heap.size (#[.slice none 0 0, .int .i64 0]) (by kernel_rfl) (by kernel_rfl) 62 _ B53.out size62 (by rfl) (all62 _ _ _ _) ?_; intro w4 hbox hg; have HB4 := Aside0.mk (pw_below_grown HB3.out _ HB3.out.size hg (fun q e => by cases e; exact Nat.le_refl _)); have B54 := Aside0.mk hbox; clear hbox hg)
          | (have hz := HB1.out; clear hz; go_at_call 24; refine Calls.mono (find_in (HM.out.below HB1.out) HO.out A c L HS1.out HC1.out HNS.out HL1.out) ?_; rw [HY2.out, HI2.out]; rintro e w2 ⟨rfl, hb⟩; have HB2 := Aside0.mk (below_step HB1.out hb); have B52 := Aside0.mk (blk_keep B51.out hb); have p2 := (HM.out.below (below_step HB1.out hb)).at_; obtain ⟨v, hl, hta⟩ := HLK.out w2 (below_step HB1.out hb); have hb3 := below_alloc (Below.refl w2.heap.size w2) (.cells #[.slice none 0 0, .int .i64 0] 62); have HB3 := Aside0.mk (below_step (below_step HB1.out hb) hb3); have B53 := Aside0.mk (blk_keep (blk_keep B51.out hb) hb3); clear hb hb3)
          | (go_at_call 23; rw [← HW0.out]; refine Calls.mono HSP.out ?_; rintro e w1 ⟨A, c, rfl, hs, hc, hb⟩; have HB1 := Aside0.mk (below_step HBW.out hb); have B51 := Aside0.mk (blk_keep B50.out hb); have HS1 := Aside0.mk hs; have HC1 := Aside0.mk hc; clear hb hs hc))
        (try simp only [Exit.inBlock, Exit.then])
        refine bodyPost_ret (results_tct rfl _ _ w.heap.size 62 (#[.slice none 0 0, .int .i64 0]) (0, 0) _ rfl B54.out hu62.out rfl size62) rfl ?_
        rw [HR.out]
        exact ⟨none, 0, rfl, ⟨rfl, by exact Nat.zero_le _, fun h => absurd h (Nat.lt_irrefl 0)⟩, Nat.le_refl _, HB4.out⟩
    · rw [if_pos h3] at hR
      have HR := Aside0.mk hR.symm
      have e3 : (y2 == 0) = false := beq_eq_false_iff_ne.2 h3
      have e3' : (y2 != 0) = true := by simp [h3]
      clear hR h3 hfi
      go_enter Tryd.func25, Tryd.ntmps25
      go_wp2_with (first
        | ((with_reducible refine gate_store (t := 62) (p := 5) (v := .tmp 30) rfl ?_); refine ev_store_row (by rfl) 62 (.tmp 5) (.tmp 30) (by rfl) w.heap.size (#[.slice none 0 0, .int .i64 0]) (by kernel_rfl) (by kernel_rfl) 62 _ B52.out size62 (by rfl) (all62 _ _ _ _) ?_; intro w3 hbox hg; have HB3 := Aside0.mk (pw_below_grown HB2.out _ HB2.out.size hg (fun q e => by cases e; exact Nat.le_refl _)); have B53 := Aside0.mk hbox; clear hbox hg)
        | (have hz := HB1.out; clear hz; go_at_call 24; refine Calls.mono (find_in (HM.out.below HB1.out) HO.out A c L HS1.out HC1.out HNS.out HL1.out) ?_; rw [HY2.out, HI2.out]; rintro e w2 ⟨rfl, hb⟩; have HB2 := Aside0.mk (below_step HB1.out hb); have B52 := Aside0.mk (blk_keep B51.out hb); clear hb)
        | (go_at_call 23; rw [← HW0.out]; refine Calls.mono HSP.out ?_; rintro e w1 ⟨A, c, rfl, hs, hc, hb⟩; have HB1 := Aside0.mk (below_step HBW.out hb); have B51 := Aside0.mk (blk_keep B50.out hb); have HS1 := Aside0.mk hs; have HC1 := Aside0.mk hc; clear hb hs hc))
      (try simp only [Exit.inBlock, Exit.then])
      refine bodyPost_ret (results_tct rfl _ _ w.heap.size 62 (#[.slice none 0 0, .int .i64 0]) (0, 0) _ rfl B53.out hu62.out rfl size62) rfl ?_
      rw [HR.out]
      exact ⟨none, 0, rfl, ⟨rfl, by exact Nat.zero_le _, fun h => absurd h (Nat.lt_irrefl 0)⟩, Nat.le_refl _, HB3.out⟩
  · rw [if_pos h1] at hR
    have HR := Aside0.mk hR.symm
    have e1 : (y1 == 0) = false := beq_eq_false_iff_ne.2 h1
    have e1' : (y1 != 0) = true := by simp [h1]
    clear hR h1 hgood
    go_enter Tryd.func25, Tryd.ntmps25
    go_wp2_with (first
      | ((with_reducible refine gate_store (t := 62) (p := 5) (v := .tmp 20) rfl ?_); refine ev_store_row (by rfl) 62 (.tmp 5) (.tmp 20) (by rfl) w.heap.size (#[.slice none 0 0, .int .i64 0]) (by kernel_rfl) (by kernel_rfl) 62 _ B51.out size62 (by rfl) (all62 _ _ _ _) ?_; intro w2 hbox hg; have HB2 := Aside0.mk (pw_below_grown HB1.out _ HB1.out.size hg (fun q e => by cases e; exact Nat.le_refl _)); have B52 := Aside0.mk hbox; clear hbox hg)
      | (go_at_call 23; rw [← HW0.out]; refine Calls.mono HSP.out ?_; rintro e w1 ⟨A, c, rfl, hs, hc, hb⟩; have HB1 := Aside0.mk (below_step HBW.out hb); have B51 := Aside0.mk (blk_keep B50.out hb); have HS1 := Aside0.mk hs; have HC1 := Aside0.mk hc; clear hb hs hc))
    (try simp only [Exit.inBlock, Exit.then])
    refine bodyPost_ret (results_tct rfl _ _ w.heap.size 62 (#[.slice none 0 0, .int .i64 0]) (0, 0) _ rfl B52.out hu62.out rfl size62) rfl ?_
    rw [HR.out]
    exact ⟨none, 0, rfl, ⟨rfl, by exact Nat.zero_le _, fun h => absurd h (Nat.lt_irrefl 0)⟩, Nat.le_refl _, HB2.out⟩
end Go.Proofs.YtcmcmkfoihlniaaDoor.MM
end

section
namespace Go.Proofs.YtcmcmkfoihlniaaDoor.MM
open Go Go.RowKit Go.Maps Go.Proofs.YtcmcmkfoihlniaaDoorX Go.Proofs.YtcmcmkfoihlniaaDoor.NM Go.Proofs.YtcmcmkfoihlniaaDoor.EN Go.Proofs.YtcmcmkfoihlniaaDoorW.PrintWords Go.Proofs.YtcmcmkfoihlniaaDoorW.PrintLast Go.Proofs.YtcmcmkfoihlniaaDoorW.PrintMore Go.Proofs.YtcmcmkfoihlniaaDoor.PModelUndoes
set_option linter.unusedVariables false
set_option linter.unusedSimpArgs false
set_option maxRecDepth 100000
set_option maxHeartbeats 1000000
attribute [local go_sem] max2_int min2_int max_two min_two
theorem cloneB_any (A : Option Addr) (n c : Nat) (xs : List Int) (w : World) (h : ReadsInt w .u8 A n xs) (hn : n ≤ 140737488355328) : Calls Tryd.prog 26 #[.slice A n c] w fun e w' => ∃ A' c', e = .returned (.slice A' n c') ∧ ReadsInt w' .u8 A' n xs ∧ n ≤ c' ∧ Below w.heap.size w w' := by
  cases A with
  | none =>
    have h0 : n = 0 := by
      rcases Nat.eq_zero_or_pos n with h0 | h0
      · exact h0
      · obtain ⟨ad, e, _⟩ := h.2.2 h0; cases e
    subst h0
    refine (Tryd.bytes_Clone_nil 0 c w).mono ?_
    rintro e w' ⟨rfl, rfl⟩
    exact ⟨none, 0, rfl, h, Nat.le_refl _, Below.refl _ _⟩
  | some a =>
    refine (Tryd.bytes_Clone_at a n c xs w h.1 hn (fun i hi => ?_)).mono ?_
    · obtain ⟨ad, e, hc⟩ := h.2.2 (by omega)
      cases e
      exact hc i hi
    · rintro e w' ⟨v, rfl, ho, _, hb⟩
      obtain ⟨A', c', rfl, hr⟩ := own_reads (k := .u8) (xs := xs) ho
      exact ⟨A', c', rfl, hr, own_le ho, hb⟩
theorem reads_cut {w : World} {B : Option Addr} {b : List Int} {K M : Nat} (h : ReadsInt w .u8 B b.length b) (hk : K + M ≤ b.length) : ReadsInt w .u8 (B.map (fun x => x.add K)) M ((b.drop K).take M) := by
  refine ⟨by rw [List.length_take, List.length_drop]; omega, Nat.le_trans (by omega) h.2.1, fun hm => ?_⟩
  obtain ⟨ad, rfl, hc⟩ := h.2.2 (by omega)
  refine ⟨ad.add K, rfl, fun j hj => ?_⟩
  have := hc (K + j) (by omega)
  rw [add_add, this]
  congr 2
  rw [List.getD_eq_getElem?_getD, List.getD_eq_getElem?_getD, List.getElem?_take, if_pos hj, List.getElem?_drop]
theorem reads_cut' {w : World} {B : Option Addr} {b : List Int} {K M cb : Nat} (h : ReadsInt w .u8 B b.length b) (hk : K + M ≤ b.length) (hc : b.length ≤ cb) : ReadsInt w .u8 (if cb = K then B else Option.map (fun x => x.add K) B) M ((b.drop K).take M) := by
  split
  · refine ⟨by rw [List.length_take, List.length_drop]; omega, Nat.le_trans (by omega) h.2.1, fun hm => absurd hm (by omega)⟩
  · exact reads_cut h hk
theorem cut_eq (b : List Int) (x y : Nat) : (b.drop x).take y = (b.drop (min x b.length)).take (min y (b.length - min x b.length)) := by
  by_cases h : x ≤ b.length
  · rw [Nat.min_eq_left h, ← List.take_take, List.take_of_length_le (i := b.length - x) (by rw [List.length_drop]; omega)]
  · rw [List.drop_eq_nil_of_le (by omega), List.drop_eq_nil_of_le (by omega)]; simp
def readR (T : Tree) (p : ByteArray) (off n : Int) : List Int × Int :=
  if (openR T p).2.2.2 ≠ 0 then ([], (openR T p).2.2.2) else if off < 0 then ([], 1) else if n < 0 then ([], 1) else (((openR T p).2.1.drop off.toNat).take n.toNat, 0)
theorem nilB (w : World) : ReadsInt w .u8 none ([] : List Int).length [] := ⟨rfl, by decide, fun h => absurd h (by decide)⟩
theorem read_any {w : World} {pb mb : Nat} {q : Int} {T : Tree} (h : Mdl w pb mb q T) (hO : Ok T) (p : ByteArray) (off n : Int) (hT : Lib.Utf8Tabs 2 3 w) (hl : (openR T p).2.1.length ≤ 3808) :
    Calls Tryd.prog 8 #[mp pb, .string p, .int .i64 off, .int .i64 n] w fun e w' => ∃ B cb, e = .returned (.tuple #[.slice B (readR T p off n).1.length cb, .int .i64 (readR T p off n).2]) ∧ ReadsInt w' .u8 B (readR T p off n).1.length (readR T p off n).1 ∧ (readR T p off n).1.length ≤ cb ∧ Below w.heap.size w w' := by
  have HOP := Aside0.mk (open_any h hO p hT)
  obtain ⟨R, hR⟩ : ∃ R, readR T p off n = R := ⟨_, rfl⟩
  rw [hR]
  unfold readR at hR
  obtain ⟨i, b, k, y, hop⟩ : ∃ i b k y, openR T p = (i, b, k, y) := ⟨_, _, _, _, rfl⟩
  rw [hop] at hR HOP hl
  simp only at hR HOP hl
  clear hop h hO hT
  by_cases h1 : y = 0
  · subst h1
    rw [if_neg (fun h => h rfl)] at hR
    by_cases h2 : off < 0
    · rw [if_pos h2] at hR
      have HR := Aside0.mk hR.symm
      clear hR
      go_enter Tryd.func8, Tryd.ntmps8
      go_wp2_with (go_at_call 25; refine Calls.mono HOP.out ?_; rintro e w1 ⟨B, cb, rfl, hrb, hcb, hb⟩; have HB1 := Aside0.mk hb; clear hb hrb hcb)
      go_ret2
      rw [HR.out]
      exact ⟨none, 0, rfl, nilB _, Nat.le_refl _, below_alloc HB1.out _⟩
    · rw [if_neg h2] at hR
      by_cases h3 : n < 0
      · rw [if_pos h3] at hR
        have HR := Aside0.mk hR.symm
        clear hR
        go_enter Tryd.func8, Tryd.ntmps8
        go_wp2_with (go_at_call 25; refine Calls.mono HOP.out ?_; rintro e w1 ⟨B, cb, rfl, hrb, hcb, hb⟩; have HB1 := Aside0.mk hb; clear hb hrb hcb)
        go_ret2
        rw [HR.out]
        exact ⟨none, 0, rfl, nilB _, Nat.le_refl _, below_alloc HB1.out _⟩
      · rw [if_neg h3] at hR
        have HR := Aside0.mk hR.symm
        obtain ⟨K, hK⟩ : ∃ K : Nat, K = min off.toNat b.length := ⟨_, rfl⟩
        obtain ⟨M, hM⟩ : ∃ M : Nat, M = min n.toNat (b.length - K) := ⟨_, rfl⟩
        have e1 : (if (b.length : Int) < off then (b.length : Int) else off) = (K : Int) := by split <;> omega
        have e2 : (if ((b.length - K : Nat) : Int) < n then ((b.length - K : Nat) : Int) else n) = (M : Int) := by split <;> omega
        have k0 : K ≤ b.length := by omega
        have m0 : M ≤ b.length - K := by omega
        obtain ⟨X, hX⟩ : ∃ X, (b.drop K).take M = X := ⟨_, rfl⟩
        have HF := Aside0.mk (show R = (X, 0) by rw [HR.out, cut_eq, ← hK, ← hM, hX])
        have HX := Aside0.mk hX
        have HKM := Aside0.mk (show K + M ≤ b.length by omega)
        have HBL := Aside0.mk (show M ≤ 140737488355328 by omega)
        have o1 : decide (off < 0) = false := decide_eq_false h2
        have o2 : decide (n < 0) = false := decide_eq_false h3
        clear hR hK hM hX
        go_enter Tryd.func8, Tryd.ntmps8
        clear h2 h3
        go_wp2_with (first
          | (have hz := HB1.out; clear hz; go_at_call 26; refine Calls.mono (cloneB_any A3 M (cb - K) X _ (HRX.out.below (below_alloc (Below.refl _ _) _)) HBL.out) ?_; rintro e w2 ⟨A2, c2, rfl, hr2, hc2, hb⟩; have HB2 := Aside0.mk (below_step (below_alloc HB1.out _) hb); have HR2 := Aside0.mk hr2; have HC2 := Aside0.mk hc2; clear hb hr2 hc2)
          | (go_at_call 25; refine Calls.mono HOP.out ?_; rintro e w1 ⟨B, cb, rfl, hrb, hcb, hb⟩; have HB1 := Aside0.mk hb; obtain ⟨A3, hA3⟩ : ∃ A3, (if cb = K then B else Option.map (fun x => x.add K) B) = A3 := ⟨_, rfl⟩; have HRX := Aside0.mk (show ReadsInt w1 .u8 A3 M X by rw [← HX.out, ← hA3]; exact reads_cut' hrb HKM.out hcb); clear hb hrb))
        go_ret2
        rw [HF.out]
        obtain rfl : M = X.length := HR2.out.1.symm
        exact ⟨A2, c2, rfl, HR2.out, HC2.out, HB2.out⟩
  · rw [if_pos h1] at hR
    have HR := Aside0.mk hR.symm
    have y1 : (y == 0) = false := beq_eq_false_iff_ne.2 h1
    have y2 : (y != 0) = true := by simp [h1]
    clear hR h1
    go_enter Tryd.func8, Tryd.ntmps8
    go_wp2_with (go_at_call 25; refine Calls.mono HOP.out ?_; rintro e w1 ⟨B, cb, rfl, hrb, hcb, hb⟩; have HB1 := Aside0.mk hb; clear hb hrb hcb)
    go_ret2
    rw [HR.out]
    exact ⟨none, 0, rfl, nilB _, Nat.le_refl _, below_alloc HB1.out _⟩
end Go.Proofs.YtcmcmkfoihlniaaDoor.MM
end

section
namespace Go.Proofs.YtcmcmkfoihlniaaDoor.MM
open Go Go.RowKit Go.Maps Go.Proofs.YtcmcmkfoihlniaaDoorX Go.Proofs.YtcmcmkfoihlniaaDoor.NM Go.Proofs.YtcmcmkfoihlniaaDoor.EN Go.Proofs.YtcmcmkfoihlniaaDoorW.PrintWords Go.Proofs.YtcmcmkfoihlniaaDoorW.PrintLast Go.Proofs.YtcmcmkfoihlniaaDoorW.PrintMore Go.Proofs.YtcmcmkfoihlniaaDoor.PModelUndoes
set_option linter.unusedVariables false
set_option linter.unusedSimpArgs false
set_option maxRecDepth 100000
set_option maxHeartbeats 1000000
attribute [local go_sem] max2_int min2_int max_two min_two
theorem Out.lift {w w1 w' : World} {pb mb : Nat} {q : Int} {R : Tree × Int} {e : Ending} (h : Out w1 pb mb q R e w') (hb : Below w.heap.size w w1) : Out w pb mb q R e w' := by
  obtain ⟨e, mb', h1, h2, h3⟩ := h
  exact ⟨e, mb', h1.imp id (Nat.le_trans hb.size), h2, (Turn.of_below hb : Turn (fun k => k = pb ∨ k = mb) w w1).trans h3 (fun _ _ e => e)⟩
theorem Out.same {w w' : World} {pb mb : Nat} {q : Int} {T : Tree} (h : Mdl w pb mb q T) (hb : Below w.heap.size w w') (y : Int) : Out w pb mb q (T, y) (.returned (.int .i64 y)) w' :=
  ⟨rfl, mb, .inl rfl, h.below hb, Turn.of_below hb⟩
def cutB (b : List Int) (n : Nat) : List Int := b.take n ++ List.replicate (n - b.length) 0
theorem cutB_length (b : List Int) (n : Nat) : (cutB b n).length = n := by unfold cutB; rw [List.length_append, List.length_take, List.length_replicate]; omega
abbrev nu (xs : List Int) : List Value := Go.Proofs.YtcmcmkfoihlniaaDoorW.PrintWords.nums .u8 xs
theorem nu_length (xs : List Int) : (nu xs).length = xs.length := by simp [Go.Proofs.YtcmcmkfoihlniaaDoorW.PrintWords.nums]
theorem nu_get {xs : List Int} {j : Nat} {v : Value} (h : (nu xs)[j]? = some v) : j < xs.length ∧ v = .int .u8 (xs.getD j 0) := by
  have hj : j < xs.length := by rw [← nu_length xs]; exact (List.getElem?_eq_some_iff.1 h).1
  refine ⟨hj, ?_⟩
  unfold nu Go.Proofs.YtcmcmkfoihlniaaDoorW.PrintWords.nums at h
  rw [List.getElem?_map, List.getElem?_eq_getElem hj] at h
  rw [List.getD_eq_getElem?_getD, List.getElem?_eq_getElem hj]
  exact (Option.some.inj h).symm
theorem reads_src {w : World} {B : Option Addr} {b : List Int} (h : ReadsInt w .u8 B b.length b) (n : Nat) (h0 : 0 < (nu (b.take n)).length) : ∃ ad, B = some ad ∧ ∀ j v, (nu (b.take n))[j]? = some v → w.cell? (ad.add j) = some v := by
  rw [nu_length, List.length_take] at h0
  obtain ⟨ad, e, hc⟩ := h.2.2 (by omega)
  refine ⟨ad, e, fun j v hj => ?_⟩
  obtain ⟨h1, rfl⟩ := nu_get hj
  rw [List.length_take] at h1
  rw [hc j (by omega), List.getD_eq_getElem?_getD, List.getD_eq_getElem?_getD, List.getElem?_take, if_pos (by omega)]
theorem sizeU8 : (Tryd.prog.info? 5).map (·.size) = some 1 := by kernel_rfl
theorem nums_splice (b : List Int) (n : Nat) : splice (nu (List.replicate n 0)) 0 (nu (b.take n)) = nu (cutB b n) := by
  unfold splice cutB nu Go.Proofs.YtcmcmkfoihlniaaDoorW.PrintWords.nums
  rw [List.take_zero, List.nil_append, Nat.zero_add, List.map_append, List.length_map, List.length_take, List.map_replicate, List.map_replicate, List.drop_replicate]
  congr 2
  omega
theorem reads_block {w : World} {g : Nat} {t : TypeId} {xs : List Int} (hg : w.heap[g]? = some (.cells (nu xs).toArray t (0, 0))) (hl : xs.length ≤ 9223372036854775807) : ReadsInt w .u8 (some ⟨g, 0, none⟩) xs.length xs := by
  refine ⟨rfl, hl, fun h0 => ⟨_, rfl, fun j hj => ?_⟩⟩
  have e : ((⟨g, 0, none⟩ : Addr).add j).block = g ∧ ((⟨g, 0, none⟩ : Addr).add j).off = j ∧ ((⟨g, 0, none⟩ : Addr).add j).spot = none := by
    unfold Addr.add
    split
    · next h => exact ⟨rfl, h.symm, rfl⟩
    · exact ⟨rfl, by simp, rfl⟩
  unfold World.cell?
  rw [e.1, hg, e.2.1, e.2.2]
  simp [nu, Go.Proofs.YtcmcmkfoihlniaaDoorW.PrintWords.nums, hj]
theorem openR_good {T : Tree} {p : ByteArray} (h : (openR T p).2.2.2 = 0) : T (openR T p).1 = some (.file (openR T p).2.1 (openR T p).2.2.1) := by
  revert h
  unfold openR
  split
  · next h1 => intro h; exact absurd h h1
  · split
    · next h1 => intro h; exact absurd h h1
    · split
      · next b n hT => intro _; exact hT
      · intro h; cases h
theorem cell_keep {w w' : World} {ad : Addr} {u : Value} {g : Nat} (h : w.cell? ad = some u) (hg : w.grownBy w' (some g)) (hn : ad.block ≠ g) : w'.cell? ad = some u := hg.cell h (fun e => hn (Option.some.inj e))
theorem put_any' {w : World} {pb mb : Nat} {q : Int} {T : Tree} (h : Mdl w pb mb q T) (hO : Ok T) (ino : Int) (hino : 1 ≤ ino ∧ ino ≤ 64) (A : Option Addr) (la ca : Nat) (n : Int) (hn : 1 ≤ n ∧ n ≤ 64) (B : Option Addr) (m cb : Nat) (b : List Int) (hm : b.length = m) (hb : m ≤ 3808) (hr : ReadsInt w .u8 B b.length b) (hc : m ≤ cb) :
    Calls Tryd.prog 27 #[mp pb, .int .i64 ino, .agg #[.slice A la ca, .int .i64 n], .slice B m cb] w (Out w pb mb q (tryR q T (upd T ino (some (.file b n))))) := by
  subst hm
  exact put_any h hO ino hino A la ca n hn B cb b hb hr hc
def truncR (q : Int) (T : Tree) (p : ByteArray) (size : Int) : Tree × Int :=
  if (openR T p).2.2.2 ≠ 0 then (T, (openR T p).2.2.2) else if size < 0 then (T, 1) else if 3808 < size then (T, 39) else if size = ((openR T p).2.1.length : Int) then (T, 0) else
  tryR q T (upd T (openR T p).1 (some (.file (cutB (openR T p).2.1 size.toNat) (openR T p).2.2.1)))
theorem trunc_any {w : World} {pb mb : Nat} {q : Int} {T : Tree} (h : Mdl w pb mb q T) (hO : Ok T) (p : ByteArray) (size : Int) (hT : Lib.Utf8Tabs 2 3 w) :
    Calls Tryd.prog 10 #[mp pb, .string p, .int .i64 size] w (Out w pb mb q (truncR q T p size)) := by
  have HOP := Aside0.mk (open_any h hO p hT)
  have hgood := @openR_good T p
  have HM := Aside0.mk h
  have HO := Aside0.mk hO
  obtain ⟨R, hR⟩ : ∃ R, truncR q T p size = R := ⟨_, rfl⟩
  rw [hR]
  unfold truncR at hR
  obtain ⟨ino, b, k, y, hop⟩ : ∃ i b k y, openR T p = (i, b, k, y) := ⟨_, _, _, _, rfl⟩
  rw [hop] at hR HOP hgood
  simp only at hR HOP hgood
  clear hop h hO hT
  by_cases h1 : y = 0
  · subst h1
    rw [if_neg (fun h => h rfl)] at hR
    have hTi := hgood rfl
    have hfb := HO.out.files ino b k hTi
    have HIN := Aside0.mk (HM.out.2.1 ino (by rw [hTi]; simp))
    have HFB := Aside0.mk hfb
    clear hgood hTi
    by_cases h2 : size < 0
    · rw [if_pos h2] at hR
      have HR := Aside0.mk hR
      have o1 : decide (size < 0) = true := decide_eq_true h2
      clear hR h2
      go_enter Tryd.func10, Tryd.ntmps10
      go_wp2_with (go_at_call 25; refine Calls.mono HOP.out ?_; rintro e w1 ⟨B, cb, rfl, hrb, hcb, hb⟩; have HB1 := Aside0.mk hb; clear hb hrb hcb)
      go_ret
      rw [← HR.out]
      exact Out.same HM.out (below_alloc HB1.out _) _
    · rw [if_neg h2] at hR
      have o1 : decide (size < 0) = false := decide_eq_false h2
      by_cases h3 : 3808 < size
      · rw [if_pos h3] at hR
        have HR := Aside0.mk hR
        have o2 : decide (3808 < size) = true := decide_eq_true h3
        clear hR h2 h3
        go_enter Tryd.func10, Tryd.ntmps10
        go_wp2_with (go_at_call 25; refine Calls.mono HOP.out ?_; rintro e w1 ⟨B, cb, rfl, hrb, hcb, hb⟩; have HB1 := Aside0.mk hb; clear hb hrb hcb)
        go_ret
        rw [← HR.out]
        exact Out.same HM.out (below_alloc HB1.out _) _
      · rw [if_neg h3] at hR
        have o2 : decide (3808 < size) = false := decide_eq_false h3
        by_cases h4 : size = (b.length : Int)
        · rw [if_pos h4] at hR
          have HR := Aside0.mk hR
          have o3 : (size == (b.length : Int)) = true := beq_iff_eq.2 h4
          clear hR h2 h3 h4
          go_enter Tryd.func10, Tryd.ntmps10
          go_wp2_with (go_at_call 25; refine Calls.mono HOP.out ?_; rintro e w1 ⟨B, cb, rfl, hrb, hcb, hb⟩; have HB1 := Aside0.mk hb; clear hb hrb hcb)
          go_ret
          rw [← HR.out]
          exact Out.same HM.out (below_alloc HB1.out _) _
        · rw [if_neg h4] at hR
          have HR := Aside0.mk hR
          have o3 : (size == (b.length : Int)) = false := beq_eq_false_iff_ne.2 h4
          obtain ⟨n, rfl⟩ : ∃ n : Nat, size = (n : Int) := ⟨size.toNat, by omega⟩
          have HN := Aside0.mk (show n ≤ 3808 by omega)
          clear hR h2 h3 h4 hfb
          go_enter Tryd.func10, Tryd.ntmps10
          go_wp2_with (first
            | (have hz := GB3.out; clear hz; go_at_call 27; refine Calls.mono (put_any' (HM.out.below HB3.out) HO.out ino HIN.out B b.length cb k HFB.out.2 (some ⟨g, 0, none⟩) n n (cutB b n) (cutB_length b n) HN.out HRC.out (Nat.le_refl n)) ?_; rw [show tryR q T (upd T ino (some (.file (cutB b n) k))) = R from HR.out]; rintro e w4 ho; have HFIN := Aside0.mk (ho.lift HB3.out); obtain ⟨rfl, _⟩ := ho)
            | (have hz := HGS.out; clear hz; (with_reducible refine gate_dst (N := 39) rfl ?_); refine ev_copy rfl (.tmp 36) (.tmp 38) 23 23 rfl 5 Tryd.underlying23 sizeU8 (some ⟨g, 0, none⟩) B n n b.length cb (by kernel_rfl) (by kernel_rfl) g 0 (nu (List.replicate n 0)) 5 GB.out (nu (b.take n)) (by rw [nu_length, List.length_take]; exact Nat.min_comm _ _) (fun h0 => ⟨rfl, reads_src HR2.out n h0⟩) (by rw [nu_length, nu_length, List.length_take, List.length_replicate]; omega) (one_nums _ _) ?_; intro w3 hbox hg; rw [nums_splice] at hbox; have GB3 := Aside0.mk hbox; have HB3 := Aside0.mk (HB2.out.grown hg HB2.out.size (fun q e => by cases e; rw [HGS.out]; exact HBV.out.size)); have hcn := cell_keep c02 hg (by rw [HGS.out]; exact Nat.ne_of_lt HLT.out); have hcn2 := cell_keep c12 hg (by rw [HGS.out]; exact Nat.ne_of_lt HLT.out); have HRC := Aside0.mk (show ReadsInt w3 .u8 (some ⟨g, 0, none⟩) (cutB b n).length (cutB b n) from reads_block hbox (by rw [cutB_length]; have := HN.out; omega)); clear hbox hg)
            | ((with_reducible refine gate_dst (N := 35) rfl ?_); rw [← HW1.out]; refine ev_make rfl (.tmp 34) (.tmp 34) 23 5 .u8 1 rfl Tryd.underlying23 info5 n n .i64 .i64 (n : Int) (n : Int) (by kernel_rfl) (by kernel_rfl) rfl rfl (Nat.le_refl _) (by have := HN.out; omega) (by have := HN.out; omega) ?_; intro g hg w2 hbox hb; have HB2 := Aside0.mk (below_step HBV.out hb); have GB := Aside0.mk hbox; have HGS := Aside0.mk hg; have c02 := pw_cell_below hb C0.out; have c12 := pw_cell_below hb C1.out; have HR2 := Aside0.mk (HRB.out.below hb); clear hb hbox hg)
            | (go_at_call 25; refine Calls.mono HOP.out ?_; rintro e w1 ⟨B, cb, rfl, hrb, hcb, hb⟩; have HB1 := Aside0.mk hb; have HCB := Aside0.mk hcb; obtain ⟨W1, hW1⟩ : ∃ W1, W1 = w1.alloc (.cells #[.slice B b.length cb, .int .i64 k] 62) := ⟨_, rfl⟩; have HW1 := Aside0.mk hW1; have hb1 := (show Below w1.heap.size w1 W1 by rw [hW1]; exact below_alloc (Below.refl _ _) _); have HBV := Aside0.mk (below_step HB1.out hb1); have HRB := Aside0.mk (hrb.below hb1); have hg3 := (show W1.heap[w1.heap.size]? = some (.cells #[.slice B b.length cb, .int .i64 k] 62 (0, 0)) by rw [hW1]; exact heap_new _ _); have C0 := Aside0.mk (show W1.cell? ⟨w1.heap.size, 0, none⟩ = some (.slice B b.length cb) by simp [World.cell?, hg3]); have C1 := Aside0.mk (show W1.cell? ⟨w1.heap.size, 1, none⟩ = some (.int .i64 k) by simp [World.cell?, hg3]); have HLT := Aside0.mk (blk_lt hg3); clear hb hrb hcb hb1 hW1 hg3))
          go_ret
          exact HFIN.out
  · rw [if_pos h1] at hR
    have HR := Aside0.mk hR
    have y1 : (y == 0) = false := beq_eq_false_iff_ne.2 h1
    have y2 : (y != 0) = true := by simp [h1]
    clear hR h1 hgood
    go_enter Tryd.func10, Tryd.ntmps10
    go_wp2_with (go_at_call 25; refine Calls.mono HOP.out ?_; rintro e w1 ⟨B, cb, rfl, hrb, hcb, hb⟩; have HB1 := Aside0.mk hb; clear hb hrb hcb)
    go_ret
    rw [← HR.out]
    exact Out.same HM.out (below_alloc HB1.out _) _
end Go.Proofs.YtcmcmkfoihlniaaDoor.MM
end

section
namespace Go.Proofs.YtcmcmkfoihlniaaDoor.MM
open Go Go.RowKit Go.Maps Go.Proofs.YtcmcmkfoihlniaaDoorX Go.Proofs.YtcmcmkfoihlniaaDoor.NM Go.Proofs.YtcmcmkfoihlniaaDoor.EN Go.Proofs.YtcmcmkfoihlniaaDoorW.PrintWords Go.Proofs.YtcmcmkfoihlniaaDoorW.PrintLast Go.Proofs.YtcmcmkfoihlniaaDoorW.PrintMore Go.Proofs.YtcmcmkfoihlniaaDoor.PModelUndoes
set_option linter.unusedVariables false
set_option linter.unusedSimpArgs false
theorem lastI_snoc (l : List Int) (a : Int) : lastI (l ++ [a]) = a := by
  rw [lastI_get (J := l.length) (by simp)]
  unfold rd
  rw [Int.toNat_natCast, List.getD_eq_getElem?_getD, List.getElem?_concat_length]; rfl
theorem lastI_cons (a : Int) {l : List Int} (h : 0 < l.length) : lastI (a :: l) = lastI l := by
  have : l ≠ [] := List.length_pos_iff.1 h
  rw [← List.dropLast_concat_getLast this, ← List.cons_append, lastI_snoc, lastI_snoc]
theorem way_ok {T : Tree} {a : Int} {n : ByteArray} {l : List ByteArray} (h1 : (stepR (T a) n).2 = 0) (h2 : (wayR T (stepR (T a) n).1 l).2 = 0) : wayR T a (n :: l) = (a :: (wayR T (stepR (T a) n).1 l).1, 0) := by rw [wayR, if_pos h1, if_pos h2]
theorem way_bad1 {T : Tree} {a : Int} {n : ByteArray} {l : List ByteArray} (h1 : (stepR (T a) n).2 ≠ 0) : wayR T a (n :: l) = ([], (stepR (T a) n).2) := by rw [wayR, if_neg h1]
theorem way_bad2 {T : Tree} {a : Int} {n : ByteArray} {l : List ByteArray} (h1 : (stepR (T a) n).2 = 0) (h2 : (wayR T (stepR (T a) n).1 l).2 ≠ 0) : wayR T a (n :: l) = ([], (wayR T (stepR (T a) n).1 l).2) := by rw [wayR, if_pos h1, if_neg h2]
theorem way_inv {T : Tree} {a : Int} {n : ByteArray} {l : List ByteArray} (h : (wayR T a (n :: l)).2 = 0) : (stepR (T a) n).2 = 0 ∧ (wayR T (stepR (T a) n).1 l).2 = 0 := by
  by_cases h1 : (stepR (T a) n).2 = 0
  · refine ⟨h1, ?_⟩
    by_cases h2 : (wayR T (stepR (T a) n).1 l).2 = 0
    · exact h2
    · rw [way_bad2 h1 h2] at h; exact h
  · rw [way_bad1 h1] at h; exact absurd h h1
theorem wayR_snoc {T : Tree} (n : ByteArray) : ∀ {l : List ByteArray} {a : Int}, (wayR T a l).2 = 0 →
    wayR T a (l ++ [n]) = if (stepR (T (lastI (wayR T a l).1)) n).2 = 0 then ((wayR T a l).1 ++ [(stepR (T (lastI (wayR T a l).1)) n).1], 0) else ([], (stepR (T (lastI (wayR T a l).1)) n).2)
  | [], a, h => by
    have e : lastI (wayR T a []).1 = a := lastI_snoc [] a
    rw [e]
    by_cases h1 : (stepR (T a) n).2 = 0
    · rw [if_pos h1]; exact way_ok h1 rfl
    · rw [if_neg h1]; exact way_bad1 h1
  | m :: l, a, h => by
    obtain ⟨h1, h2⟩ := way_inv h
    have ih := wayR_snoc n h2
    have hp : 0 < (wayR T (stepR (T a) m).1 l).1.length := by rw [wayR_ne h2]; omega
    have e := way_ok h1 h2
    rw [e]
    show wayR T a (m :: (l ++ [n])) = _
    simp only
    rw [lastI_cons a hp]
    by_cases h3 : (stepR (T (lastI (wayR T (stepR (T a) m).1 l).1)) n).2 = 0
    · rw [if_pos h3] at ih ⊢
      rw [way_ok h1 (by rw [ih]), ih]; rfl
    · rw [if_neg h3] at ih ⊢
      rw [way_bad2 h1 (by rw [ih]; exact h3), ih]
theorem wayR_pre {T : Tree} (n : ByteArray) : ∀ {l : List ByteArray} {a : Int}, (wayR T a (l ++ [n])).2 = 0 → (wayR T a l).2 = 0
  | [], a, h => rfl
  | m :: l, a, h => by
    have h : (wayR T a (m :: (l ++ [n]))).2 = 0 := h
    obtain ⟨h1, h2⟩ := way_inv h
    rw [way_ok h1 (wayR_pre n h2)]
theorem lastS_snoc (l : List ByteArray) (n : ByteArray) : lastS (l ++ [n]) = n := by
  unfold lastS rdOf
  rw [show (((l ++ [n]).length : Int) - 1).toNat = l.length by simp, List.getD_eq_getElem?_getD, List.getElem?_concat_length]; rfl
theorem split_last {l : List ByteArray} (h : 0 < l.length) : l = l.dropLast ++ [lastS l] := by
  have hne : l ≠ [] := List.length_pos_iff.1 h
  have e := List.dropLast_concat_getLast hne
  have : lastS l = l.getLast hne := by
    have := lastS_snoc l.dropLast (l.getLast hne)
    rw [e] at this; exact this
  rw [this, e]
theorem step_dir {T : Tree} {a : Int} {n : ByteArray} (h : (stepR (T a) n).2 = 0) : ∃ d, T a = some (.dir d) ∧ isE d n = true ∧ (stepR (T a) n).1 = inoAt d (atE d n) := by
  revert h
  rcases hT : T a with _ | (⟨b, k⟩ | l)
  · intro h; cases h
  · intro h; cases h
  · intro h
    refine ⟨l, rfl, ?_⟩
    unfold stepR at h ⊢
    simp only at h ⊢
    split at h
    · next hi => rw [if_pos hi]; exact ⟨hi, rfl⟩
    · cases h
def parR (T : Tree) (l : List ByteArray) : Int := lastI (wayR T 1 l.dropLast).1
theorem way_last {T : Tree} {l : List ByteArray} (h0 : 0 < l.length) (h : (wayR T 1 l).2 = 0) :
    (wayR T 1 l.dropLast).2 = 0 ∧ (wayR T 1 l).1 = (wayR T 1 l.dropLast).1 ++ [lastI (wayR T 1 l).1] ∧ (stepR (T (parR T l)) (lastS l)).2 = 0 ∧ (stepR (T (parR T l)) (lastS l)).1 = lastI (wayR T 1 l).1 := by
  have e := split_last h0
  have h2 : (wayR T 1 (l.dropLast ++ [lastS l])).2 = 0 := by rw [← e]; exact h
  have hp := wayR_pre _ h2
  have hs := wayR_snoc (T := T) (lastS l) hp
  rw [← e] at hs
  unfold parR
  split at hs
  · next h3 =>
    have e2 : lastI (wayR T 1 l).1 = (stepR (T (lastI (wayR T 1 l.dropLast).1)) (lastS l)).1 := by rw [hs]; exact lastI_snoc _ _
    refine ⟨hp, ?_, h3, e2.symm⟩
    rw [e2, hs]
  · next h3 => rw [hs] at h; exact absurd h h3
theorem way_second {T : Tree} {l : List ByteArray} (h0 : 0 < l.length) (h : (wayR T 1 l).2 = 0) : (wayR T 1 l).1.length = l.length + 1 ∧ rd (wayR T 1 l).1 ((l.length - 1 : Nat) : Int) = parR T l := by
  obtain ⟨hp, e, _, _⟩ := way_last h0 h
  refine ⟨wayR_ne h, ?_⟩
  have hl := wayR_ne hp
  rw [List.length_dropLast] at hl
  rw [e]
  unfold parR
  rw [lastI_get (G := (wayR T 1 l.dropLast).1) (J := l.length - 1) (by omega)]
  unfold rd
  rw [Int.toNat_natCast, List.getD_eq_getElem?_getD, List.getD_eq_getElem?_getD, List.getElem?_append_left (by omega)]
end Go.Proofs.YtcmcmkfoihlniaaDoor.MM
end

section
namespace Go.Proofs.YtcmcmkfoihlniaaDoor.MM
open Go Go.RowKit Go.Maps Go.Proofs.YtcmcmkfoihlniaaDoorX Go.Proofs.YtcmcmkfoihlniaaDoor.NM Go.Proofs.YtcmcmkfoihlniaaDoor.EN Go.Proofs.YtcmcmkfoihlniaaDoorW.PrintWords Go.Proofs.YtcmcmkfoihlniaaDoorW.PrintLast Go.Proofs.YtcmcmkfoihlniaaDoorW.PrintMore Go.Proofs.YtcmcmkfoihlniaaDoor.PModelUndoes
set_option linter.unusedVariables false
set_option linter.unusedSimpArgs false
set_option maxRecDepth 100000
set_option maxHeartbeats 4000000
attribute [local go_sem] max2_int min2_int max_two min_two
def goneR (T : Tree) (l : List ByteArray) : Tree := lessR (upd T (parR T l) (some (.dir (remR (dirL (T (parR T l))) (lastS l)).1))) (lastI (wayR T 1 l).1)
def unlinkR (T : Tree) (p : ByteArray) : Tree × Int :=
  if (splitR p).2 ≠ 0 then (T, (splitR p).2) else if (wayR T 1 (splitR p).1).2 ≠ 0 then (T, (wayR T 1 (splitR p).1).2) else
  match T (lastI (wayR T 1 (splitR p).1).1) with | some (.file _ _) => (goneR T (splitR p).1, 0) | _ => (T, 35)
def rmdirR (T : Tree) (p : ByteArray) : Tree × Int :=
  if (splitR p).2 ≠ 0 then (T, (splitR p).2) else if (splitR p).1.length = 0 then (T, 38) else if (wayR T 1 (splitR p).1).2 ≠ 0 then (T, (wayR T 1 (splitR p).1).2) else
  if (dirR (T (lastI (wayR T 1 (splitR p).1).1))).2 ≠ 0 then (T, (dirR (T (lastI (wayR T 1 (splitR p).1).1))).2) else
  if 0 < (dirR (T (lastI (wayR T 1 (splitR p).1).1))).1.length then (T, 36) else (goneR T (splitR p).1, 0)
theorem Turn1.turn {pb mb : Nat} {w w' : World} (h : Turn1 mb w w') : Turn (fun k => k = pb ∨ k = mb) w w' := h.mono (fun k _ e => .inr e)
theorem isGone {T : Tree} {l : List ByteArray} {d : List S90} (h : T (parR T l) = some (.dir d)) : goneR T l = lessR (upd T (parR T l) (some (.dir (remR d (lastS l)).1))) (lastI (wayR T 1 l).1) := by unfold goneR; rw [h]; rfl
theorem unlink_any {w : World} {pb mb : Nat} {q : Int} {T : Tree} (h : Mdl w pb mb q T) (hO : Ok T) (hroot : ∃ d, T 1 = some (.dir d)) (p : ByteArray) (hT : Lib.Utf8Tabs 2 3 w) :
    Calls Tryd.prog 13 #[mp pb, .string p] w (Out w pb mb q (unlinkR T p)) := by
  have HM := Aside0.mk h
  have HO := Aside0.mk hO
  have HT := Aside0.mk hT
  have HSP := Aside0.mk (msplit_any h p hT)
  obtain ⟨R, hR⟩ : ∃ R, unlinkR T p = R := ⟨_, rfl⟩
  rw [hR]
  unfold unlinkR at hR
  have hgood := @splitR_good p
  obtain ⟨y1, hy1⟩ : ∃ y, (splitR p).2 = y := ⟨_, rfl⟩
  obtain ⟨L, hL⟩ : ∃ y, (splitR p).1 = y := ⟨_, rfl⟩
  rw [hy1, hL] at hR hgood HSP
  clear h hO hT hy1 hL
  by_cases h1 : y1 = 0
  · subst h1
    rw [if_neg (fun h => h rfl)] at hR
    obtain ⟨hL3, hval⟩ := hgood rfl
    have HNS := Aside0.mk (show ∀ n ∈ L, n.size ≤ 1048576 from fun n hn => by have := valid_size (hval n hn); omega)
    have HL1 := Aside0.mk (show L.length ≤ 1048576 by omega)
    have hwl3 : L.length ≤ 300 := hL3
    obtain ⟨y2, hy2⟩ : ∃ y, (wayR T 1 L).2 = y := ⟨_, rfl⟩
    obtain ⟨way, hway⟩ : ∃ y, (wayR T 1 L).1 = y := ⟨_, rfl⟩
    have hne := @wayR_ne T L 1
    have hin := @wayR_in T HO.out L 1 ⟨by decide, by decide⟩
    have hwl := @way_last T L
    have hws := @way_second T L
    have herr := @wayR_err T L 1
    rw [hy2, hway] at hR hne hwl hws herr
    rw [hway] at hin
    have HY2 := Aside0.mk hy2
    have HWY := Aside0.mk hway
    clear hgood hy2 hway
    by_cases h3 : y2 = 0
    · subst h3
      rw [if_neg (fun h => h rfl)] at hR
      have hl := hne rfl
      have HWP := Aside0.mk (show 0 < way.length by omega)
      have HWL := Aside0.mk (show way.length ≤ 1048577 by omega)
      have hii : inR (lastI way) := hin _ (lastI_mem (List.length_pos_iff.1 HWP.out))
      obtain ⟨ino, hino⟩ : ∃ a, lastI way = a := ⟨_, rfl⟩
      rw [hino] at hR hii
      have HINO := Aside0.mk hino
      have HII := Aside0.mk hii
      have hnot : (∃ b n, T ino = some (.file b n)) ∨ ((T, 35) = R ∧ ∀ w v, Holds w v (T ino) → (v = .nilIface ∨ ∃ u, v = .iface 81 u)) := by
        rcases hTi : T ino with _ | (⟨b, n⟩ | l)
        · rw [hTi] at hR; exact .inr ⟨hR, fun w v hv => .inl hv⟩
        · exact .inl ⟨b, n, rfl⟩
        · rw [hTi] at hR; exact .inr ⟨hR, fun w v hv => by obtain ⟨A, c, e, _⟩ := hv; exact .inr ⟨_, e⟩⟩
      rcases hnot with ⟨b, n, hTi⟩ | ⟨hRR, hvv⟩
      · rw [hTi] at hR
        have h0 : 0 < L.length := by
          rcases Nat.eq_zero_or_pos L.length with h0 | h0
          · obtain rfl := List.eq_nil_of_length_eq_zero h0
            obtain ⟨d, hd⟩ := hroot
            have e1 : way = [1] := HWY.out.symm
            have e2 : ino = 1 := by rw [← hino, e1]; exact lastI_snoc [] 1
            rw [e2, hd] at hTi; cases hTi
          · exact h0
        have hst := (hwl h0 rfl).2.2.1
        have hse2 := (hws h0 rfl).2
        obtain ⟨a, ha⟩ : ∃ a, parR T L = a := ⟨_, rfl⟩
        obtain ⟨d, hdd⟩ := step_dir hst
        have hda := hdd.1
        clear hdd
        have hgone := isGone hda
        rw [HWY.out, hino, ha] at hgone
        rw [ha] at hda hse2
        have HDA := Aside0.mk hda
        have HTI := Aside0.mk hTi
        have hane : ino ≠ a := fun e => by rw [e, hda] at hTi; cases hTi
        have HT1 := Aside0.mk (show upd T a (some (.dir (remR d (lastS L)).1)) ino = some (.file b n) by rw [upd_other _ _ hane]; exact hTi)
        have HFB := Aside0.mk (HO.out.files ino b n hTi)
        have HRR := Aside0.mk (show R = ((if n = 1 then upd (upd T a (some (.dir (remR d (lastS L)).1))) ino none else upd (upd T a (some (.dir (remR d (lastS L)).1))) ino (some (.file b (n - 1)))), 0) by
          rw [← hR]
          show (goneR T L, (0 : Int)) = _
          rw [hgone]
          unfold lessR
          rw [HT1.out])
        have HL0 := Aside0.mk h0
        have HVL := Aside0.mk (hval _ (lastS_mem h0))
        have HNM := Aside0.mk (HNS.out _ (lastS_mem h0))
        obtain ⟨J, hJ⟩ : ∃ J, J = L.length - 1 := ⟨_, rfl⟩
        rw [← hJ] at hse2
        have HWJ := Aside0.mk (show (way.length : Int) - 2 = (J : Int) by omega)
        have hwj := HWJ.out
        have j0 : (0 : Int) ≤ (J : Int) := Int.natCast_nonneg _
        have j1 : (J : Int) < (way.length : Int) := by omega
        have hwlb : way.length ≤ 1048577 := HWL.out
        have HSE := Aside0.mk hse2
        clear hR hin hwl hws hne hl hino hii hst ha hgone hda hTi hane hJ hse2 hroot hval herr hL3 h0
        go_enter Tryd.func13, Tryd.ntmps13
        go_wp2_with (first
          | (have hz := HB2.out; clear hz; go_at_call 32; refine Calls.mono (lastI_any A2 c2 way w2 HR2.out HC2.out HWP.out HWL.out) ?_; rw [HINO.out]; rintro e w3 ⟨rfl, hb⟩; have HB3 := Aside0.mk (below_step HB2.out hb); have HR3 := Aside0.mk (Kd.C_below HR2.out hb); have HS3 := Aside0.mk (Kd.C_below HS2.out hb); have hM3 := HM.out.below (below_step HB2.out hb); have p3 := hM3.at_; obtain ⟨v, hl, hv⟩ := hM3.2.look HII.out; rw [HTI.out] at hv; obtain ⟨B, cb, rfl, hrb, hcb⟩ := hv; obtain ⟨ad2, rfl, hx⟩ := Kd.at_int HR3.out (J : Int) j0 j1; rw [HSE.out, Int.toNat_natCast] at hx; have HX := Aside0.mk hx; clear hM3 hrb hcb hx; clear hb)
          | (have hz := HB1.out; clear hz; go_at_call 31; refine Calls.mono (way_any (HM.out.below HB1.out) HO.out A c L HS1.out HC1.out HNS.out HL1.out) ?_; rw [HY2.out, HWY.out]; rintro e w2 ⟨A2, c2, rfl, hr2, hc2, hb⟩; have HB2 := Aside0.mk (below_step HB1.out hb); have HR2 := Aside0.mk hr2; have HC2 := Aside0.mk hc2; have HS2 := Aside0.mk (Kd.C_below HS1.out hb); clear hb hr2 hc2)
          | (go_at_call 23; refine Calls.mono HSP.out ?_; rintro e w1 ⟨A, c, rfl, hs, hc, hb⟩; have HB1 := Aside0.mk hb; have HS1 := Aside0.mk hs; have HC1 := Aside0.mk hc; clear hb hs hc))
        obtain ⟨W3, hW3⟩ : ∃ W3, W3 = w3.alloc (.cells #[.slice B b.length cb, .int .i64 n] 62) := ⟨_, rfl⟩
        have hbw := (show Below w3.heap.size w3 W3 by rw [hW3]; exact below_alloc (Below.refl _ _) _)
        have HBV3 := Aside0.mk (below_step HB3.out hbw)
        have HS4 := Aside0.mk (Kd.C_below HS3.out hbw)
        have HM3 := Aside0.mk (HM.out.below HBV3.out)
        have CA := Aside0.mk (pw_cell_below hbw HX.out)
        have NA := Aside0.mk (cell_ne CA.out HM3.out.2)
        rw [← hW3]
        have HX3 := Aside0.mk hW3
        have HMd := Aside0.mk ((HM.out.below HBV3.out).below (below_drew (Below.refl W3.heap.size W3)))
        have HUd := Aside0.mk (Utf8Tabs_below (Utf8Tabs_below HT.out HBV3.out) (below_drew (Below.refl W3.heap.size W3)))
        have HLS := Aside0.mk (lastS_any A c L W3.drew (Kd.C_below HS4.out (below_drew (Below.refl W3.heap.size W3))) HC1.out HL0.out HL1.out)
        clear hW3 hbw
        refine wp_region_held_drew (S := fun W => Turn1 mb W3 W) (by kernel_rfl) (below_turn1 (below_drew (Below.refl _ _))) (fun hHeld => ?_)
        refine wpAnyH_take (i := 0) (oi := ⟨some 43, _, _, _, _, _⟩) (v := (mp pb)) rfl (by kernel_rfl) (by kernel_rfl) (by kernel_rfl) (fun _ _ _ h => h) (Or.inl ⟨by rfl, fun W hS => by go_simp⟩) hHeld ?_
        (try simp only [Act.put, List.setIfInBounds_toArray, List.set_cons_zero, List.set_cons_succ])
        refine wpAnyH_take (i := 1) (oi := ⟨some 44, _, _, _, _, _⟩) (v := (.slice (some ad2) way.length c2)) rfl (by kernel_rfl) (by kernel_rfl) (by kernel_rfl) (fun _ _ _ h => h) (Or.inl ⟨by rfl, fun W hS => by go_simp⟩) hHeld ?_
        (try simp only [Act.put, List.setIfInBounds_toArray, List.set_cons_zero, List.set_cons_succ])
        refine wpAnyH_take (i := 2) (oi := ⟨some 45, _, _, _, _, _⟩) (v := (.slice (some ad2) way.length c2)) rfl (by kernel_rfl) (by kernel_rfl) (by kernel_rfl) (fun _ _ _ h => h) (Or.inl ⟨by rfl, fun W hS => by go_simp⟩) hHeld ?_
        (try simp only [Act.put, List.setIfInBounds_toArray, List.set_cons_zero, List.set_cons_succ])
        refine wpAnyH_take (i := 3) (oi := ⟨some 46, _, _, _, _, _⟩) (v := (.int .i64 way.length)) rfl (by kernel_rfl) (by kernel_rfl) (by kernel_rfl) (fun _ _ _ h => h) (Or.inl ⟨by rfl, fun W hS => by go_simp⟩) hHeld ?_
        (try simp only [Act.put, List.setIfInBounds_toArray, List.set_cons_zero, List.set_cons_succ])
        refine wpAnyH_take (i := 4) (oi := ⟨some 47, _, _, _, _, _⟩) (v := (.int .i64 (J : Int))) rfl (by kernel_rfl) (by kernel_rfl) (by kernel_rfl) (fun _ _ _ h => h) (Or.inl ⟨by rfl, fun W hS => by have h1 := HWJ.out; go_simp; exact IntWalk.i64_in _ ⟨by omega, by omega⟩⟩) hHeld ?_
        (try simp only [Act.put, List.setIfInBounds_toArray, List.set_cons_zero, List.set_cons_succ])
        refine wpAnyH_take (i := 5) (oi := ⟨some 48, _, _, _, _, _⟩) (v := (.pointer (some (ad2.add J)))) rfl (by kernel_rfl) (by kernel_rfl) (by kernel_rfl) (fun _ _ _ h => h) (Or.inl ⟨by rfl, fun W hS => by go_simp⟩) hHeld ?_
        (try simp only [Act.put, List.setIfInBounds_toArray, List.set_cons_zero, List.set_cons_succ])
        refine wpAnyH_take (i := 6) (oi := ⟨some 49, _, _, _, _, _⟩) (v := (.int .i64 a)) rfl (by kernel_rfl) (by kernel_rfl) (by kernel_rfl) (fun _ _ _ h => h) (Or.inl ⟨by rfl, fun W hS => by have cc := (show Turn1 mb W3 W from hS).cell CA.out NA.out; go_simp⟩) hHeld ?_
        (try simp only [Act.put, List.setIfInBounds_toArray, List.set_cons_zero, List.set_cons_succ])
        refine wpAnyH_take (i := 7) (oi := ⟨some 50, _, _, _, _, _⟩) (v := (.slice A L.length c)) rfl (by kernel_rfl) (by kernel_rfl) (by kernel_rfl) (fun _ _ _ h => h) (Or.inl ⟨by rfl, fun W hS => by go_simp⟩) hHeld ?_
        (try simp only [Act.put, List.setIfInBounds_toArray, List.set_cons_zero, List.set_cons_succ])
        refine wpAnyH_ready (rs := [8]) (by kernel_rfl) (by simp) ?_
        refine AllReadyH.cons rfl (fun K hK => ?_) AllReadyH.nil
        go_simp
        refine (HLS.out).mono ?_
        rintro e wl ⟨rfl, hb⟩
        dsimp only
        refine hK.out _ _ (turn1_step hHeld (below_turn1 hb)) (fun hH => ?_)
        have HMl := Aside0.mk (HMd.out.below hb)
        have HTl := Aside0.mk (Utf8Tabs_below HUd.out hb)
        clear hK K hHeld hb
        have hHeld := hH
        clear hH
        (try simp only [Act.put, List.setIfInBounds_toArray, List.set_cons_zero, List.set_cons_succ])
        refine wpAnyH_ready (rs := [9]) (by kernel_rfl) (by simp) ?_
        refine AllReadyH.cons rfl (fun K hK => ?_) AllReadyH.nil
        go_simp
        refine (drop_any HMl.out HO.out HDA.out (lastS L) HNM.out HTl.out).mono ?_
        rintro e wd ⟨rfl, hm, ht⟩
        dsimp only
        refine hK.out _ _ (turn1_step hHeld ht) (fun hH => ?_)
        have HMd2 := Aside0.mk hm
        have hb := trivial
        clear hm ht
        clear hK K hHeld hb
        have hHeld := hH
        clear hH
        (try simp only [Act.put, List.setIfInBounds_toArray, List.set_cons_zero, List.set_cons_succ])
        refine wpAnyH_done (by kernel_rfl) ?_ _
        have HTT := Aside0.mk (show Turn1 mb W3 wd from hHeld)
        clear hHeld
        (try simp only [Exit.then])
        go_wp2_with (go_at_call 35; refine Calls.mono (less_file HMd2.out HT1.out HFB.out.2) ?_; rintro e w9 ⟨rfl, hm, ht⟩; have HM9 := Aside0.mk hm; have HT9 := Aside0.mk (turn1_step (turn1_step (below_turn1 HBV3.out) HTT.out) ht); clear hm ht)
        go_ret
        rw [HRR.out]
        exact ⟨rfl, mb, .inl rfl, HM9.out, HT9.out.turn⟩
      · have HR := Aside0.mk hRR
        have HVV := Aside0.mk hvv
        have HLK := Aside0.mk (show ∀ W, Below w.heap.size w W → ∃ v, (Instr.lookup 58 (.map (some mb)) (.int .i64 ino) false).run Tryd.prog W = .ok v W ∧ (Instr.typeAssert v 57 62 true).run Tryd.prog W = .ok (.tuple #[.agg #[.slice none 0 0, .int .i64 0], .bool false]) W from fun W hW => by
          obtain ⟨v, hl, hv⟩ := (HM.out.below hW).2.look HII.out
          refine ⟨v, hl, ?_⟩
          rcases HVV.out W v hv with rfl | ⟨u, rfl⟩
          · exact as62_nil W
          · exact as62_81 u W)
        clear hR hRR hvv HVV hin hwl hws hne hl hino hii herr hval hroot
        go_enter Tryd.func13, Tryd.ntmps13
        go_wp2_with (first
          | (have hz := HB2.out; clear hz; go_at_call 32; refine Calls.mono (lastI_any A2 c2 way w2 HR2.out HC2.out HWP.out HWL.out) ?_; rw [HINO.out]; rintro e w3 ⟨rfl, hb⟩; have HB3 := Aside0.mk (below_step HB2.out hb); have HR3 := Aside0.mk (Kd.C_below HR2.out hb); have HS3 := Aside0.mk (Kd.C_below HS2.out hb); have p3 := (HM.out.below (below_step HB2.out hb)).at_; obtain ⟨v, hl, hta⟩ := HLK.out w3 (below_step HB2.out hb); clear hb)
          | (have hz := HB1.out; clear hz; go_at_call 31; refine Calls.mono (way_any (HM.out.below HB1.out) HO.out A c L HS1.out HC1.out HNS.out HL1.out) ?_; rw [HY2.out, HWY.out]; rintro e w2 ⟨A2, c2, rfl, hr2, hc2, hb⟩; have HB2 := Aside0.mk (below_step HB1.out hb); have HR2 := Aside0.mk hr2; have HC2 := Aside0.mk hc2; have HS2 := Aside0.mk (Kd.C_below HS1.out hb); clear hb hr2 hc2)
          | (go_at_call 23; refine Calls.mono HSP.out ?_; rintro e w1 ⟨A, c, rfl, hs, hc, hb⟩; have HB1 := Aside0.mk hb; have HS1 := Aside0.mk hs; have HC1 := Aside0.mk hc; clear hb hs hc))
        go_ret
        rw [← HR.out]
        exact Out.same HM.out (below_alloc HB3.out _) _
    · rw [if_pos h3] at hR
      have HR := Aside0.mk hR
      obtain rfl := herr h3
      have e3 : (y2 == 0) = false := beq_eq_false_iff_ne.2 h3
      have e3' : (y2 != 0) = true := by simp [h3]
      clear hR h3 hne hwl hws hin herr hval hroot
      go_enter Tryd.func13, Tryd.ntmps13
      go_wp2_with (first
        | (have hz := HB1.out; clear hz; go_at_call 31; refine Calls.mono (way_any (HM.out.below HB1.out) HO.out A c L HS1.out HC1.out HNS.out HL1.out) ?_; rw [HY2.out, HWY.out]; rintro e w2 ⟨A2, c2, rfl, hr2, hc2, hb⟩; have HB2 := Aside0.mk (below_step HB1.out hb); have HR2 := Aside0.mk hr2; have HC2 := Aside0.mk hc2; have HS2 := Aside0.mk (Kd.C_below HS1.out hb); clear hb hr2 hc2)
        | (go_at_call 23; refine Calls.mono HSP.out ?_; rintro e w1 ⟨A, c, rfl, hs, hc, hb⟩; have HB1 := Aside0.mk hb; have HS1 := Aside0.mk hs; have HC1 := Aside0.mk hc; clear hb hs hc))
      go_ret
      rw [← HR.out]
      exact Out.same HM.out (HB2.out) _
  · rw [if_pos h1] at hR
    have HR := Aside0.mk hR
    have e1 : (y1 == 0) = false := beq_eq_false_iff_ne.2 h1
    have e1' : (y1 != 0) = true := by simp [h1]
    clear hR h1 hgood
    go_enter Tryd.func13, Tryd.ntmps13
    go_wp2_with (first
      | (go_at_call 23; refine Calls.mono HSP.out ?_; rintro e w1 ⟨A, c, rfl, hs, hc, hb⟩; have HB1 := Aside0.mk hb; have HS1 := Aside0.mk hs; have HC1 := Aside0.mk hc; clear hb hs hc))
    go_ret
    rw [← HR.out]
    exact Out.same HM.out (HB1.out) _
end Go.Proofs.YtcmcmkfoihlniaaDoor.MM
end

section
namespace Go.Proofs.YtcmcmkfoihlniaaDoor.MM
open Go Go.RowKit Go.Maps Go.Proofs.YtcmcmkfoihlniaaDoorX Go.Proofs.YtcmcmkfoihlniaaDoor.NM Go.Proofs.YtcmcmkfoihlniaaDoor.EN Go.Proofs.YtcmcmkfoihlniaaDoorW.PrintWords Go.Proofs.YtcmcmkfoihlniaaDoorW.PrintLast Go.Proofs.YtcmcmkfoihlniaaDoorW.PrintMore Go.Proofs.YtcmcmkfoihlniaaDoor.PModelUndoes
set_option linter.unusedVariables false
set_option linter.unusedSimpArgs false
set_option maxRecDepth 100000
set_option maxHeartbeats 8000000
attribute [local go_sem] max2_int min2_int max_two min_two
def bothE (p s : ByteArray) : Int := if (splitR p).2 = 0 then (splitR s).2 else (splitR p).2
theorem bothE_zero {p s : ByteArray} (h : bothE p s = 0) : (splitR p).2 = 0 ∧ (splitR s).2 = 0 := by
  unfold bothE at h
  split at h
  · next h1 => exact ⟨h1, h⟩
  · next h1 => exact absurd h h1
def linkR (q : Int) (T : Tree) (p s : ByteArray) : Tree × Int :=
  if bothE p s ≠ 0 then (T, bothE p s) else if (findR T (splitR p).1).2 ≠ 0 then (T, (findR T (splitR p).1).2) else
  match T (findR T (splitR p).1).1 with
  | some (.file b n) =>
    if (splitR s).1.length = 0 then (T, 33) else if (upR T (splitR s).1).2 ≠ 0 then (T, (upR T (splitR s).1).2) else
    if (stepR (T (lastI (upR T (splitR s).1).1)) (lastS (splitR s).1)).2 = 0 then (T, 33) else
    if 64 ≤ n ∨ 64 ≤ (dirL (T (lastI (upR T (splitR s).1).1))).length then (T, 40) else
    tryR q T (upd (upd T (findR T (splitR p).1).1 (some (.file b (n + 1)))) (lastI (upR T (splitR s).1).1) (some (.dir (insR (dirL (T (lastI (upR T (splitR s).1).1))) ⟨(findR T (splitR p).1).1, lastS (splitR s).1⟩).1)))
  | _ => (T, 35)
theorem both_ok {w : World} {pb mb : Nat} {q : Int} {T : Tree} (h : Mdl w pb mb q T) (p s : ByteArray) (hT : Lib.Utf8Tabs 2 3 w) (h0 : bothE p s = 0) :
    Calls Tryd.prog 39 #[mp pb, .string p, .string s] w fun e w' => ∃ A c A' c', e = .returned (.tuple #[.slice A (splitR p).1.length c, .slice A' (splitR s).1.length c', .int .i64 0]) ∧
      St w' A (splitR p).1 ∧ (splitR p).1.length ≤ c ∧ St w' A' (splitR s).1 ∧ (splitR s).1.length ≤ c' ∧ Below w.heap.size w w' := by
  obtain ⟨h1, h2⟩ := bothE_zero h0
  have := both_any h p s hT
  rw [if_pos h1, if_pos h1, h2] at this
  exact this
theorem both_bad {w : World} {pb mb : Nat} {q : Int} {T : Tree} (h : Mdl w pb mb q T) (p s : ByteArray) (hT : Lib.Utf8Tabs 2 3 w) :
    Calls Tryd.prog 39 #[mp pb, .string p, .string s] w fun e w' => ∃ A n c A' n' c', e = .returned (.tuple #[.slice A n c, .slice A' n' c', .int .i64 (bothE p s)]) ∧ Below w.heap.size w w' := by
  refine (both_any h p s hT).mono ?_
  rintro e w' ⟨A, c, A', c', rfl, _, _, _, _, hb⟩
  exact ⟨A, _, c, A', _, c', rfl, hb⟩
theorem link_any {w : World} {pb mb : Nat} {q : Int} {T : Tree} (h : Mdl w pb mb q T) (hO : Ok T) (p s : ByteArray) (hT : Lib.Utf8Tabs 2 3 w) :
    Calls Tryd.prog 17 #[mp pb, .string p, .string s] w (Out w pb mb q (linkR q T p s)) := by
  have HM := Aside0.mk h
  have HO := Aside0.mk hO
  have HT := Aside0.mk hT
  obtain ⟨R, hR⟩ : ∃ R, linkR q T p s = R := ⟨_, rfl⟩
  rw [hR]
  unfold linkR at hR
  have hgp := @splitR_good p
  have hgs := @splitR_good s
  have hok := both_ok h p s hT
  have HBAD := Aside0.mk (both_bad h p s hT)
  have hz := @bothE_zero p s
  obtain ⟨y1, hy1⟩ : ∃ y, bothE p s = y := ⟨_, rfl⟩
  obtain ⟨X, hX⟩ : ∃ y, (splitR p).1 = y := ⟨_, rfl⟩
  obtain ⟨L, hL⟩ : ∃ y, (splitR s).1 = y := ⟨_, rfl⟩
  rw [hX, hL] at hR hok
  rw [hX] at hgp
  rw [hL] at hgs
  rw [hy1] at hR hok hz HBAD
  clear h hO hT hy1 hX hL
  by_cases h1 : y1 = 0
  · subst h1
    rw [if_neg (fun h => h rfl)] at hR
    have HOKK := Aside0.mk (hok rfl)
    obtain ⟨hpz, hsz⟩ := hz rfl
    obtain ⟨hX3, hxval⟩ := hgp hpz
    obtain ⟨hL3, hval⟩ := hgs hsz
    have HNX := Aside0.mk (show ∀ n ∈ X, n.size ≤ 1048576 from fun n hn => by have := valid_size (hxval n hn); omega)
    have HLX := Aside0.mk (show X.length ≤ 1048576 by omega)
    have HNS := Aside0.mk (show ∀ n ∈ L, n.size ≤ 1048576 from fun n hn => by have := valid_size (hval n hn); omega)
    have HL1 := Aside0.mk (show L.length ≤ 1048576 by omega)
    have hfi := @findR_in T HO.out X
    obtain ⟨y2, hy2⟩ : ∃ y, (findR T X).2 = y := ⟨_, rfl⟩
    obtain ⟨ino, hi2⟩ : ∃ y, (findR T X).1 = y := ⟨_, rfl⟩
    rw [hy2, hi2] at hR hfi
    have HY2 := Aside0.mk hy2
    have HI2 := Aside0.mk hi2
    clear hgp hgs hok hz hpz hsz hxval hy2 hi2 hX3
    by_cases h3 : y2 = 0
    · subst h3
      rw [if_neg (fun h => h rfl)] at hR
      have HIN := Aside0.mk (hfi rfl)
      clear hfi
      have hnot : (∃ b n, T ino = some (.file b n)) ∨ ((T, 35) = R ∧ ∀ w v, Holds w v (T ino) → (v = .nilIface ∨ ∃ u, v = .iface 81 u)) := by
        rcases hTi : T ino with _ | (⟨b, n⟩ | l)
        · rw [hTi] at hR; exact .inr ⟨hR, fun w v hv => .inl hv⟩
        · exact .inl ⟨b, n, rfl⟩
        · rw [hTi] at hR; exact .inr ⟨hR, fun w v hv => by obtain ⟨A, c, e, _⟩ := hv; exact .inr ⟨_, e⟩⟩
      rcases hnot with ⟨b, n, hTi⟩ | ⟨hRR, hvv⟩
      · rw [hTi] at hR
        simp only at hR
        have HTI := Aside0.mk hTi
        have HIK := Aside0.mk (HM.out.2.1 ino (by rw [hTi]; simp))
        have HFB := Aside0.mk (HO.out.files ino b n hTi)
        clear hTi
        by_cases h0 : L.length = 0
        · rw [if_pos h0] at hR
          have HR := Aside0.mk hR
          have e0 : ((L.length : Int) == 0) = true := beq_iff_eq.2 (by omega)
          clear hR h0 hL3 hval
          go_enter Tryd.func17, Tryd.ntmps17
          go_wp2_with (first
            | (have hz := HBV.out; clear hz; go_at_call 24; rw [← HW1.out]; refine Calls.mono (find_in (HM.out.below HBV.out) HO.out A0 c0 X HS0.out HC0.out HNX.out HLX.out) ?_; rw [HY2.out, HI2.out]; rintro e w2 ⟨rfl, hb⟩; have HB2 := Aside0.mk (below_step HBV.out hb); have C82 := Aside0.mk (pw_cell_below hb C8.out); have HS2 := Aside0.mk (Kd.C_below HS1.out hb); clear hb)
            | (go_at_call 39; refine Calls.mono HOKK.out ?_; rintro e w1 ⟨A0, c0, A, c, rfl, hs0, hc0, hs, hc, hb⟩; have HB1 := Aside0.mk hb; have HC1 := Aside0.mk hc; obtain ⟨W1, hW1⟩ : ∃ W1, W1 = w1.alloc (.cells #[.slice A L.length c] 50) := ⟨_, rfl⟩; have HW1 := Aside0.mk hW1; have hbw := (show Below w1.heap.size w1 W1 by rw [hW1]; exact below_alloc (Below.refl _ _) _); have HBV := Aside0.mk (below_step HB1.out hbw); have HS0 := Aside0.mk (Kd.C_below hs0 hbw); have HC0 := Aside0.mk hc0; have HS1 := Aside0.mk (Kd.C_below hs hbw); have C8 := Aside0.mk (show W1.cell? ⟨w1.heap.size, 0, none⟩ = some (.slice A L.length c) by rw [hW1]; exact cell_new1 _ _ _); clear hb hs0 hc0 hs hc hW1 hbw))
          obtain ⟨W2, hW2⟩ : ∃ W2, W2 = w2.alloc (.cells #[.int .i64 ino] 3) := ⟨_, rfl⟩
          have hbw := (show Below w2.heap.size w2 W2 by rw [hW2]; exact below_alloc (Below.refl _ _) _)
          have HBV2 := Aside0.mk (below_step HB2.out hbw)
          have C10 := Aside0.mk (show W2.cell? ⟨w2.heap.size, 0, none⟩ = some (.int .i64 ino) by rw [hW2]; exact cell_new1 _ _ _)
          have C83 := Aside0.mk (pw_cell_below hbw C82.out)
          have HS3 := Aside0.mk (Kd.C_below HS2.out hbw)
          have HM2 := Aside0.mk (HM.out.below HBV2.out)
          have P2 := Aside0.mk HM2.out.at_
          rw [← hW2]
          have HX2 := Aside0.mk hW2
          clear hW2 hbw
          obtain ⟨v, hv, hl⟩ := HM2.out.2.looks HIN.out
          rw [HTI.out] at hv
          obtain ⟨B, cb, rfl, hrb, hcb⟩ := hv
          have HL2 := Aside0.mk (show ∀ W, Below W2.heap.size W2 W → (Instr.lookup 58 (.map (some mb)) (.int .i64 ino) false).run Tryd.prog W = .ok (.iface 62 (.agg #[.slice B b.length cb, .int .i64 n])) W ∧ (Instr.typeAssert (.iface 62 (.agg #[.slice B b.length cb, .int .i64 n])) 57 62 true).run Tryd.prog W = .ok (.tuple #[.agg #[.slice B b.length cb, .int .i64 n], .bool true]) W from fun W hS => ⟨hl W (hS.block mb HM2.out.2.lt), as62_62 _ _⟩)
          have HRB := Aside0.mk hrb
          have HCB := Aside0.mk hcb
          clear hl hrb hcb
          refine wp_region_held_drew (S := fun W => Below W2.heap.size W2 W) (by kernel_rfl) (below_drew (Below.refl _ _)) (fun hHeld => ?_)
          refine wpAnyH_take (i := 0) (oi := ⟨some 38, _, _, _, _, _⟩) (v := (mp pb)) rfl (by kernel_rfl) (by kernel_rfl) (by kernel_rfl) (fun _ _ _ h => h) (Or.inl ⟨by rfl, fun W hS => by go_simp⟩) hHeld ?_
          (try simp only [Act.put, List.setIfInBounds_toArray, List.set_cons_zero, List.set_cons_succ])
          refine wpAnyH_take (i := 1) (oi := ⟨some 39, _, _, _, _, _⟩) (v := (mp pb)) rfl (by kernel_rfl) (by kernel_rfl) (by kernel_rfl) (fun _ _ _ h => h) (Or.inl ⟨by rfl, fun W hS => by go_simp⟩) hHeld ?_
          (try simp only [Act.put, List.setIfInBounds_toArray, List.set_cons_zero, List.set_cons_succ])
          refine wpAnyH_take (i := 2) (oi := ⟨some 40, _, _, _, _, _⟩) (v := (.pointer (some ⟨pb, 1, none⟩))) rfl (by kernel_rfl) (by kernel_rfl) (by kernel_rfl) (fun _ _ _ h => h) (Or.inl ⟨by rfl, fun W hS => by go_simp⟩) hHeld ?_
          (try simp only [Act.put, List.setIfInBounds_toArray, List.set_cons_zero, List.set_cons_succ])
          refine wpAnyH_take (i := 3) (oi := ⟨some 41, _, _, _, _, _⟩) (v := (.map (some mb))) rfl (by kernel_rfl) (by kernel_rfl) (by kernel_rfl) (fun _ _ _ h => h) (Or.inl ⟨by rfl, fun W hS => by have cc := pw_cell_below hS P2.out; go_simp⟩) hHeld ?_
          (try simp only [Act.put, List.setIfInBounds_toArray, List.set_cons_zero, List.set_cons_succ])
          refine wpAnyH_take (i := 4) (oi := ⟨some 42, _, _, _, _, _⟩) (v := (.int .i64 ino)) rfl (by kernel_rfl) (by kernel_rfl) (by kernel_rfl) (fun _ _ _ h => h) (Or.inl ⟨by rfl, fun W hS => by have cc := pw_cell_below hS C10.out; go_simp⟩) hHeld ?_
          (try simp only [Act.put, List.setIfInBounds_toArray, List.set_cons_zero, List.set_cons_succ])
          refine wpAnyH_take (i := 5) (oi := ⟨some 43, _, _, _, _, _⟩) (v := (.iface 62 (.agg #[.slice B b.length cb, .int .i64 n]))) rfl (by kernel_rfl) (by kernel_rfl) (by kernel_rfl) (fun _ _ _ h => h) (Or.inl ⟨by rfl, fun W hS => by have hl := (HL2.out W hS).1; go_simp⟩) hHeld ?_
          (try simp only [Act.put, List.setIfInBounds_toArray, List.set_cons_zero, List.set_cons_succ])
          refine wpAnyH_take (i := 6) (oi := ⟨some 44, _, _, _, _, _⟩) (v := (.tuple #[.agg #[.slice B b.length cb, .int .i64 n], .bool true])) rfl (by kernel_rfl) (by kernel_rfl) (by kernel_rfl) (fun _ _ _ h => h) (Or.inl ⟨by rfl, fun W hS => by have hl := (HL2.out W hS).2; go_simp⟩) hHeld ?_
          (try simp only [Act.put, List.setIfInBounds_toArray, List.set_cons_zero, List.set_cons_succ])
          refine wpAnyH_take (i := 7) (oi := ⟨some 37, _, _, _, _, _⟩) (v := (.tuple #[.agg #[.slice B b.length cb, .int .i64 n], .bool true])) rfl (by kernel_rfl) (by kernel_rfl) (by kernel_rfl) (fun _ _ _ h => h) (Or.inl ⟨by rfl, fun W hS => by go_simp⟩) hHeld ?_
          (try simp only [Act.put, List.setIfInBounds_toArray, List.set_cons_zero, List.set_cons_succ])
          refine wpAnyH_take (i := 8) (oi := ⟨some 45, _, _, _, _, _⟩) (v := (.agg #[.slice B b.length cb, .int .i64 n])) rfl (by kernel_rfl) (by kernel_rfl) (by kernel_rfl) (fun _ _ _ h => h) (Or.inl ⟨by rfl, fun W hS => by go_simp⟩) hHeld ?_
          (try simp only [Act.put, List.setIfInBounds_toArray, List.set_cons_zero, List.set_cons_succ])
          refine wpAnyH_take (i := 9) (oi := ⟨some 46, _, _, _, _, _⟩) (v := (.bool true)) rfl (by kernel_rfl) (by kernel_rfl) (by kernel_rfl) (fun _ _ _ h => h) (Or.inl ⟨by rfl, fun W hS => by go_simp⟩) hHeld ?_
          (try simp only [Act.put, List.setIfInBounds_toArray, List.set_cons_zero, List.set_cons_succ])
          refine wpAnyH_ready (rs := [10]) (by kernel_rfl) (by simp) ?_
          refine AllReadyH.cons rfl (fun K hK => ?_) AllReadyH.nil
          go_simp
          refine hK.out _ _ (below_drew (below_alloc (Below.refl W2.heap.size W2) (.cells #[.slice none 0 0, .int .i64 0] 62))) (fun hH => ?_)
          obtain ⟨Wa, hWa⟩ : ∃ Wa, Wa = (W2.alloc (.cells #[.slice none 0 0, .int .i64 0] 62)).drew := ⟨_, rfl⟩
          have BWa := Aside0.mk (show Wa.heap[W2.heap.size]? = some (.cells #[.slice none 0 0, .int .i64 0] 62 (0, 0)) by rw [hWa]; exact heap_new W2 _)
          have hHa := (show Below W2.heap.size W2 Wa by rw [hWa]; exact hH)
          rw [← hWa]
          clear hK K hHeld hWa hH
          have hHeld := hHa
          clear hHa
          (try simp only [Act.put, List.setIfInBounds_toArray, List.set_cons_zero, List.set_cons_succ])
          refine wpAnyH_ready (rs := [11]) (by kernel_rfl) (by simp) ?_
          refine AllReadyH.cons rfl (fun K hK => ?_) AllReadyH.nil
          refine wp_store_row 62 _ _ rfl W2.heap.size (#[.slice B b.length cb, .int .i64 n]) rfl rfl 62 _ BWa.out size62 rfl (all62 _ _ _ _) ?_
          obtain ⟨W3, hW3⟩ : ∃ W3, W3 = Wa.setRow W2.heap.size (#[.slice B b.length cb, .int .i64 n]) := ⟨_, rfl⟩
          have HG3 := Aside0.mk (show W3.heap[W2.heap.size]? = some (.cells (#[.slice B b.length cb, .int .i64 n]) 62 (0, 0)) by rw [hW3]; exact setRow_heap Wa W2.heap.size _ (#[.slice B b.length cb, .int .i64 n]) 62 (0, 0) BWa.out)
          have HGR := Aside0.mk (show Wa.grownBy W3 (some W2.heap.size) by rw [hW3]; exact grown_setRow _ _ _)
          rw [← hW3]
          refine hK.out _ _ (Below.grown hHeld HGR.out hHeld.size (fun k e => by cases e; exact Nat.le_refl _)) (fun hH => ?_)
          clear hK K hHeld hW3
          have hHeld := hH
          clear hH
          (try simp only [Act.put, List.setIfInBounds_toArray, List.set_cons_zero, List.set_cons_succ])
          refine wpAnyH_take (i := 12) (oi := ⟨some 12, _, _, _, _, _⟩) (v := (.bool true)) rfl (by kernel_rfl) (by kernel_rfl) (by kernel_rfl) (fun _ _ _ h => h) (Or.inl ⟨by rfl, fun W hS => by go_simp⟩) hHeld ?_
          (try simp only [Act.put, List.setIfInBounds_toArray, List.set_cons_zero, List.set_cons_succ])
          refine wpAnyH_done (by kernel_rfl) ?_ _
          have HBV3 := Aside0.mk (below_step HBV2.out hHeld)
          have C84 := Aside0.mk (pw_cell_below hHeld C83.out)
          have C104 := Aside0.mk (pw_cell_below hHeld C10.out)
          have HS4 := Aside0.mk (Kd.C_below HS3.out hHeld)
          have HRB4 := Aside0.mk (HRB.out.below hHeld)
          have F0 := Aside0.mk (show W3.cell? ⟨W2.heap.size, 0, none⟩ = some (.slice B b.length cb) by simp [World.cell?, HG3.out])
          have F1 := Aside0.mk (show W3.cell? ⟨W2.heap.size, 1, none⟩ = some (.int .i64 n) by simp [World.cell?, HG3.out])
          clear hHeld
          (try simp only [Exit.then])
          have c8 := C84.out
          go_wp2
          go_ret
          rw [← HR.out]
          exact Out.same HM.out (HBV3.out) _
        · rw [if_neg h0] at hR
          have e0 : ((L.length : Int) == 0) = false := beq_eq_false_iff_ne.2 (by omega)
          have HL0 := Aside0.mk (show 0 < L.length by omega)
          have HNM := Aside0.mk (HNS.out _ (lastS_mem HL0.out))
          have hup := @upR_good T HO.out L
          have HLL := Aside0.mk hL3
          obtain ⟨y3, hy3⟩ : ∃ y, (upR T L).2 = y := ⟨_, rfl⟩
          obtain ⟨way, hway⟩ : ∃ y, (upR T L).1 = y := ⟨_, rfl⟩
          rw [hy3, hway] at hR hup
          have HY3 := Aside0.mk hy3
          have HWY := Aside0.mk hway
          clear h0 hval hy3 hway hL3
          by_cases h5 : y3 = 0
          · subst h5
            rw [if_neg (fun h => h rfl)] at hR
            obtain ⟨hwp, hwl, hai, d, hd⟩ := hup rfl
            have HWP := Aside0.mk hwp
            have HWL := Aside0.mk (show way.length ≤ 1048577 by have := HLL.out; omega)
            obtain ⟨at_, hat⟩ : ∃ a, lastI way = a := ⟨_, rfl⟩
            rw [hat] at hR hai hd
            have HAT := Aside0.mk hat
            have HAI := Aside0.mk hai
            have HD := Aside0.mk hd
            rw [show dirL (T at_) = d by rw [hd]; rfl] at hR
            obtain ⟨y6, hy6⟩ : ∃ y, (stepR (T at_) (lastS L)).2 = y := ⟨_, rfl⟩
            obtain ⟨i6, hi6⟩ : ∃ y, (stepR (T at_) (lastS L)).1 = y := ⟨_, rfl⟩
            rw [hy6] at hR
            have HY6 := Aside0.mk hy6
            have HI6 := Aside0.mk hi6
            obtain ⟨nm, hnm⟩ : ∃ n, lastS L = n := ⟨_, rfl⟩
            rw [hnm] at hR HY6 HI6 HNM
            have HNE := Aside0.mk hnm
            clear hup hwp hwl hat hai hd hy6 hi6 hnm
            go_enter Tryd.func17, Tryd.ntmps17
            go_wp2_with (first
              | (have hz := HBV.out; clear hz; go_at_call 24; rw [← HW1.out]; refine Calls.mono (find_in (HM.out.below HBV.out) HO.out A0 c0 X HS0.out HC0.out HNX.out HLX.out) ?_; rw [HY2.out, HI2.out]; rintro e w2 ⟨rfl, hb⟩; have HB2 := Aside0.mk (below_step HBV.out hb); have C82 := Aside0.mk (pw_cell_below hb C8.out); have HS2 := Aside0.mk (Kd.C_below HS1.out hb); clear hb)
              | (go_at_call 39; refine Calls.mono HOKK.out ?_; rintro e w1 ⟨A0, c0, A, c, rfl, hs0, hc0, hs, hc, hb⟩; have HB1 := Aside0.mk hb; have HC1 := Aside0.mk hc; obtain ⟨W1, hW1⟩ : ∃ W1, W1 = w1.alloc (.cells #[.slice A L.length c] 50) := ⟨_, rfl⟩; have HW1 := Aside0.mk hW1; have hbw := (show Below w1.heap.size w1 W1 by rw [hW1]; exact below_alloc (Below.refl _ _) _); have HBV := Aside0.mk (below_step HB1.out hbw); have HS0 := Aside0.mk (Kd.C_below hs0 hbw); have HC0 := Aside0.mk hc0; have HS1 := Aside0.mk (Kd.C_below hs hbw); have C8 := Aside0.mk (show W1.cell? ⟨w1.heap.size, 0, none⟩ = some (.slice A L.length c) by rw [hW1]; exact cell_new1 _ _ _); clear hb hs0 hc0 hs hc hW1 hbw))
            obtain ⟨W2, hW2⟩ : ∃ W2, W2 = w2.alloc (.cells #[.int .i64 ino] 3) := ⟨_, rfl⟩
            have hbw := (show Below w2.heap.size w2 W2 by rw [hW2]; exact below_alloc (Below.refl _ _) _)
            have HBV2 := Aside0.mk (below_step HB2.out hbw)
            have C10 := Aside0.mk (show W2.cell? ⟨w2.heap.size, 0, none⟩ = some (.int .i64 ino) by rw [hW2]; exact cell_new1 _ _ _)
            have C83 := Aside0.mk (pw_cell_below hbw C82.out)
            have HS3 := Aside0.mk (Kd.C_below HS2.out hbw)
            have HM2 := Aside0.mk (HM.out.below HBV2.out)
            have P2 := Aside0.mk HM2.out.at_
            rw [← hW2]
            have HX2 := Aside0.mk hW2
            clear hW2 hbw
            obtain ⟨v, hv, hl⟩ := HM2.out.2.looks HIN.out
            rw [HTI.out] at hv
            obtain ⟨B, cb, rfl, hrb, hcb⟩ := hv
            have HL2 := Aside0.mk (show ∀ W, Below W2.heap.size W2 W → (Instr.lookup 58 (.map (some mb)) (.int .i64 ino) false).run Tryd.prog W = .ok (.iface 62 (.agg #[.slice B b.length cb, .int .i64 n])) W ∧ (Instr.typeAssert (.iface 62 (.agg #[.slice B b.length cb, .int .i64 n])) 57 62 true).run Tryd.prog W = .ok (.tuple #[.agg #[.slice B b.length cb, .int .i64 n], .bool true]) W from fun W hS => ⟨hl W (hS.block mb HM2.out.2.lt), as62_62 _ _⟩)
            have HRB := Aside0.mk hrb
            have HCB := Aside0.mk hcb
            clear hl hrb hcb
            refine wp_region_held_drew (S := fun W => Below W2.heap.size W2 W) (by kernel_rfl) (below_drew (Below.refl _ _)) (fun hHeld => ?_)
            refine wpAnyH_take (i := 0) (oi := ⟨some 38, _, _, _, _, _⟩) (v := (mp pb)) rfl (by kernel_rfl) (by kernel_rfl) (by kernel_rfl) (fun _ _ _ h => h) (Or.inl ⟨by rfl, fun W hS => by go_simp⟩) hHeld ?_
            (try simp only [Act.put, List.setIfInBounds_toArray, List.set_cons_zero, List.set_cons_succ])
            refine wpAnyH_take (i := 1) (oi := ⟨some 39, _, _, _, _, _⟩) (v := (mp pb)) rfl (by kernel_rfl) (by kernel_rfl) (by kernel_rfl) (fun _ _ _ h => h) (Or.inl ⟨by rfl, fun W hS => by go_simp⟩) hHeld ?_
            (try simp only [Act.put, List.setIfInBounds_toArray, List.set_cons_zero, List.set_cons_succ])
            refine wpAnyH_take (i := 2) (oi := ⟨some 40, _, _, _, _, _⟩) (v := (.pointer (some ⟨pb, 1, none⟩))) rfl (by kernel_rfl) (by kernel_rfl) (by kernel_rfl) (fun _ _ _ h => h) (Or.inl ⟨by rfl, fun W hS => by go_simp⟩) hHeld ?_
            (try simp only [Act.put, List.setIfInBounds_toArray, List.set_cons_zero, List.set_cons_succ])
            refine wpAnyH_take (i := 3) (oi := ⟨some 41, _, _, _, _, _⟩) (v := (.map (some mb))) rfl (by kernel_rfl) (by kernel_rfl) (by kernel_rfl) (fun _ _ _ h => h) (Or.inl ⟨by rfl, fun W hS => by have cc := pw_cell_below hS P2.out; go_simp⟩) hHeld ?_
            (try simp only [Act.put, List.setIfInBounds_toArray, List.set_cons_zero, List.set_cons_succ])
            refine wpAnyH_take (i := 4) (oi := ⟨some 42, _, _, _, _, _⟩) (v := (.int .i64 ino)) rfl (by kernel_rfl) (by kernel_rfl) (by kernel_rfl) (fun _ _ _ h => h) (Or.inl ⟨by rfl, fun W hS => by have cc := pw_cell_below hS C10.out; go_simp⟩) hHeld ?_
            (try simp only [Act.put, List.setIfInBounds_toArray, List.set_cons_zero, List.set_cons_succ])
            refine wpAnyH_take (i := 5) (oi := ⟨some 43, _, _, _, _, _⟩) (v := (.iface 62 (.agg #[.slice B b.length cb, .int .i64 n]))) rfl (by kernel_rfl) (by kernel_rfl) (by kernel_rfl) (fun _ _ _ h => h) (Or.inl ⟨by rfl, fun W hS => by have hl := (HL2.out W hS).1; go_simp⟩) hHeld ?_
            (try simp only [Act.put, List.setIfInBounds_toArray, List.set_cons_zero, List.set_cons_succ])
            refine wpAnyH_take (i := 6) (oi := ⟨some 44, _, _, _, _, _⟩) (v := (.tuple #[.agg #[.slice B b.length cb, .int .i64 n], .bool true])) rfl (by kernel_rfl) (by kernel_rfl) (by kernel_rfl) (fun _ _ _ h => h) (Or.inl ⟨by rfl, fun W hS => by have hl := (HL2.out W hS).2; go_simp⟩) hHeld ?_
            (try simp only [Act.put, List.setIfInBounds_toArray, List.set_cons_zero, List.set_cons_succ])
            refine wpAnyH_take (i := 7) (oi := ⟨some 37, _, _, _, _, _⟩) (v := (.tuple #[.agg #[.slice B b.length cb, .int .i64 n], .bool true])) rfl (by kernel_rfl) (by kernel_rfl) (by kernel_rfl) (fun _ _ _ h => h) (Or.inl ⟨by rfl, fun W hS => by go_simp⟩) hHeld ?_
            (try simp only [Act.put, List.setIfInBounds_toArray, List.set_cons_zero, List.set_cons_succ])
            refine wpAnyH_take (i := 8) (oi := ⟨some 45, _, _, _, _, _⟩) (v := (.agg #[.slice B b.length cb, .int .i64 n])) rfl (by kernel_rfl) (by kernel_rfl) (by kernel_rfl) (fun _ _ _ h => h) (Or.inl ⟨by rfl, fun W hS => by go_simp⟩) hHeld ?_
            (try simp only [Act.put, List.setIfInBounds_toArray, List.set_cons_zero, List.set_cons_succ])
            refine wpAnyH_take (i := 9) (oi := ⟨some 46, _, _, _, _, _⟩) (v := (.bool true)) rfl (by kernel_rfl) (by kernel_rfl) (by kernel_rfl) (fun _ _ _ h => h) (Or.inl ⟨by rfl, fun W hS => by go_simp⟩) hHeld ?_
            (try simp only [Act.put, List.setIfInBounds_toArray, List.set_cons_zero, List.set_cons_succ])
            refine wpAnyH_ready (rs := [10]) (by kernel_rfl) (by simp) ?_
            refine AllReadyH.cons rfl (fun K hK => ?_) AllReadyH.nil
            go_simp
            refine hK.out _ _ (below_drew (below_alloc (Below.refl W2.heap.size W2) (.cells #[.slice none 0 0, .int .i64 0] 62))) (fun hH => ?_)
            obtain ⟨Wa, hWa⟩ : ∃ Wa, Wa = (W2.alloc (.cells #[.slice none 0 0, .int .i64 0] 62)).drew := ⟨_, rfl⟩
            have BWa := Aside0.mk (show Wa.heap[W2.heap.size]? = some (.cells #[.slice none 0 0, .int .i64 0] 62 (0, 0)) by rw [hWa]; exact heap_new W2 _)
            have hHa := (show Below W2.heap.size W2 Wa by rw [hWa]; exact hH)
            rw [← hWa]
            clear hK K hHeld hWa hH
            have hHeld := hHa
            clear hHa
            (try simp only [Act.put, List.setIfInBounds_toArray, List.set_cons_zero, List.set_cons_succ])
            refine wpAnyH_ready (rs := [11]) (by kernel_rfl) (by simp) ?_
            refine AllReadyH.cons rfl (fun K hK => ?_) AllReadyH.nil
            refine wp_store_row 62 _ _ rfl W2.heap.size (#[.slice B b.length cb, .int .i64 n]) rfl rfl 62 _ BWa.out size62 rfl (all62 _ _ _ _) ?_
            obtain ⟨W3, hW3⟩ : ∃ W3, W3 = Wa.setRow W2.heap.size (#[.slice B b.length cb, .int .i64 n]) := ⟨_, rfl⟩
            have HG3 := Aside0.mk (show W3.heap[W2.heap.size]? = some (.cells (#[.slice B b.length cb, .int .i64 n]) 62 (0, 0)) by rw [hW3]; exact setRow_heap Wa W2.heap.size _ (#[.slice B b.length cb, .int .i64 n]) 62 (0, 0) BWa.out)
            have HGR := Aside0.mk (show Wa.grownBy W3 (some W2.heap.size) by rw [hW3]; exact grown_setRow _ _ _)
            rw [← hW3]
            refine hK.out _ _ (Below.grown hHeld HGR.out hHeld.size (fun k e => by cases e; exact Nat.le_refl _)) (fun hH => ?_)
            clear hK K hHeld hW3
            have hHeld := hH
            clear hH
            (try simp only [Act.put, List.setIfInBounds_toArray, List.set_cons_zero, List.set_cons_succ])
            refine wpAnyH_take (i := 12) (oi := ⟨some 12, _, _, _, _, _⟩) (v := (.bool true)) rfl (by kernel_rfl) (by kernel_rfl) (by kernel_rfl) (fun _ _ _ h => h) (Or.inl ⟨by rfl, fun W hS => by go_simp⟩) hHeld ?_
            (try simp only [Act.put, List.setIfInBounds_toArray, List.set_cons_zero, List.set_cons_succ])
            refine wpAnyH_done (by kernel_rfl) ?_ _
            have HBV3 := Aside0.mk (below_step HBV2.out hHeld)
            have C84 := Aside0.mk (pw_cell_below hHeld C83.out)
            have C104 := Aside0.mk (pw_cell_below hHeld C10.out)
            have HS4 := Aside0.mk (Kd.C_below HS3.out hHeld)
            have HRB4 := Aside0.mk (HRB.out.below hHeld)
            have F0 := Aside0.mk (show W3.cell? ⟨W2.heap.size, 0, none⟩ = some (.slice B b.length cb) by simp [World.cell?, HG3.out])
            have F1 := Aside0.mk (show W3.cell? ⟨W2.heap.size, 1, none⟩ = some (.int .i64 n) by simp [World.cell?, HG3.out])
            clear hHeld
            (try simp only [Exit.then])
            have c8 := C84.out
            go_wp2_with (first
              | (have hz := HB4.out; clear hz; go_at_call 32; refine Calls.mono (lastI_any A4 c4 way w4 HR4.out HC4.out HWP.out HWL.out) ?_; rw [HAT.out]; rintro e w5 ⟨rfl, hb⟩; have HB5 := Aside0.mk (below_step HB4.out hb); have C86 := Aside0.mk (pw_cell_below hb C85.out); have C106 := Aside0.mk (pw_cell_below hb C105.out); have F06 := Aside0.mk (pw_cell_below hb F05.out); have F16 := Aside0.mk (pw_cell_below hb F15.out); have HS6 := Aside0.mk (Kd.C_below HS5.out hb); have HRB6 := Aside0.mk (HRB5.out.below hb); clear hb)
              | (have hz := HBV3.out; clear hz; go_at_call 40; refine Calls.mono (up_any (HM.out.below HBV3.out) HO.out A c L HS4.out HC1.out HNS.out HL1.out HL0.out) ?_; rw [HY3.out, HWY.out]; rintro e w4 ⟨A4, c4, rfl, hr4, hc4, hb⟩; have HB4 := Aside0.mk (below_step HBV3.out hb); have C85 := Aside0.mk (pw_cell_below hb C84.out); have C105 := Aside0.mk (pw_cell_below hb C104.out); have F05 := Aside0.mk (pw_cell_below hb F0.out); have F15 := Aside0.mk (pw_cell_below hb F1.out); have HR4 := Aside0.mk hr4; have HC4 := Aside0.mk hc4; have HS5 := Aside0.mk (Kd.C_below HS4.out hb); have HRB5 := Aside0.mk (HRB4.out.below hb); clear hb hr4 hc4))
            obtain ⟨W5, hW5⟩ : ∃ W5, W5 = w5.alloc (.cells #[.int .i64 at_] 3) := ⟨_, rfl⟩
            have hbw := (show Below w5.heap.size w5 W5 by rw [hW5]; exact below_alloc (Below.refl _ _) _)
            have HBV5 := Aside0.mk (below_step HB5.out hbw)
            have C14 := Aside0.mk (show W5.cell? ⟨w5.heap.size, 0, none⟩ = some (.int .i64 at_) by rw [hW5]; exact cell_new1 _ _ _)
            have C87 := Aside0.mk (pw_cell_below hbw C86.out)
            have C107 := Aside0.mk (pw_cell_below hbw C106.out)
            have F07 := Aside0.mk (pw_cell_below hbw F06.out)
            have F17 := Aside0.mk (pw_cell_below hbw F16.out)
            have HS7 := Aside0.mk (Kd.C_below HS6.out hbw)
            have HRB7 := Aside0.mk (HRB6.out.below hbw)
            have HM5 := Aside0.mk (HM.out.below HBV5.out)
            have HLS := Aside0.mk (lastS_any A c L W5.drew (Kd.C_below HS7.out (below_drew (Below.refl W5.heap.size W5))) HC1.out HL0.out HL1.out)
            rw [← hW5]
            have HX5 := Aside0.mk hW5
            clear hW5 hbw c8
            refine wp_region_held_drew (S := fun W => Below W5.heap.size W5 W) (by kernel_rfl) (below_drew (Below.refl _ _)) (fun hHeld => ?_)
            refine wpAnyH_take (i := 0) (oi := ⟨some 66, _, _, _, _, _⟩) (v := (mp pb)) rfl (by kernel_rfl) (by kernel_rfl) (by kernel_rfl) (fun _ _ _ h => h) (Or.inl ⟨by rfl, fun W hS => by go_simp⟩) hHeld ?_
            (try simp only [Act.put, List.setIfInBounds_toArray, List.set_cons_zero, List.set_cons_succ])
            refine wpAnyH_take (i := 1) (oi := ⟨some 67, _, _, _, _, _⟩) (v := (.int .i64 at_)) rfl (by kernel_rfl) (by kernel_rfl) (by kernel_rfl) (fun _ _ _ h => h) (Or.inl ⟨by rfl, fun W hS => by have cc := pw_cell_below hS C14.out; go_simp⟩) hHeld ?_
            (try simp only [Act.put, List.setIfInBounds_toArray, List.set_cons_zero, List.set_cons_succ])
            refine wpAnyH_take (i := 2) (oi := ⟨some 68, _, _, _, _, _⟩) (v := (.slice A L.length c)) rfl (by kernel_rfl) (by kernel_rfl) (by kernel_rfl) (fun _ _ _ h => h) (Or.inl ⟨by rfl, fun W hS => by have cc := pw_cell_below hS C87.out; go_simp⟩) hHeld ?_
            (try simp only [Act.put, List.setIfInBounds_toArray, List.set_cons_zero, List.set_cons_succ])
            refine wpAnyH_ready (rs := [3]) (by kernel_rfl) (by simp) ?_
            refine AllReadyH.cons rfl (fun K hK => ?_) AllReadyH.nil
            go_simp
            refine (HLS.out).mono ?_
            rw [HNE.out]
            rintro e w6 ⟨rfl, hb⟩
            dsimp only
            refine hK.out _ _ (below_step hHeld hb) (fun hH => ?_)
            have HB6 := Aside0.mk hb
            clear hK K hHeld hb
            have hHeld := hH
            clear hH
            (try simp only [Act.put, List.setIfInBounds_toArray, List.set_cons_zero, List.set_cons_succ])
            refine wpAnyH_ready (rs := [4]) (by kernel_rfl) (by simp) ?_
            refine AllReadyH.cons rfl (fun K hK => ?_) AllReadyH.nil
            go_simp
            refine (step_any (HM5.out.below hHeld) HO.out HAI.out nm HNM.out).mono ?_
            rw [HY6.out, HI6.out]
            rintro e w7 ⟨rfl, hb⟩
            dsimp only
            refine hK.out _ _ (below_step hHeld hb) (fun hH => ?_)
            have HB7 := Aside0.mk hb
            clear hK K hHeld hb
            have hHeld := hH
            clear hH
            (try simp only [Act.put, List.setIfInBounds_toArray, List.set_cons_zero, List.set_cons_succ])
            refine wpAnyH_take (i := 5) (oi := ⟨some 65, _, _, _, _, _⟩) (v := (.tuple #[.int .i64 i6, .int .i64 y6])) rfl (by kernel_rfl) (by kernel_rfl) (by kernel_rfl) (fun _ _ _ h => h) (Or.inl ⟨by rfl, fun W hS => by go_simp⟩) hHeld ?_
            (try simp only [Act.put, List.setIfInBounds_toArray, List.set_cons_zero, List.set_cons_succ])
            refine wpAnyH_take (i := 6) (oi := ⟨some 71, _, _, _, _, _⟩) (v := (.int .i64 i6)) rfl (by kernel_rfl) (by kernel_rfl) (by kernel_rfl) (fun _ _ _ h => h) (Or.inl ⟨by rfl, fun W hS => by go_simp⟩) hHeld ?_
            (try simp only [Act.put, List.setIfInBounds_toArray, List.set_cons_zero, List.set_cons_succ])
            refine wpAnyH_take (i := 7) (oi := ⟨some 72, _, _, _, _, _⟩) (v := (.int .i64 y6)) rfl (by kernel_rfl) (by kernel_rfl) (by kernel_rfl) (fun _ _ _ h => h) (Or.inl ⟨by rfl, fun W hS => by go_simp⟩) hHeld ?_
            (try simp only [Act.put, List.setIfInBounds_toArray, List.set_cons_zero, List.set_cons_succ])
            refine wpAnyH_take (i := 8) (oi := ⟨some 15, _, _, _, _, _⟩) (v := (.int .i64 i6)) rfl (by kernel_rfl) (by kernel_rfl) (by kernel_rfl) (fun _ _ _ h => h) (Or.inl ⟨by rfl, fun W hS => by go_simp⟩) hHeld ?_
            (try simp only [Act.put, List.setIfInBounds_toArray, List.set_cons_zero, List.set_cons_succ])
            refine wpAnyH_take (i := 9) (oi := ⟨some 16, _, _, _, _, _⟩) (v := (.int .i64 y6)) rfl (by kernel_rfl) (by kernel_rfl) (by kernel_rfl) (fun _ _ _ h => h) (Or.inl ⟨by rfl, fun W hS => by go_simp⟩) hHeld ?_
            (try simp only [Act.put, List.setIfInBounds_toArray, List.set_cons_zero, List.set_cons_succ])
            refine wpAnyH_done (by kernel_rfl) ?_ _
            have HBV7 := Aside0.mk (below_step HBV5.out hHeld)
            have C88 := Aside0.mk (pw_cell_below hHeld C87.out)
            have C108 := Aside0.mk (pw_cell_below hHeld C107.out)
            have C148 := Aside0.mk (pw_cell_below hHeld C14.out)
            have F08 := Aside0.mk (pw_cell_below hHeld F07.out)
            have F18 := Aside0.mk (pw_cell_below hHeld F17.out)
            have HS8 := Aside0.mk (Kd.C_below HS7.out hHeld)
            have HRB8 := Aside0.mk (HRB7.out.below hHeld)
            have HM7 := Aside0.mk (HM.out.below HBV7.out)
            clear hHeld
            (try simp only [Exit.then])
            by_cases h7 : y6 = 0
            · subst h7
              rw [if_pos rfl] at hR
              have HR := Aside0.mk hR
              clear hR
              go_wp2
              go_ret
              rw [← HR.out]
              exact Out.same HM.out (HBV7.out) _
            · rw [if_neg h7] at hR
              have e7 : (y6 == 0) = false := beq_eq_false_iff_ne.2 h7
              clear h7
              obtain ⟨v7, hv7, hl7⟩ := HM7.out.2.looks HAI.out
              rw [HD.out] at hv7
              obtain ⟨A7, c7, rfl, _, _⟩ := hv7
              have HL7 := Aside0.mk (show ∀ W, Below w7.heap.size w7 W → (Instr.lookup 58 (.map (some mb)) (.int .i64 at_) false).run Tryd.prog W = .ok (.iface 81 (.slice A7 d.length c7)) W from fun W hS => hl7 W (hS.block mb HM7.out.2.lt))
              have P7 := Aside0.mk HM7.out.at_
              clear hl7
              go_wp2
              by_cases h8 : 64 ≤ n
              · rw [if_pos (.inl h8)] at hR
                have HR := Aside0.mk hR
                have HN8 := Aside0.mk (show decide ((64 : Int) ≤ n) = true from decide_eq_true h8)
                clear hR h8
                refine wp_region_held_drew (S := fun W => Below w7.heap.size w7 W) (by kernel_rfl) (below_drew (Below.refl _ _)) (fun hHeld => ?_)
                refine wpAnyH_take (i := 0) (oi := ⟨some 75, _, _, _, _, _⟩) (v := (.pointer (some ⟨W2.heap.size, 1, none⟩))) rfl (by kernel_rfl) (by kernel_rfl) (by kernel_rfl) (fun _ _ _ h => h) (Or.inl ⟨by rfl, fun W hS => by go_simp⟩) hHeld ?_
                (try simp only [Act.put, List.setIfInBounds_toArray, List.set_cons_zero, List.set_cons_succ])
                refine wpAnyH_take (i := 1) (oi := ⟨some 76, _, _, _, _, _⟩) (v := (.int .i64 n)) rfl (by kernel_rfl) (by kernel_rfl) (by kernel_rfl) (fun _ _ _ h => h) (Or.inl ⟨by rfl, fun W hS => by have cc := pw_cell_below hS F18.out; go_simp⟩) hHeld ?_
                (try simp only [Act.put, List.setIfInBounds_toArray, List.set_cons_zero, List.set_cons_succ])
                refine wpAnyH_take (i := 2) (oi := ⟨some 77, _, _, _, _, _⟩) (v := (.bool true)) rfl (by kernel_rfl) (by kernel_rfl) (by kernel_rfl) (fun _ _ _ h => h) (Or.inl ⟨by rfl, fun W hS => by have hh := HN8.out; go_simp⟩) hHeld ?_
                (try simp only [Act.put, List.setIfInBounds_toArray, List.set_cons_zero, List.set_cons_succ])
                refine wpAnyH_take (i := 3) (oi := ⟨some 78, _, _, _, _, _⟩) (v := (.bool true)) rfl (by kernel_rfl) (by kernel_rfl) (by kernel_rfl) (fun _ _ _ h => h) (Or.inl ⟨by rfl, fun W hS => by go_simp⟩) hHeld ?_
                (try simp only [Act.put, List.setIfInBounds_toArray, List.set_cons_zero, List.set_cons_succ])
                refine wpAnyH_take (i := 4) (oi := ⟨some 79, _, _, _, _, _⟩) (v := undef) rfl (by kernel_rfl) (by kernel_rfl) (by kernel_rfl) (fun _ _ _ h => h) (Or.inr ⟨by rfl, rfl⟩) hHeld ?_
                (try simp only [Act.put, List.setIfInBounds_toArray, List.set_cons_zero, List.set_cons_succ])
                refine wpAnyH_take (i := 5) (oi := ⟨some 80, _, _, _, _, _⟩) (v := undef) rfl (by kernel_rfl) (by kernel_rfl) (by kernel_rfl) (fun _ _ _ h => h) (Or.inr ⟨by rfl, rfl⟩) hHeld ?_
                (try simp only [Act.put, List.setIfInBounds_toArray, List.set_cons_zero, List.set_cons_succ])
                refine wpAnyH_take (i := 6) (oi := ⟨some 81, _, _, _, _, _⟩) (v := undef) rfl (by kernel_rfl) (by kernel_rfl) (by kernel_rfl) (fun _ _ _ h => h) (Or.inr ⟨by rfl, rfl⟩) hHeld ?_
                (try simp only [Act.put, List.setIfInBounds_toArray, List.set_cons_zero, List.set_cons_succ])
                refine wpAnyH_take (i := 7) (oi := ⟨some 82, _, _, _, _, _⟩) (v := undef) rfl (by kernel_rfl) (by kernel_rfl) (by kernel_rfl) (fun _ _ _ h => h) (Or.inr ⟨by rfl, rfl⟩) hHeld ?_
                (try simp only [Act.put, List.setIfInBounds_toArray, List.set_cons_zero, List.set_cons_succ])
                refine wpAnyH_take (i := 8) (oi := ⟨some 83, _, _, _, _, _⟩) (v := undef) rfl (by kernel_rfl) (by kernel_rfl) (by kernel_rfl) (fun _ _ _ h => h) (Or.inr ⟨by rfl, rfl⟩) hHeld ?_
                (try simp only [Act.put, List.setIfInBounds_toArray, List.set_cons_zero, List.set_cons_succ])
                refine wpAnyH_take (i := 9) (oi := ⟨some 84, _, _, _, _, _⟩) (v := undef) rfl (by kernel_rfl) (by kernel_rfl) (by kernel_rfl) (fun _ _ _ h => h) (Or.inr ⟨by rfl, rfl⟩) hHeld ?_
                (try simp only [Act.put, List.setIfInBounds_toArray, List.set_cons_zero, List.set_cons_succ])
                refine wpAnyH_take (i := 10) (oi := ⟨some 85, _, _, _, _, _⟩) (v := undef) rfl (by kernel_rfl) (by kernel_rfl) (by kernel_rfl) (fun _ _ _ h => h) (Or.inr ⟨by rfl, rfl⟩) hHeld ?_
                (try simp only [Act.put, List.setIfInBounds_toArray, List.set_cons_zero, List.set_cons_succ])
                refine wpAnyH_take (i := 11) (oi := ⟨some 86, _, _, _, _, _⟩) (v := undef) rfl (by kernel_rfl) (by kernel_rfl) (by kernel_rfl) (fun _ _ _ h => h) (Or.inr ⟨by rfl, rfl⟩) hHeld ?_
                (try simp only [Act.put, List.setIfInBounds_toArray, List.set_cons_zero, List.set_cons_succ])
                refine wpAnyH_take (i := 12) (oi := ⟨some 87, _, _, _, _, _⟩) (v := undef) rfl (by kernel_rfl) (by kernel_rfl) (by kernel_rfl) (fun _ _ _ h => h) (Or.inr ⟨by rfl, rfl⟩) hHeld ?_
                (try simp only [Act.put, List.setIfInBounds_toArray, List.set_cons_zero, List.set_cons_succ])
                refine wpAnyH_take (i := 13) (oi := ⟨some 88, _, _, _, _, _⟩) (v := (.bool true)) rfl (by kernel_rfl) (by kernel_rfl) (by kernel_rfl) (fun _ _ _ h => h) (Or.inl ⟨by rfl, fun W hS => by go_simp⟩) hHeld ?_
                (try simp only [Act.put, List.setIfInBounds_toArray, List.set_cons_zero, List.set_cons_succ])
                refine wpAnyH_done (by kernel_rfl) ?_ _
                have HB8 := Aside0.mk (below_step HBV7.out hHeld)
                clear hHeld
                (try simp only [Exit.then])
                go_wp2
                go_ret
                rw [← HR.out]
                exact Out.same HM.out (HB8.out) _
              · have HN8 := Aside0.mk (show decide ((64 : Int) ≤ n) = false from decide_eq_false h8)
                obtain ⟨b64, hb64⟩ : ∃ b, decide ((64 : Int) ≤ (d.length : Int)) = b := ⟨_, rfl⟩
                have HB64 := Aside0.mk hb64
                clear hb64
                refine wp_region_held_drew (S := fun W => Below w7.heap.size w7 W) (by kernel_rfl) (below_drew (Below.refl _ _)) (fun hHeld => ?_)
                refine wpAnyH_take (i := 0) (oi := ⟨some 75, _, _, _, _, _⟩) (v := (.pointer (some ⟨W2.heap.size, 1, none⟩))) rfl (by kernel_rfl) (by kernel_rfl) (by kernel_rfl) (fun _ _ _ h => h) (Or.inl ⟨by rfl, fun W hS => by go_simp⟩) hHeld ?_
                (try simp only [Act.put, List.setIfInBounds_toArray, List.set_cons_zero, List.set_cons_succ])
                refine wpAnyH_take (i := 1) (oi := ⟨some 76, _, _, _, _, _⟩) (v := (.int .i64 n)) rfl (by kernel_rfl) (by kernel_rfl) (by kernel_rfl) (fun _ _ _ h => h) (Or.inl ⟨by rfl, fun W hS => by have cc := pw_cell_below hS F18.out; go_simp⟩) hHeld ?_
                (try simp only [Act.put, List.setIfInBounds_toArray, List.set_cons_zero, List.set_cons_succ])
                refine wpAnyH_take (i := 2) (oi := ⟨some 77, _, _, _, _, _⟩) (v := (.bool false)) rfl (by kernel_rfl) (by kernel_rfl) (by kernel_rfl) (fun _ _ _ h => h) (Or.inl ⟨by rfl, fun W hS => by have hh := HN8.out; go_simp⟩) hHeld ?_
                (try simp only [Act.put, List.setIfInBounds_toArray, List.set_cons_zero, List.set_cons_succ])
                refine wpAnyH_take (i := 3) (oi := ⟨some 78, _, _, _, _, _⟩) (v := (.bool false)) rfl (by kernel_rfl) (by kernel_rfl) (by kernel_rfl) (fun _ _ _ h => h) (Or.inl ⟨by rfl, fun W hS => by go_simp⟩) hHeld ?_
                (try simp only [Act.put, List.setIfInBounds_toArray, List.set_cons_zero, List.set_cons_succ])
                refine wpAnyH_take (i := 4) (oi := ⟨some 79, _, _, _, _, _⟩) (v := (mp pb)) rfl (by kernel_rfl) (by kernel_rfl) (by kernel_rfl) (fun _ _ _ h => h) (Or.inl ⟨by rfl, fun W hS => by go_simp⟩) hHeld ?_
                (try simp only [Act.put, List.setIfInBounds_toArray, List.set_cons_zero, List.set_cons_succ])
                refine wpAnyH_take (i := 5) (oi := ⟨some 80, _, _, _, _, _⟩) (v := (mp pb)) rfl (by kernel_rfl) (by kernel_rfl) (by kernel_rfl) (fun _ _ _ h => h) (Or.inl ⟨by rfl, fun W hS => by go_simp⟩) hHeld ?_
                (try simp only [Act.put, List.setIfInBounds_toArray, List.set_cons_zero, List.set_cons_succ])
                refine wpAnyH_take (i := 6) (oi := ⟨some 81, _, _, _, _, _⟩) (v := (.pointer (some ⟨pb, 1, none⟩))) rfl (by kernel_rfl) (by kernel_rfl) (by kernel_rfl) (fun _ _ _ h => h) (Or.inl ⟨by rfl, fun W hS => by go_simp⟩) hHeld ?_
                (try simp only [Act.put, List.setIfInBounds_toArray, List.set_cons_zero, List.set_cons_succ])
                refine wpAnyH_take (i := 7) (oi := ⟨some 82, _, _, _, _, _⟩) (v := (.map (some mb))) rfl (by kernel_rfl) (by kernel_rfl) (by kernel_rfl) (fun _ _ _ h => h) (Or.inl ⟨by rfl, fun W hS => by have cc := pw_cell_below hS P7.out; go_simp⟩) hHeld ?_
                (try simp only [Act.put, List.setIfInBounds_toArray, List.set_cons_zero, List.set_cons_succ])
                refine wpAnyH_take (i := 8) (oi := ⟨some 83, _, _, _, _, _⟩) (v := (.int .i64 at_)) rfl (by kernel_rfl) (by kernel_rfl) (by kernel_rfl) (fun _ _ _ h => h) (Or.inl ⟨by rfl, fun W hS => by have cc := pw_cell_below hS C148.out; go_simp⟩) hHeld ?_
                (try simp only [Act.put, List.setIfInBounds_toArray, List.set_cons_zero, List.set_cons_succ])
                refine wpAnyH_take (i := 9) (oi := ⟨some 84, _, _, _, _, _⟩) (v := (.iface 81 (.slice A7 d.length c7))) rfl (by kernel_rfl) (by kernel_rfl) (by kernel_rfl) (fun _ _ _ h => h) (Or.inl ⟨by rfl, fun W hS => by have hl := HL7.out W hS; go_simp⟩) hHeld ?_
                (try simp only [Act.put, List.setIfInBounds_toArray, List.set_cons_zero, List.set_cons_succ])
                refine wpAnyH_take (i := 10) (oi := ⟨some 85, _, _, _, _, _⟩) (v := (.slice A7 d.length c7)) rfl (by kernel_rfl) (by kernel_rfl) (by kernel_rfl) (fun _ _ _ h => h) (Or.inl ⟨by rfl, fun W hS => by go_simp⟩) hHeld ?_
                (try simp only [Act.put, List.setIfInBounds_toArray, List.set_cons_zero, List.set_cons_succ])
                refine wpAnyH_take (i := 11) (oi := ⟨some 86, _, _, _, _, _⟩) (v := (.int .i64 d.length)) rfl (by kernel_rfl) (by kernel_rfl) (by kernel_rfl) (fun _ _ _ h => h) (Or.inl ⟨by rfl, fun W hS => by go_simp⟩) hHeld ?_
                (try simp only [Act.put, List.setIfInBounds_toArray, List.set_cons_zero, List.set_cons_succ])
                refine wpAnyH_take (i := 12) (oi := ⟨some 87, _, _, _, _, _⟩) (v := (.bool b64)) rfl (by kernel_rfl) (by kernel_rfl) (by kernel_rfl) (fun _ _ _ h => h) (Or.inl ⟨by rfl, fun W hS => by have hb := HB64.out; go_simp⟩) hHeld ?_
                (try simp only [Act.put, List.setIfInBounds_toArray, List.set_cons_zero, List.set_cons_succ])
                refine wpAnyH_take (i := 13) (oi := ⟨some 88, _, _, _, _, _⟩) (v := (.bool b64)) rfl (by kernel_rfl) (by kernel_rfl) (by kernel_rfl) (fun _ _ _ h => h) (Or.inl ⟨by rfl, fun W hS => by go_simp⟩) hHeld ?_
                (try simp only [Act.put, List.setIfInBounds_toArray, List.set_cons_zero, List.set_cons_succ])
                refine wpAnyH_done (by kernel_rfl) ?_ _
                have HB8 := Aside0.mk (below_step HBV7.out hHeld)
                have C89 := Aside0.mk (pw_cell_below hHeld C88.out)
                have C109 := Aside0.mk (pw_cell_below hHeld C108.out)
                have C149 := Aside0.mk (pw_cell_below hHeld C148.out)
                have F09 := Aside0.mk (pw_cell_below hHeld F08.out)
                have F19 := Aside0.mk (pw_cell_below hHeld F18.out)
                have HS9 := Aside0.mk (Kd.C_below HS8.out hHeld)
                have HRB9 := Aside0.mk (HRB8.out.below hHeld)
                clear hHeld
                (try simp only [Exit.then])
                cases b64 with
                | true =>
                  rw [if_pos (.inr (by have := of_decide_eq_true HB64.out; omega))] at hR
                  have HR := Aside0.mk hR
                  clear hR h8
                  go_wp2
                  go_ret
                  rw [← HR.out]
                  exact Out.same HM.out (HB8.out) _
                | false =>
                  rw [if_neg (fun h => by have := of_decide_eq_false HB64.out; rcases h with h | h <;> omega)] at hR
                  have HRR := Aside0.mk (show tryR q T (upd (upd T ino (some (.file b (n + 1)))) at_ (some (.dir (insR d ⟨ino, lastS L⟩).1))) = R by rw [HNE.out]; exact hR)
                  have HN1 := Aside0.mk (show n + 1 ≤ 64 by omega)
                  have HO1 := Aside0.mk (HO.out.upd (k := ino) (o := some (.file b (n + 1))) (fun l e => nomatch (Option.some.inj e)) (fun b' n' e => by obtain ⟨rfl, rfl⟩ := Nd.file.inj (Option.some.inj e); have h1 := HFB.out; have h2 := HN1.out; exact ⟨h1.1, by omega, h2⟩))
                  have HD1 := Aside0.mk (show upd T ino (some (.file b (n + 1))) at_ = some (.dir d) by
                    rw [upd_other _ _ (fun e => by have h := HD.out; rw [e, HTI.out] at h; cases h)]; exact HD.out)
                  have HFN := Aside0.mk (show Ok (upd (upd T ino (some (.file b (n + 1)))) at_ (some (.dir (insR d ⟨ino, lastS L⟩).1))) from HO1.out.upd (fun l e => by
                    have e : (insR d ⟨ino, lastS L⟩).1 = l := Nd.dir.inj (Option.some.inj e)
                    rw [← e]; exact insR_may (HO.out.dirs _ _ HD.out) _) (fun b n e => nomatch (Option.some.inj e)))
                  have HOF := Aside0.mk (fun (W : World) (pb' mb' : Nat) (hB : Below w7.drew.heap.size w7.drew W) (hM : Mdl W pb' mb' q T) (_ : w7.drew.heap.size ≤ pb') (_ : w7.drew.heap.size ≤ mb') => link_clo hM W2.heap.size ⟨w2.heap.size, 0, none⟩ ⟨w5.heap.size, 0, none⟩ ⟨w1.heap.size, 0, none⟩ B cb b n ino at_ A c L d (pw_cell_below hB F09.out) (pw_cell_below hB F19.out) (pw_cell_below hB C109.out) (pw_cell_below hB C149.out) (pw_cell_below hB C89.out) (HRB9.out.below hB) HCB.out HFB.out.2 HIK.out HO1.out HD1.out (Kd.C_below HS9.out hB) HC1.out HL0.out HL1.out (by rw [HNE.out]; exact HNM.out) (Utf8Tabs_below HT.out (below_step HB8.out hB)))
                  clear hR h8
                  go_wp2_with (first
                    | (go_at_call 42; refine Calls.mono (try_link (.pointer (some ⟨W2.heap.size, 0, none⟩)) (.pointer (some ⟨w2.heap.size, 0, none⟩)) (.pointer (some ⟨w5.heap.size, 0, none⟩)) (.pointer (some ⟨w1.heap.size, 0, none⟩)) (HM.out.below HB8.out) HFN.out HOF.out) ?_; rw [HRR.out]; rintro e w9 ⟨mb', hmb, rfl, hm, ht⟩; have HFIN := Aside0.mk ((Out.mk_ hmb hm ht).lift HB8.out); clear hm ht hmb))
                  go_ret
                  exact HFIN.out
          · rw [if_pos h5] at hR
            have HR := Aside0.mk hR
            have e5 : (y3 == 0) = false := beq_eq_false_iff_ne.2 h5
            have e5' : (y3 != 0) = true := by simp [h5]
            clear hR h5 hup
            go_enter Tryd.func17, Tryd.ntmps17
            go_wp2_with (first
              | (have hz := HBV.out; clear hz; go_at_call 24; rw [← HW1.out]; refine Calls.mono (find_in (HM.out.below HBV.out) HO.out A0 c0 X HS0.out HC0.out HNX.out HLX.out) ?_; rw [HY2.out, HI2.out]; rintro e w2 ⟨rfl, hb⟩; have HB2 := Aside0.mk (below_step HBV.out hb); have C82 := Aside0.mk (pw_cell_below hb C8.out); have HS2 := Aside0.mk (Kd.C_below HS1.out hb); clear hb)
              | (go_at_call 39; refine Calls.mono HOKK.out ?_; rintro e w1 ⟨A0, c0, A, c, rfl, hs0, hc0, hs, hc, hb⟩; have HB1 := Aside0.mk hb; have HC1 := Aside0.mk hc; obtain ⟨W1, hW1⟩ : ∃ W1, W1 = w1.alloc (.cells #[.slice A L.length c] 50) := ⟨_, rfl⟩; have HW1 := Aside0.mk hW1; have hbw := (show Below w1.heap.size w1 W1 by rw [hW1]; exact below_alloc (Below.refl _ _) _); have HBV := Aside0.mk (below_step HB1.out hbw); have HS0 := Aside0.mk (Kd.C_below hs0 hbw); have HC0 := Aside0.mk hc0; have HS1 := Aside0.mk (Kd.C_below hs hbw); have C8 := Aside0.mk (show W1.cell? ⟨w1.heap.size, 0, none⟩ = some (.slice A L.length c) by rw [hW1]; exact cell_new1 _ _ _); clear hb hs0 hc0 hs hc hW1 hbw))
            obtain ⟨W2, hW2⟩ : ∃ W2, W2 = w2.alloc (.cells #[.int .i64 ino] 3) := ⟨_, rfl⟩
            have hbw := (show Below w2.heap.size w2 W2 by rw [hW2]; exact below_alloc (Below.refl _ _) _)
            have HBV2 := Aside0.mk (below_step HB2.out hbw)
            have C10 := Aside0.mk (show W2.cell? ⟨w2.heap.size, 0, none⟩ = some (.int .i64 ino) by rw [hW2]; exact cell_new1 _ _ _)
            have C83 := Aside0.mk (pw_cell_below hbw C82.out)
            have HS3 := Aside0.mk (Kd.C_below HS2.out hbw)
            have HM2 := Aside0.mk (HM.out.below HBV2.out)
            have P2 := Aside0.mk HM2.out.at_
            rw [← hW2]
            have HX2 := Aside0.mk hW2
            clear hW2 hbw
            obtain ⟨v, hv, hl⟩ := HM2.out.2.looks HIN.out
            rw [HTI.out] at hv
            obtain ⟨B, cb, rfl, hrb, hcb⟩ := hv
            have HL2 := Aside0.mk (show ∀ W, Below W2.heap.size W2 W → (Instr.lookup 58 (.map (some mb)) (.int .i64 ino) false).run Tryd.prog W = .ok (.iface 62 (.agg #[.slice B b.length cb, .int .i64 n])) W ∧ (Instr.typeAssert (.iface 62 (.agg #[.slice B b.length cb, .int .i64 n])) 57 62 true).run Tryd.prog W = .ok (.tuple #[.agg #[.slice B b.length cb, .int .i64 n], .bool true]) W from fun W hS => ⟨hl W (hS.block mb HM2.out.2.lt), as62_62 _ _⟩)
            have HRB := Aside0.mk hrb
            have HCB := Aside0.mk hcb
            clear hl hrb hcb
            refine wp_region_held_drew (S := fun W => Below W2.heap.size W2 W) (by kernel_rfl) (below_drew (Below.refl _ _)) (fun hHeld => ?_)
            refine wpAnyH_take (i := 0) (oi := ⟨some 38, _, _, _, _, _⟩) (v := (mp pb)) rfl (by kernel_rfl) (by kernel_rfl) (by kernel_rfl) (fun _ _ _ h => h) (Or.inl ⟨by rfl, fun W hS => by go_simp⟩) hHeld ?_
            (try simp only [Act.put, List.setIfInBounds_toArray, List.set_cons_zero, List.set_cons_succ])
            refine wpAnyH_take (i := 1) (oi := ⟨some 39, _, _, _, _, _⟩) (v := (mp pb)) rfl (by kernel_rfl) (by kernel_rfl) (by kernel_rfl) (fun _ _ _ h => h) (Or.inl ⟨by rfl, fun W hS => by go_simp⟩) hHeld ?_
            (try simp only [Act.put, List.setIfInBounds_toArray, List.set_cons_zero, List.set_cons_succ])
            refine wpAnyH_take (i := 2) (oi := ⟨some 40, _, _, _, _, _⟩) (v := (.pointer (some ⟨pb, 1, none⟩))) rfl (by kernel_rfl) (by kernel_rfl) (by kernel_rfl) (fun _ _ _ h => h) (Or.inl ⟨by rfl, fun W hS => by go_simp⟩) hHeld ?_
            (try simp only [Act.put, List.setIfInBounds_toArray, List.set_cons_zero, List.set_cons_succ])
            refine wpAnyH_take (i := 3) (oi := ⟨some 41, _, _, _, _, _⟩) (v := (.map (some mb))) rfl (by kernel_rfl) (by kernel_rfl) (by kernel_rfl) (fun _ _ _ h => h) (Or.inl ⟨by rfl, fun W hS => by have cc := pw_cell_below hS P2.out; go_simp⟩) hHeld ?_
            (try simp only [Act.put, List.setIfInBounds_toArray, List.set_cons_zero, List.set_cons_succ])
            refine wpAnyH_take (i := 4) (oi := ⟨some 42, _, _, _, _, _⟩) (v := (.int .i64 ino)) rfl (by kernel_rfl) (by kernel_rfl) (by kernel_rfl) (fun _ _ _ h => h) (Or.inl ⟨by rfl, fun W hS => by have cc := pw_cell_below hS C10.out; go_simp⟩) hHeld ?_
            (try simp only [Act.put, List.setIfInBounds_toArray, List.set_cons_zero, List.set_cons_succ])
            refine wpAnyH_take (i := 5) (oi := ⟨some 43, _, _, _, _, _⟩) (v := (.iface 62 (.agg #[.slice B b.length cb, .int .i64 n]))) rfl (by kernel_rfl) (by kernel_rfl) (by kernel_rfl) (fun _ _ _ h => h) (Or.inl ⟨by rfl, fun W hS => by have hl := (HL2.out W hS).1; go_simp⟩) hHeld ?_
            (try simp only [Act.put, List.setIfInBounds_toArray, List.set_cons_zero, List.set_cons_succ])
            refine wpAnyH_take (i := 6) (oi := ⟨some 44, _, _, _, _, _⟩) (v := (.tuple #[.agg #[.slice B b.length cb, .int .i64 n], .bool true])) rfl (by kernel_rfl) (by kernel_rfl) (by kernel_rfl) (fun _ _ _ h => h) (Or.inl ⟨by rfl, fun W hS => by have hl := (HL2.out W hS).2; go_simp⟩) hHeld ?_
            (try simp only [Act.put, List.setIfInBounds_toArray, List.set_cons_zero, List.set_cons_succ])
            refine wpAnyH_take (i := 7) (oi := ⟨some 37, _, _, _, _, _⟩) (v := (.tuple #[.agg #[.slice B b.length cb, .int .i64 n], .bool true])) rfl (by kernel_rfl) (by kernel_rfl) (by kernel_rfl) (fun _ _ _ h => h) (Or.inl ⟨by rfl, fun W hS => by go_simp⟩) hHeld ?_
            (try simp only [Act.put, List.setIfInBounds_toArray, List.set_cons_zero, List.set_cons_succ])
            refine wpAnyH_take (i := 8) (oi := ⟨some 45, _, _, _, _, _⟩) (v := (.agg #[.slice B b.length cb, .int .i64 n])) rfl (by kernel_rfl) (by kernel_rfl) (by kernel_rfl) (fun _ _ _ h => h) (Or.inl ⟨by rfl, fun W hS => by go_simp⟩) hHeld ?_
            (try simp only [Act.put, List.setIfInBounds_toArray, List.set_cons_zero, List.set_cons_succ])
            refine wpAnyH_take (i := 9) (oi := ⟨some 46, _, _, _, _, _⟩) (v := (.bool true)) rfl (by kernel_rfl) (by kernel_rfl) (by kernel_rfl) (fun _ _ _ h => h) (Or.inl ⟨by rfl, fun W hS => by go_simp⟩) hHeld ?_
            (try simp only [Act.put, List.setIfInBounds_toArray, List.set_cons_zero, List.set_cons_succ])
            refine wpAnyH_ready (rs := [10]) (by kernel_rfl) (by simp) ?_
            refine AllReadyH.cons rfl (fun K hK => ?_) AllReadyH.nil
            go_simp
            refine hK.out _ _ (below_drew (below_alloc (Below.refl W2.heap.size W2) (.cells #[.slice none 0 0, .int .i64 0] 62))) (fun hH => ?_)
            obtain ⟨Wa, hWa⟩ : ∃ Wa, Wa = (W2.alloc (.cells #[.slice none 0 0, .int .i64 0] 62)).drew := ⟨_, rfl⟩
            have BWa := Aside0.mk (show Wa.heap[W2.heap.size]? = some (.cells #[.slice none 0 0, .int .i64 0] 62 (0, 0)) by rw [hWa]; exact heap_new W2 _)
            have hHa := (show Below W2.heap.size W2 Wa by rw [hWa]; exact hH)
            rw [← hWa]
            clear hK K hHeld hWa hH
            have hHeld := hHa
            clear hHa
            (try simp only [Act.put, List.setIfInBounds_toArray, List.set_cons_zero, List.set_cons_succ])
            refine wpAnyH_ready (rs := [11]) (by kernel_rfl) (by simp) ?_
            refine AllReadyH.cons rfl (fun K hK => ?_) AllReadyH.nil
            refine wp_store_row 62 _ _ rfl W2.heap.size (#[.slice B b.length cb, .int .i64 n]) rfl rfl 62 _ BWa.out size62 rfl (all62 _ _ _ _) ?_
            obtain ⟨W3, hW3⟩ : ∃ W3, W3 = Wa.setRow W2.heap.size (#[.slice B b.length cb, .int .i64 n]) := ⟨_, rfl⟩
            have HG3 := Aside0.mk (show W3.heap[W2.heap.size]? = some (.cells (#[.slice B b.length cb, .int .i64 n]) 62 (0, 0)) by rw [hW3]; exact setRow_heap Wa W2.heap.size _ (#[.slice B b.length cb, .int .i64 n]) 62 (0, 0) BWa.out)
            have HGR := Aside0.mk (show Wa.grownBy W3 (some W2.heap.size) by rw [hW3]; exact grown_setRow _ _ _)
            rw [← hW3]
            refine hK.out _ _ (Below.grown hHeld HGR.out hHeld.size (fun k e => by cases e; exact Nat.le_refl _)) (fun hH => ?_)
            clear hK K hHeld hW3
            have hHeld := hH
            clear hH
            (try simp only [Act.put, List.setIfInBounds_toArray, List.set_cons_zero, List.set_cons_succ])
            refine wpAnyH_take (i := 12) (oi := ⟨some 12, _, _, _, _, _⟩) (v := (.bool true)) rfl (by kernel_rfl) (by kernel_rfl) (by kernel_rfl) (fun _ _ _ h => h) (Or.inl ⟨by rfl, fun W hS => by go_simp⟩) hHeld ?_
            (try simp only [Act.put, List.setIfInBounds_toArray, List.set_cons_zero, List.set_cons_succ])
            refine wpAnyH_done (by kernel_rfl) ?_ _
            have HBV3 := Aside0.mk (below_step HBV2.out hHeld)
            have C84 := Aside0.mk (pw_cell_below hHeld C83.out)
            have C104 := Aside0.mk (pw_cell_below hHeld C10.out)
            have HS4 := Aside0.mk (Kd.C_below HS3.out hHeld)
            have HRB4 := Aside0.mk (HRB.out.below hHeld)
            have F0 := Aside0.mk (show W3.cell? ⟨W2.heap.size, 0, none⟩ = some (.slice B b.length cb) by simp [World.cell?, HG3.out])
            have F1 := Aside0.mk (show W3.cell? ⟨W2.heap.size, 1, none⟩ = some (.int .i64 n) by simp [World.cell?, HG3.out])
            clear hHeld
            (try simp only [Exit.then])
            have c8 := C84.out
            go_wp2_with (first
              | (have hz := HBV3.out; clear hz; go_at_call 40; refine Calls.mono (up_any (HM.out.below HBV3.out) HO.out A c L HS4.out HC1.out HNS.out HL1.out HL0.out) ?_; rw [HY3.out, HWY.out]; rintro e w4 ⟨A4, c4, rfl, hr4, hc4, hb⟩; have HB4 := Aside0.mk (below_step HBV3.out hb); have C85 := Aside0.mk (pw_cell_below hb C84.out); have C105 := Aside0.mk (pw_cell_below hb C104.out); have F05 := Aside0.mk (pw_cell_below hb F0.out); have F15 := Aside0.mk (pw_cell_below hb F1.out); have HR4 := Aside0.mk hr4; have HC4 := Aside0.mk hc4; have HS5 := Aside0.mk (Kd.C_below HS4.out hb); have HRB5 := Aside0.mk (HRB4.out.below hb); clear hb hr4 hc4))
            go_ret
            rw [← HR.out]
            exact Out.same HM.out (HB4.out) _
      · have HR := Aside0.mk hRR
        have HVV := Aside0.mk hvv
        clear hR hRR hvv hval hL3
        go_enter Tryd.func17, Tryd.ntmps17
        go_wp2_with (first
          | (have hz := HBV.out; clear hz; go_at_call 24; rw [← HW1.out]; refine Calls.mono (find_in (HM.out.below HBV.out) HO.out A0 c0 X HS0.out HC0.out HNX.out HLX.out) ?_; rw [HY2.out, HI2.out]; rintro e w2 ⟨rfl, hb⟩; have HB2 := Aside0.mk (below_step HBV.out hb); have C82 := Aside0.mk (pw_cell_below hb C8.out); have HS2 := Aside0.mk (Kd.C_below HS1.out hb); clear hb)
          | (go_at_call 39; refine Calls.mono HOKK.out ?_; rintro e w1 ⟨A0, c0, A, c, rfl, hs0, hc0, hs, hc, hb⟩; have HB1 := Aside0.mk hb; have HC1 := Aside0.mk hc; obtain ⟨W1, hW1⟩ : ∃ W1, W1 = w1.alloc (.cells #[.slice A L.length c] 50) := ⟨_, rfl⟩; have HW1 := Aside0.mk hW1; have hbw := (show Below w1.heap.size w1 W1 by rw [hW1]; exact below_alloc (Below.refl _ _) _); have HBV := Aside0.mk (below_step HB1.out hbw); have HS0 := Aside0.mk (Kd.C_below hs0 hbw); have HC0 := Aside0.mk hc0; have HS1 := Aside0.mk (Kd.C_below hs hbw); have C8 := Aside0.mk (show W1.cell? ⟨w1.heap.size, 0, none⟩ = some (.slice A L.length c) by rw [hW1]; exact cell_new1 _ _ _); clear hb hs0 hc0 hs hc hW1 hbw))
        obtain ⟨W2, hW2⟩ : ∃ W2, W2 = w2.alloc (.cells #[.int .i64 ino] 3) := ⟨_, rfl⟩
        have hbw := (show Below w2.heap.size w2 W2 by rw [hW2]; exact below_alloc (Below.refl _ _) _)
        have HBV2 := Aside0.mk (below_step HB2.out hbw)
        have C10 := Aside0.mk (show W2.cell? ⟨w2.heap.size, 0, none⟩ = some (.int .i64 ino) by rw [hW2]; exact cell_new1 _ _ _)
        have C83 := Aside0.mk (pw_cell_below hbw C82.out)
        have HS3 := Aside0.mk (Kd.C_below HS2.out hbw)
        have HM2 := Aside0.mk (HM.out.below HBV2.out)
        have P2 := Aside0.mk HM2.out.at_
        rw [← hW2]
        have HX2 := Aside0.mk hW2
        clear hW2 hbw
        obtain ⟨v, hv, hl⟩ := HM2.out.2.looks HIN.out
        have HL2 := Aside0.mk (show ∀ W, Below W2.heap.size W2 W → (Instr.lookup 58 (.map (some mb)) (.int .i64 ino) false).run Tryd.prog W = .ok v W ∧ (Instr.typeAssert v 57 62 true).run Tryd.prog W = .ok (.tuple #[.agg #[.slice none 0 0, .int .i64 0], .bool false]) W from fun W hS => ⟨hl W (hS.block mb HM2.out.2.lt), by
          rcases HVV.out _ v hv with rfl | ⟨u, rfl⟩
          · exact as62_nil W
          · exact as62_81 u W⟩)
        clear hl hv
        refine wp_region_held_drew (S := fun W => Below W2.heap.size W2 W) (by kernel_rfl) (below_drew (Below.refl _ _)) (fun hHeld => ?_)
        refine wpAnyH_take (i := 0) (oi := ⟨some 38, _, _, _, _, _⟩) (v := (mp pb)) rfl (by kernel_rfl) (by kernel_rfl) (by kernel_rfl) (fun _ _ _ h => h) (Or.inl ⟨by rfl, fun W hS => by go_simp⟩) hHeld ?_
        (try simp only [Act.put, List.setIfInBounds_toArray, List.set_cons_zero, List.set_cons_succ])
        refine wpAnyH_take (i := 1) (oi := ⟨some 39, _, _, _, _, _⟩) (v := (mp pb)) rfl (by kernel_rfl) (by kernel_rfl) (by kernel_rfl) (fun _ _ _ h => h) (Or.inl ⟨by rfl, fun W hS => by go_simp⟩) hHeld ?_
        (try simp only [Act.put, List.setIfInBounds_toArray, List.set_cons_zero, List.set_cons_succ])
        refine wpAnyH_take (i := 2) (oi := ⟨some 40, _, _, _, _, _⟩) (v := (.pointer (some ⟨pb, 1, none⟩))) rfl (by kernel_rfl) (by kernel_rfl) (by kernel_rfl) (fun _ _ _ h => h) (Or.inl ⟨by rfl, fun W hS => by go_simp⟩) hHeld ?_
        (try simp only [Act.put, List.setIfInBounds_toArray, List.set_cons_zero, List.set_cons_succ])
        refine wpAnyH_take (i := 3) (oi := ⟨some 41, _, _, _, _, _⟩) (v := (.map (some mb))) rfl (by kernel_rfl) (by kernel_rfl) (by kernel_rfl) (fun _ _ _ h => h) (Or.inl ⟨by rfl, fun W hS => by have cc := pw_cell_below hS P2.out; go_simp⟩) hHeld ?_
        (try simp only [Act.put, List.setIfInBounds_toArray, List.set_cons_zero, List.set_cons_succ])
        refine wpAnyH_take (i := 4) (oi := ⟨some 42, _, _, _, _, _⟩) (v := (.int .i64 ino)) rfl (by kernel_rfl) (by kernel_rfl) (by kernel_rfl) (fun _ _ _ h => h) (Or.inl ⟨by rfl, fun W hS => by have cc := pw_cell_below hS C10.out; go_simp⟩) hHeld ?_
        (try simp only [Act.put, List.setIfInBounds_toArray, List.set_cons_zero, List.set_cons_succ])
        refine wpAnyH_take (i := 5) (oi := ⟨some 43, _, _, _, _, _⟩) (v := (v)) rfl (by kernel_rfl) (by kernel_rfl) (by kernel_rfl) (fun _ _ _ h => h) (Or.inl ⟨by rfl, fun W hS => by have hl := (HL2.out W hS).1; go_simp⟩) hHeld ?_
        (try simp only [Act.put, List.setIfInBounds_toArray, List.set_cons_zero, List.set_cons_succ])
        refine wpAnyH_take (i := 6) (oi := ⟨some 44, _, _, _, _, _⟩) (v := (.tuple #[.agg #[.slice none 0 0, .int .i64 0], .bool false])) rfl (by kernel_rfl) (by kernel_rfl) (by kernel_rfl) (fun _ _ _ h => h) (Or.inl ⟨by rfl, fun W hS => by have hl := (HL2.out W hS).2; go_simp⟩) hHeld ?_
        (try simp only [Act.put, List.setIfInBounds_toArray, List.set_cons_zero, List.set_cons_succ])
        refine wpAnyH_take (i := 7) (oi := ⟨some 37, _, _, _, _, _⟩) (v := (.tuple #[.agg #[.slice none 0 0, .int .i64 0], .bool false])) rfl (by kernel_rfl) (by kernel_rfl) (by kernel_rfl) (fun _ _ _ h => h) (Or.inl ⟨by rfl, fun W hS => by go_simp⟩) hHeld ?_
        (try simp only [Act.put, List.setIfInBounds_toArray, List.set_cons_zero, List.set_cons_succ])
        refine wpAnyH_take (i := 8) (oi := ⟨some 45, _, _, _, _, _⟩) (v := (.agg #[.slice none 0 0, .int .i64 0])) rfl (by kernel_rfl) (by kernel_rfl) (by kernel_rfl) (fun _ _ _ h => h) (Or.inl ⟨by rfl, fun W hS => by go_simp⟩) hHeld ?_
        (try simp only [Act.put, List.setIfInBounds_toArray, List.set_cons_zero, List.set_cons_succ])
        refine wpAnyH_take (i := 9) (oi := ⟨some 46, _, _, _, _, _⟩) (v := (.bool false)) rfl (by kernel_rfl) (by kernel_rfl) (by kernel_rfl) (fun _ _ _ h => h) (Or.inl ⟨by rfl, fun W hS => by go_simp⟩) hHeld ?_
        (try simp only [Act.put, List.setIfInBounds_toArray, List.set_cons_zero, List.set_cons_succ])
        refine wpAnyH_ready (rs := [10]) (by kernel_rfl) (by simp) ?_
        refine AllReadyH.cons rfl (fun K hK => ?_) AllReadyH.nil
        go_simp
        refine hK.out _ _ (below_drew (below_alloc (Below.refl W2.heap.size W2) (.cells #[.slice none 0 0, .int .i64 0] 62))) (fun hH => ?_)
        obtain ⟨Wa, hWa⟩ : ∃ Wa, Wa = (W2.alloc (.cells #[.slice none 0 0, .int .i64 0] 62)).drew := ⟨_, rfl⟩
        have BWa := Aside0.mk (show Wa.heap[W2.heap.size]? = some (.cells #[.slice none 0 0, .int .i64 0] 62 (0, 0)) by rw [hWa]; exact heap_new W2 _)
        have hHa := (show Below W2.heap.size W2 Wa by rw [hWa]; exact hH)
        rw [← hWa]
        clear hK K hHeld hWa hH
        have hHeld := hHa
        clear hHa
        (try simp only [Act.put, List.setIfInBounds_toArray, List.set_cons_zero, List.set_cons_succ])
        refine wpAnyH_ready (rs := [11]) (by kernel_rfl) (by simp) ?_
        refine AllReadyH.cons rfl (fun K hK => ?_) AllReadyH.nil
        refine wp_store_row 62 _ _ rfl W2.heap.size (#[.slice none 0 0, .int .i64 0]) rfl rfl 62 _ BWa.out size62 rfl (all62 _ _ _ _) ?_
        obtain ⟨W3, hW3⟩ : ∃ W3, W3 = Wa.setRow W2.heap.size (#[.slice none 0 0, .int .i64 0]) := ⟨_, rfl⟩
        have HG3 := Aside0.mk (show W3.heap[W2.heap.size]? = some (.cells (#[.slice none 0 0, .int .i64 0]) 62 (0, 0)) by rw [hW3]; exact setRow_heap Wa W2.heap.size _ (#[.slice none 0 0, .int .i64 0]) 62 (0, 0) BWa.out)
        have HGR := Aside0.mk (show Wa.grownBy W3 (some W2.heap.size) by rw [hW3]; exact grown_setRow _ _ _)
        rw [← hW3]
        refine hK.out _ _ (Below.grown hHeld HGR.out hHeld.size (fun k e => by cases e; exact Nat.le_refl _)) (fun hH => ?_)
        clear hK K hHeld hW3
        have hHeld := hH
        clear hH
        (try simp only [Act.put, List.setIfInBounds_toArray, List.set_cons_zero, List.set_cons_succ])
        refine wpAnyH_take (i := 12) (oi := ⟨some 12, _, _, _, _, _⟩) (v := (.bool false)) rfl (by kernel_rfl) (by kernel_rfl) (by kernel_rfl) (fun _ _ _ h => h) (Or.inl ⟨by rfl, fun W hS => by go_simp⟩) hHeld ?_
        (try simp only [Act.put, List.setIfInBounds_toArray, List.set_cons_zero, List.set_cons_succ])
        refine wpAnyH_done (by kernel_rfl) ?_ _
        have HBV3 := Aside0.mk (below_step HBV2.out hHeld)
        clear hHeld
        (try simp only [Exit.then])
        go_wp2
        go_ret
        rw [← HR.out]
        exact Out.same HM.out (HBV3.out) _
    · rw [if_pos h3] at hR
      have HR := Aside0.mk hR
      have e3 : (y2 == 0) = false := beq_eq_false_iff_ne.2 h3
      have e3' : (y2 != 0) = true := by simp [h3]
      clear hR h3 hfi hval hL3
      go_enter Tryd.func17, Tryd.ntmps17
      go_wp2_with (first
        | (have hz := HBV.out; clear hz; go_at_call 24; rw [← HW1.out]; refine Calls.mono (find_in (HM.out.below HBV.out) HO.out A0 c0 X HS0.out HC0.out HNX.out HLX.out) ?_; rw [HY2.out, HI2.out]; rintro e w2 ⟨rfl, hb⟩; have HB2 := Aside0.mk (below_step HBV.out hb); have C82 := Aside0.mk (pw_cell_below hb C8.out); have HS2 := Aside0.mk (Kd.C_below HS1.out hb); clear hb)
        | (go_at_call 39; refine Calls.mono HOKK.out ?_; rintro e w1 ⟨A0, c0, A, c, rfl, hs0, hc0, hs, hc, hb⟩; have HB1 := Aside0.mk hb; have HC1 := Aside0.mk hc; obtain ⟨W1, hW1⟩ : ∃ W1, W1 = w1.alloc (.cells #[.slice A L.length c] 50) := ⟨_, rfl⟩; have HW1 := Aside0.mk hW1; have hbw := (show Below w1.heap.size w1 W1 by rw [hW1]; exact below_alloc (Below.refl _ _) _); have HBV := Aside0.mk (below_step HB1.out hbw); have HS0 := Aside0.mk (Kd.C_below hs0 hbw); have HC0 := Aside0.mk hc0; have HS1 := Aside0.mk (Kd.C_below hs hbw); have C8 := Aside0.mk (show W1.cell? ⟨w1.heap.size, 0, none⟩ = some (.slice A L.length c) by rw [hW1]; exact cell_new1 _ _ _); clear hb hs0 hc0 hs hc hW1 hbw))
      go_ret
      rw [← HR.out]
      exact Out.same HM.out (below_alloc HB2.out _) _
  · rw [if_pos h1] at hR
    have HR := Aside0.mk hR
    have e1 : (y1 == 0) = false := beq_eq_false_iff_ne.2 h1
    have e1' : (y1 != 0) = true := by simp [h1]
    clear hR h1 hgp hgs hok hz
    go_enter Tryd.func17, Tryd.ntmps17
    go_wp2_with (first
      | (go_at_call 39; refine Calls.mono HBAD.out ?_; rintro e w1 ⟨A0, n0, c0, A, n, c, rfl, hb⟩; have HB1 := Aside0.mk hb; clear hb))
    go_ret
    rw [← HR.out]
    exact Out.same HM.out (below_alloc HB1.out _) _
end Go.Proofs.YtcmcmkfoihlniaaDoor.MM
end

section
namespace Go.Proofs.YtcmcmkfoihlniaaDoor.MM
open Go Go.RowKit Go.Maps Go.Proofs.YtcmcmkfoihlniaaDoorX Go.Proofs.YtcmcmkfoihlniaaDoor.NM Go.Proofs.YtcmcmkfoihlniaaDoor.EN Go.Proofs.YtcmcmkfoihlniaaDoorW.PrintWords Go.Proofs.YtcmcmkfoihlniaaDoorW.PrintLast Go.Proofs.YtcmcmkfoihlniaaDoorW.PrintMore Go.Proofs.YtcmcmkfoihlniaaDoor.PModelUndoes
set_option linter.unusedVariables false
set_option linter.unusedSimpArgs false
set_option maxRecDepth 100000
set_option maxHeartbeats 4000000
def mayR : Option Nd → Option Nd → Int
  | some (.file _ _), some (.dir _) => 35
  | some (.file _ _), _ => 0
  | _, o => if (dirR o).2 = 0 then (if 0 < (dirR o).1.length then 36 else 0) else (dirR o).2
theorem mayR_dir (d : List S90) (o : Option Nd) : mayR (some (.dir d)) o = if (dirR o).2 = 0 then (if 0 < (dirR o).1.length then 36 else 0) else (dirR o).2 := by
  rcases o with _ | (_ | _) <;> rfl
theorem may_file {w : World} {pb mb : Nat} {q : Int} {T : Tree} (h : Mdl w pb mb q T) {old new : Int} (h2 : inR new) {b : List Int} {n : Int} (ho : inR old) (hT : T old = some (.file b n)) : Calls Tryd.prog 46 #[mp pb, .int .i64 old, .int .i64 new] w fun e w' => e = .returned (.int .i64 (mayR (T old) (T new))) ∧ Below w.heap.size w w' := by
  have h1 := h.at_
  obtain ⟨v, hl, hv⟩ := h.2.look ho
  rw [hT] at hv ⊢
  obtain ⟨A, c, rfl, _, _⟩ := hv
  have hb := below_alloc (Below.refl w.heap.size w) (.cells #[.slice A b.length c, .int .i64 n] 62)
  have h1' := (h.below hb).at_
  obtain ⟨v2, hl2, hv2⟩ := (h.below hb).2.look h2
  rcases hT2 : T new with _ | (⟨b2, n2⟩ | l)
  · rw [hT2] at hv2
    obtain rfl : v2 = .nilIface := hv2
    have HB := Aside0.mk hb
    clear hT hT2 h hb ho h2
    go_enter Tryd.func46, Tryd.ntmps46
    go_wp2
    go_ret
    exact ⟨rfl, HB.out⟩
  · rw [hT2] at hv2
    obtain ⟨A2, c2, rfl, _, _⟩ := hv2
    have HB := Aside0.mk hb
    clear hT hT2 h hb ho h2
    go_enter Tryd.func46, Tryd.ntmps46
    go_wp2
    go_ret
    exact ⟨rfl, HB.out⟩
  · rw [hT2] at hv2
    obtain ⟨A2, c2, rfl, _, _⟩ := hv2
    have HB := Aside0.mk hb
    clear hT hT2 h hb ho h2
    go_enter Tryd.func46, Tryd.ntmps46
    go_wp2
    go_ret
    exact ⟨rfl, HB.out⟩
theorem may_dir {w : World} {pb mb : Nat} {q : Int} {T : Tree} (h : Mdl w pb mb q T) {old new : Int} (h2 : inR new) {d : List S90} (ho : inR old) (hT : T old = some (.dir d)) : Calls Tryd.prog 46 #[mp pb, .int .i64 old, .int .i64 new] w fun e w' => e = .returned (.int .i64 (mayR (T old) (T new))) ∧ Below w.heap.size w w' := by
  have h1 := h.at_
  obtain ⟨v, hl, hv⟩ := h.2.look ho
  rw [hT] at hv ⊢
  obtain ⟨A, c, rfl, _, _⟩ := hv
  have hb := below_alloc (Below.refl w.heap.size w) (.cells #[.slice none 0 0, .int .i64 0] 62)
  have HB := Aside0.mk hb
  have HD := Aside0.mk (dir_any (h.below hb) h2)
  obtain ⟨R, hR⟩ : ∃ R, mayR (some (.dir d)) (T new) = R := ⟨_, rfl⟩
  rw [hR]
  rw [mayR_dir] at hR
  obtain ⟨l, y, hd⟩ : ∃ l y, dirR (T new) = (l, y) := ⟨_, _, rfl⟩
  rw [hd] at HD hR
  simp only at HD hR
  clear hT h hb ho h2 hd
  by_cases hy : y = 0
  · subst hy
    rw [if_pos rfl] at hR
    by_cases h0 : 0 < l.length
    · rw [if_pos h0] at hR
      have HR := Aside0.mk hR
      have e0 : decide (0 < l.length) = true := decide_eq_true h0
      clear hR h0
      go_enter Tryd.func46, Tryd.ntmps46
      go_wp2_with (go_at_call 38; refine Calls.mono HD.out ?_; rintro e w1 ⟨A1, c1, rfl, _, _, hb⟩; have HB1 := Aside0.mk (below_step HB.out hb); clear hb)
      go_ret
      rw [← HR.out]
      exact ⟨rfl, HB1.out⟩
    · rw [if_neg h0] at hR
      have HR := Aside0.mk hR
      have e0 : decide (0 < l.length) = false := decide_eq_false h0
      clear hR h0
      go_enter Tryd.func46, Tryd.ntmps46
      go_wp2_with (go_at_call 38; refine Calls.mono HD.out ?_; rintro e w1 ⟨A1, c1, rfl, _, _, hb⟩; have HB1 := Aside0.mk (below_step HB.out hb); clear hb)
      go_ret
      rw [← HR.out]
      exact ⟨rfl, HB1.out⟩
  · rw [if_neg hy] at hR
    have HR := Aside0.mk hR
    have e1 : (y == 0) = false := beq_eq_false_iff_ne.2 hy
    have e1' : (y != 0) = true := by simp [hy]
    clear hR hy
    go_enter Tryd.func46, Tryd.ntmps46
    go_wp2_with (go_at_call 38; refine Calls.mono HD.out ?_; rintro e w1 ⟨A1, c1, rfl, _, _, hb⟩; have HB1 := Aside0.mk (below_step HB.out hb); clear hb)
    go_ret
    rw [← HR.out]
    exact ⟨rfl, HB1.out⟩
end Go.Proofs.YtcmcmkfoihlniaaDoor.MM
end

section
namespace Go.Proofs.YtcmcmkfoihlniaaDoor.MM
open Go Go.RowKit Go.Maps Go.Proofs.YtcmcmkfoihlniaaDoorX Go.Proofs.YtcmcmkfoihlniaaDoor.NM Go.Proofs.YtcmcmkfoihlniaaDoor.EN Go.Proofs.YtcmcmkfoihlniaaDoorW.PrintWords Go.Proofs.YtcmcmkfoihlniaaDoorW.PrintLast Go.Proofs.YtcmcmkfoihlniaaDoorW.PrintMore Go.Proofs.YtcmcmkfoihlniaaDoor.PModelUndoes
set_option linter.unusedVariables false
set_option linter.unusedSimpArgs false
set_option maxRecDepth 100000
set_option maxHeartbeats 1000000
attribute [local go_sem] max2_int min2_int max_two min_two
def overR (T : Tree) (x y : List ByteArray) (ino a b other : Int) : Tree :=
  let T1 := upd T b (some (.dir (remR (dirL (T b)) (lastS y)).1))
  let T2 := lessR T1 other
  let T3 := upd T2 a (some (.dir (remR (dirL (T2 a)) (lastS x)).1))
  upd T3 b (some (.dir (insR (dirL (T3 b)) ⟨ino, lastS y⟩).1))
def moveR (T : Tree) (x y : List ByteArray) (ino a b : Int) : Tree :=
  let T1 := upd T a (some (.dir (remR (dirL (T a)) (lastS x)).1))
  upd T1 b (some (.dir (insR (dirL (T1 b)) ⟨ino, lastS y⟩).1))
def isDir : Option Nd → Bool
  | some (.dir _) => true
  | _ => false
def renameR (q : Int) (T : Tree) (p s : ByteArray) : Tree × Int :=
  if bothE p s ≠ 0 then (T, bothE p s) else if (splitR p).1.length = 0 ∨ (splitR s).1.length = 0 then (T, 38) else
  if (wayR T 1 (splitR p).1).2 ≠ 0 then (T, (wayR T 1 (splitR p).1).2) else
  if (upR T (splitR s).1).2 ≠ 0 then (T, (upR T (splitR s).1).2) else
  if isDir (T (lastI (wayR T 1 (splitR p).1).1)) = true ∧ lastI (wayR T 1 (splitR p).1).1 ∈ (upR T (splitR s).1).1 then (T, 37) else
  if (stepR (T (lastI (upR T (splitR s).1).1)) (lastS (splitR s).1)).2 = 0 then
    (if (stepR (T (lastI (upR T (splitR s).1).1)) (lastS (splitR s).1)).1 = lastI (wayR T 1 (splitR p).1).1 then (T, 0) else
     if mayR (T (lastI (wayR T 1 (splitR p).1).1)) (T (stepR (T (lastI (upR T (splitR s).1).1)) (lastS (splitR s).1)).1) ≠ 0 then (T, mayR (T (lastI (wayR T 1 (splitR p).1).1)) (T (stepR (T (lastI (upR T (splitR s).1).1)) (lastS (splitR s).1)).1)) else
     (overR T (splitR p).1 (splitR s).1 (lastI (wayR T 1 (splitR p).1).1) (parR T (splitR p).1) (lastI (upR T (splitR s).1).1) (stepR (T (lastI (upR T (splitR s).1).1)) (lastS (splitR s).1)).1, 0)) else
  if parR T (splitR p).1 ≠ lastI (upR T (splitR s).1).1 ∧ 64 ≤ (dirL (T (lastI (upR T (splitR s).1).1))).length then (T, 40) else
  tryR q T (moveR T (splitR p).1 (splitR s).1 (lastI (wayR T 1 (splitR p).1).1) (parR T (splitR p).1) (lastI (upR T (splitR s).1).1))
theorem remR_may {d : List S90} (h : mayE d = true) (nm : ByteArray) : mayE (remR d nm).1 = true := by
  unfold remR
  split
  · exact (by decide : mayE [] = true)
  · rw [mayQ] at h ⊢
    have hs := List.eraseIdx_sublist d (atE d nm)
    exact ⟨Nat.le_trans hs.length_le h.1, fun x hx => h.2.1 x (hs.subset hx), h.2.2.sublist hs⟩
theorem lessR_ok {T : Tree} (h : Ok T) (k : Int) : Ok (lessR T k) := by
  unfold lessR
  split
  · next b n hT =>
    have hf := h.files k b n hT
    split
    · exact h.upd (fun l e => nomatch e) (fun b n e => nomatch e)
    · next hn => exact h.upd (fun l e => nomatch (Option.some.inj e)) (fun b' n' e => by obtain ⟨rfl, rfl⟩ := Nd.file.inj (Option.some.inj e); exact ⟨hf.1, by omega, by omega⟩)
  · exact h.upd (fun l e => nomatch e) (fun b n e => nomatch e)
theorem lessR_other {T : Tree} {k j : Int} (h : j ≠ k) : lessR T k j = T j := by
  unfold lessR
  rcases T k with _ | (⟨b, n⟩ | l)
  · exact upd_other _ _ h
  · dsimp only
    split <;> exact upd_other _ _ h
  · exact upd_other _ _ h
theorem less_any {w : World} {pb mb : Nat} {q : Int} {T : Tree} (h : Mdl w pb mb q T) {k : Int} (hT : (∃ b n, T k = some (.file b n) ∧ 1 ≤ n ∧ n ≤ 64) ∨ ∃ l, T k = some (.dir l)) :
    Calls Tryd.prog 35 #[mp pb, .int .i64 k] w fun e w' => e = .returned (.tuple #[]) ∧ Mdl w' pb mb q (lessR T k) ∧ Turn1 mb w w' := by
  rcases hT with ⟨b, n, hT, hn⟩ | ⟨l, hT⟩
  · have : lessR T k = if n = 1 then upd T k none else upd T k (some (.file b (n - 1))) := by unfold lessR; rw [hT]
    rw [this]; exact less_file h hT hn
  · have : lessR T k = upd T k none := by unfold lessR; rw [hT]
    rw [this]; exact less_dir h hT
theorem index_i (l : List Int) (x : Int) (hl : l.length ≤ 9223372036854775806) : ∀ (j k i : Nat), l.length ≤ i + j → i ≤ l.length →
    ∃ r : Int, slices_Index_int_int.l0 (k + 1 + j) l x (l.length : Int) (i : Int) = some r ∧ decide (r ≥ 0) = decide (x ∈ l.drop i)
  | 0, k, i, h1, h2 => by
    have : i = l.length := by omega
    subst this
    refine ⟨-1, ?_, by rw [List.drop_length]; rfl⟩
    rw [slices_Index_int_int.l0, if_neg (by omega)]
  | j + 1, k, i, h1, h2 => by
    by_cases hi : i = l.length
    · subst hi
      refine ⟨-1, ?_, by rw [List.drop_length]; rfl⟩
      rw [show k + 1 + (j + 1) = (k + 1 + j) + 1 by omega, slices_Index_int_int.l0, if_neg (by omega)]
    · have hlt : i < l.length := by omega
      have hr : rd l (i : Int) = l[i] := by unfold rd; simp [hlt]
      rw [List.drop_eq_getElem_cons hlt, show k + 1 + (j + 1) = (k + 1 + j) + 1 by omega, slices_Index_int_int.l0, if_pos (by omega), if_pos (by omega), if_pos (by omega), hr]
      by_cases hx : x = l[i]
      · rw [if_pos hx]
        exact ⟨(i : Int), rfl, by rw [decide_eq_true (show (i : Int) ≥ 0 by omega), decide_eq_true (by rw [hx]; exact List.mem_cons_self)]⟩
      · rw [if_neg hx, show wrap64 ((i : Int) + 1) = ((i + 1 : Nat) : Int) from (IntWalk.wrap64_in _ ⟨by omega, by omega⟩).trans (by omega)]
        obtain ⟨r, h3, h4⟩ := index_i l x hl j k (i + 1) (by omega) (by omega)
        refine ⟨r, h3, h4.trans ?_⟩
        rw [decide_eq_decide, List.mem_cons]
        exact ⟨.inr, fun h => h.resolve_left hx⟩
theorem contains_i (l : List Int) (x : Int) (hl : l.length ≤ 9223372036854775806) : slices_Contains_int_int.f (l.length + 1) l x = some (decide (x ∈ l)) := by
  obtain ⟨r, h1, h2⟩ := index_i l x hl l.length 0 0 (by omega) (Nat.zero_le _)
  unfold slices_Contains_int_int.f slices_Index_int_int.f
  rw [show l.length + 1 = 0 + 1 + l.length by omega, show (0 : Int) = ((0 : Nat) : Int) from rfl, h1]
  show some (decide (r ≥ 0)) = _
  rw [h2, List.drop_zero]
theorem dirOk {T : Tree} (h : Ok T) {k : Int} {l : List S90} (hl : mayE l = true) : Ok (upd T k (some (.dir l))) :=
  h.upd (fun l' e => by rw [← Nd.dir.inj (Option.some.inj e)]; exact hl) (fun b n e => nomatch (Option.some.inj e))
theorem stepR_nonempty {l : List S90} {nm : ByteArray} (h : isE l nm = true) : 0 < l.length := Nat.lt_of_le_of_lt (Nat.zero_le _) (isE_lt h)
theorem over_facts {T : Tree} (hO : Ok T) {x y : List ByteArray} {ino a b other : Int} {d : List S90} (hb : T b = some (.dir d)) (hs : (stepR (T b) (lastS y)).2 = 0) (ha : (stepR (T a) (lastS x)).2 = 0) (hm : mayR (T ino) (T other) = 0) (hi : T ino ≠ none) (hn : T other ≠ none) :
    ∃ da2 d3, Ok (upd T b (some (.dir (remR d (lastS y)).1))) ∧ ((∃ bo no, upd T b (some (.dir (remR d (lastS y)).1)) other = some (.file bo no) ∧ 1 ≤ no ∧ no ≤ 64) ∨ ∃ l, upd T b (some (.dir (remR d (lastS y)).1)) other = some (.dir l)) ∧
      Ok (lessR (upd T b (some (.dir (remR d (lastS y)).1))) other) ∧ lessR (upd T b (some (.dir (remR d (lastS y)).1))) other a = some (.dir da2) ∧
      Ok (upd (lessR (upd T b (some (.dir (remR d (lastS y)).1))) other) a (some (.dir (remR da2 (lastS x)).1))) ∧
      upd (lessR (upd T b (some (.dir (remR d (lastS y)).1))) other) a (some (.dir (remR da2 (lastS x)).1)) b = some (.dir d3) ∧
      overR T x y ino a b other = upd (upd (lessR (upd T b (some (.dir (remR d (lastS y)).1))) other) a (some (.dir (remR da2 (lastS x)).1))) b (some (.dir (insR d3 ⟨ino, lastS y⟩).1)) := by
  obtain ⟨d', hd', hy, _⟩ := step_dir hs
  obtain rfl : d = d' := Nd.dir.inj (Option.some.inj (hb.symm.trans hd'))
  obtain ⟨da, hda, hx, _⟩ := step_dir ha
  have hdl := stepR_nonempty hy
  have hal := stepR_nonempty hx
  have hot : (∃ bo no, T other = some (.file bo no) ∧ 1 ≤ no ∧ no ≤ 64) ∨ T other = some (.dir []) := by
    rcases ho : T other with _ | (⟨bo, no⟩ | l)
    · exact absurd ho hn
    · have := hO.files other bo no ho; exact .inl ⟨bo, no, rfl, this.2⟩
    · rw [ho] at hm
      rcases hii : T ino with _ | (⟨bi, ni⟩ | li)
      · exact absurd hii hi
      · rw [hii] at hm; exact absurd (show (35 : Int) = 0 from hm) (by decide)
      · rw [hii, mayR_dir] at hm
        have e0 : (dirR (some (Nd.dir l))) = (l, 0) := rfl
        rw [e0, if_pos rfl] at hm
        rcases Nat.eq_zero_or_pos l.length with h | h
        · rw [List.eq_nil_of_length_eq_zero h]; exact .inr rfl
        · rw [if_pos h] at hm; exact absurd hm (by decide)
  have hob : other ≠ b := fun e => by
    rw [e, hb] at hot
    rcases hot with ⟨_, _, h, _⟩ | h
    · cases h
    · rw [Nd.dir.inj (Option.some.inj h)] at hdl; exact absurd hdl (by decide)
  have hoa : a ≠ other := fun e => by
    rw [← e, hda] at hot
    rcases hot with ⟨_, _, h, _⟩ | h
    · cases h
    · rw [Nd.dir.inj (Option.some.inj h)] at hal; exact absurd hal (by decide)
  have hO1 : Ok (upd T b (some (.dir (remR d (lastS y)).1))) := dirOk hO (remR_may (hO.dirs _ _ hb) _)
  have hO2 := lessR_ok hO1 other
  obtain ⟨da2, hda2⟩ : ∃ da2, lessR (upd T b (some (.dir (remR d (lastS y)).1))) other a = some (.dir da2) := by
    rw [lessR_other hoa]
    by_cases e : a = b
    · rw [e, upd_same]; exact ⟨_, rfl⟩
    · rw [upd_other _ _ e]; exact ⟨_, hda⟩
  obtain ⟨d3, hd3⟩ : ∃ d3, upd (lessR (upd T b (some (.dir (remR d (lastS y)).1))) other) a (some (.dir (remR da2 (lastS x)).1)) b = some (.dir d3) := by
    by_cases e : b = a
    · rw [e, upd_same]; exact ⟨_, rfl⟩
    · rw [upd_other _ _ e, lessR_other hob.symm, upd_same]; exact ⟨_, rfl⟩
  refine ⟨da2, d3, hO1, ?_, hO2, hda2, dirOk hO2 (remR_may (hO2.dirs _ _ hda2) _), hd3, ?_⟩
  · rw [upd_other _ _ hob]
    rcases hot with h | h
    · exact .inl h
    · exact .inr ⟨_, h⟩
  · unfold overR
    dsimp only
    rw [show dirL (T b) = d by rw [hb]; rfl, show dirL (lessR (upd T b (some (.dir (remR d (lastS y)).1))) other a) = da2 by rw [hda2]; rfl, show dirL (upd (lessR (upd T b (some (.dir (remR d (lastS y)).1))) other) a (some (.dir (remR da2 (lastS x)).1)) b) = d3 by rw [hd3]; rfl]
theorem move_facts {T : Tree} (hO : Ok T) {x y : List ByteArray} {ino a b : Int} {d : List S90} (hb : T b = some (.dir d)) (ha : (stepR (T a) (lastS x)).2 = 0) :
    ∃ da d1, T a = some (.dir da) ∧ Ok (upd T a (some (.dir (remR da (lastS x)).1))) ∧ upd T a (some (.dir (remR da (lastS x)).1)) b = some (.dir d1) ∧
      Ok (upd (upd T a (some (.dir (remR da (lastS x)).1))) b (some (.dir (insR d1 ⟨ino, lastS y⟩).1))) ∧
      moveR T x y ino a b = upd (upd T a (some (.dir (remR da (lastS x)).1))) b (some (.dir (insR d1 ⟨ino, lastS y⟩).1)) := by
  obtain ⟨da, hda, hx, _⟩ := step_dir ha
  have hO1 : Ok (upd T a (some (.dir (remR da (lastS x)).1))) := dirOk hO (remR_may (hO.dirs _ _ hda) _)
  obtain ⟨d1, hd1⟩ : ∃ d1, upd T a (some (.dir (remR da (lastS x)).1)) b = some (.dir d1) := by
    by_cases e : b = a
    · rw [e, upd_same]; exact ⟨_, rfl⟩
    · rw [upd_other _ _ e]; exact ⟨_, hb⟩
  refine ⟨da, d1, hda, hO1, hd1, dirOk hO1 (insR_may (hO1.dirs _ _ hd1) _), ?_⟩
  unfold moveR
  dsimp only
  rw [show dirL (T a) = da by rw [hda]; rfl, show dirL (upd T a (some (.dir (remR da (lastS x)).1)) b) = d1 by rw [hd1]; rfl]
end Go.Proofs.YtcmcmkfoihlniaaDoor.MM
end
