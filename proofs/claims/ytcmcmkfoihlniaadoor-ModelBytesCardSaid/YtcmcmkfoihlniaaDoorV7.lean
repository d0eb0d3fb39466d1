/- What this claim uses of the texts that were printed for it. -/
import Derived.Test.YtcmcmkfoihlniaaDoorV6
section
namespace Go.Proofs.YtcmcmkfoihlniaaDoor.MM
open Go Go.RowKit Go.Maps Go.Proofs.YtcmcmkfoihlniaaDoorX Go.Proofs.YtcmcmkfoihlniaaDoor.NM Go.Proofs.YtcmcmkfoihlniaaDoor.EN Go.Proofs.YtcmcmkfoihlniaaDoorW.PrintWords Go.Proofs.YtcmcmkfoihlniaaDoorW.PrintLast Go.Proofs.YtcmcmkfoihlniaaDoorW.PrintMore Go.Proofs.YtcmcmkfoihlniaaDoor.PModelUndoes
set_option linter.unusedVariables false
set_option linter.unusedSimpArgs false
set_option maxRecDepth 100000
set_option maxHeartbeats 32000000
attribute [local go_sem] max2_int min2_int max_two min_two
theorem set_same (w : World) (g : Nat) (u v : Value) (t : TypeId) (h : w.heap[g]? = some (.cells #[u] t (0, 0))) : (w.setCell ⟨g, 0, none⟩ v).heap[g]? = some (.cells #[v] t (0, 0)) := by
  simp only [World.setCell, Array.getElem?_modify, if_pos rfl, h]
  rfl
theorem set_other {w : World} {g j : Nat} {v : Value} {o : Obj} (h : w.heap[j]? = some o) (hn : j ≠ g) : (w.setCell ⟨g, 0, none⟩ v).heap[j]? = some o := (Below.heap_setCell w ⟨g, 0, none⟩ v j hn).trans h
theorem blk_cell0 {w : World} {g : Nat} {u : Value} {t : TypeId} (h : w.heap[g]? = some (.cells #[u] t (0, 0))) : w.cell? ⟨g, 0, none⟩ = some u := by simp [World.cell?, h]
theorem blk_froz0 {w : World} {g : Nat} {u : Value} {t : TypeId} (h : w.heap[g]? = some (.cells #[u] t (0, 0))) : w.frozen? ⟨g, 0, none⟩ = false := by simp [World.frozen?, h]
theorem rename_any {w : World} {pb mb : Nat} {q : Int} {T : Tree} (h : Mdl w pb mb q T) (hO : Ok T) (hnd : ∀ k n, (stepR (T k) n).2 = 0 → T (stepR (T k) n).1 ≠ none) (p s : ByteArray) (hT : Lib.Utf8Tabs 2 3 w) :
    Calls Tryd.prog 18 #[mp pb, .string p, .string s] w (Out w pb mb q (renameR q T p s)) := by
  have HM := Aside0.mk h
  have HO := Aside0.mk hO
  have HT := Aside0.mk hT
  have HND := Aside0.mk hnd
  obtain ⟨R, hR⟩ : ∃ R, renameR q T p s = R := ⟨_, rfl⟩
  rw [hR]
  unfold renameR at hR
  have hgp := @splitR_good p
  have hgs := @splitR_good s
  have hok := both_ok h p s hT
  have HBAD := Aside0.mk (both_bad h p s hT)
  have hz := @bothE_zero p s
  obtain ⟨y1, hy1⟩ : ∃ y, bothE p s = y := ⟨_, rfl⟩
  obtain ⟨X, hX⟩ : ∃ y, (splitR p).1 = y := ⟨_, rfl⟩
  obtain ⟨L, hL⟩ : ∃ y, (splitR s).1 = y := ⟨_, rfl⟩
  rw [hX, hL] at hR hok
  rw [hX] at hgp
  rw [hL] at hgs
  rw [hy1] at hR hok hz HBAD
  clear h hO hT hy1 hX hL hnd
  by_cases h1 : y1 = 0
  · subst h1
    rw [if_neg (fun h => h rfl)] at hR
    have HOKK := Aside0.mk (hok rfl)
    obtain ⟨hpz, hsz⟩ := hz rfl
    obtain ⟨hX3, hxval⟩ := hgp hpz
    obtain ⟨hL3, hval⟩ := hgs hsz
    have HNX := Aside0.mk (show ∀ n ∈ X, n.size ≤ 1048576 from fun n hn => by have := valid_size (hxval n hn); omega)
    have HLX := Aside0.mk (show X.length ≤ 1048576 by omega)
    have HNS := Aside0.mk (show ∀ n ∈ L, n.size ≤ 1048576 from fun n hn => by have := valid_size (hval n hn); omega)
    have HL1 := Aside0.mk (show L.length ≤ 1048576 by omega)
    have HXX := Aside0.mk hX3
    have HLL := Aside0.mk hL3
    clear hgp hgs hok hz hpz hsz hX3 hL3
    by_cases hx0 : X.length = 0
    · rw [if_pos (.inl hx0)] at hR
      have HR := Aside0.mk hR
      have e0 : ((X.length : Int) == 0) = true := beq_iff_eq.2 (by omega)
      clear hR hx0 hxval hval
      go_enter Tryd.func18, Tryd.ntmps18
      go_wp2_with (first
        | (go_at_call 39; refine Calls.mono HOKK.out ?_; rintro e w1 ⟨A0, c0, A, c, rfl, hs0, hc0, hs, hc, hb⟩; have HB1 := Aside0.mk hb; have HC0 := Aside0.mk hc0; have HC1 := Aside0.mk hc; obtain ⟨V1, hV1⟩ : ∃ V1, V1 = w1.alloc (.cells #[.slice A0 X.length c0] 50) := ⟨_, rfl⟩; obtain ⟨W1, hW1⟩ : ∃ W1, W1 = V1.alloc (.cells #[.slice A L.length c] 50) := ⟨_, rfl⟩; have HV1 := Aside0.mk hV1; have HW1 := Aside0.mk hW1; have hbv := (show Below w1.heap.size w1 V1 by rw [hV1]; exact below_alloc (Below.refl _ _) _); have hbw := (show Below V1.heap.size V1 W1 by rw [hW1]; exact below_alloc (Below.refl _ _) _); have hb12 := below_step hbv hbw; have HBV := Aside0.mk (below_step HB1.out hb12); have HS0 := Aside0.mk (Kd.C_below hs0 hb12); have HS1 := Aside0.mk (Kd.C_below hs hb12); have C7 := Aside0.mk (pw_cell_below hbw (show V1.cell? ⟨w1.heap.size, 0, none⟩ = some (.slice A0 X.length c0) by rw [hV1]; exact cell_new1 _ _ _)); have hvs := (show V1.heap.size = w1.heap.size + 1 by rw [hV1]; simp); have C8 := Aside0.mk (show W1.cell? ⟨w1.heap.size + 1, 0, none⟩ = some (.slice A L.length c) by rw [hW1, ← hvs]; exact cell_new1 _ _ _); clear hb hs0 hc0 hs hc hW1 hV1 hbv hbw hb12 hvs))
      go_ret
      rw [← HR.out, ← HV1.out, ← HW1.out]
      exact Out.same HM.out HBV.out _
    · have e0 : ((X.length : Int) == 0) = false := beq_eq_false_iff_ne.2 (by omega)
      by_cases hl0 : L.length = 0
      · rw [if_pos (.inr hl0)] at hR
        have HR := Aside0.mk hR
        have e0' : ((L.length : Int) == 0) = true := beq_iff_eq.2 (by omega)
        clear hR hx0 hl0 hxval hval
        go_enter Tryd.func18, Tryd.ntmps18
        go_wp2_with (first
          | (go_at_call 39; refine Calls.mono HOKK.out ?_; rintro e w1 ⟨A0, c0, A, c, rfl, hs0, hc0, hs, hc, hb⟩; have HB1 := Aside0.mk hb; have HC0 := Aside0.mk hc0; have HC1 := Aside0.mk hc; obtain ⟨V1, hV1⟩ : ∃ V1, V1 = w1.alloc (.cells #[.slice A0 X.length c0] 50) := ⟨_, rfl⟩; obtain ⟨W1, hW1⟩ : ∃ W1, W1 = V1.alloc (.cells #[.slice A L.length c] 50) := ⟨_, rfl⟩; have HV1 := Aside0.mk hV1; have HW1 := Aside0.mk hW1; have hbv := (show Below w1.heap.size w1 V1 by rw [hV1]; exact below_alloc (Below.refl _ _) _); have hbw := (show Below V1.heap.size V1 W1 by rw [hW1]; exact below_alloc (Below.refl _ _) _); have hb12 := below_step hbv hbw; have HBV := Aside0.mk (below_step HB1.out hb12); have HS0 := Aside0.mk (Kd.C_below hs0 hb12); have HS1 := Aside0.mk (Kd.C_below hs hb12); have C7 := Aside0.mk (pw_cell_below hbw (show V1.cell? ⟨w1.heap.size, 0, none⟩ = some (.slice A0 X.length c0) by rw [hV1]; exact cell_new1 _ _ _)); have hvs := (show V1.heap.size = w1.heap.size + 1 by rw [hV1]; simp); have C8 := Aside0.mk (show W1.cell? ⟨w1.heap.size + 1, 0, none⟩ = some (.slice A L.length c) by rw [hW1, ← hvs]; exact cell_new1 _ _ _); clear hb hs0 hc0 hs hc hW1 hV1 hbv hbw hb12 hvs))
        go_ret
        rw [← HR.out, ← HV1.out, ← HW1.out]
        exact Out.same HM.out HBV.out _
      · have e0' : ((L.length : Int) == 0) = false := beq_eq_false_iff_ne.2 (by omega)
        rw [if_neg (fun h => h.elim hx0 hl0)] at hR
        have HX0 := Aside0.mk (show 0 < X.length by omega)
        have HL0 := Aside0.mk (show 0 < L.length by omega)
        have HNMX := Aside0.mk (HNX.out _ (lastS_mem HX0.out))
        have HNM := Aside0.mk (HNS.out _ (lastS_mem HL0.out))
        obtain ⟨y2, hy2⟩ : ∃ y, (wayR T 1 X).2 = y := ⟨_, rfl⟩
        obtain ⟨G1, hG1⟩ : ∃ y, (wayR T 1 X).1 = y := ⟨_, rfl⟩
        have hne := @wayR_ne T X 1
        have hin := @wayR_in T HO.out X 1 ⟨by decide, by decide⟩
        have hwl := @way_last T X
        have hws := @way_second T X
        have herr := @wayR_err T X 1
        rw [hy2, hG1] at hR hne hwl hws herr
        rw [hG1] at hin
        have HY2 := Aside0.mk hy2
        have HG1 := Aside0.mk hG1
        clear hxval hval hx0 hl0 hy2 hG1
        by_cases h3 : y2 = 0
        · subst h3
          rw [if_neg (fun h => h rfl)] at hR
          have hup := @upR_good T HO.out L
          obtain ⟨y3, hy3⟩ : ∃ y, (upR T L).2 = y := ⟨_, rfl⟩
          obtain ⟨G2, hG2⟩ : ∃ y, (upR T L).1 = y := ⟨_, rfl⟩
          rw [hy3, hG2] at hR hup
          have HY3 := Aside0.mk hy3
          have HG2 := Aside0.mk hG2
          clear hy3 hG2
          by_cases h4 : y3 = 0
          · subst h4
            rw [if_neg (fun h => h rfl)] at hR
            have hl1 := hne rfl
            have HP1 := Aside0.mk (show 0 < G1.length by omega)
            have HQ1 := Aside0.mk (show G1.length ≤ 1048577 by have := HXX.out; omega)
            have hii : inR (lastI G1) := hin _ (lastI_mem (List.length_pos_iff.1 HP1.out))
            have hst := (hwl HX0.out rfl).2.2.1
            have hse := (hwl HX0.out rfl).2.2.2
            have hse2 := (hws HX0.out rfl).2
            obtain ⟨hp2, hq2, hai, d, hd⟩ := hup rfl
            have HP2 := Aside0.mk hp2
            have HQ2 := Aside0.mk (show G2.length ≤ 1048577 by have := HLL.out; omega)
            obtain ⟨ino, hino⟩ : ∃ a, lastI G1 = a := ⟨_, rfl⟩
            obtain ⟨b, hb⟩ : ∃ a, lastI G2 = a := ⟨_, rfl⟩
            obtain ⟨a, ha⟩ : ∃ a, parR T X = a := ⟨_, rfl⟩
            rw [hino, hb, ha] at hR
            rw [hino] at hii hse
            rw [ha] at hst hse hse2
            rw [hb] at hai hd
            have HINO := Aside0.mk hino
            have HIB := Aside0.mk hb
            have HII := Aside0.mk hii
            have HAI := Aside0.mk hai
            have HD := Aside0.mk hd
            have HST := Aside0.mk hst
            have HSE := Aside0.mk hse
            obtain ⟨J, hJ⟩ : ∃ J, J = X.length - 1 := ⟨_, rfl⟩
            rw [← hJ] at hse2
            have HS2 := Aside0.mk hse2
            have hwj : (G1.length : Int) - 2 = (J : Int) := by have := HX0.out; omega
            have j0 : (0 : Int) ≤ (J : Int) := Int.natCast_nonneg _
            have j1 : (J : Int) < (G1.length : Int) := by omega
            have hwlb : G1.length ≤ 1048577 := HQ1.out
            rw [show dirL (T b) = d by rw [hd]; rfl] at hR
            have HRR := Aside0.mk hR
            clear hR hne hin hwl hws herr hup hl1 hii hst hse hse2 hp2 hq2 hai hd hino hb ha hJ
            go_enter Tryd.func18, Tryd.ntmps18
            go_wp2_with (first
              | (have hz := HB2.out; clear hz; go_at_call 40; refine Calls.mono (up_any (HM.out.below HB2.out) HO.out A c L HS12.out HC1.out HNS.out HL1.out HL0.out) ?_; rw [HY3.out, HG2.out]; rintro e w3 ⟨A3, c3, rfl, hr3, hc3, hb⟩; have HB3 := Aside0.mk (below_step HB2.out hb); have C83 := Aside0.mk (pw_cell_below hb C82.out); have C73 := Aside0.mk (pw_cell_below hb C72.out); have HS03 := Aside0.mk (Kd.C_below HS02.out hb); have HS13 := Aside0.mk (Kd.C_below HS12.out hb); have HK13 := Aside0.mk (Kd.C_below HK1.out hb); have HK2 := Aside0.mk hr3; have HC3 := Aside0.mk hc3; clear hb hr3 hc3)
              | (have hz := HBV.out; clear hz; go_at_call 31; rw [← HV1.out, ← HW1.out]; refine Calls.mono (way_any (HM.out.below HBV.out) HO.out A0 c0 X HS0.out HC0.out HNX.out HLX.out) ?_; rw [HY2.out, HG1.out]; rintro e w2 ⟨A2, c2, rfl, hr2, hc2, hb⟩; have HB2 := Aside0.mk (below_step HBV.out hb); have c82 := pw_cell_below hb C8.out; have C82 := Aside0.mk c82; have C72 := Aside0.mk (pw_cell_below hb C7.out); have HS02 := Aside0.mk (Kd.C_below HS0.out hb); have HS12 := Aside0.mk (Kd.C_below HS1.out hb); have HK1 := Aside0.mk hr2; have HC2 := Aside0.mk hc2; clear hb hr2 hc2)
              | (go_at_call 39; refine Calls.mono HOKK.out ?_; rintro e w1 ⟨A0, c0, A, c, rfl, hs0, hc0, hs, hc, hb⟩; have HB1 := Aside0.mk hb; have HC0 := Aside0.mk hc0; have HC1 := Aside0.mk hc; obtain ⟨V1, hV1⟩ : ∃ V1, V1 = w1.alloc (.cells #[.slice A0 X.length c0] 50) := ⟨_, rfl⟩; obtain ⟨W1, hW1⟩ : ∃ W1, W1 = V1.alloc (.cells #[.slice A L.length c] 50) := ⟨_, rfl⟩; have HV1 := Aside0.mk hV1; have HW1 := Aside0.mk hW1; have hbv := (show Below w1.heap.size w1 V1 by rw [hV1]; exact below_alloc (Below.refl _ _) _); have hbw := (show Below V1.heap.size V1 W1 by rw [hW1]; exact below_alloc (Below.refl _ _) _); have hb12 := below_step hbv hbw; have HBV := Aside0.mk (below_step HB1.out hb12); have HS0 := Aside0.mk (Kd.C_below hs0 hb12); have HS1 := Aside0.mk (Kd.C_below hs hb12); have C7 := Aside0.mk (pw_cell_below hbw (show V1.cell? ⟨w1.heap.size, 0, none⟩ = some (.slice A0 X.length c0) by rw [hV1]; exact cell_new1 _ _ _)); have hvs := (show V1.heap.size = w1.heap.size + 1 by rw [hV1]; simp); have C8 := Aside0.mk (show W1.cell? ⟨w1.heap.size + 1, 0, none⟩ = some (.slice A L.length c) by rw [hW1, ← hvs]; exact cell_new1 _ _ _); clear hb hs0 hc0 hs hc hW1 hV1 hbv hbw hb12 hvs))
            obtain ⟨ad2, rfl, hx⟩ := Kd.at_int HK13.out (J : Int) j0 j1
            rw [HS2.out, Int.toNat_natCast] at hx
            have HX2 := Aside0.mk hx
            clear hx
            refine wp_region_held_drew (S := fun W => Below w3.heap.size w3 W) (by kernel_rfl) (below_drew (Below.refl _ _)) (fun hHeld => ?_)
            refine wpAnyH_take (i := 0) (oi := ⟨some 58, _, _, _, _, _⟩) (v := (.slice (some ad2) G1.length c2)) rfl (by kernel_rfl) (by kernel_rfl) (by kernel_rfl) (fun _ _ _ h => h) (Or.inl ⟨by rfl, fun W hS => by go_simp⟩) hHeld ?_
            (try simp only [Act.put, List.setIfInBounds_toArray, List.set_cons_zero, List.set_cons_succ])
            refine wpAnyH_take (i := 2) (oi := ⟨some 60, _, _, _, _, _⟩) (v := (.slice (some ad2) G1.length c2)) rfl (by kernel_rfl) (by kernel_rfl) (by kernel_rfl) (fun _ _ _ h => h) (Or.inl ⟨by rfl, fun W hS => by go_simp⟩) hHeld ?_
            (try simp only [Act.put, List.setIfInBounds_toArray, List.set_cons_zero, List.set_cons_succ])
            refine wpAnyH_take (i := 3) (oi := ⟨some 61, _, _, _, _, _⟩) (v := (.slice (some ad2) G1.length c2)) rfl (by kernel_rfl) (by kernel_rfl) (by kernel_rfl) (fun _ _ _ h => h) (Or.inl ⟨by rfl, fun W hS => by go_simp⟩) hHeld ?_
            (try simp only [Act.put, List.setIfInBounds_toArray, List.set_cons_zero, List.set_cons_succ])
            refine wpAnyH_take (i := 4) (oi := ⟨some 62, _, _, _, _, _⟩) (v := (.int .i64 G1.length)) rfl (by kernel_rfl) (by kernel_rfl) (by kernel_rfl) (fun _ _ _ h => h) (Or.inl ⟨by rfl, fun W hS => by go_simp⟩) hHeld ?_
            (try simp only [Act.put, List.setIfInBounds_toArray, List.set_cons_zero, List.set_cons_succ])
            refine wpAnyH_take (i := 5) (oi := ⟨some 63, _, _, _, _, _⟩) (v := (.int .i64 (J : Int))) rfl (by kernel_rfl) (by kernel_rfl) (by kernel_rfl) (fun _ _ _ h => h) (Or.inl ⟨by rfl, fun W hS => by go_simp; exact IntWalk.i64_in _ ⟨by omega, by omega⟩⟩) hHeld ?_
            (try simp only [Act.put, List.setIfInBounds_toArray, List.set_cons_zero, List.set_cons_succ])
            refine wpAnyH_take (i := 6) (oi := ⟨some 64, _, _, _, _, _⟩) (v := (.pointer (some (ad2.add J)))) rfl (by kernel_rfl) (by kernel_rfl) (by kernel_rfl) (fun _ _ _ h => h) (Or.inl ⟨by rfl, fun W hS => by go_simp⟩) hHeld ?_
            (try simp only [Act.put, List.setIfInBounds_toArray, List.set_cons_zero, List.set_cons_succ])
            refine wpAnyH_take (i := 7) (oi := ⟨some 65, _, _, _, _, _⟩) (v := (.int .i64 a)) rfl (by kernel_rfl) (by kernel_rfl) (by kernel_rfl) (fun _ _ _ h => h) (Or.inl ⟨by rfl, fun W hS => by have cc := pw_cell_below hS HX2.out; go_simp⟩) hHeld ?_
            (try simp only [Act.put, List.setIfInBounds_toArray, List.set_cons_zero, List.set_cons_succ])
            refine wpAnyH_take (i := 8) (oi := ⟨some 66, _, _, _, _, _⟩) (v := (.slice A3 G2.length c3)) rfl (by kernel_rfl) (by kernel_rfl) (by kernel_rfl) (fun _ _ _ h => h) (Or.inl ⟨by rfl, fun W hS => by go_simp⟩) hHeld ?_
            (try simp only [Act.put, List.setIfInBounds_toArray, List.set_cons_zero, List.set_cons_succ])
            obtain ⟨Wd, hWd⟩ : ∃ Wd, Wd = w3.drew := ⟨_, rfl⟩
            rw [← hWd] at hHeld ⊢
            have HH0 := Aside0.mk hHeld
            clear hWd hHeld
            refine (fun (HREST : ∀ (g12 g13 g14 : Nat) (W' : World), Below w3.heap.size w3 W' → W'.heap[g12]? = some (.cells #[.int .i64 ino] 3 (0, 0)) → W'.heap[g13]? = some (.cells #[.int .i64 a] 3 (0, 0)) → W'.heap[g14]? = some (.cells #[.int .i64 b] 3 (0, 0)) → (?Goal : Nat → Nat → Nat → World → Prop) g12 g13 g14 W') => ?branches) ?restproof
            case' branches =>
              refine (fun (H2121314 : ∀ (g12 g13 g14 : Nat) (W : World), Below w3.heap.size w3 W → W.heap[g12]? = some (.cells #[.int .i64 0] 3 (0, 0)) → w3.heap.size ≤ g12 → W.heap[g13]? = some (.cells #[.int .i64 0] 3 (0, 0)) → w3.heap.size ≤ g13 → W.heap[g14]? = some (.cells #[.int .i64 0] 3 (0, 0)) → w3.heap.size ≤ g14 → g12 ≠ g13 → g12 ≠ g14 → g13 ≠ g14 → (?G2121314 : Nat → Nat → Nat → World → Prop) g12 g13 g14 W) => ?br2121314) ?pf2121314
              case' br2121314 =>
                refine (fun (H21213 : ∀ (g12 g13 : Nat) (W : World), Below w3.heap.size w3 W → W.heap[g12]? = some (.cells #[.int .i64 0] 3 (0, 0)) → w3.heap.size ≤ g12 → W.heap[g13]? = some (.cells #[.int .i64 0] 3 (0, 0)) → w3.heap.size ≤ g13 → g12 ≠ g13 → (?G21213 : Nat → Nat → World → Prop) g12 g13 W) => ?br21213) ?pf21213
                case' br21213 =>
                  refine (fun (H21214 : ∀ (g12 g14 : Nat) (W : World), Below w3.heap.size w3 W → W.heap[g12]? = some (.cells #[.int .i64 0] 3 (0, 0)) → w3.heap.size ≤ g12 → W.heap[g14]? = some (.cells #[.int .i64 0] 3 (0, 0)) → w3.heap.size ≤ g14 → g12 ≠ g14 → (?G21214 : Nat → Nat → World → Prop) g12 g14 W) => ?br21214) ?pf21214
                  case' br21214 =>
                    refine (fun (H21314 : ∀ (g13 g14 : Nat) (W : World), Below w3.heap.size w3 W → W.heap[g13]? = some (.cells #[.int .i64 0] 3 (0, 0)) → w3.heap.size ≤ g13 → W.heap[g14]? = some (.cells #[.int .i64 0] 3 (0, 0)) → w3.heap.size ≤ g14 → g13 ≠ g14 → (?G21314 : Nat → Nat → World → Prop) g13 g14 W) => ?br21314) ?pf21314
                    case' br21314 =>
                      refine (fun (H1121314 : ∀ (g12 g13 g14 : Nat) (W : World), Below w3.heap.size w3 W → W.heap[g12]? = some (.cells #[.int .i64 0] 3 (0, 0)) → w3.heap.size ≤ g12 → W.heap[g13]? = some (.cells #[.int .i64 0] 3 (0, 0)) → w3.heap.size ≤ g13 → W.heap[g14]? = some (.cells #[.int .i64 0] 3 (0, 0)) → w3.heap.size ≤ g14 → g12 ≠ g13 → g12 ≠ g14 → g13 ≠ g14 → (?G1121314 : Nat → Nat → Nat → World → Prop) g12 g13 g14 W) => ?br1121314) ?pf1121314
                      case' br1121314 =>
                        refine (fun (H212 : ∀ (g12 : Nat) (W : World), Below w3.heap.size w3 W → W.heap[g12]? = some (.cells #[.int .i64 0] 3 (0, 0)) → w3.heap.size ≤ g12 → (?G212 : Nat → World → Prop) g12 W) => ?br212) ?pf212
                        case' br212 =>
                          refine (fun (H213 : ∀ (g13 : Nat) (W : World), Below w3.heap.size w3 W → W.heap[g13]? = some (.cells #[.int .i64 0] 3 (0, 0)) → w3.heap.size ≤ g13 → (?G213 : Nat → World → Prop) g13 W) => ?br213) ?pf213
                          case' br213 =>
                            refine (fun (H214 : ∀ (g14 : Nat) (W : World), Below w3.heap.size w3 W → W.heap[g14]? = some (.cells #[.int .i64 0] 3 (0, 0)) → w3.heap.size ≤ g14 → (?G214 : Nat → World → Prop) g14 W) => ?br214) ?pf214
                            case' br214 =>
                              refine (fun (H11213 : ∀ (g12 g13 : Nat) (W : World), Below w3.heap.size w3 W → W.heap[g12]? = some (.cells #[.int .i64 0] 3 (0, 0)) → w3.heap.size ≤ g12 → W.heap[g13]? = some (.cells #[.int .i64 0] 3 (0, 0)) → w3.heap.size ≤ g13 → g12 ≠ g13 → (?G11213 : Nat → Nat → World → Prop) g12 g13 W) => ?br11213) ?pf11213
                              case' br11213 =>
                                refine (fun (H11214 : ∀ (g12 g14 : Nat) (W : World), Below w3.heap.size w3 W → W.heap[g12]? = some (.cells #[.int .i64 0] 3 (0, 0)) → w3.heap.size ≤ g12 → W.heap[g14]? = some (.cells #[.int .i64 0] 3 (0, 0)) → w3.heap.size ≤ g14 → g12 ≠ g14 → (?G11214 : Nat → Nat → World → Prop) g12 g14 W) => ?br11214) ?pf11214
                                case' br11214 =>
                                  refine (fun (H11314 : ∀ (g13 g14 : Nat) (W : World), Below w3.heap.size w3 W → W.heap[g13]? = some (.cells #[.int .i64 0] 3 (0, 0)) → w3.heap.size ≤ g13 → W.heap[g14]? = some (.cells #[.int .i64 0] 3 (0, 0)) → w3.heap.size ≤ g14 → g13 ≠ g14 → (?G11314 : Nat → Nat → World → Prop) g13 g14 W) => ?br11314) ?pf11314
                                  case' br11314 =>
                                    refine (fun (H0121314 : ∀ (g12 g13 g14 : Nat) (W : World), Below w3.heap.size w3 W → W.heap[g12]? = some (.cells #[.int .i64 0] 3 (0, 0)) → w3.heap.size ≤ g12 → W.heap[g13]? = some (.cells #[.int .i64 0] 3 (0, 0)) → w3.heap.size ≤ g13 → W.heap[g14]? = some (.cells #[.int .i64 0] 3 (0, 0)) → w3.heap.size ≤ g14 → g12 ≠ g13 → g12 ≠ g14 → g13 ≠ g14 → (?G0121314 : Nat → Nat → Nat → World → Prop) g12 g13 g14 W) => ?br0121314) ?pf0121314
                                    case' br0121314 =>
                                      refine (fun (H2 : ∀ (W : World), Below w3.heap.size w3 W → (?G2 : World → Prop)  W) => ?br2) ?pf2
                                      case' br2 =>
                                        refine (fun (H112 : ∀ (g12 : Nat) (W : World), Below w3.heap.size w3 W → W.heap[g12]? = some (.cells #[.int .i64 0] 3 (0, 0)) → w3.heap.size ≤ g12 → (?G112 : Nat → World → Prop) g12 W) => ?br112) ?pf112
                                        case' br112 =>
                                          refine (fun (H113 : ∀ (g13 : Nat) (W : World), Below w3.heap.size w3 W → W.heap[g13]? = some (.cells #[.int .i64 0] 3 (0, 0)) → w3.heap.size ≤ g13 → (?G113 : Nat → World → Prop) g13 W) => ?br113) ?pf113
                                          case' br113 =>
                                            refine (fun (H114 : ∀ (g14 : Nat) (W : World), Below w3.heap.size w3 W → W.heap[g14]? = some (.cells #[.int .i64 0] 3 (0, 0)) → w3.heap.size ≤ g14 → (?G114 : Nat → World → Prop) g14 W) => ?br114) ?pf114
                                            case' br114 =>
                                              refine (fun (H01213 : ∀ (g12 g13 : Nat) (W : World), Below w3.heap.size w3 W → W.heap[g12]? = some (.cells #[.int .i64 0] 3 (0, 0)) → w3.heap.size ≤ g12 → W.heap[g13]? = some (.cells #[.int .i64 0] 3 (0, 0)) → w3.heap.size ≤ g13 → g12 ≠ g13 → (?G01213 : Nat → Nat → World → Prop) g12 g13 W) => ?br01213) ?pf01213
                                              case' br01213 =>
                                                refine (fun (H01214 : ∀ (g12 g14 : Nat) (W : World), Below w3.heap.size w3 W → W.heap[g12]? = some (.cells #[.int .i64 0] 3 (0, 0)) → w3.heap.size ≤ g12 → W.heap[g14]? = some (.cells #[.int .i64 0] 3 (0, 0)) → w3.heap.size ≤ g14 → g12 ≠ g14 → (?G01214 : Nat → Nat → World → Prop) g12 g14 W) => ?br01214) ?pf01214
                                                case' br01214 =>
                                                  refine (fun (H01314 : ∀ (g13 g14 : Nat) (W : World), Below w3.heap.size w3 W → W.heap[g13]? = some (.cells #[.int .i64 0] 3 (0, 0)) → w3.heap.size ≤ g13 → W.heap[g14]? = some (.cells #[.int .i64 0] 3 (0, 0)) → w3.heap.size ≤ g14 → g13 ≠ g14 → (?G01314 : Nat → Nat → World → Prop) g13 g14 W) => ?br01314) ?pf01314
                                                  case' br01314 =>
                                                    refine (fun (H1 : ∀ (W : World), Below w3.heap.size w3 W → (?G1 : World → Prop)  W) => ?br1) ?pf1
                                                    case' br1 =>
                                                      refine (fun (H012 : ∀ (g12 : Nat) (W : World), Below w3.heap.size w3 W → W.heap[g12]? = some (.cells #[.int .i64 0] 3 (0, 0)) → w3.heap.size ≤ g12 → (?G012 : Nat → World → Prop) g12 W) => ?br012) ?pf012
                                                      case' br012 =>
                                                        refine (fun (H013 : ∀ (g13 : Nat) (W : World), Below w3.heap.size w3 W → W.heap[g13]? = some (.cells #[.int .i64 0] 3 (0, 0)) → w3.heap.size ≤ g13 → (?G013 : Nat → World → Prop) g13 W) => ?br013) ?pf013
                                                        case' br013 =>
                                                          refine (fun (H014 : ∀ (g14 : Nat) (W : World), Below w3.heap.size w3 W → W.heap[g14]? = some (.cells #[.int .i64 0] 3 (0, 0)) → w3.heap.size ≤ g14 → (?G014 : Nat → World → Prop) g14 W) => ?br014) ?pf014
                                                          case' br014 =>
                                                            have hHeld := HH0.out
                                                            refine wpAnyH_ready (rs := [1, 10, 11, 12]) (by kernel_rfl) (by simp) ?_
                                                            refine AllReadyH.cons rfl (fun K hK => ?_) (AllReadyH.cons rfl (fun K hK => ?_) (AllReadyH.cons rfl (fun K hK => ?_) (AllReadyH.cons rfl (fun K hK => ?_) (AllReadyH.nil))))
                                                            case refine_1 =>
                                                              go_simp
                                                              refine (lastI_any (some ad2) c2 G1 Wd (Kd.C_below HK13.out hHeld) HC2.out HP1.out HQ1.out).mono ?_
                                                              rw [HINO.out]
                                                              rintro e Wn ⟨rfl, hb⟩
                                                              dsimp only
                                                              refine hK.out _ _ (below_step hHeld hb) (fun hH => ?_)
                                                              replace hHeld := hH
                                                              (try simp only [Act.put, List.setIfInBounds_toArray, List.set_cons_zero, List.set_cons_succ])
                                                              exact H1  Wn hHeld  
                                                            case refine_2 =>
                                                              go_simp
                                                              refine hK.out _ _ (below_alloc hHeld (.cells #[.int .i64 0] 3)) (fun hH => ?_)
                                                              obtain ⟨Wn, hWn⟩ : ∃ W', W' = Wd.alloc (.cells #[.int .i64 0] 3) := ⟨_, rfl⟩
                                                              obtain ⟨g12, hg12⟩ : ∃ g, g = Wd.heap.size := ⟨_, rfl⟩
                                                              rw [← hWn] at hH ⊢
                                                              rw [← hg12]
                                                              have hb := (show Below Wd.heap.size Wd Wn by rw [hWn]; exact below_alloc (Below.refl _ _) _)
                                                              have G12 := Aside0.mk (show Wn.heap[g12]? = some (.cells #[.int .i64 0] 3 (0, 0)) by rw [hWn, hg12]; exact heap_new _ _)
                                                              have GE12 := Aside0.mk (show w3.heap.size ≤ g12 by rw [hg12]; exact hHeld.size)
                                                              replace hHeld := hH
                                                              (try simp only [Act.put, List.setIfInBounds_toArray, List.set_cons_zero, List.set_cons_succ])
                                                              exact H012 g12 Wn hHeld G12.out GE12.out 
                                                            case refine_3 =>
                                                              go_simp
                                                              refine hK.out _ _ (below_alloc hHeld (.cells #[.int .i64 0] 3)) (fun hH => ?_)
                                                              obtain ⟨Wn, hWn⟩ : ∃ W', W' = Wd.alloc (.cells #[.int .i64 0] 3) := ⟨_, rfl⟩
                                                              obtain ⟨g13, hg13⟩ : ∃ g, g = Wd.heap.size := ⟨_, rfl⟩
                                                              rw [← hWn] at hH ⊢
                                                              rw [← hg13]
                                                              have hb := (show Below Wd.heap.size Wd Wn by rw [hWn]; exact below_alloc (Below.refl _ _) _)
                                                              have G13 := Aside0.mk (show Wn.heap[g13]? = some (.cells #[.int .i64 0] 3 (0, 0)) by rw [hWn, hg13]; exact heap_new _ _)
                                                              have GE13 := Aside0.mk (show w3.heap.size ≤ g13 by rw [hg13]; exact hHeld.size)
                                                              replace hHeld := hH
                                                              (try simp only [Act.put, List.setIfInBounds_toArray, List.set_cons_zero, List.set_cons_succ])
                                                              exact H013 g13 Wn hHeld G13.out GE13.out 
                                                            case refine_4 =>
                                                              go_simp
                                                              refine hK.out _ _ (below_alloc hHeld (.cells #[.int .i64 0] 3)) (fun hH => ?_)
                                                              obtain ⟨Wn, hWn⟩ : ∃ W', W' = Wd.alloc (.cells #[.int .i64 0] 3) := ⟨_, rfl⟩
                                                              obtain ⟨g14, hg14⟩ : ∃ g, g = Wd.heap.size := ⟨_, rfl⟩
                                                              rw [← hWn] at hH ⊢
                                                              rw [← hg14]
                                                              have hb := (show Below Wd.heap.size Wd Wn by rw [hWn]; exact below_alloc (Below.refl _ _) _)
                                                              have G14 := Aside0.mk (show Wn.heap[g14]? = some (.cells #[.int .i64 0] 3 (0, 0)) by rw [hWn, hg14]; exact heap_new _ _)
                                                              have GE14 := Aside0.mk (show w3.heap.size ≤ g14 by rw [hg14]; exact hHeld.size)
                                                              replace hHeld := hH
                                                              (try simp only [Act.put, List.setIfInBounds_toArray, List.set_cons_zero, List.set_cons_succ])
                                                              exact H014 g14 Wn hHeld G14.out GE14.out 
            case br013 =>
              intro g14 W hHeld k14 l14 
              have G14 := Aside0.mk k14
              have GE14 := Aside0.mk l14
              clear k14 l14 
              refine wpAnyH_ready (rs := [1, 10, 11]) (by kernel_rfl) (by simp) ?_
              refine AllReadyH.cons rfl (fun K hK => ?_) (AllReadyH.cons rfl (fun K hK => ?_) (AllReadyH.cons rfl (fun K hK => ?_) (AllReadyH.nil)))
              case refine_1 =>
                go_simp
                refine (lastI_any (some ad2) c2 G1 W (Kd.C_below HK13.out hHeld) HC2.out HP1.out HQ1.out).mono ?_
                rw [HINO.out]
                rintro e Wn ⟨rfl, hb⟩
                dsimp only
                refine hK.out _ _ (below_step hHeld hb) (fun hH => ?_)
                replace G14 := Aside0.mk (blk_keep G14.out hb)
                replace hHeld := hH
                (try simp only [Act.put, List.setIfInBounds_toArray, List.set_cons_zero, List.set_cons_succ])
                exact H114 g14 Wn hHeld G14.out GE14.out 
              case refine_2 =>
                go_simp
                refine hK.out _ _ (below_alloc hHeld (.cells #[.int .i64 0] 3)) (fun hH => ?_)
                obtain ⟨Wn, hWn⟩ : ∃ W', W' = W.alloc (.cells #[.int .i64 0] 3) := ⟨_, rfl⟩
                obtain ⟨g12, hg12⟩ : ∃ g, g = W.heap.size := ⟨_, rfl⟩
                rw [← hWn] at hH ⊢
                rw [← hg12]
                have hb := (show Below W.heap.size W Wn by rw [hWn]; exact below_alloc (Below.refl _ _) _)
                have G12 := Aside0.mk (show Wn.heap[g12]? = some (.cells #[.int .i64 0] 3 (0, 0)) by rw [hWn, hg12]; exact heap_new _ _)
                have GE12 := Aside0.mk (show w3.heap.size ≤ g12 by rw [hg12]; exact hHeld.size)
                have N1214 := Aside0.mk (show g12 ≠ g14 from (by rw [hg12]; exact (Nat.ne_of_lt (blk_lt G14.out)).symm))
                replace G14 := Aside0.mk (blk_keep G14.out hb)
                replace hHeld := hH
                (try simp only [Act.put, List.setIfInBounds_toArray, List.set_cons_zero, List.set_cons_succ])
                exact H01214 g12 g14 Wn hHeld G12.out GE12.out G14.out GE14.out N1214.out
              case refine_3 =>
                go_simp
                refine hK.out _ _ (below_alloc hHeld (.cells #[.int .i64 0] 3)) (fun hH => ?_)
                obtain ⟨Wn, hWn⟩ : ∃ W', W' = W.alloc (.cells #[.int .i64 0] 3) := ⟨_, rfl⟩
                obtain ⟨g13, hg13⟩ : ∃ g, g = W.heap.size := ⟨_, rfl⟩
                rw [← hWn] at hH ⊢
                rw [← hg13]
                have hb := (show Below W.heap.size W Wn by rw [hWn]; exact below_alloc (Below.refl _ _) _)
                have G13 := Aside0.mk (show Wn.heap[g13]? = some (.cells #[.int .i64 0] 3 (0, 0)) by rw [hWn, hg13]; exact heap_new _ _)
                have GE13 := Aside0.mk (show w3.heap.size ≤ g13 by rw [hg13]; exact hHeld.size)
                have N1314 := Aside0.mk (show g13 ≠ g14 from (by rw [hg13]; exact (Nat.ne_of_lt (blk_lt G14.out)).symm))
                replace G14 := Aside0.mk (blk_keep G14.out hb)
                replace hHeld := hH
                (try simp only [Act.put, List.setIfInBounds_toArray, List.set_cons_zero, List.set_cons_succ])
                exact H01314 g13 g14 Wn hHeld G13.out GE13.out G14.out GE14.out N1314.out
            case pf013 =>
              intro g13 W hHeld k13 l13 
              have G13 := Aside0.mk k13
              have GE13 := Aside0.mk l13
              clear k13 l13 
              refine wpAnyH_ready (rs := [1, 10, 12]) (by kernel_rfl) (by simp) ?_
              refine AllReadyH.cons rfl (fun K hK => ?_) (AllReadyH.cons rfl (fun K hK => ?_) (AllReadyH.cons rfl (fun K hK => ?_) (AllReadyH.nil)))
              case refine_1 =>
                go_simp
                refine (lastI_any (some ad2) c2 G1 W (Kd.C_below HK13.out hHeld) HC2.out HP1.out HQ1.out).mono ?_
                rw [HINO.out]
                rintro e Wn ⟨rfl, hb⟩
                dsimp only
                refine hK.out _ _ (below_step hHeld hb) (fun hH => ?_)
                replace G13 := Aside0.mk (blk_keep G13.out hb)
                replace hHeld := hH
                (try simp only [Act.put, List.setIfInBounds_toArray, List.set_cons_zero, List.set_cons_succ])
                exact H113 g13 Wn hHeld G13.out GE13.out 
              case refine_2 =>
                go_simp
                refine hK.out _ _ (below_alloc hHeld (.cells #[.int .i64 0] 3)) (fun hH => ?_)
                obtain ⟨Wn, hWn⟩ : ∃ W', W' = W.alloc (.cells #[.int .i64 0] 3) := ⟨_, rfl⟩
                obtain ⟨g12, hg12⟩ : ∃ g, g = W.heap.size := ⟨_, rfl⟩
                rw [← hWn] at hH ⊢
                rw [← hg12]
                have hb := (show Below W.heap.size W Wn by rw [hWn]; exact below_alloc (Below.refl _ _) _)
                have G12 := Aside0.mk (show Wn.heap[g12]? = some (.cells #[.int .i64 0] 3 (0, 0)) by rw [hWn, hg12]; exact heap_new _ _)
                have GE12 := Aside0.mk (show w3.heap.size ≤ g12 by rw [hg12]; exact hHeld.size)
                have N1213 := Aside0.mk (show g12 ≠ g13 from (by rw [hg12]; exact (Nat.ne_of_lt (blk_lt G13.out)).symm))
                replace G13 := Aside0.mk (blk_keep G13.out hb)
                replace hHeld := hH
                (try simp only [Act.put, List.setIfInBounds_toArray, List.set_cons_zero, List.set_cons_succ])
                exact H01213 g12 g13 Wn hHeld G12.out GE12.out G13.out GE13.out N1213.out
              case refine_3 =>
                go_simp
                refine hK.out _ _ (below_alloc hHeld (.cells #[.int .i64 0] 3)) (fun hH => ?_)
                obtain ⟨Wn, hWn⟩ : ∃ W', W' = W.alloc (.cells #[.int .i64 0] 3) := ⟨_, rfl⟩
                obtain ⟨g14, hg14⟩ : ∃ g, g = W.heap.size := ⟨_, rfl⟩
                rw [← hWn] at hH ⊢
                rw [← hg14]
                have hb := (show Below W.heap.size W Wn by rw [hWn]; exact below_alloc (Below.refl _ _) _)
                have G14 := Aside0.mk (show Wn.heap[g14]? = some (.cells #[.int .i64 0] 3 (0, 0)) by rw [hWn, hg14]; exact heap_new _ _)
                have GE14 := Aside0.mk (show w3.heap.size ≤ g14 by rw [hg14]; exact hHeld.size)
                have N1314 := Aside0.mk (show g13 ≠ g14 from (by rw [hg14]; exact Nat.ne_of_lt (blk_lt G13.out)))
                replace G13 := Aside0.mk (blk_keep G13.out hb)
                replace hHeld := hH
                (try simp only [Act.put, List.setIfInBounds_toArray, List.set_cons_zero, List.set_cons_succ])
                exact H01314 g13 g14 Wn hHeld G13.out GE13.out G14.out GE14.out N1314.out
            case pf012 =>
              intro g12 W hHeld k12 l12 
              have G12 := Aside0.mk k12
              have GE12 := Aside0.mk l12
              clear k12 l12 
              refine wpAnyH_ready (rs := [1, 11, 12]) (by kernel_rfl) (by simp) ?_
              refine AllReadyH.cons rfl (fun K hK => ?_) (AllReadyH.cons rfl (fun K hK => ?_) (AllReadyH.cons rfl (fun K hK => ?_) (AllReadyH.nil)))
              case refine_1 =>
                go_simp
                refine (lastI_any (some ad2) c2 G1 W (Kd.C_below HK13.out hHeld) HC2.out HP1.out HQ1.out).mono ?_
                rw [HINO.out]
                rintro e Wn ⟨rfl, hb⟩
                dsimp only
                refine hK.out _ _ (below_step hHeld hb) (fun hH => ?_)
                replace G12 := Aside0.mk (blk_keep G12.out hb)
                replace hHeld := hH
                (try simp only [Act.put, List.setIfInBounds_toArray, List.set_cons_zero, List.set_cons_succ])
                exact H112 g12 Wn hHeld G12.out GE12.out 
              case refine_2 =>
                go_simp
                refine hK.out _ _ (below_alloc hHeld (.cells #[.int .i64 0] 3)) (fun hH => ?_)
                obtain ⟨Wn, hWn⟩ : ∃ W', W' = W.alloc (.cells #[.int .i64 0] 3) := ⟨_, rfl⟩
                obtain ⟨g13, hg13⟩ : ∃ g, g = W.heap.size := ⟨_, rfl⟩
                rw [← hWn] at hH ⊢
                rw [← hg13]
                have hb := (show Below W.heap.size W Wn by rw [hWn]; exact below_alloc (Below.refl _ _) _)
                have G13 := Aside0.mk (show Wn.heap[g13]? = some (.cells #[.int .i64 0] 3 (0, 0)) by rw [hWn, hg13]; exact heap_new _ _)
                have GE13 := Aside0.mk (show w3.heap.size ≤ g13 by rw [hg13]; exact hHeld.size)
                have N1213 := Aside0.mk (show g12 ≠ g13 from (by rw [hg13]; exact Nat.ne_of_lt (blk_lt G12.out)))
                replace G12 := Aside0.mk (blk_keep G12.out hb)
                replace hHeld := hH
                (try simp only [Act.put, List.setIfInBounds_toArray, List.set_cons_zero, List.set_cons_succ])
                exact H01213 g12 g13 Wn hHeld G12.out GE12.out G13.out GE13.out N1213.out
              case refine_3 =>
                go_simp
                refine hK.out _ _ (below_alloc hHeld (.cells #[.int .i64 0] 3)) (fun hH => ?_)
                obtain ⟨Wn, hWn⟩ : ∃ W', W' = W.alloc (.cells #[.int .i64 0] 3) := ⟨_, rfl⟩
                obtain ⟨g14, hg14⟩ : ∃ g, g = W.heap.size := ⟨_, rfl⟩
                rw [← hWn] at hH ⊢
                rw [← hg14]
                have hb := (show Below W.heap.size W Wn by rw [hWn]; exact below_alloc (Below.refl _ _) _)
                have G14 := Aside0.mk (show Wn.heap[g14]? = some (.cells #[.int .i64 0] 3 (0, 0)) by rw [hWn, hg14]; exact heap_new _ _)
                have GE14 := Aside0.mk (show w3.heap.size ≤ g14 by rw [hg14]; exact hHeld.size)
                have N1214 := Aside0.mk (show g12 ≠ g14 from (by rw [hg14]; exact Nat.ne_of_lt (blk_lt G12.out)))
                replace G12 := Aside0.mk (blk_keep G12.out hb)
                replace hHeld := hH
                (try simp only [Act.put, List.setIfInBounds_toArray, List.set_cons_zero, List.set_cons_succ])
                exact H01214 g12 g14 Wn hHeld G12.out GE12.out G14.out GE14.out N1214.out
            case pf1 =>
              intro  W hHeld  
              refine wpAnyH_ready (rs := [9, 10, 11, 12]) (by kernel_rfl) (by simp) ?_
              refine AllReadyH.cons rfl (fun K hK => ?_) (AllReadyH.cons rfl (fun K hK => ?_) (AllReadyH.cons rfl (fun K hK => ?_) (AllReadyH.cons rfl (fun K hK => ?_) (AllReadyH.nil))))
              case refine_1 =>
                go_simp
                refine (lastI_any A3 c3 G2 W (Kd.C_below HK2.out hHeld) HC3.out HP2.out HQ2.out).mono ?_
                rw [HIB.out]
                rintro e Wn ⟨rfl, hb⟩
                dsimp only
                refine hK.out _ _ (below_step hHeld hb) (fun hH => ?_)
                replace hHeld := hH
                (try simp only [Act.put, List.setIfInBounds_toArray, List.set_cons_zero, List.set_cons_succ])
                exact H2  Wn hHeld  
              case refine_2 =>
                go_simp
                refine hK.out _ _ (below_alloc hHeld (.cells #[.int .i64 0] 3)) (fun hH => ?_)
                obtain ⟨Wn, hWn⟩ : ∃ W', W' = W.alloc (.cells #[.int .i64 0] 3) := ⟨_, rfl⟩
                obtain ⟨g12, hg12⟩ : ∃ g, g = W.heap.size := ⟨_, rfl⟩
                rw [← hWn] at hH ⊢
                rw [← hg12]
                have hb := (show Below W.heap.size W Wn by rw [hWn]; exact below_alloc (Below.refl _ _) _)
                have G12 := Aside0.mk (show Wn.heap[g12]? = some (.cells #[.int .i64 0] 3 (0, 0)) by rw [hWn, hg12]; exact heap_new _ _)
                have GE12 := Aside0.mk (show w3.heap.size ≤ g12 by rw [hg12]; exact hHeld.size)
                replace hHeld := hH
                (try simp only [Act.put, List.setIfInBounds_toArray, List.set_cons_zero, List.set_cons_succ])
                exact H112 g12 Wn hHeld G12.out GE12.out 
              case refine_3 =>
                go_simp
                refine hK.out _ _ (below_alloc hHeld (.cells #[.int .i64 0] 3)) (fun hH => ?_)
                obtain ⟨Wn, hWn⟩ : ∃ W', W' = W.alloc (.cells #[.int .i64 0] 3) := ⟨_, rfl⟩
                obtain ⟨g13, hg13⟩ : ∃ g, g = W.heap.size := ⟨_, rfl⟩
                rw [← hWn] at hH ⊢
                rw [← hg13]
                have hb := (show Below W.heap.size W Wn by rw [hWn]; exact below_alloc (Below.refl _ _) _)
                have G13 := Aside0.mk (show Wn.heap[g13]? = some (.cells #[.int .i64 0] 3 (0, 0)) by rw [hWn, hg13]; exact heap_new _ _)
                have GE13 := Aside0.mk (show w3.heap.size ≤ g13 by rw [hg13]; exact hHeld.size)
                replace hHeld := hH
                (try simp only [Act.put, List.setIfInBounds_toArray, List.set_cons_zero, List.set_cons_succ])
                exact H113 g13 Wn hHeld G13.out GE13.out 
              case refine_4 =>
                go_simp
                refine hK.out _ _ (below_alloc hHeld (.cells #[.int .i64 0] 3)) (fun hH => ?_)
                obtain ⟨Wn, hWn⟩ : ∃ W', W' = W.alloc (.cells #[.int .i64 0] 3) := ⟨_, rfl⟩
                obtain ⟨g14, hg14⟩ : ∃ g, g = W.heap.size := ⟨_, rfl⟩
                rw [← hWn] at hH ⊢
                rw [← hg14]
                have hb := (show Below W.heap.size W Wn by rw [hWn]; exact below_alloc (Below.refl _ _) _)
                have G14 := Aside0.mk (show Wn.heap[g14]? = some (.cells #[.int .i64 0] 3 (0, 0)) by rw [hWn, hg14]; exact heap_new _ _)
                have GE14 := Aside0.mk (show w3.heap.size ≤ g14 by rw [hg14]; exact hHeld.size)
                replace hHeld := hH
                (try simp only [Act.put, List.setIfInBounds_toArray, List.set_cons_zero, List.set_cons_succ])
                exact H114 g14 Wn hHeld G14.out GE14.out 
            case pf01314 =>
              intro g13 g14 W hHeld k13 l13 k14 l14 n1314
              have G13 := Aside0.mk k13
              have GE13 := Aside0.mk l13
              have G14 := Aside0.mk k14
              have GE14 := Aside0.mk l14
              have N1314 := Aside0.mk n1314
              clear k13 l13 k14 l14 n1314
              refine wpAnyH_ready (rs := [1, 10]) (by kernel_rfl) (by simp) ?_
              refine AllReadyH.cons rfl (fun K hK => ?_) (AllReadyH.cons rfl (fun K hK => ?_) (AllReadyH.nil))
              case refine_1 =>
                go_simp
                refine (lastI_any (some ad2) c2 G1 W (Kd.C_below HK13.out hHeld) HC2.out HP1.out HQ1.out).mono ?_
                rw [HINO.out]
                rintro e Wn ⟨rfl, hb⟩
                dsimp only
                refine hK.out _ _ (below_step hHeld hb) (fun hH => ?_)
                replace G13 := Aside0.mk (blk_keep G13.out hb)
                replace G14 := Aside0.mk (blk_keep G14.out hb)
                replace hHeld := hH
                (try simp only [Act.put, List.setIfInBounds_toArray, List.set_cons_zero, List.set_cons_succ])
                exact H11314 g13 g14 Wn hHeld G13.out GE13.out G14.out GE14.out N1314.out
              case refine_2 =>
                go_simp
                refine hK.out _ _ (below_alloc hHeld (.cells #[.int .i64 0] 3)) (fun hH => ?_)
                obtain ⟨Wn, hWn⟩ : ∃ W', W' = W.alloc (.cells #[.int .i64 0] 3) := ⟨_, rfl⟩
                obtain ⟨g12, hg12⟩ : ∃ g, g = W.heap.size := ⟨_, rfl⟩
                rw [← hWn] at hH ⊢
                rw [← hg12]
                have hb := (show Below W.heap.size W Wn by rw [hWn]; exact below_alloc (Below.refl _ _) _)
                have G12 := Aside0.mk (show Wn.heap[g12]? = some (.cells #[.int .i64 0] 3 (0, 0)) by rw [hWn, hg12]; exact heap_new _ _)
                have GE12 := Aside0.mk (show w3.heap.size ≤ g12 by rw [hg12]; exact hHeld.size)
                have N1213 := Aside0.mk (show g12 ≠ g13 from (by rw [hg12]; exact (Nat.ne_of_lt (blk_lt G13.out)).symm))
                replace G13 := Aside0.mk (blk_keep G13.out hb)
                have N1214 := Aside0.mk (show g12 ≠ g14 from (by rw [hg12]; exact (Nat.ne_of_lt (blk_lt G14.out)).symm))
                replace G14 := Aside0.mk (blk_keep G14.out hb)
                replace hHeld := hH
                (try simp only [Act.put, List.setIfInBounds_toArray, List.set_cons_zero, List.set_cons_succ])
                exact H0121314 g12 g13 g14 Wn hHeld G12.out GE12.out G13.out GE13.out G14.out GE14.out N1213.out N1214.out N1314.out
            case pf01214 =>
              intro g12 g14 W hHeld k12 l12 k14 l14 n1214
              have G12 := Aside0.mk k12
              have GE12 := Aside0.mk l12
              have G14 := Aside0.mk k14
              have GE14 := Aside0.mk l14
              have N1214 := Aside0.mk n1214
              clear k12 l12 k14 l14 n1214
              refine wpAnyH_ready (rs := [1, 11]) (by kernel_rfl) (by simp) ?_
              refine AllReadyH.cons rfl (fun K hK => ?_) (AllReadyH.cons rfl (fun K hK => ?_) (AllReadyH.nil))
              case refine_1 =>
                go_simp
                refine (lastI_any (some ad2) c2 G1 W (Kd.C_below HK13.out hHeld) HC2.out HP1.out HQ1.out).mono ?_
                rw [HINO.out]
                rintro e Wn ⟨rfl, hb⟩
                dsimp only
                refine hK.out _ _ (below_step hHeld hb) (fun hH => ?_)
                replace G12 := Aside0.mk (blk_keep G12.out hb)
                replace G14 := Aside0.mk (blk_keep G14.out hb)
                replace hHeld := hH
                (try simp only [Act.put, List.setIfInBounds_toArray, List.set_cons_zero, List.set_cons_succ])
                exact H11214 g12 g14 Wn hHeld G12.out GE12.out G14.out GE14.out N1214.out
              case refine_2 =>
                go_simp
                refine hK.out _ _ (below_alloc hHeld (.cells #[.int .i64 0] 3)) (fun hH => ?_)
                obtain ⟨Wn, hWn⟩ : ∃ W', W' = W.alloc (.cells #[.int .i64 0] 3) := ⟨_, rfl⟩
                obtain ⟨g13, hg13⟩ : ∃ g, g = W.heap.size := ⟨_, rfl⟩
                rw [← hWn] at hH ⊢
                rw [← hg13]
                have hb := (show Below W.heap.size W Wn by rw [hWn]; exact below_alloc (Below.refl _ _) _)
                have G13 := Aside0.mk (show Wn.heap[g13]? = some (.cells #[.int .i64 0] 3 (0, 0)) by rw [hWn, hg13]; exact heap_new _ _)
                have GE13 := Aside0.mk (show w3.heap.size ≤ g13 by rw [hg13]; exact hHeld.size)
                have N1213 := Aside0.mk (show g12 ≠ g13 from (by rw [hg13]; exact Nat.ne_of_lt (blk_lt G12.out)))
                replace G12 := Aside0.mk (blk_keep G12.out hb)
                have N1314 := Aside0.mk (show g13 ≠ g14 from (by rw [hg13]; exact (Nat.ne_of_lt (blk_lt G14.out)).symm))
                replace G14 := Aside0.mk (blk_keep G14.out hb)
                replace hHeld := hH
                (try simp only [Act.put, List.setIfInBounds_toArray, List.set_cons_zero, List.set_cons_succ])
                exact H0121314 g12 g13 g14 Wn hHeld G12.out GE12.out G13.out GE13.out G14.out GE14.out N1213.out N1214.out N1314.out
            case pf01213 =>
              intro g12 g13 W hHeld k12 l12 k13 l13 n1213
              have G12 := Aside0.mk k12
              have GE12 := Aside0.mk l12
              have G13 := Aside0.mk k13
              have GE13 := Aside0.mk l13
              have N1213 := Aside0.mk n1213
              clear k12 l12 k13 l13 n1213
              refine wpAnyH_ready (rs := [1, 12]) (by kernel_rfl) (by simp) ?_
              refine AllReadyH.cons rfl (fun K hK => ?_) (AllReadyH.cons rfl (fun K hK => ?_) (AllReadyH.nil))
              case refine_1 =>
                go_simp
                refine (lastI_any (some ad2) c2 G1 W (Kd.C_below HK13.out hHeld) HC2.out HP1.out HQ1.out).mono ?_
                rw [HINO.out]
                rintro e Wn ⟨rfl, hb⟩
                dsimp only
                refine hK.out _ _ (below_step hHeld hb) (fun hH => ?_)
                replace G12 := Aside0.mk (blk_keep G12.out hb)
                replace G13 := Aside0.mk (blk_keep G13.out hb)
                replace hHeld := hH
                (try simp only [Act.put, List.setIfInBounds_toArray, List.set_cons_zero, List.set_cons_succ])
                exact H11213 g12 g13 Wn hHeld G12.out GE12.out G13.out GE13.out N1213.out
              case refine_2 =>
                go_simp
                refine hK.out _ _ (below_alloc hHeld (.cells #[.int .i64 0] 3)) (fun hH => ?_)
                obtain ⟨Wn, hWn⟩ : ∃ W', W' = W.alloc (.cells #[.int .i64 0] 3) := ⟨_, rfl⟩
                obtain ⟨g14, hg14⟩ : ∃ g, g = W.heap.size := ⟨_, rfl⟩
                rw [← hWn] at hH ⊢
                rw [← hg14]
                have hb := (show Below W.heap.size W Wn by rw [hWn]; exact below_alloc (Below.refl _ _) _)
                have G14 := Aside0.mk (show Wn.heap[g14]? = some (.cells #[.int .i64 0] 3 (0, 0)) by rw [hWn, hg14]; exact heap_new _ _)
                have GE14 := Aside0.mk (show w3.heap.size ≤ g14 by rw [hg14]; exact hHeld.size)
                have N1214 := Aside0.mk (show g12 ≠ g14 from (by rw [hg14]; exact Nat.ne_of_lt (blk_lt G12.out)))
                replace G12 := Aside0.mk (blk_keep G12.out hb)
                have N1314 := Aside0.mk (show g13 ≠ g14 from (by rw [hg14]; exact Nat.ne_of_lt (blk_lt G13.out)))
                replace G13 := Aside0.mk (blk_keep G13.out hb)
                replace hHeld := hH
                (try simp only [Act.put, List.setIfInBounds_toArray, List.set_cons_zero, List.set_cons_succ])
                exact H0121314 g12 g13 g14 Wn hHeld G12.out GE12.out G13.out GE13.out G14.out GE14.out N1213.out N1214.out N1314.out
            case pf114 =>
              intro g14 W hHeld k14 l14 
              have G14 := Aside0.mk k14
              have GE14 := Aside0.mk l14
              clear k14 l14 
              refine wpAnyH_ready (rs := [9, 10, 11]) (by kernel_rfl) (by simp) ?_
              refine AllReadyH.cons rfl (fun K hK => ?_) (AllReadyH.cons rfl (fun K hK => ?_) (AllReadyH.cons rfl (fun K hK => ?_) (AllReadyH.nil)))
              case refine_1 =>
                go_simp
                refine (lastI_any A3 c3 G2 W (Kd.C_below HK2.out hHeld) HC3.out HP2.out HQ2.out).mono ?_
                rw [HIB.out]
                rintro e Wn ⟨rfl, hb⟩
                dsimp only
                refine hK.out _ _ (below_step hHeld hb) (fun hH => ?_)
                replace G14 := Aside0.mk (blk_keep G14.out hb)
                replace hHeld := hH
                (try simp only [Act.put, List.setIfInBounds_toArray, List.set_cons_zero, List.set_cons_succ])
                exact H214 g14 Wn hHeld G14.out GE14.out 
              case refine_2 =>
                go_simp
                refine hK.out _ _ (below_alloc hHeld (.cells #[.int .i64 0] 3)) (fun hH => ?_)
                obtain ⟨Wn, hWn⟩ : ∃ W', W' = W.alloc (.cells #[.int .i64 0] 3) := ⟨_, rfl⟩
                obtain ⟨g12, hg12⟩ : ∃ g, g = W.heap.size := ⟨_, rfl⟩
                rw [← hWn] at hH ⊢
                rw [← hg12]
                have hb := (show Below W.heap.size W Wn by rw [hWn]; exact below_alloc (Below.refl _ _) _)
                have G12 := Aside0.mk (show Wn.heap[g12]? = some (.cells #[.int .i64 0] 3 (0, 0)) by rw [hWn, hg12]; exact heap_new _ _)
                have GE12 := Aside0.mk (show w3.heap.size ≤ g12 by rw [hg12]; exact hHeld.size)
                have N1214 := Aside0.mk (show g12 ≠ g14 from (by rw [hg12]; exact (Nat.ne_of_lt (blk_lt G14.out)).symm))
                replace G14 := Aside0.mk (blk_keep G14.out hb)
                replace hHeld := hH
                (try simp only [Act.put, List.setIfInBounds_toArray, List.set_cons_zero, List.set_cons_succ])
                exact H11214 g12 g14 Wn hHeld G12.out GE12.out G14.out GE14.out N1214.out
              case refine_3 =>
                go_simp
                refine hK.out _ _ (below_alloc hHeld (.cells #[.int .i64 0] 3)) (fun hH => ?_)
                obtain ⟨Wn, hWn⟩ : ∃ W', W' = W.alloc (.cells #[.int .i64 0] 3) := ⟨_, rfl⟩
                obtain ⟨g13, hg13⟩ : ∃ g, g = W.heap.size := ⟨_, rfl⟩
                rw [← hWn] at hH ⊢
                rw [← hg13]
                have hb := (show Below W.heap.size W Wn by rw [hWn]; exact below_alloc (Below.refl _ _) _)
                have G13 := Aside0.mk (show Wn.heap[g13]? = some (.cells #[.int .i64 0] 3 (0, 0)) by rw [hWn, hg13]; exact heap_new _ _)
                have GE13 := Aside0.mk (show w3.heap.size ≤ g13 by rw [hg13]; exact hHeld.size)
                have N1314 := Aside0.mk (show g13 ≠ g14 from (by rw [hg13]; exact (Nat.ne_of_lt (blk_lt G14.out)).symm))
                replace G14 := Aside0.mk (blk_keep G14.out hb)
                replace hHeld := hH
                (try simp only [Act.put, List.setIfInBounds_toArray, List.set_cons_zero, List.set_cons_succ])
                exact H11314 g13 g14 Wn hHeld G13.out GE13.out G14.out GE14.out N1314.out
            case pf113 =>
              intro g13 W hHeld k13 l13 
              have G13 := Aside0.mk k13
              have GE13 := Aside0.mk l13
              clear k13 l13 
              refine wpAnyH_ready (rs := [9, 10, 12]) (by kernel_rfl) (by simp) ?_
              refine AllReadyH.cons rfl (fun K hK => ?_) (AllReadyH.cons rfl (fun K hK => ?_) (AllReadyH.cons rfl (fun K hK => ?_) (AllReadyH.nil)))
              case refine_1 =>
                go_simp
                refine (lastI_any A3 c3 G2 W (Kd.C_below HK2.out hHeld) HC3.out HP2.out HQ2.out).mono ?_
                rw [HIB.out]
                rintro e Wn ⟨rfl, hb⟩
                dsimp only
                refine hK.out _ _ (below_step hHeld hb) (fun hH => ?_)
                replace G13 := Aside0.mk (blk_keep G13.out hb)
                replace hHeld := hH
                (try simp only [Act.put, List.setIfInBounds_toArray, List.set_cons_zero, List.set_cons_succ])
                exact H213 g13 Wn hHeld G13.out GE13.out 
              case refine_2 =>
                go_simp
                refine hK.out _ _ (below_alloc hHeld (.cells #[.int .i64 0] 3)) (fun hH => ?_)
                obtain ⟨Wn, hWn⟩ : ∃ W', W' = W.alloc (.cells #[.int .i64 0] 3) := ⟨_, rfl⟩
                obtain ⟨g12, hg12⟩ : ∃ g, g = W.heap.size := ⟨_, rfl⟩
                rw [← hWn] at hH ⊢
                rw [← hg12]
                have hb := (show Below W.heap.size W Wn by rw [hWn]; exact below_alloc (Below.refl _ _) _)
                have G12 := Aside0.mk (show Wn.heap[g12]? = some (.cells #[.int .i64 0] 3 (0, 0)) by rw [hWn, hg12]; exact heap_new _ _)
                have GE12 := Aside0.mk (show w3.heap.size ≤ g12 by rw [hg12]; exact hHeld.size)
                have N1213 := Aside0.mk (show g12 ≠ g13 from (by rw [hg12]; exact (Nat.ne_of_lt (blk_lt G13.out)).symm))
                replace G13 := Aside0.mk (blk_keep G13.out hb)
                replace hHeld := hH
                (try simp only [Act.put, List.setIfInBounds_toArray, List.set_cons_zero, List.set_cons_succ])
                exact H11213 g12 g13 Wn hHeld G12.out GE12.out G13.out GE13.out N1213.out
              case refine_3 =>
                go_simp
                refine hK.out _ _ (below_alloc hHeld (.cells #[.int .i64 0] 3)) (fun hH => ?_)
                obtain ⟨Wn, hWn⟩ : ∃ W', W' = W.alloc (.cells #[.int .i64 0] 3) := ⟨_, rfl⟩
                obtain ⟨g14, hg14⟩ : ∃ g, g = W.heap.size := ⟨_, rfl⟩
                rw [← hWn] at hH ⊢
                rw [← hg14]
                have hb := (show Below W.heap.size W Wn by rw [hWn]; exact below_alloc (Below.refl _ _) _)
                have G14 := Aside0.mk (show Wn.heap[g14]? = some (.cells #[.int .i64 0] 3 (0, 0)) by rw [hWn, hg14]; exact heap_new _ _)
                have GE14 := Aside0.mk (show w3.heap.size ≤ g14 by rw [hg14]; exact hHeld.size)
                have N1314 := Aside0.mk (show g13 ≠ g14 from (by rw [hg14]; exact Nat.ne_of_lt (blk_lt G13.out)))
                replace G13 := Aside0.mk (blk_keep G13.out hb)
                replace hHeld := hH
                (try simp only [Act.put, List.setIfInBounds_toArray, List.set_cons_zero, List.set_cons_succ])
                exact H11314 g13 g14 Wn hHeld G13.out GE13.out G14.out GE14.out N1314.out
            case pf112 =>
              intro g12 W hHeld k12 l12 
              have G12 := Aside0.mk k12
              have GE12 := Aside0.mk l12
              clear k12 l12 
              refine wpAnyH_ready (rs := [9, 11, 12]) (by kernel_rfl) (by simp) ?_
              refine AllReadyH.cons rfl (fun K hK => ?_) (AllReadyH.cons rfl (fun K hK => ?_) (AllReadyH.cons rfl (fun K hK => ?_) (AllReadyH.nil)))
              case refine_1 =>
                go_simp
                refine (lastI_any A3 c3 G2 W (Kd.C_below HK2.out hHeld) HC3.out HP2.out HQ2.out).mono ?_
                rw [HIB.out]
                rintro e Wn ⟨rfl, hb⟩
                dsimp only
                refine hK.out _ _ (below_step hHeld hb) (fun hH => ?_)
                replace G12 := Aside0.mk (blk_keep G12.out hb)
                replace hHeld := hH
                (try simp only [Act.put, List.setIfInBounds_toArray, List.set_cons_zero, List.set_cons_succ])
                exact H212 g12 Wn hHeld G12.out GE12.out 
              case refine_2 =>
                go_simp
                refine hK.out _ _ (below_alloc hHeld (.cells #[.int .i64 0] 3)) (fun hH => ?_)
                obtain ⟨Wn, hWn⟩ : ∃ W', W' = W.alloc (.cells #[.int .i64 0] 3) := ⟨_, rfl⟩
                obtain ⟨g13, hg13⟩ : ∃ g, g = W.heap.size := ⟨_, rfl⟩
                rw [← hWn] at hH ⊢
                rw [← hg13]
                have hb := (show Below W.heap.size W Wn by rw [hWn]; exact below_alloc (Below.refl _ _) _)
                have G13 := Aside0.mk (show Wn.heap[g13]? = some (.cells #[.int .i64 0] 3 (0, 0)) by rw [hWn, hg13]; exact heap_new _ _)
                have GE13 := Aside0.mk (show w3.heap.size ≤ g13 by rw [hg13]; exact hHeld.size)
                have N1213 := Aside0.mk (show g12 ≠ g13 from (by rw [hg13]; exact Nat.ne_of_lt (blk_lt G12.out)))
                replace G12 := Aside0.mk (blk_keep G12.out hb)
                replace hHeld := hH
                (try simp only [Act.put, List.setIfInBounds_toArray, List.set_cons_zero, List.set_cons_succ])
                exact H11213 g12 g13 Wn hHeld G12.out GE12.out G13.out GE13.out N1213.out
              case refine_3 =>
                go_simp
                refine hK.out _ _ (below_alloc hHeld (.cells #[.int .i64 0] 3)) (fun hH => ?_)
                obtain ⟨Wn, hWn⟩ : ∃ W', W' = W.alloc (.cells #[.int .i64 0] 3) := ⟨_, rfl⟩
                obtain ⟨g14, hg14⟩ : ∃ g, g = W.heap.size := ⟨_, rfl⟩
                rw [← hWn] at hH ⊢
                rw [← hg14]
                have hb := (show Below W.heap.size W Wn by rw [hWn]; exact below_alloc (Below.refl _ _) _)
                have G14 := Aside0.mk (show Wn.heap[g14]? = some (.cells #[.int .i64 0] 3 (0, 0)) by rw [hWn, hg14]; exact heap_new _ _)
                have GE14 := Aside0.mk (show w3.heap.size ≤ g14 by rw [hg14]; exact hHeld.size)
                have N1214 := Aside0.mk (show g12 ≠ g14 from (by rw [hg14]; exact Nat.ne_of_lt (blk_lt G12.out)))
                replace G12 := Aside0.mk (blk_keep G12.out hb)
                replace hHeld := hH
                (try simp only [Act.put, List.setIfInBounds_toArray, List.set_cons_zero, List.set_cons_succ])
                exact H11214 g12 g14 Wn hHeld G12.out GE12.out G14.out GE14.out N1214.out
            case pf2 =>
              intro  W hHeld  
              refine wpAnyH_ready (rs := [10, 11, 12]) (by kernel_rfl) (by simp) ?_
              refine AllReadyH.cons rfl (fun K hK => ?_) (AllReadyH.cons rfl (fun K hK => ?_) (AllReadyH.cons rfl (fun K hK => ?_) (AllReadyH.nil)))
              case refine_1 =>
                go_simp
                refine hK.out _ _ (below_alloc hHeld (.cells #[.int .i64 0] 3)) (fun hH => ?_)
                obtain ⟨Wn, hWn⟩ : ∃ W', W' = W.alloc (.cells #[.int .i64 0] 3) := ⟨_, rfl⟩
                obtain ⟨g12, hg12⟩ : ∃ g, g = W.heap.size := ⟨_, rfl⟩
                rw [← hWn] at hH ⊢
                rw [← hg12]
                have hb := (show Below W.heap.size W Wn by rw [hWn]; exact below_alloc (Below.refl _ _) _)
                have G12 := Aside0.mk (show Wn.heap[g12]? = some (.cells #[.int .i64 0] 3 (0, 0)) by rw [hWn, hg12]; exact heap_new _ _)
                have GE12 := Aside0.mk (show w3.heap.size ≤ g12 by rw [hg12]; exact hHeld.size)
                replace hHeld := hH
                (try simp only [Act.put, List.setIfInBounds_toArray, List.set_cons_zero, List.set_cons_succ])
                exact H212 g12 Wn hHeld G12.out GE12.out 
              case refine_2 =>
                go_simp
                refine hK.out _ _ (below_alloc hHeld (.cells #[.int .i64 0] 3)) (fun hH => ?_)
                obtain ⟨Wn, hWn⟩ : ∃ W', W' = W.alloc (.cells #[.int .i64 0] 3) := ⟨_, rfl⟩
                obtain ⟨g13, hg13⟩ : ∃ g, g = W.heap.size := ⟨_, rfl⟩
                rw [← hWn] at hH ⊢
                rw [← hg13]
                have hb := (show Below W.heap.size W Wn by rw [hWn]; exact below_alloc (Below.refl _ _) _)
                have G13 := Aside0.mk (show Wn.heap[g13]? = some (.cells #[.int .i64 0] 3 (0, 0)) by rw [hWn, hg13]; exact heap_new _ _)
                have GE13 := Aside0.mk (show w3.heap.size ≤ g13 by rw [hg13]; exact hHeld.size)
                replace hHeld := hH
                (try simp only [Act.put, List.setIfInBounds_toArray, List.set_cons_zero, List.set_cons_succ])
                exact H213 g13 Wn hHeld G13.out GE13.out 
              case refine_3 =>
                go_simp
                refine hK.out _ _ (below_alloc hHeld (.cells #[.int .i64 0] 3)) (fun hH => ?_)
                obtain ⟨Wn, hWn⟩ : ∃ W', W' = W.alloc (.cells #[.int .i64 0] 3) := ⟨_, rfl⟩
                obtain ⟨g14, hg14⟩ : ∃ g, g = W.heap.size := ⟨_, rfl⟩
                rw [← hWn] at hH ⊢
                rw [← hg14]
                have hb := (show Below W.heap.size W Wn by rw [hWn]; exact below_alloc (Below.refl _ _) _)
                have G14 := Aside0.mk (show Wn.heap[g14]? = some (.cells #[.int .i64 0] 3 (0, 0)) by rw [hWn, hg14]; exact heap_new _ _)
                have GE14 := Aside0.mk (show w3.heap.size ≤ g14 by rw [hg14]; exact hHeld.size)
                replace hHeld := hH
                (try simp only [Act.put, List.setIfInBounds_toArray, List.set_cons_zero, List.set_cons_succ])
                exact H214 g14 Wn hHeld G14.out GE14.out 
            case pf0121314 =>
              intro g12 g13 g14 W hHeld k12 l12 k13 l13 k14 l14 n1213 n1214 n1314
              have G12 := Aside0.mk k12
              have GE12 := Aside0.mk l12
              have G13 := Aside0.mk k13
              have GE13 := Aside0.mk l13
              have G14 := Aside0.mk k14
              have GE14 := Aside0.mk l14
              have N1213 := Aside0.mk n1213
              have N1214 := Aside0.mk n1214
              have N1314 := Aside0.mk n1314
              clear k12 l12 k13 l13 k14 l14 n1213 n1214 n1314
              refine wpAnyH_ready (rs := [1]) (by kernel_rfl) (by simp) ?_
              refine AllReadyH.cons rfl (fun K hK => ?_) (AllReadyH.nil)
              go_simp
              refine (lastI_any (some ad2) c2 G1 W (Kd.C_below HK13.out hHeld) HC2.out HP1.out HQ1.out).mono ?_
              rw [HINO.out]
              rintro e Wn ⟨rfl, hb⟩
              dsimp only
              refine hK.out _ _ (below_step hHeld hb) (fun hH => ?_)
              replace G12 := Aside0.mk (blk_keep G12.out hb)
              replace G13 := Aside0.mk (blk_keep G13.out hb)
              replace G14 := Aside0.mk (blk_keep G14.out hb)
              replace hHeld := hH
              (try simp only [Act.put, List.setIfInBounds_toArray, List.set_cons_zero, List.set_cons_succ])
              exact H1121314 g12 g13 g14 Wn hHeld G12.out GE12.out G13.out GE13.out G14.out GE14.out N1213.out N1214.out N1314.out
            case pf11314 =>
              intro g13 g14 W hHeld k13 l13 k14 l14 n1314
              have G13 := Aside0.mk k13
              have GE13 := Aside0.mk l13
              have G14 := Aside0.mk k14
              have GE14 := Aside0.mk l14
              have N1314 := Aside0.mk n1314
              clear k13 l13 k14 l14 n1314
              refine wpAnyH_ready (rs := [9, 10]) (by kernel_rfl) (by simp) ?_
              refine AllReadyH.cons rfl (fun K hK => ?_) (AllReadyH.cons rfl (fun K hK => ?_) (AllReadyH.nil))
              case refine_1 =>
                go_simp
                refine (lastI_any A3 c3 G2 W (Kd.C_below HK2.out hHeld) HC3.out HP2.out HQ2.out).mono ?_
                rw [HIB.out]
                rintro e Wn ⟨rfl, hb⟩
                dsimp only
                refine hK.out _ _ (below_step hHeld hb) (fun hH => ?_)
                replace G13 := Aside0.mk (blk_keep G13.out hb)
                replace G14 := Aside0.mk (blk_keep G14.out hb)
                replace hHeld := hH
                (try simp only [Act.put, List.setIfInBounds_toArray, List.set_cons_zero, List.set_cons_succ])
                exact H21314 g13 g14 Wn hHeld G13.out GE13.out G14.out GE14.out N1314.out
              case refine_2 =>
                go_simp
                refine hK.out _ _ (below_alloc hHeld (.cells #[.int .i64 0] 3)) (fun hH => ?_)
                obtain ⟨Wn, hWn⟩ : ∃ W', W' = W.alloc (.cells #[.int .i64 0] 3) := ⟨_, rfl⟩
                obtain ⟨g12, hg12⟩ : ∃ g, g = W.heap.size := ⟨_, rfl⟩
                rw [← hWn] at hH ⊢
                rw [← hg12]
                have hb := (show Below W.heap.size W Wn by rw [hWn]; exact below_alloc (Below.refl _ _) _)
                have G12 := Aside0.mk (show Wn.heap[g12]? = some (.cells #[.int .i64 0] 3 (0, 0)) by rw [hWn, hg12]; exact heap_new _ _)
                have GE12 := Aside0.mk (show w3.heap.size ≤ g12 by rw [hg12]; exact hHeld.size)
                have N1213 := Aside0.mk (show g12 ≠ g13 from (by rw [hg12]; exact (Nat.ne_of_lt (blk_lt G13.out)).symm))
                replace G13 := Aside0.mk (blk_keep G13.out hb)
                have N1214 := Aside0.mk (show g12 ≠ g14 from (by rw [hg12]; exact (Nat.ne_of_lt (blk_lt G14.out)).symm))
                replace G14 := Aside0.mk (blk_keep G14.out hb)
                replace hHeld := hH
                (try simp only [Act.put, List.setIfInBounds_toArray, List.set_cons_zero, List.set_cons_succ])
                exact H1121314 g12 g13 g14 Wn hHeld G12.out GE12.out G13.out GE13.out G14.out GE14.out N1213.out N1214.out N1314.out
            case pf11214 =>
              intro g12 g14 W hHeld k12 l12 k14 l14 n1214
              have G12 := Aside0.mk k12
              have GE12 := Aside0.mk l12
              have G14 := Aside0.mk k14
              have GE14 := Aside0.mk l14
              have N1214 := Aside0.mk n1214
              clear k12 l12 k14 l14 n1214
              refine wpAnyH_ready (rs := [9, 11]) (by kernel_rfl) (by simp) ?_
              refine AllReadyH.cons rfl (fun K hK => ?_) (AllReadyH.cons rfl (fun K hK => ?_) (AllReadyH.nil))
              case refine_1 =>
                go_simp
                refine (lastI_any A3 c3 G2 W (Kd.C_below HK2.out hHeld) HC3.out HP2.out HQ2.out).mono ?_
                rw [HIB.out]
                rintro e Wn ⟨rfl, hb⟩
                dsimp only
                refine hK.out _ _ (below_step hHeld hb) (fun hH => ?_)
                replace G12 := Aside0.mk (blk_keep G12.out hb)
                replace G14 := Aside0.mk (blk_keep G14.out hb)
                replace hHeld := hH
                (try simp only [Act.put, List.setIfInBounds_toArray, List.set_cons_zero, List.set_cons_succ])
                exact H21214 g12 g14 Wn hHeld G12.out GE12.out G14.out GE14.out N1214.out
              case refine_2 =>
                go_simp
                refine hK.out _ _ (below_alloc hHeld (.cells #[.int .i64 0] 3)) (fun hH => ?_)
                obtain ⟨Wn, hWn⟩ : ∃ W', W' = W.alloc (.cells #[.int .i64 0] 3) := ⟨_, rfl⟩
                obtain ⟨g13, hg13⟩ : ∃ g, g = W.heap.size := ⟨_, rfl⟩
                rw [← hWn] at hH ⊢
                rw [← hg13]
                have hb := (show Below W.heap.size W Wn by rw [hWn]; exact below_alloc (Below.refl _ _) _)
                have G13 := Aside0.mk (show Wn.heap[g13]? = some (.cells #[.int .i64 0] 3 (0, 0)) by rw [hWn, hg13]; exact heap_new _ _)
                have GE13 := Aside0.mk (show w3.heap.size ≤ g13 by rw [hg13]; exact hHeld.size)
                have N1213 := Aside0.mk (show g12 ≠ g13 from (by rw [hg13]; exact Nat.ne_of_lt (blk_lt G12.out)))
                replace G12 := Aside0.mk (blk_keep G12.out hb)
                have N1314 := Aside0.mk (show g13 ≠ g14 from (by rw [hg13]; exact (Nat.ne_of_lt (blk_lt G14.out)).symm))
                replace G14 := Aside0.mk (blk_keep G14.out hb)
                replace hHeld := hH
                (try simp only [Act.put, List.setIfInBounds_toArray, List.set_cons_zero, List.set_cons_succ])
                exact H1121314 g12 g13 g14 Wn hHeld G12.out GE12.out G13.out GE13.out G14.out GE14.out N1213.out N1214.out N1314.out
            case pf11213 =>
              intro g12 g13 W hHeld k12 l12 k13 l13 n1213
              have G12 := Aside0.mk k12
              have GE12 := Aside0.mk l12
              have G13 := Aside0.mk k13
              have GE13 := Aside0.mk l13
              have N1213 := Aside0.mk n1213
              clear k12 l12 k13 l13 n1213
              refine wpAnyH_ready (rs := [9, 12]) (by kernel_rfl) (by simp) ?_
              refine AllReadyH.cons rfl (fun K hK => ?_) (AllReadyH.cons rfl (fun K hK => ?_) (AllReadyH.nil))
              case refine_1 =>
                go_simp
                refine (lastI_any A3 c3 G2 W (Kd.C_below HK2.out hHeld) HC3.out HP2.out HQ2.out).mono ?_
                rw [HIB.out]
                rintro e Wn ⟨rfl, hb⟩
                dsimp only
                refine hK.out _ _ (below_step hHeld hb) (fun hH => ?_)
                replace G12 := Aside0.mk (blk_keep G12.out hb)
                replace G13 := Aside0.mk (blk_keep G13.out hb)
                replace hHeld := hH
                (try simp only [Act.put, List.setIfInBounds_toArray, List.set_cons_zero, List.set_cons_succ])
                exact H21213 g12 g13 Wn hHeld G12.out GE12.out G13.out GE13.out N1213.out
              case refine_2 =>
                go_simp
                refine hK.out _ _ (below_alloc hHeld (.cells #[.int .i64 0] 3)) (fun hH => ?_)
                obtain ⟨Wn, hWn⟩ : ∃ W', W' = W.alloc (.cells #[.int .i64 0] 3) := ⟨_, rfl⟩
                obtain ⟨g14, hg14⟩ : ∃ g, g = W.heap.size := ⟨_, rfl⟩
                rw [← hWn] at hH ⊢
                rw [← hg14]
                have hb := (show Below W.heap.size W Wn by rw [hWn]; exact below_alloc (Below.refl _ _) _)
                have G14 := Aside0.mk (show Wn.heap[g14]? = some (.cells #[.int .i64 0] 3 (0, 0)) by rw [hWn, hg14]; exact heap_new _ _)
                have GE14 := Aside0.mk (show w3.heap.size ≤ g14 by rw [hg14]; exact hHeld.size)
                have N1214 := Aside0.mk (show g12 ≠ g14 from (by rw [hg14]; exact Nat.ne_of_lt (blk_lt G12.out)))
                replace G12 := Aside0.mk (blk_keep G12.out hb)
                have N1314 := Aside0.mk (show g13 ≠ g14 from (by rw [hg14]; exact Nat.ne_of_lt (blk_lt G13.out)))
                replace G13 := Aside0.mk (blk_keep G13.out hb)
                replace hHeld := hH
                (try simp only [Act.put, List.setIfInBounds_toArray, List.set_cons_zero, List.set_cons_succ])
                exact H1121314 g12 g13 g14 Wn hHeld G12.out GE12.out G13.out GE13.out G14.out GE14.out N1213.out N1214.out N1314.out
            case pf214 =>
              intro g14 W hHeld k14 l14 
              have G14 := Aside0.mk k14
              have GE14 := Aside0.mk l14
              clear k14 l14 
              refine wpAnyH_ready (rs := [10, 11]) (by kernel_rfl) (by simp) ?_
              refine AllReadyH.cons rfl (fun K hK => ?_) (AllReadyH.cons rfl (fun K hK => ?_) (AllReadyH.nil))
              case refine_1 =>
                go_simp
                refine hK.out _ _ (below_alloc hHeld (.cells #[.int .i64 0] 3)) (fun hH => ?_)
                obtain ⟨Wn, hWn⟩ : ∃ W', W' = W.alloc (.cells #[.int .i64 0] 3) := ⟨_, rfl⟩
                obtain ⟨g12, hg12⟩ : ∃ g, g = W.heap.size := ⟨_, rfl⟩
                rw [← hWn] at hH ⊢
                rw [← hg12]
                have hb := (show Below W.heap.size W Wn by rw [hWn]; exact below_alloc (Below.refl _ _) _)
                have G12 := Aside0.mk (show Wn.heap[g12]? = some (.cells #[.int .i64 0] 3 (0, 0)) by rw [hWn, hg12]; exact heap_new _ _)
                have GE12 := Aside0.mk (show w3.heap.size ≤ g12 by rw [hg12]; exact hHeld.size)
                have N1214 := Aside0.mk (show g12 ≠ g14 from (by rw [hg12]; exact (Nat.ne_of_lt (blk_lt G14.out)).symm))
                replace G14 := Aside0.mk (blk_keep G14.out hb)
                replace hHeld := hH
                (try simp only [Act.put, List.setIfInBounds_toArray, List.set_cons_zero, List.set_cons_succ])
                exact H21214 g12 g14 Wn hHeld G12.out GE12.out G14.out GE14.out N1214.out
              case refine_2 =>
                go_simp
                refine hK.out _ _ (below_alloc hHeld (.cells #[.int .i64 0] 3)) (fun hH => ?_)
                obtain ⟨Wn, hWn⟩ : ∃ W', W' = W.alloc (.cells #[.int .i64 0] 3) := ⟨_, rfl⟩
                obtain ⟨g13, hg13⟩ : ∃ g, g = W.heap.size := ⟨_, rfl⟩
                rw [← hWn] at hH ⊢
                rw [← hg13]
                have hb := (show Below W.heap.size W Wn by rw [hWn]; exact below_alloc (Below.refl _ _) _)
                have G13 := Aside0.mk (show Wn.heap[g13]? = some (.cells #[.int .i64 0] 3 (0, 0)) by rw [hWn, hg13]; exact heap_new _ _)
                have GE13 := Aside0.mk (show w3.heap.size ≤ g13 by rw [hg13]; exact hHeld.size)
                have N1314 := Aside0.mk (show g13 ≠ g14 from (by rw [hg13]; exact (Nat.ne_of_lt (blk_lt G14.out)).symm))
                replace G14 := Aside0.mk (blk_keep G14.out hb)
                replace hHeld := hH
                (try simp only [Act.put, List.setIfInBounds_toArray, List.set_cons_zero, List.set_cons_succ])
                exact H21314 g13 g14 Wn hHeld G13.out GE13.out G14.out GE14.out N1314.out
            case pf213 =>
              intro g13 W hHeld k13 l13 
              have G13 := Aside0.mk k13
              have GE13 := Aside0.mk l13
              clear k13 l13 
              refine wpAnyH_ready (rs := [10, 12]) (by kernel_rfl) (by simp) ?_
              refine AllReadyH.cons rfl (fun K hK => ?_) (AllReadyH.cons rfl (fun K hK => ?_) (AllReadyH.nil))
              case refine_1 =>
                go_simp
                refine hK.out _ _ (below_alloc hHeld (.cells #[.int .i64 0] 3)) (fun hH => ?_)
                obtain ⟨Wn, hWn⟩ : ∃ W', W' = W.alloc (.cells #[.int .i64 0] 3) := ⟨_, rfl⟩
                obtain ⟨g12, hg12⟩ : ∃ g, g = W.heap.size := ⟨_, rfl⟩
                rw [← hWn] at hH ⊢
                rw [← hg12]
                have hb := (show Below W.heap.size W Wn by rw [hWn]; exact below_alloc (Below.refl _ _) _)
                have G12 := Aside0.mk (show Wn.heap[g12]? = some (.cells #[.int .i64 0] 3 (0, 0)) by rw [hWn, hg12]; exact heap_new _ _)
                have GE12 := Aside0.mk (show w3.heap.size ≤ g12 by rw [hg12]; exact hHeld.size)
                have N1213 := Aside0.mk (show g12 ≠ g13 from (by rw [hg12]; exact (Nat.ne_of_lt (blk_lt G13.out)).symm))
                replace G13 := Aside0.mk (blk_keep G13.out hb)
                replace hHeld := hH
                (try simp only [Act.put, List.setIfInBounds_toArray, List.set_cons_zero, List.set_cons_succ])
                exact H21213 g12 g13 Wn hHeld G12.out GE12.out G13.out GE13.out N1213.out
              case refine_2 =>
                go_simp
                refine hK.out _ _ (below_alloc hHeld (.cells #[.int .i64 0] 3)) (fun hH => ?_)
                obtain ⟨Wn, hWn⟩ : ∃ W', W' = W.alloc (.cells #[.int .i64 0] 3) := ⟨_, rfl⟩
                obtain ⟨g14, hg14⟩ : ∃ g, g = W.heap.size := ⟨_, rfl⟩
                rw [← hWn] at hH ⊢
                rw [← hg14]
                have hb := (show Below W.heap.size W Wn by rw [hWn]; exact below_alloc (Below.refl _ _) _)
                have G14 := Aside0.mk (show Wn.heap[g14]? = some (.cells #[.int .i64 0] 3 (0, 0)) by rw [hWn, hg14]; exact heap_new _ _)
                have GE14 := Aside0.mk (show w3.heap.size ≤ g14 by rw [hg14]; exact hHeld.size)
                have N1314 := Aside0.mk (show g13 ≠ g14 from (by rw [hg14]; exact Nat.ne_of_lt (blk_lt G13.out)))
                replace G13 := Aside0.mk (blk_keep G13.out hb)
                replace hHeld := hH
                (try simp only [Act.put, List.setIfInBounds_toArray, List.set_cons_zero, List.set_cons_succ])
                exact H21314 g13 g14 Wn hHeld G13.out GE13.out G14.out GE14.out N1314.out
            case pf212 =>
              intro g12 W hHeld k12 l12 
              have G12 := Aside0.mk k12
              have GE12 := Aside0.mk l12
              clear k12 l12 
              refine wpAnyH_ready (rs := [11, 12]) (by kernel_rfl) (by simp) ?_
              refine AllReadyH.cons rfl (fun K hK => ?_) (AllReadyH.cons rfl (fun K hK => ?_) (AllReadyH.nil))
              case refine_1 =>
                go_simp
                refine hK.out _ _ (below_alloc hHeld (.cells #[.int .i64 0] 3)) (fun hH => ?_)
                obtain ⟨Wn, hWn⟩ : ∃ W', W' = W.alloc (.cells #[.int .i64 0] 3) := ⟨_, rfl⟩
                obtain ⟨g13, hg13⟩ : ∃ g, g = W.heap.size := ⟨_, rfl⟩
                rw [← hWn] at hH ⊢
                rw [← hg13]
                have hb := (show Below W.heap.size W Wn by rw [hWn]; exact below_alloc (Below.refl _ _) _)
                have G13 := Aside0.mk (show Wn.heap[g13]? = some (.cells #[.int .i64 0] 3 (0, 0)) by rw [hWn, hg13]; exact heap_new _ _)
                have GE13 := Aside0.mk (show w3.heap.size ≤ g13 by rw [hg13]; exact hHeld.size)
                have N1213 := Aside0.mk (show g12 ≠ g13 from (by rw [hg13]; exact Nat.ne_of_lt (blk_lt G12.out)))
                replace G12 := Aside0.mk (blk_keep G12.out hb)
                replace hHeld := hH
                (try simp only [Act.put, List.setIfInBounds_toArray, List.set_cons_zero, List.set_cons_succ])
                exact H21213 g12 g13 Wn hHeld G12.out GE12.out G13.out GE13.out N1213.out
              case refine_2 =>
                go_simp
                refine hK.out _ _ (below_alloc hHeld (.cells #[.int .i64 0] 3)) (fun hH => ?_)
                obtain ⟨Wn, hWn⟩ : ∃ W', W' = W.alloc (.cells #[.int .i64 0] 3) := ⟨_, rfl⟩
                obtain ⟨g14, hg14⟩ : ∃ g, g = W.heap.size := ⟨_, rfl⟩
                rw [← hWn] at hH ⊢
                rw [← hg14]
                have hb := (show Below W.heap.size W Wn by rw [hWn]; exact below_alloc (Below.refl _ _) _)
                have G14 := Aside0.mk (show Wn.heap[g14]? = some (.cells #[.int .i64 0] 3 (0, 0)) by rw [hWn, hg14]; exact heap_new _ _)
                have GE14 := Aside0.mk (show w3.heap.size ≤ g14 by rw [hg14]; exact hHeld.size)
                have N1214 := Aside0.mk (show g12 ≠ g14 from (by rw [hg14]; exact Nat.ne_of_lt (blk_lt G12.out)))
                replace G12 := Aside0.mk (blk_keep G12.out hb)
                replace hHeld := hH
                (try simp only [Act.put, List.setIfInBounds_toArray, List.set_cons_zero, List.set_cons_succ])
                exact H21214 g12 g14 Wn hHeld G12.out GE12.out G14.out GE14.out N1214.out
            case pf1121314 =>
              intro g12 g13 g14 W hHeld k12 l12 k13 l13 k14 l14 n1213 n1214 n1314
              have G12 := Aside0.mk k12
              have GE12 := Aside0.mk l12
              have G13 := Aside0.mk k13
              have GE13 := Aside0.mk l13
              have G14 := Aside0.mk k14
              have GE14 := Aside0.mk l14
              have N1213 := Aside0.mk n1213
              have N1214 := Aside0.mk n1214
              have N1314 := Aside0.mk n1314
              clear k12 l12 k13 l13 k14 l14 n1213 n1214 n1314
              refine wpAnyH_ready (rs := [9]) (by kernel_rfl) (by simp) ?_
              refine AllReadyH.cons rfl (fun K hK => ?_) (AllReadyH.nil)
              go_simp
              refine (lastI_any A3 c3 G2 W (Kd.C_below HK2.out hHeld) HC3.out HP2.out HQ2.out).mono ?_
              rw [HIB.out]
              rintro e Wn ⟨rfl, hb⟩
              dsimp only
              refine hK.out _ _ (below_step hHeld hb) (fun hH => ?_)
              replace G12 := Aside0.mk (blk_keep G12.out hb)
              replace G13 := Aside0.mk (blk_keep G13.out hb)
              replace G14 := Aside0.mk (blk_keep G14.out hb)
              replace hHeld := hH
              (try simp only [Act.put, List.setIfInBounds_toArray, List.set_cons_zero, List.set_cons_succ])
              exact H2121314 g12 g13 g14 Wn hHeld G12.out GE12.out G13.out GE13.out G14.out GE14.out N1213.out N1214.out N1314.out
            case pf21314 =>
              intro g13 g14 W hHeld k13 l13 k14 l14 n1314
              have G13 := Aside0.mk k13
              have GE13 := Aside0.mk l13
              have G14 := Aside0.mk k14
              have GE14 := Aside0.mk l14
              have N1314 := Aside0.mk n1314
              clear k13 l13 k14 l14 n1314
              refine wpAnyH_ready (rs := [10]) (by kernel_rfl) (by simp) ?_
              refine AllReadyH.cons rfl (fun K hK => ?_) (AllReadyH.nil)
              go_simp
              refine hK.out _ _ (below_alloc hHeld (.cells #[.int .i64 0] 3)) (fun hH => ?_)
              obtain ⟨Wn, hWn⟩ : ∃ W', W' = W.alloc (.cells #[.int .i64 0] 3) := ⟨_, rfl⟩
              obtain ⟨g12, hg12⟩ : ∃ g, g = W.heap.size := ⟨_, rfl⟩
              rw [← hWn] at hH ⊢
              rw [← hg12]
              have hb := (show Below W.heap.size W Wn by rw [hWn]; exact below_alloc (Below.refl _ _) _)
              have G12 := Aside0.mk (show Wn.heap[g12]? = some (.cells #[.int .i64 0] 3 (0, 0)) by rw [hWn, hg12]; exact heap_new _ _)
              have GE12 := Aside0.mk (show w3.heap.size ≤ g12 by rw [hg12]; exact hHeld.size)
              have N1213 := Aside0.mk (show g12 ≠ g13 from (by rw [hg12]; exact (Nat.ne_of_lt (blk_lt G13.out)).symm))
              replace G13 := Aside0.mk (blk_keep G13.out hb)
              have N1214 := Aside0.mk (show g12 ≠ g14 from (by rw [hg12]; exact (Nat.ne_of_lt (blk_lt G14.out)).symm))
              replace G14 := Aside0.mk (blk_keep G14.out hb)
              replace hHeld := hH
              (try simp only [Act.put, List.setIfInBounds_toArray, List.set_cons_zero, List.set_cons_succ])
              exact H2121314 g12 g13 g14 Wn hHeld G12.out GE12.out G13.out GE13.out G14.out GE14.out N1213.out N1214.out N1314.out
            case pf21214 =>
              intro g12 g14 W hHeld k12 l12 k14 l14 n1214
              have G12 := Aside0.mk k12
              have GE12 := Aside0.mk l12
              have G14 := Aside0.mk k14
              have GE14 := Aside0.mk l14
              have N1214 := Aside0.mk n1214
              clear k12 l12 k14 l14 n1214
              refine wpAnyH_ready (rs := [11]) (by kernel_rfl) (by simp) ?_
              refine AllReadyH.cons rfl (fun K hK => ?_) (AllReadyH.nil)
              go_simp
              refine hK.out _ _ (below_alloc hHeld (.cells #[.int .i64 0] 3)) (fun hH => ?_)
              obtain ⟨Wn, hWn⟩ : ∃ W', W' = W.alloc (.cells #[.int .i64 0] 3) := ⟨_, rfl⟩
              obtain ⟨g13, hg13⟩ : ∃ g, g = W.heap.size := ⟨_, rfl⟩
              rw [← hWn] at hH ⊢
              rw [← hg13]
              have hb := (show Below W.heap.size W Wn by rw [hWn]; exact below_alloc (Below.refl _ _) _)
              have G13 := Aside0.mk (show Wn.heap[g13]? = some (.cells #[.int .i64 0] 3 (0, 0)) by rw [hWn, hg13]; exact heap_new _ _)
              have GE13 := Aside0.mk (show w3.heap.size ≤ g13 by rw [hg13]; exact hHeld.size)
              have N1213 := Aside0.mk (show g12 ≠ g13 from (by rw [hg13]; exact Nat.ne_of_lt (blk_lt G12.out)))
              replace G12 := Aside0.mk (blk_keep G12.out hb)
              have N1314 := Aside0.mk (show g13 ≠ g14 from (by rw [hg13]; exact (Nat.ne_of_lt (blk_lt G14.out)).symm))
              replace G14 := Aside0.mk (blk_keep G14.out hb)
              replace hHeld := hH
              (try simp only [Act.put, List.setIfInBounds_toArray, List.set_cons_zero, List.set_cons_succ])
              exact H2121314 g12 g13 g14 Wn hHeld G12.out GE12.out G13.out GE13.out G14.out GE14.out N1213.out N1214.out N1314.out
            case pf21213 =>
              intro g12 g13 W hHeld k12 l12 k13 l13 n1213
              have G12 := Aside0.mk k12
              have GE12 := Aside0.mk l12
              have G13 := Aside0.mk k13
              have GE13 := Aside0.mk l13
              have N1213 := Aside0.mk n1213
              clear k12 l12 k13 l13 n1213
              refine wpAnyH_ready (rs := [12]) (by kernel_rfl) (by simp) ?_
              refine AllReadyH.cons rfl (fun K hK => ?_) (AllReadyH.nil)
              go_simp
              refine hK.out _ _ (below_alloc hHeld (.cells #[.int .i64 0] 3)) (fun hH => ?_)
              obtain ⟨Wn, hWn⟩ : ∃ W', W' = W.alloc (.cells #[.int .i64 0] 3) := ⟨_, rfl⟩
              obtain ⟨g14, hg14⟩ : ∃ g, g = W.heap.size := ⟨_, rfl⟩
              rw [← hWn] at hH ⊢
              rw [← hg14]
              have hb := (show Below W.heap.size W Wn by rw [hWn]; exact below_alloc (Below.refl _ _) _)
              have G14 := Aside0.mk (show Wn.heap[g14]? = some (.cells #[.int .i64 0] 3 (0, 0)) by rw [hWn, hg14]; exact heap_new _ _)
              have GE14 := Aside0.mk (show w3.heap.size ≤ g14 by rw [hg14]; exact hHeld.size)
              have N1214 := Aside0.mk (show g12 ≠ g14 from (by rw [hg14]; exact Nat.ne_of_lt (blk_lt G12.out)))
              replace G12 := Aside0.mk (blk_keep G12.out hb)
              have N1314 := Aside0.mk (show g13 ≠ g14 from (by rw [hg14]; exact Nat.ne_of_lt (blk_lt G13.out)))
              replace G13 := Aside0.mk (blk_keep G13.out hb)
              replace hHeld := hH
              (try simp only [Act.put, List.setIfInBounds_toArray, List.set_cons_zero, List.set_cons_succ])
              exact H2121314 g12 g13 g14 Wn hHeld G12.out GE12.out G13.out GE13.out G14.out GE14.out N1213.out N1214.out N1314.out
            case pf2121314 =>
              intro g12 g13 g14 W hHeld k12 l12 k13 l13 k14 l14 n1213 n1214 n1314
              have G12 := Aside0.mk k12
              have GE12 := Aside0.mk l12
              have G13 := Aside0.mk k13
              have GE13 := Aside0.mk l13
              have G14 := Aside0.mk k14
              have GE14 := Aside0.mk l14
              have N1213 := Aside0.mk n1213
              have N1214 := Aside0.mk n1214
              have N1314 := Aside0.mk n1314
              clear k12 l12 k13 l13 k14 l14 n1213 n1214 n1314
              refine wpAnyH_ready (rs := [13]) (by kernel_rfl) (by simp) ?_
              refine AllReadyH.cons rfl (fun K hK => ?_) AllReadyH.nil
              have cc := blk_cell0 G12.out
              have cf := blk_froz0 G12.out
              go_simp
              clear cc cf
              refine hK.out _ _ (Below.setCell (p := ⟨g12, 0, none⟩) hHeld GE12.out (.int .i64 ino)) (fun hH => ?_)
              obtain ⟨x0, hx0⟩ : ∃ W', W' = W.setCell ⟨g12, 0, none⟩ (.int .i64 ino) := ⟨_, rfl⟩
              rw [← hx0] at hH ⊢
              replace G12 := Aside0.mk (show x0.heap[g12]? = some (.cells #[.int .i64 ino] 3 (0, 0)) by rw [hx0]; exact set_same _ _ _ _ _ G12.out)
              replace G13 := Aside0.mk (show x0.heap[g13]? = some (.cells #[.int .i64 0] 3 (0, 0)) by rw [hx0]; exact set_other G13.out (Ne.symm N1213.out))
              replace G14 := Aside0.mk (show x0.heap[g14]? = some (.cells #[.int .i64 0] 3 (0, 0)) by rw [hx0]; exact set_other G14.out (Ne.symm N1214.out))
              clear hK K hHeld hx0
              have hHeld := hH
              clear hH
              (try simp only [Act.put, List.setIfInBounds_toArray, List.set_cons_zero, List.set_cons_succ])
              refine wpAnyH_ready (rs := [14]) (by kernel_rfl) (by simp) ?_
              refine AllReadyH.cons rfl (fun K hK => ?_) AllReadyH.nil
              have cc := blk_cell0 G13.out
              have cf := blk_froz0 G13.out
              go_simp
              clear cc cf
              refine hK.out _ _ (Below.setCell (p := ⟨g13, 0, none⟩) hHeld GE13.out (.int .i64 a)) (fun hH => ?_)
              obtain ⟨x1, hx1⟩ : ∃ W', W' = x0.setCell ⟨g13, 0, none⟩ (.int .i64 a) := ⟨_, rfl⟩
              rw [← hx1] at hH ⊢
              replace G12 := Aside0.mk (show x1.heap[g12]? = some (.cells #[.int .i64 ino] 3 (0, 0)) by rw [hx1]; exact set_other G12.out N1213.out)
              replace G13 := Aside0.mk (show x1.heap[g13]? = some (.cells #[.int .i64 a] 3 (0, 0)) by rw [hx1]; exact set_same _ _ _ _ _ G13.out)
              replace G14 := Aside0.mk (show x1.heap[g14]? = some (.cells #[.int .i64 0] 3 (0, 0)) by rw [hx1]; exact set_other G14.out (Ne.symm N1314.out))
              clear hK K hHeld hx1
              have hHeld := hH
              clear hH
              (try simp only [Act.put, List.setIfInBounds_toArray, List.set_cons_zero, List.set_cons_succ])
              refine wpAnyH_ready (rs := [15]) (by kernel_rfl) (by simp) ?_
              refine AllReadyH.cons rfl (fun K hK => ?_) AllReadyH.nil
              have cc := blk_cell0 G14.out
              have cf := blk_froz0 G14.out
              go_simp
              clear cc cf
              refine hK.out _ _ (Below.setCell (p := ⟨g14, 0, none⟩) hHeld GE14.out (.int .i64 b)) (fun hH => ?_)
              obtain ⟨x2, hx2⟩ : ∃ W', W' = x1.setCell ⟨g14, 0, none⟩ (.int .i64 b) := ⟨_, rfl⟩
              rw [← hx2] at hH ⊢
              replace G12 := Aside0.mk (show x2.heap[g12]? = some (.cells #[.int .i64 ino] 3 (0, 0)) by rw [hx2]; exact set_other G12.out N1214.out)
              replace G13 := Aside0.mk (show x2.heap[g13]? = some (.cells #[.int .i64 a] 3 (0, 0)) by rw [hx2]; exact set_other G13.out N1314.out)
              replace G14 := Aside0.mk (show x2.heap[g14]? = some (.cells #[.int .i64 b] 3 (0, 0)) by rw [hx2]; exact set_same _ _ _ _ _ G14.out)
              clear hK K hHeld hx2
              have hHeld := hH
              clear hH
              (try simp only [Act.put, List.setIfInBounds_toArray, List.set_cons_zero, List.set_cons_succ])
              refine wpAnyH_done (by kernel_rfl) ?_ _
              exact HREST g12 g13 g14 x2 hHeld G12.out G13.out G14.out
            case restproof =>
              intro g12 g13 g14 w4 hHeld g12b g13b g14b
              have hR := HRR.out
              have hnd := HND.out
              have D7 := Aside0.mk (pw_cell_below hHeld C73.out)
              have D8 := Aside0.mk (pw_cell_below hHeld C83.out)
              have D12 := Aside0.mk (blk_cell0 g12b)
              have D13 := Aside0.mk (blk_cell0 g13b)
              have D14 := Aside0.mk (blk_cell0 g14b)
              have E0 := Aside0.mk (Kd.C_below HS03.out hHeld)
              have E1 := Aside0.mk (Kd.C_below HS13.out hHeld)
              have E2 := Aside0.mk (Kd.C_below HK2.out hHeld)
              have BB := Aside0.mk (below_step HB3.out hHeld)
              have MX := Aside0.mk (HM.out.below BB.out)
              have P4 := Aside0.mk MX.out.at_
              clear hHeld g12b g13b g14b C73 C83 HS03 HS13 HK2
              obtain ⟨y6, hy6⟩ : ∃ y, (stepR (T b) (lastS L)).2 = y := ⟨_, rfl⟩
              obtain ⟨other, hi6⟩ : ∃ y, (stepR (T b) (lastS L)).1 = y := ⟨_, rfl⟩
              rw [hy6, hi6] at hR
              have HY6 := Aside0.mk hy6
              have HI6 := Aside0.mk hi6
              clear hy6 hi6
              obtain ⟨v, hv, hl⟩ := MX.out.2.looks HII.out
              (try simp only [Exit.then])
              have hni := hnd a (lastS X) HST.out
              rw [HSE.out] at hni
              rcases hTi : T ino with _ | (⟨bi, ni⟩ | li)
              · exact absurd hTi hni
              · have HTI := Aside0.mk hTi
                rw [hTi] at hv
                rw [if_neg (fun h => by have h1 := h.1; rw [hTi] at h1; cases h1)] at hR
                obtain ⟨B, cb, rfl, _, _⟩ := hv
                have HL2 := Aside0.mk (show ∀ W, Below w4.heap.size w4 W → (Instr.lookup 58 (.map (some mb)) (.int .i64 ino) false).run Tryd.prog W = .ok (.iface 62 (.agg #[.slice B bi.length cb, .int .i64 ni])) W from fun W hS => hl W (hS.block mb MX.out.2.lt))
                clear hl hni hTi
                go_wp2
                refine wp_region_held_drew (S := fun W => Below w4.heap.size w4 W) (by kernel_rfl) (below_drew (Below.refl _ _)) (fun hHeld => ?_)
                refine wpAnyH_take (i := 0) (oi := ⟨some 69, _, _, _, _, _⟩) (v := (mp pb)) rfl (by kernel_rfl) (by kernel_rfl) (by kernel_rfl) (fun _ _ _ h => h) (Or.inl ⟨by rfl, fun W hS => by go_simp⟩) hHeld ?_
                (try simp only [Act.put, List.setIfInBounds_toArray, List.set_cons_zero, List.set_cons_succ])
                refine wpAnyH_take (i := 1) (oi := ⟨some 70, _, _, _, _, _⟩) (v := (mp pb)) rfl (by kernel_rfl) (by kernel_rfl) (by kernel_rfl) (fun _ _ _ h => h) (Or.inl ⟨by rfl, fun W hS => by go_simp⟩) hHeld ?_
                (try simp only [Act.put, List.setIfInBounds_toArray, List.set_cons_zero, List.set_cons_succ])
                refine wpAnyH_take (i := 2) (oi := ⟨some 71, _, _, _, _, _⟩) (v := (.pointer (some ⟨pb, 1, none⟩))) rfl (by kernel_rfl) (by kernel_rfl) (by kernel_rfl) (fun _ _ _ h => h) (Or.inl ⟨by rfl, fun W hS => by go_simp⟩) hHeld ?_
                (try simp only [Act.put, List.setIfInBounds_toArray, List.set_cons_zero, List.set_cons_succ])
                refine wpAnyH_take (i := 3) (oi := ⟨some 72, _, _, _, _, _⟩) (v := (.map (some mb))) rfl (by kernel_rfl) (by kernel_rfl) (by kernel_rfl) (fun _ _ _ h => h) (Or.inl ⟨by rfl, fun W hS => by have cc := pw_cell_below hS P4.out; go_simp⟩) hHeld ?_
                (try simp only [Act.put, List.setIfInBounds_toArray, List.set_cons_zero, List.set_cons_succ])
                refine wpAnyH_take (i := 4) (oi := ⟨some 73, _, _, _, _, _⟩) (v := (.int .i64 ino)) rfl (by kernel_rfl) (by kernel_rfl) (by kernel_rfl) (fun _ _ _ h => h) (Or.inl ⟨by rfl, fun W hS => by have cc := pw_cell_below hS D12.out; go_simp⟩) hHeld ?_
                (try simp only [Act.put, List.setIfInBounds_toArray, List.set_cons_zero, List.set_cons_succ])
                refine wpAnyH_take (i := 5) (oi := ⟨some 74, _, _, _, _, _⟩) (v := (.iface 62 (.agg #[.slice B bi.length cb, .int .i64 ni]))) rfl (by kernel_rfl) (by kernel_rfl) (by kernel_rfl) (fun _ _ _ h => h) (Or.inl ⟨by rfl, fun W hS => by have hl := HL2.out W hS; go_simp⟩) hHeld ?_
                (try simp only [Act.put, List.setIfInBounds_toArray, List.set_cons_zero, List.set_cons_succ])
                refine wpAnyH_take (i := 6) (oi := ⟨some 75, _, _, _, _, _⟩) (v := (.tuple #[.slice none 0 0, .bool false])) rfl (by kernel_rfl) (by kernel_rfl) (by kernel_rfl) (fun _ _ _ h => h) (Or.inl ⟨by rfl, fun W hS => by go_simp⟩) hHeld ?_
                (try simp only [Act.put, List.setIfInBounds_toArray, List.set_cons_zero, List.set_cons_succ])
                refine wpAnyH_take (i := 7) (oi := ⟨some 68, _, _, _, _, _⟩) (v := (.tuple #[.slice none 0 0, .bool false])) rfl (by kernel_rfl) (by kernel_rfl) (by kernel_rfl) (fun _ _ _ h => h) (Or.inl ⟨by rfl, fun W hS => by go_simp⟩) hHeld ?_
                (try simp only [Act.put, List.setIfInBounds_toArray, List.set_cons_zero, List.set_cons_succ])
                refine wpAnyH_take (i := 8) (oi := ⟨some 76, _, _, _, _, _⟩) (v := (.slice none 0 0)) rfl (by kernel_rfl) (by kernel_rfl) (by kernel_rfl) (fun _ _ _ h => h) (Or.inl ⟨by rfl, fun W hS => by go_simp⟩) hHeld ?_
                (try simp only [Act.put, List.setIfInBounds_toArray, List.set_cons_zero, List.set_cons_succ])
                refine wpAnyH_take (i := 9) (oi := ⟨some 77, _, _, _, _, _⟩) (v := (.bool false)) rfl (by kernel_rfl) (by kernel_rfl) (by kernel_rfl) (fun _ _ _ h => h) (Or.inl ⟨by rfl, fun W hS => by go_simp⟩) hHeld ?_
                (try simp only [Act.put, List.setIfInBounds_toArray, List.set_cons_zero, List.set_cons_succ])
                refine wpAnyH_take (i := 10) (oi := ⟨some 15, _, _, _, _, _⟩) (v := (.slice none 0 0)) rfl (by kernel_rfl) (by kernel_rfl) (by kernel_rfl) (fun _ _ _ h => h) (Or.inl ⟨by rfl, fun W hS => by go_simp⟩) hHeld ?_
                (try simp only [Act.put, List.setIfInBounds_toArray, List.set_cons_zero, List.set_cons_succ])
                refine wpAnyH_take (i := 11) (oi := ⟨some 16, _, _, _, _, _⟩) (v := (.bool false)) rfl (by kernel_rfl) (by kernel_rfl) (by kernel_rfl) (fun _ _ _ h => h) (Or.inl ⟨by rfl, fun W hS => by go_simp⟩) hHeld ?_
                (try simp only [Act.put, List.setIfInBounds_toArray, List.set_cons_zero, List.set_cons_succ])
                refine wpAnyH_done (by kernel_rfl) ?_ _
                obtain ⟨w5, hw5⟩ : ∃ W, W = w4.drew := ⟨_, rfl⟩
                rw [← hw5] at hHeld ⊢
                replace D7 := Aside0.mk (pw_cell_below hHeld D7.out)
                replace D8 := Aside0.mk (pw_cell_below hHeld D8.out)
                replace D12 := Aside0.mk (pw_cell_below hHeld D12.out)
                replace D13 := Aside0.mk (pw_cell_below hHeld D13.out)
                replace D14 := Aside0.mk (pw_cell_below hHeld D14.out)
                replace E0 := Aside0.mk (Kd.C_below E0.out hHeld)
                replace E1 := Aside0.mk (Kd.C_below E1.out hHeld)
                replace E2 := Aside0.mk (Kd.C_below E2.out hHeld)
                replace BB := Aside0.mk (below_step BB.out hHeld)
                replace MX := Aside0.mk (MX.out.below hHeld)
                clear hHeld P4 HL2 hw5
                (try simp only [Exit.then])
                go_wp2
                have HLS := Aside0.mk (lastS_any A c L w5.drew (Kd.C_below E1.out (below_drew (Below.refl w5.heap.size w5))) HC1.out HL0.out HL1.out)
                refine wp_region_held_drew (S := fun W => Below w5.heap.size w5 W) (by kernel_rfl) (below_drew (Below.refl _ _)) (fun hHeld => ?_)
                refine wpAnyH_take (i := 0) (oi := ⟨some 85, _, _, _, _, _⟩) (v := (mp pb)) rfl (by kernel_rfl) (by kernel_rfl) (by kernel_rfl) (fun _ _ _ h => h) (Or.inl ⟨by rfl, fun W hS => by go_simp⟩) hHeld ?_
                (try simp only [Act.put, List.setIfInBounds_toArray, List.set_cons_zero, List.set_cons_succ])
                refine wpAnyH_take (i := 1) (oi := ⟨some 86, _, _, _, _, _⟩) (v := (.int .i64 b)) rfl (by kernel_rfl) (by kernel_rfl) (by kernel_rfl) (fun _ _ _ h => h) (Or.inl ⟨by rfl, fun W hS => by have cc := pw_cell_below hS D14.out; go_simp⟩) hHeld ?_
                (try simp only [Act.put, List.setIfInBounds_toArray, List.set_cons_zero, List.set_cons_succ])
                refine wpAnyH_take (i := 2) (oi := ⟨some 87, _, _, _, _, _⟩) (v := (.slice A L.length c)) rfl (by kernel_rfl) (by kernel_rfl) (by kernel_rfl) (fun _ _ _ h => h) (Or.inl ⟨by rfl, fun W hS => by have cc := pw_cell_below hS D8.out; go_simp⟩) hHeld ?_
                (try simp only [Act.put, List.setIfInBounds_toArray, List.set_cons_zero, List.set_cons_succ])
                refine wpAnyH_ready (rs := [3]) (by kernel_rfl) (by simp) ?_
                refine AllReadyH.cons rfl (fun K hK => ?_) AllReadyH.nil
                go_simp
                refine (HLS.out).mono ?_
                rintro e wl ⟨rfl, hb⟩
                dsimp only
                refine hK.out _ _ (below_step hHeld hb) (fun hH => ?_)
                have HB6 := Aside0.mk hb
                clear hK K hHeld hb
                have hHeld := hH
                clear hH
                (try simp only [Act.put, List.setIfInBounds_toArray, List.set_cons_zero, List.set_cons_succ])
                refine wpAnyH_ready (rs := [4]) (by kernel_rfl) (by simp) ?_
                refine AllReadyH.cons rfl (fun K hK => ?_) AllReadyH.nil
                go_simp
                refine (step_any (MX.out.below hHeld) HO.out HAI.out (lastS L) HNM.out).mono ?_
                rw [HY6.out, HI6.out]
                rintro e w6 ⟨rfl, hb⟩
                dsimp only
                refine hK.out _ _ (below_step hHeld hb) (fun hH => ?_)
                have HB7 := Aside0.mk hb
                clear hK K hHeld hb
                have hHeld := hH
                clear hH
                (try simp only [Act.put, List.setIfInBounds_toArray, List.set_cons_zero, List.set_cons_succ])
                refine wpAnyH_take (i := 5) (oi := ⟨some 84, _, _, _, _, _⟩) (v := (.tuple #[.int .i64 other, .int .i64 y6])) rfl (by kernel_rfl) (by kernel_rfl) (by kernel_rfl) (fun _ _ _ h => h) (Or.inl ⟨by rfl, fun W hS => by go_simp⟩) hHeld ?_
                (try simp only [Act.put, List.setIfInBounds_toArray, List.set_cons_zero, List.set_cons_succ])
                refine wpAnyH_take (i := 6) (oi := ⟨some 90, _, _, _, _, _⟩) (v := (.int .i64 other)) rfl (by kernel_rfl) (by kernel_rfl) (by kernel_rfl) (fun _ _ _ h => h) (Or.inl ⟨by rfl, fun W hS => by go_simp⟩) hHeld ?_
                (try simp only [Act.put, List.setIfInBounds_toArray, List.set_cons_zero, List.set_cons_succ])
                refine wpAnyH_take (i := 7) (oi := ⟨some 91, _, _, _, _, _⟩) (v := (.int .i64 y6)) rfl (by kernel_rfl) (by kernel_rfl) (by kernel_rfl) (fun _ _ _ h => h) (Or.inl ⟨by rfl, fun W hS => by go_simp⟩) hHeld ?_
                (try simp only [Act.put, List.setIfInBounds_toArray, List.set_cons_zero, List.set_cons_succ])
                refine wpAnyH_take (i := 8) (oi := ⟨some 17, _, _, _, _, _⟩) (v := (.int .i64 other)) rfl (by kernel_rfl) (by kernel_rfl) (by kernel_rfl) (fun _ _ _ h => h) (Or.inl ⟨by rfl, fun W hS => by go_simp⟩) hHeld ?_
                (try simp only [Act.put, List.setIfInBounds_toArray, List.set_cons_zero, List.set_cons_succ])
                refine wpAnyH_take (i := 9) (oi := ⟨some 9, _, _, _, _, _⟩) (v := (.int .i64 y6)) rfl (by kernel_rfl) (by kernel_rfl) (by kernel_rfl) (fun _ _ _ h => h) (Or.inl ⟨by rfl, fun W hS => by go_simp⟩) hHeld ?_
                (try simp only [Act.put, List.setIfInBounds_toArray, List.set_cons_zero, List.set_cons_succ])
                refine wpAnyH_done (by kernel_rfl) ?_ _
                replace D7 := Aside0.mk (pw_cell_below hHeld D7.out)
                replace D8 := Aside0.mk (pw_cell_below hHeld D8.out)
                replace D12 := Aside0.mk (pw_cell_below hHeld D12.out)
                replace D13 := Aside0.mk (pw_cell_below hHeld D13.out)
                replace D14 := Aside0.mk (pw_cell_below hHeld D14.out)
                replace E0 := Aside0.mk (Kd.C_below E0.out hHeld)
                replace E1 := Aside0.mk (Kd.C_below E1.out hHeld)
                replace E2 := Aside0.mk (Kd.C_below E2.out hHeld)
                replace BB := Aside0.mk (below_step BB.out hHeld)
                replace MX := Aside0.mk (MX.out.below hHeld)
                clear hHeld HLS
                (try simp only [Exit.then])
                by_cases h7 : y6 = 0
                · subst h7
                  rw [if_pos rfl] at hR
                  by_cases h8 : other = ino
                  · rw [if_pos h8] at hR
                    have HR := Aside0.mk hR
                    have e8 : (other == ino) = true := beq_iff_eq.2 h8
                    clear hR h8
                    have c12 := D12.out
                    go_wp2
                    go_ret
                    rw [← HR.out]
                    exact Out.same HM.out BB.out _
                  · rw [if_neg h8] at hR
                    have e8 : (other == ino) = false := beq_eq_false_iff_ne.2 h8
                    clear h8
                    have HNO := Aside0.mk (hnd b (lastS L) HY6.out)
                    have HOI := Aside0.mk (show inR other from by have h := MX.out.2.1 other (by have := HNO.out; rw [HI6.out] at this; exact this); exact ⟨by omega, by omega⟩)
                    obtain ⟨y8, hy8⟩ : ∃ y, mayR (T ino) (T other) = y := ⟨_, rfl⟩
                    rw [hy8] at hR
                    have HY8 := Aside0.mk hy8
                    have HMAY := Aside0.mk (may_file MX.out HOI.out HII.out HTI.out)
                    clear hy8
                    by_cases h9 : y8 = 0
                    · subst h9
                      rw [if_neg (fun h => h rfl)] at hR
                      obtain ⟨da2, d3, ok1, oth, ok2, ha2, ok3, hb3, hov⟩ := over_facts (ino := ino) (a := a) (b := b) (other := other) (x := X) (y := L) HO.out HD.out HY6.out HST.out HY8.out (by rw [HTI.out]; exact fun h => nomatch h) (by have := HNO.out; rw [HI6.out] at this; exact this)
                      rw [hov] at hR
                      have HR := Aside0.mk hR
                      have OK1 := Aside0.mk ok1
                      have OTH := Aside0.mk oth
                      have OK2 := Aside0.mk ok2
                      have DA2 := Aside0.mk ha2
                      have OK3 := Aside0.mk ok3
                      have DB3 := Aside0.mk hb3
                      clear hR ok1 oth ok2 ha2 ok3 hb3 hov
                      have c12 := D12.out
                      go_wp2_with (first
                        | (have c12 := D12.out; go_at_call 46; refine Calls.mono HMAY.out ?_; rw [HY8.out]; rintro e w7 ⟨rfl, hb⟩; have HB8 := Aside0.mk hb; clear hb))
                      have hb := HB8.out
                      replace D7 := Aside0.mk (pw_cell_below hb D7.out)
                      replace D8 := Aside0.mk (pw_cell_below hb D8.out)
                      replace D12 := Aside0.mk (pw_cell_below hb D12.out)
                      replace D13 := Aside0.mk (pw_cell_below hb D13.out)
                      replace D14 := Aside0.mk (pw_cell_below hb D14.out)
                      replace E0 := Aside0.mk (Kd.C_below E0.out hb)
                      replace E1 := Aside0.mk (Kd.C_below E1.out hb)
                      replace E2 := Aside0.mk (Kd.C_below E2.out hb)
                      replace BB := Aside0.mk (below_step BB.out hb)
                      replace MX := Aside0.mk (MX.out.below hb)
                      clear hb c12
                      have ND7 := Aside0.mk (cell_ne D7.out MX.out.2)
                      have ND8 := Aside0.mk (cell_ne D8.out MX.out.2)
                      have ND12 := Aside0.mk (cell_ne D12.out MX.out.2)
                      have ND13 := Aside0.mk (cell_ne D13.out MX.out.2)
                      have ND14 := Aside0.mk (cell_ne D14.out MX.out.2)
                      have UT := Aside0.mk (Utf8Tabs_below HT.out BB.out)
                      have TT := Aside0.mk (below_turn1 (mb := mb) BB.out)
                      have HMd := Aside0.mk (MX.out.below (below_drew (Below.refl w7.heap.size w7)))
                      have HUd := Aside0.mk (Utf8Tabs_below UT.out (below_drew (Below.refl w7.heap.size w7)))
                      have HLS := Aside0.mk (lastS_any A c L w7.drew (Kd.C_below E1.out (below_drew (Below.refl w7.heap.size w7))) HC1.out HL0.out HL1.out)
                      refine wp_region_held_drew (S := fun W => Turn1 mb w7 W) (by kernel_rfl) (below_turn1 (below_drew (Below.refl _ _))) (fun hHeld => ?_)
                      refine wpAnyH_take (i := 0) (oi := ⟨some 104, _, _, _, _, _⟩) (v := (mp pb)) rfl (by kernel_rfl) (by kernel_rfl) (by kernel_rfl) (fun _ _ _ h => h) (Or.inl ⟨by rfl, fun W hS => by go_simp⟩) hHeld ?_
                      (try simp only [Act.put, List.setIfInBounds_toArray, List.set_cons_zero, List.set_cons_succ])
                      refine wpAnyH_take (i := 1) (oi := ⟨some 105, _, _, _, _, _⟩) (v := (.int .i64 b)) rfl (by kernel_rfl) (by kernel_rfl) (by kernel_rfl) (fun _ _ _ h => h) (Or.inl ⟨by rfl, fun W hS => by have cc := (show Turn1 mb w7 W from hS).cell D14.out ND14.out; go_simp⟩) hHeld ?_
                      (try simp only [Act.put, List.setIfInBounds_toArray, List.set_cons_zero, List.set_cons_succ])
                      refine wpAnyH_take (i := 2) (oi := ⟨some 106, _, _, _, _, _⟩) (v := (.slice A L.length c)) rfl (by kernel_rfl) (by kernel_rfl) (by kernel_rfl) (fun _ _ _ h => h) (Or.inl ⟨by rfl, fun W hS => by have cc := (show Turn1 mb w7 W from hS).cell D8.out ND8.out; go_simp⟩) hHeld ?_
                      (try simp only [Act.put, List.setIfInBounds_toArray, List.set_cons_zero, List.set_cons_succ])
                      refine wpAnyH_ready (rs := [3]) (by kernel_rfl) (by simp) ?_
                      refine AllReadyH.cons rfl (fun K hK => ?_) AllReadyH.nil
                      go_simp
                      refine (HLS.out).mono ?_
                      rintro e wl ⟨rfl, hb⟩
                      dsimp only
                      refine hK.out _ _ (turn1_step hHeld (below_turn1 hb)) (fun hH => ?_)
                      have HMl := Aside0.mk (HMd.out.below hb)
                      have HTl := Aside0.mk (Utf8Tabs_below HUd.out hb)
                      clear hK K hHeld hb
                      have hHeld := hH
                      clear hH
                      (try simp only [Act.put, List.setIfInBounds_toArray, List.set_cons_zero, List.set_cons_succ])
                      refine wpAnyH_ready (rs := [4]) (by kernel_rfl) (by simp) ?_
                      refine AllReadyH.cons rfl (fun K hK => ?_) AllReadyH.nil
                      go_simp
                      refine (drop_any HMl.out HO.out HD.out (lastS L) HNM.out HTl.out).mono ?_
                      rintro e wd ⟨rfl, hm, ht⟩
                      dsimp only
                      refine hK.out _ _ (turn1_step hHeld ht) (fun hH => ?_)
                      have HMd2 := Aside0.mk hm
                      have hb := trivial
                      clear hm ht
                      clear hK K hHeld hb
                      have hHeld := hH
                      clear hH
                      (try simp only [Act.put, List.setIfInBounds_toArray, List.set_cons_zero, List.set_cons_succ])
                      refine wpAnyH_done (by kernel_rfl) ?_ _
                      have ht := (show Turn1 mb w7 wd from hHeld)
                      replace D7 := Aside0.mk ((ht).cell D7.out ND7.out)
                      replace D8 := Aside0.mk ((ht).cell D8.out ND8.out)
                      replace D12 := Aside0.mk ((ht).cell D12.out ND12.out)
                      replace D13 := Aside0.mk ((ht).cell D13.out ND13.out)
                      replace D14 := Aside0.mk ((ht).cell D14.out ND14.out)
                      replace E0 := Aside0.mk (St_turn E0.out (ht) MX.out.2.obj)
                      replace E1 := Aside0.mk (St_turn E1.out (ht) MX.out.2.obj)
                      replace UT := Aside0.mk (tabs_turn UT.out (ht) (fun k e => (show k = mb from e) ▸ MX.out.2.inner))
                      replace TT := Aside0.mk (turn1_step TT.out (ht))
                      replace MX := Aside0.mk (HMd2.out)
                      clear hHeld ht HMd HUd HLS HMl HTl HMd2
                      (try simp only [Exit.then])
                      go_wp2_with (first
                        | (go_at_call 35; refine Calls.mono (less_any MX.out OTH.out) ?_; rintro e w8 ⟨rfl, hm, ht⟩; have HM8 := Aside0.mk hm; have HT8 := Aside0.mk ht; clear hm ht))
                      replace D7 := Aside0.mk ((HT8.out).cell D7.out ND7.out)
                      replace D8 := Aside0.mk ((HT8.out).cell D8.out ND8.out)
                      replace D12 := Aside0.mk ((HT8.out).cell D12.out ND12.out)
                      replace D13 := Aside0.mk ((HT8.out).cell D13.out ND13.out)
                      replace D14 := Aside0.mk ((HT8.out).cell D14.out ND14.out)
                      replace E0 := Aside0.mk (St_turn E0.out (HT8.out) MX.out.2.obj)
                      replace E1 := Aside0.mk (St_turn E1.out (HT8.out) MX.out.2.obj)
                      replace UT := Aside0.mk (tabs_turn UT.out (HT8.out) (fun k e => (show k = mb from e) ▸ MX.out.2.inner))
                      replace TT := Aside0.mk (turn1_step TT.out (HT8.out))
                      replace MX := Aside0.mk (HM8.out)
                      clear HT8 HM8
                      have HMd := Aside0.mk (MX.out.below (below_drew (Below.refl w8.heap.size w8)))
                      have HUd := Aside0.mk (Utf8Tabs_below UT.out (below_drew (Below.refl w8.heap.size w8)))
                      have HLS := Aside0.mk (lastS_any A0 c0 X w8.drew (Kd.C_below E0.out (below_drew (Below.refl w8.heap.size w8))) HC0.out HX0.out HLX.out)
                      refine wp_region_held_drew (S := fun W => Turn1 mb w8 W) (by kernel_rfl) (below_turn1 (below_drew (Below.refl _ _))) (fun hHeld => ?_)
                      refine wpAnyH_take (i := 0) (oi := ⟨some 112, _, _, _, _, _⟩) (v := (mp pb)) rfl (by kernel_rfl) (by kernel_rfl) (by kernel_rfl) (fun _ _ _ h => h) (Or.inl ⟨by rfl, fun W hS => by go_simp⟩) hHeld ?_
                      (try simp only [Act.put, List.setIfInBounds_toArray, List.set_cons_zero, List.set_cons_succ])
                      refine wpAnyH_take (i := 1) (oi := ⟨some 113, _, _, _, _, _⟩) (v := (.int .i64 a)) rfl (by kernel_rfl) (by kernel_rfl) (by kernel_rfl) (fun _ _ _ h => h) (Or.inl ⟨by rfl, fun W hS => by have cc := (show Turn1 mb w8 W from hS).cell D13.out ND13.out; go_simp⟩) hHeld ?_
                      (try simp only [Act.put, List.setIfInBounds_toArray, List.set_cons_zero, List.set_cons_succ])
                      refine wpAnyH_take (i := 2) (oi := ⟨some 114, _, _, _, _, _⟩) (v := (.slice A0 X.length c0)) rfl (by kernel_rfl) (by kernel_rfl) (by kernel_rfl) (fun _ _ _ h => h) (Or.inl ⟨by rfl, fun W hS => by have cc := (show Turn1 mb w8 W from hS).cell D7.out ND7.out; go_simp⟩) hHeld ?_
                      (try simp only [Act.put, List.setIfInBounds_toArray, List.set_cons_zero, List.set_cons_succ])
                      refine wpAnyH_ready (rs := [3]) (by kernel_rfl) (by simp) ?_
                      refine AllReadyH.cons rfl (fun K hK => ?_) AllReadyH.nil
                      go_simp
                      refine (HLS.out).mono ?_
                      rintro e wm ⟨rfl, hb⟩
                      dsimp only
                      refine hK.out _ _ (turn1_step hHeld (below_turn1 hb)) (fun hH => ?_)
                      have HMl := Aside0.mk (HMd.out.below hb)
                      have HTl := Aside0.mk (Utf8Tabs_below HUd.out hb)
                      clear hK K hHeld hb
                      have hHeld := hH
                      clear hH
                      (try simp only [Act.put, List.setIfInBounds_toArray, List.set_cons_zero, List.set_cons_succ])
                      refine wpAnyH_ready (rs := [4]) (by kernel_rfl) (by simp) ?_
                      refine AllReadyH.cons rfl (fun K hK => ?_) AllReadyH.nil
                      go_simp
                      refine (drop_any HMl.out OK2.out DA2.out (lastS X) HNMX.out HTl.out).mono ?_
                      rintro e we ⟨rfl, hm, ht⟩
                      dsimp only
                      refine hK.out _ _ (turn1_step hHeld ht) (fun hH => ?_)
                      have HMd2 := Aside0.mk hm
                      have hb := trivial
                      clear hm ht
                      clear hK K hHeld hb
                      have hHeld := hH
                      clear hH
                      (try simp only [Act.put, List.setIfInBounds_toArray, List.set_cons_zero, List.set_cons_succ])
                      refine wpAnyH_done (by kernel_rfl) ?_ _
                      have ht := (show Turn1 mb w8 we from hHeld)
                      replace D7 := Aside0.mk ((ht).cell D7.out ND7.out)
                      replace D8 := Aside0.mk ((ht).cell D8.out ND8.out)
                      replace D12 := Aside0.mk ((ht).cell D12.out ND12.out)
                      replace D13 := Aside0.mk ((ht).cell D13.out ND13.out)
                      replace D14 := Aside0.mk ((ht).cell D14.out ND14.out)
                      replace E0 := Aside0.mk (St_turn E0.out (ht) MX.out.2.obj)
                      replace E1 := Aside0.mk (St_turn E1.out (ht) MX.out.2.obj)
                      replace UT := Aside0.mk (tabs_turn UT.out (ht) (fun k e => (show k = mb from e) ▸ MX.out.2.inner))
                      replace TT := Aside0.mk (turn1_step TT.out (ht))
                      replace MX := Aside0.mk (HMd2.out)
                      clear hHeld ht HMd HUd HLS HMl HTl HMd2
                      (try simp only [Exit.then])
                      go_wp2
                      have HMd := Aside0.mk (MX.out.below (below_drew (Below.refl we.heap.size we)))
                      have HUd := Aside0.mk (Utf8Tabs_below UT.out (below_drew (Below.refl we.heap.size we)))
                      have HLS := Aside0.mk (lastS_any A c L we.drew (Kd.C_below E1.out (below_drew (Below.refl we.heap.size we))) HC1.out HL0.out HL1.out)
                      refine wp_region_held_drew (S := fun W => Turn1 mb we W) (by kernel_rfl) (below_turn1 (below_drew (Below.refl _ _))) (fun hHeld => ?_)
                      refine wpAnyH_take (i := 0) (oi := ⟨some 117, _, _, _, _, _⟩) (v := (mp pb)) rfl (by kernel_rfl) (by kernel_rfl) (by kernel_rfl) (fun _ _ _ h => h) (Or.inl ⟨by rfl, fun W hS => by go_simp⟩) hHeld ?_
                      (try simp only [Act.put, List.setIfInBounds_toArray, List.set_cons_zero, List.set_cons_succ])
                      refine wpAnyH_take (i := 1) (oi := ⟨some 118, _, _, _, _, _⟩) (v := (.int .i64 b)) rfl (by kernel_rfl) (by kernel_rfl) (by kernel_rfl) (fun _ _ _ h => h) (Or.inl ⟨by rfl, fun W hS => by have cc := (show Turn1 mb we W from hS).cell D14.out ND14.out; go_simp⟩) hHeld ?_
                      (try simp only [Act.put, List.setIfInBounds_toArray, List.set_cons_zero, List.set_cons_succ])
                      refine wpAnyH_take (i := 2) (oi := ⟨some 119, _, _, _, _, _⟩) (v := (.int .i64 ino)) rfl (by kernel_rfl) (by kernel_rfl) (by kernel_rfl) (fun _ _ _ h => h) (Or.inl ⟨by rfl, fun W hS => by have cc := (show Turn1 mb we W from hS).cell D12.out ND12.out; go_simp⟩) hHeld ?_
                      (try simp only [Act.put, List.setIfInBounds_toArray, List.set_cons_zero, List.set_cons_succ])
                      refine wpAnyH_take (i := 3) (oi := ⟨some 120, _, _, _, _, _⟩) (v := (.slice A L.length c)) rfl (by kernel_rfl) (by kernel_rfl) (by kernel_rfl) (fun _ _ _ h => h) (Or.inl ⟨by rfl, fun W hS => by have cc := (show Turn1 mb we W from hS).cell D8.out ND8.out; go_simp⟩) hHeld ?_
                      (try simp only [Act.put, List.setIfInBounds_toArray, List.set_cons_zero, List.set_cons_succ])
                      refine wpAnyH_ready (rs := [4]) (by kernel_rfl) (by simp) ?_
                      refine AllReadyH.cons rfl (fun K hK => ?_) AllReadyH.nil
                      go_simp
                      refine (HLS.out).mono ?_
                      rintro e wn ⟨rfl, hb⟩
                      dsimp only
                      refine hK.out _ _ (turn1_step hHeld (below_turn1 hb)) (fun hH => ?_)
                      have HMl := Aside0.mk (HMd.out.below hb)
                      have HTl := Aside0.mk (Utf8Tabs_below HUd.out hb)
                      clear hK K hHeld hb
                      have hHeld := hH
                      clear hH
                      (try simp only [Act.put, List.setIfInBounds_toArray, List.set_cons_zero, List.set_cons_succ])
                      refine wpAnyH_take (i := 5) (oi := ⟨some 122, _, _, _, _, _⟩) (v := (.agg (cellsE ino (lastS L)))) rfl (by kernel_rfl) (by kernel_rfl) (by kernel_rfl) (fun _ _ _ h => h) (Or.inl ⟨by rfl, fun W hS => by go_simp; rfl⟩) hHeld ?_
                      (try simp only [Act.put, List.setIfInBounds_toArray, List.set_cons_zero, List.set_cons_succ])
                      refine wpAnyH_ready (rs := [6]) (by kernel_rfl) (by simp) ?_
                      refine AllReadyH.cons rfl (fun K hK => ?_) AllReadyH.nil
                      go_simp
                      refine (add_any HMl.out OK3.out DB3.out ino (lastS L) HNM.out HTl.out).mono ?_
                      rintro e wf ⟨rfl, hm, ht⟩
                      dsimp only
                      refine hK.out _ _ (turn1_step hHeld ht) (fun hH => ?_)
                      have HMd2 := Aside0.mk hm
                      have hb := trivial
                      clear hm ht
                      clear hK K hHeld hb
                      have hHeld := hH
                      clear hH
                      (try simp only [Act.put, List.setIfInBounds_toArray, List.set_cons_zero, List.set_cons_succ])
                      refine wpAnyH_done (by kernel_rfl) ?_ _
                      have ht := (show Turn1 mb we wf from hHeld)
                      replace D7 := Aside0.mk ((ht).cell D7.out ND7.out)
                      replace D8 := Aside0.mk ((ht).cell D8.out ND8.out)
                      replace D12 := Aside0.mk ((ht).cell D12.out ND12.out)
                      replace D13 := Aside0.mk ((ht).cell D13.out ND13.out)
                      replace D14 := Aside0.mk ((ht).cell D14.out ND14.out)
                      replace E0 := Aside0.mk (St_turn E0.out (ht) MX.out.2.obj)
                      replace E1 := Aside0.mk (St_turn E1.out (ht) MX.out.2.obj)
                      replace UT := Aside0.mk (tabs_turn UT.out (ht) (fun k e => (show k = mb from e) ▸ MX.out.2.inner))
                      replace TT := Aside0.mk (turn1_step TT.out (ht))
                      replace MX := Aside0.mk (HMd2.out)
                      clear hHeld ht HMd HUd HLS HMl HTl HMd2
                      (try simp only [Exit.then])
                      go_wp2
                      go_ret
                      rw [← HR.out]
                      exact ⟨rfl, mb, .inl rfl, MX.out, TT.out.turn⟩
                    · rw [if_pos h9] at hR
                      have HR := Aside0.mk hR
                      have e9 : (y8 == 0) = false := beq_eq_false_iff_ne.2 h9
                      have e9' : (y8 != 0) = true := by simp [h9]
                      clear hR h9
                      have c12 := D12.out
                      go_wp2_with (first
                        | (have c12 := D12.out; go_at_call 46; refine Calls.mono HMAY.out ?_; rw [HY8.out]; rintro e w7 ⟨rfl, hb⟩; have HB8 := Aside0.mk hb; clear hb))
                      have hb := HB8.out
                      replace D7 := Aside0.mk (pw_cell_below hb D7.out)
                      replace D8 := Aside0.mk (pw_cell_below hb D8.out)
                      replace D12 := Aside0.mk (pw_cell_below hb D12.out)
                      replace D13 := Aside0.mk (pw_cell_below hb D13.out)
                      replace D14 := Aside0.mk (pw_cell_below hb D14.out)
                      replace E0 := Aside0.mk (Kd.C_below E0.out hb)
                      replace E1 := Aside0.mk (Kd.C_below E1.out hb)
                      replace E2 := Aside0.mk (Kd.C_below E2.out hb)
                      replace BB := Aside0.mk (below_step BB.out hb)
                      replace MX := Aside0.mk (MX.out.below hb)
                      clear hb
                      go_ret
                      rw [← HR.out]
                      exact Out.same HM.out BB.out _
                · rw [if_neg h7] at hR
                  have e7 : (y6 == 0) = false := beq_eq_false_iff_ne.2 h7
                  clear h7
                  have P6 := Aside0.mk MX.out.at_
                  go_wp2
                  obtain ⟨v6, hv6, hl6⟩ := MX.out.2.looks HAI.out
                  rw [HD.out] at hv6
                  obtain ⟨A7, c7, rfl, _, _⟩ := hv6
                  have HL7 := Aside0.mk (show ∀ W, Below w6.heap.size w6 W → (Instr.lookup 58 (.map (some mb)) (.int .i64 b) false).run Tryd.prog W = .ok (.iface 81 (.slice A7 d.length c7)) W from fun W hS => hl6 W (hS.block mb MX.out.2.lt))
                  clear hl6
                  by_cases h8 : a = b
                  · rw [if_neg (fun h => h.1 h8)] at hR
                    have e8 : (a == b) = true := beq_iff_eq.2 h8
                    have e8' : (a != b) = false := by simp [h8]
                    clear h8
                    refine wp_region_held_drew (S := fun W => Below w6.heap.size w6 W) (by kernel_rfl) (below_drew (Below.refl _ _)) (fun hHeld => ?_)
                    refine wpAnyH_take (i := 0) (oi := ⟨some 124, _, _, _, _, _⟩) (v := (.int .i64 a)) rfl (by kernel_rfl) (by kernel_rfl) (by kernel_rfl) (fun _ _ _ h => h) (Or.inl ⟨by rfl, fun W hS => by have cc := pw_cell_below hS D13.out; go_simp⟩) hHeld ?_
                    (try simp only [Act.put, List.setIfInBounds_toArray, List.set_cons_zero, List.set_cons_succ])
                    refine wpAnyH_take (i := 1) (oi := ⟨some 125, _, _, _, _, _⟩) (v := (.int .i64 b)) rfl (by kernel_rfl) (by kernel_rfl) (by kernel_rfl) (fun _ _ _ h => h) (Or.inl ⟨by rfl, fun W hS => by have cc := pw_cell_below hS D14.out; go_simp⟩) hHeld ?_
                    (try simp only [Act.put, List.setIfInBounds_toArray, List.set_cons_zero, List.set_cons_succ])
                    refine wpAnyH_take (i := 2) (oi := ⟨some 126, _, _, _, _, _⟩) (v := (.bool false)) rfl (by kernel_rfl) (by kernel_rfl) (by kernel_rfl) (fun _ _ _ h => h) (Or.inl ⟨by rfl, fun W hS => by have hh := e8; have hh' := e8'; go_simp⟩) hHeld ?_
                    (try simp only [Act.put, List.setIfInBounds_toArray, List.set_cons_zero, List.set_cons_succ])
                    refine wpAnyH_take (i := 3) (oi := ⟨some 127, _, _, _, _, _⟩) (v := (.bool false)) rfl (by kernel_rfl) (by kernel_rfl) (by kernel_rfl) (fun _ _ _ h => h) (Or.inl ⟨by rfl, fun W hS => by go_simp⟩) hHeld ?_
                    (try simp only [Act.put, List.setIfInBounds_toArray, List.set_cons_zero, List.set_cons_succ])
                    refine wpAnyH_take (i := 4) (oi := ⟨some 128, _, _, _, _, _⟩) (v := undef) rfl (by kernel_rfl) (by kernel_rfl) (by kernel_rfl) (fun _ _ _ h => h) (Or.inr ⟨by rfl, rfl⟩) hHeld ?_
                    (try simp only [Act.put, List.setIfInBounds_toArray, List.set_cons_zero, List.set_cons_succ])
                    refine wpAnyH_take (i := 5) (oi := ⟨some 129, _, _, _, _, _⟩) (v := undef) rfl (by kernel_rfl) (by kernel_rfl) (by kernel_rfl) (fun _ _ _ h => h) (Or.inr ⟨by rfl, rfl⟩) hHeld ?_
                    (try simp only [Act.put, List.setIfInBounds_toArray, List.set_cons_zero, List.set_cons_succ])
                    refine wpAnyH_take (i := 6) (oi := ⟨some 130, _, _, _, _, _⟩) (v := undef) rfl (by kernel_rfl) (by kernel_rfl) (by kernel_rfl) (fun _ _ _ h => h) (Or.inr ⟨by rfl, rfl⟩) hHeld ?_
                    (try simp only [Act.put, List.setIfInBounds_toArray, List.set_cons_zero, List.set_cons_succ])
                    refine wpAnyH_take (i := 7) (oi := ⟨some 131, _, _, _, _, _⟩) (v := undef) rfl (by kernel_rfl) (by kernel_rfl) (by kernel_rfl) (fun _ _ _ h => h) (Or.inr ⟨by rfl, rfl⟩) hHeld ?_
                    (try simp only [Act.put, List.setIfInBounds_toArray, List.set_cons_zero, List.set_cons_succ])
                    refine wpAnyH_take (i := 8) (oi := ⟨some 132, _, _, _, _, _⟩) (v := undef) rfl (by kernel_rfl) (by kernel_rfl) (by kernel_rfl) (fun _ _ _ h => h) (Or.inr ⟨by rfl, rfl⟩) hHeld ?_
                    (try simp only [Act.put, List.setIfInBounds_toArray, List.set_cons_zero, List.set_cons_succ])
                    refine wpAnyH_take (i := 9) (oi := ⟨some 133, _, _, _, _, _⟩) (v := undef) rfl (by kernel_rfl) (by kernel_rfl) (by kernel_rfl) (fun _ _ _ h => h) (Or.inr ⟨by rfl, rfl⟩) hHeld ?_
                    (try simp only [Act.put, List.setIfInBounds_toArray, List.set_cons_zero, List.set_cons_succ])
                    refine wpAnyH_take (i := 10) (oi := ⟨some 134, _, _, _, _, _⟩) (v := undef) rfl (by kernel_rfl) (by kernel_rfl) (by kernel_rfl) (fun _ _ _ h => h) (Or.inr ⟨by rfl, rfl⟩) hHeld ?_
                    (try simp only [Act.put, List.setIfInBounds_toArray, List.set_cons_zero, List.set_cons_succ])
                    refine wpAnyH_take (i := 11) (oi := ⟨some 135, _, _, _, _, _⟩) (v := undef) rfl (by kernel_rfl) (by kernel_rfl) (by kernel_rfl) (fun _ _ _ h => h) (Or.inr ⟨by rfl, rfl⟩) hHeld ?_
                    (try simp only [Act.put, List.setIfInBounds_toArray, List.set_cons_zero, List.set_cons_succ])
                    refine wpAnyH_take (i := 12) (oi := ⟨some 136, _, _, _, _, _⟩) (v := undef) rfl (by kernel_rfl) (by kernel_rfl) (by kernel_rfl) (fun _ _ _ h => h) (Or.inr ⟨by rfl, rfl⟩) hHeld ?_
                    (try simp only [Act.put, List.setIfInBounds_toArray, List.set_cons_zero, List.set_cons_succ])
                    refine wpAnyH_take (i := 13) (oi := ⟨some 137, _, _, _, _, _⟩) (v := (.bool false)) rfl (by kernel_rfl) (by kernel_rfl) (by kernel_rfl) (fun _ _ _ h => h) (Or.inl ⟨by rfl, fun W hS => by go_simp⟩) hHeld ?_
                    (try simp only [Act.put, List.setIfInBounds_toArray, List.set_cons_zero, List.set_cons_succ])
                    refine wpAnyH_done (by kernel_rfl) ?_ _
                    obtain ⟨w6b, hw6b⟩ : ∃ W, W = w6.drew := ⟨_, rfl⟩
                    rw [← hw6b] at hHeld ⊢
                    replace D7 := Aside0.mk (pw_cell_below hHeld D7.out)
                    replace D8 := Aside0.mk (pw_cell_below hHeld D8.out)
                    replace D12 := Aside0.mk (pw_cell_below hHeld D12.out)
                    replace D13 := Aside0.mk (pw_cell_below hHeld D13.out)
                    replace D14 := Aside0.mk (pw_cell_below hHeld D14.out)
                    replace E0 := Aside0.mk (Kd.C_below E0.out hHeld)
                    replace E1 := Aside0.mk (Kd.C_below E1.out hHeld)
                    replace E2 := Aside0.mk (Kd.C_below E2.out hHeld)
                    replace BB := Aside0.mk (below_step BB.out hHeld)
                    replace MX := Aside0.mk (MX.out.below hHeld)
                    clear hHeld HL7 P6 hw6b
                    (try simp only [Exit.then])
                    obtain ⟨da, d1, hda, ok1, hd1, ok2, hmv⟩ := move_facts (ino := ino) (a := a) (b := b) (x := X) (y := L) HO.out HD.out HST.out
                    rw [hmv] at hR
                    have HR := Aside0.mk hR
                    have HDA := Aside0.mk hda
                    have OK1 := Aside0.mk ok1
                    have HD1 := Aside0.mk hd1
                    have HFN := Aside0.mk ok2
                    clear hda ok1 hd1 ok2 hmv hR
                    have HOF := Aside0.mk (fun (W : World) (pb' mb' : Nat) (hB : Below w6b.heap.size w6b W) (hM : Mdl W pb' mb' q T) (_ : w6b.heap.size ≤ pb') (_ : w6b.heap.size ≤ mb') => rename_clo hM ⟨g13, 0, none⟩ ⟨w1.heap.size, 0, none⟩ ⟨g14, 0, none⟩ ⟨g12, 0, none⟩ ⟨w1.heap.size + 1, 0, none⟩ a b ino A0 c0 X A c L da d1 (pw_cell_below hB D13.out) (pw_cell_below hB D7.out) (pw_cell_below hB D14.out) (pw_cell_below hB D12.out) (pw_cell_below hB D8.out) HO.out HDA.out OK1.out HD1.out (Kd.C_below E0.out hB) HC0.out HX0.out HLX.out HNMX.out (Kd.C_below E1.out hB) HC1.out HL0.out HL1.out HNM.out (Utf8Tabs_below HT.out (below_step BB.out hB)))
                    have HTRY := Aside0.mk (try_rename (.pointer (some ⟨g13, 0, none⟩)) (.pointer (some ⟨w1.heap.size, 0, none⟩)) (.pointer (some ⟨g14, 0, none⟩)) (.pointer (some ⟨g12, 0, none⟩)) (.pointer (some ⟨w1.heap.size + 1, 0, none⟩)) MX.out HFN.out HOF.out)
                    go_wp2_with (first
                      | (go_at_call 42; refine Calls.mono HTRY.out ?_; rw [HR.out]; rintro e w9 ⟨mb', hmb, rfl, hm, ht⟩; have HFIN := Aside0.mk ((Out.mk_ hmb hm ht).lift BB.out); clear hm ht hmb))
                    go_ret
                    exact HFIN.out
                  · have e8 : (a == b) = false := beq_eq_false_iff_ne.2 h8
                    have e8' : (a != b) = true := by simp [h8]
                    by_cases h9 : 64 ≤ d.length
                    · rw [if_pos ⟨h8, h9⟩] at hR
                      have HR := Aside0.mk hR
                      have e9 : decide ((64 : Int) ≤ (d.length : Int)) = true := decide_eq_true (by omega)
                      clear hR h8
                      refine wp_region_held_drew (S := fun W => Below w6.heap.size w6 W) (by kernel_rfl) (below_drew (Below.refl _ _)) (fun hHeld => ?_)
                      refine wpAnyH_take (i := 0) (oi := ⟨some 124, _, _, _, _, _⟩) (v := (.int .i64 a)) rfl (by kernel_rfl) (by kernel_rfl) (by kernel_rfl) (fun _ _ _ h => h) (Or.inl ⟨by rfl, fun W hS => by have cc := pw_cell_below hS D13.out; go_simp⟩) hHeld ?_
                      (try simp only [Act.put, List.setIfInBounds_toArray, List.set_cons_zero, List.set_cons_succ])
                      refine wpAnyH_take (i := 1) (oi := ⟨some 125, _, _, _, _, _⟩) (v := (.int .i64 b)) rfl (by kernel_rfl) (by kernel_rfl) (by kernel_rfl) (fun _ _ _ h => h) (Or.inl ⟨by rfl, fun W hS => by have cc := pw_cell_below hS D14.out; go_simp⟩) hHeld ?_
                      (try simp only [Act.put, List.setIfInBounds_toArray, List.set_cons_zero, List.set_cons_succ])
                      refine wpAnyH_take (i := 2) (oi := ⟨some 126, _, _, _, _, _⟩) (v := (.bool true)) rfl (by kernel_rfl) (by kernel_rfl) (by kernel_rfl) (fun _ _ _ h => h) (Or.inl ⟨by rfl, fun W hS => by have hh := e8; have hh' := e8'; go_simp⟩) hHeld ?_
                      (try simp only [Act.put, List.setIfInBounds_toArray, List.set_cons_zero, List.set_cons_succ])
                      refine wpAnyH_take (i := 3) (oi := ⟨some 127, _, _, _, _, _⟩) (v := (.bool true)) rfl (by kernel_rfl) (by kernel_rfl) (by kernel_rfl) (fun _ _ _ h => h) (Or.inl ⟨by rfl, fun W hS => by go_simp⟩) hHeld ?_
                      (try simp only [Act.put, List.setIfInBounds_toArray, List.set_cons_zero, List.set_cons_succ])
                      refine wpAnyH_take (i := 4) (oi := ⟨some 128, _, _, _, _, _⟩) (v := (mp pb)) rfl (by kernel_rfl) (by kernel_rfl) (by kernel_rfl) (fun _ _ _ h => h) (Or.inl ⟨by rfl, fun W hS => by go_simp⟩) hHeld ?_
                      (try simp only [Act.put, List.setIfInBounds_toArray, List.set_cons_zero, List.set_cons_succ])
                      refine wpAnyH_take (i := 5) (oi := ⟨some 129, _, _, _, _, _⟩) (v := (mp pb)) rfl (by kernel_rfl) (by kernel_rfl) (by kernel_rfl) (fun _ _ _ h => h) (Or.inl ⟨by rfl, fun W hS => by go_simp⟩) hHeld ?_
                      (try simp only [Act.put, List.setIfInBounds_toArray, List.set_cons_zero, List.set_cons_succ])
                      refine wpAnyH_take (i := 6) (oi := ⟨some 130, _, _, _, _, _⟩) (v := (.pointer (some ⟨pb, 1, none⟩))) rfl (by kernel_rfl) (by kernel_rfl) (by kernel_rfl) (fun _ _ _ h => h) (Or.inl ⟨by rfl, fun W hS => by go_simp⟩) hHeld ?_
                      (try simp only [Act.put, List.setIfInBounds_toArray, List.set_cons_zero, List.set_cons_succ])
                      refine wpAnyH_take (i := 7) (oi := ⟨some 131, _, _, _, _, _⟩) (v := (.map (some mb))) rfl (by kernel_rfl) (by kernel_rfl) (by kernel_rfl) (fun _ _ _ h => h) (Or.inl ⟨by rfl, fun W hS => by have cc := pw_cell_below hS P6.out; go_simp⟩) hHeld ?_
                      (try simp only [Act.put, List.setIfInBounds_toArray, List.set_cons_zero, List.set_cons_succ])
                      refine wpAnyH_take (i := 8) (oi := ⟨some 132, _, _, _, _, _⟩) (v := (.int .i64 b)) rfl (by kernel_rfl) (by kernel_rfl) (by kernel_rfl) (fun _ _ _ h => h) (Or.inl ⟨by rfl, fun W hS => by have cc := pw_cell_below hS D14.out; go_simp⟩) hHeld ?_
                      (try simp only [Act.put, List.setIfInBounds_toArray, List.set_cons_zero, List.set_cons_succ])
                      refine wpAnyH_take (i := 9) (oi := ⟨some 133, _, _, _, _, _⟩) (v := (.iface 81 (.slice A7 d.length c7))) rfl (by kernel_rfl) (by kernel_rfl) (by kernel_rfl) (fun _ _ _ h => h) (Or.inl ⟨by rfl, fun W hS => by have hl := HL7.out W hS; go_simp⟩) hHeld ?_
                      (try simp only [Act.put, List.setIfInBounds_toArray, List.set_cons_zero, List.set_cons_succ])
                      refine wpAnyH_take (i := 10) (oi := ⟨some 134, _, _, _, _, _⟩) (v := (.slice A7 d.length c7)) rfl (by kernel_rfl) (by kernel_rfl) (by kernel_rfl) (fun _ _ _ h => h) (Or.inl ⟨by rfl, fun W hS => by go_simp⟩) hHeld ?_
                      (try simp only [Act.put, List.setIfInBounds_toArray, List.set_cons_zero, List.set_cons_succ])
                      refine wpAnyH_take (i := 11) (oi := ⟨some 135, _, _, _, _, _⟩) (v := (.int .i64 d.length)) rfl (by kernel_rfl) (by kernel_rfl) (by kernel_rfl) (fun _ _ _ h => h) (Or.inl ⟨by rfl, fun W hS => by go_simp⟩) hHeld ?_
                      (try simp only [Act.put, List.setIfInBounds_toArray, List.set_cons_zero, List.set_cons_succ])
                      refine wpAnyH_take (i := 12) (oi := ⟨some 136, _, _, _, _, _⟩) (v := (.bool true)) rfl (by kernel_rfl) (by kernel_rfl) (by kernel_rfl) (fun _ _ _ h => h) (Or.inl ⟨by rfl, fun W hS => by have hb := e9; go_simp⟩) hHeld ?_
                      (try simp only [Act.put, List.setIfInBounds_toArray, List.set_cons_zero, List.set_cons_succ])
                      refine wpAnyH_take (i := 13) (oi := ⟨some 137, _, _, _, _, _⟩) (v := (.bool true)) rfl (by kernel_rfl) (by kernel_rfl) (by kernel_rfl) (fun _ _ _ h => h) (Or.inl ⟨by rfl, fun W hS => by go_simp⟩) hHeld ?_
                      (try simp only [Act.put, List.setIfInBounds_toArray, List.set_cons_zero, List.set_cons_succ])
                      refine wpAnyH_done (by kernel_rfl) ?_ _
                      obtain ⟨w6b, hw6b⟩ : ∃ W, W = w6.drew := ⟨_, rfl⟩
                      rw [← hw6b] at hHeld ⊢
                      replace D7 := Aside0.mk (pw_cell_below hHeld D7.out)
                      replace D8 := Aside0.mk (pw_cell_below hHeld D8.out)
                      replace D12 := Aside0.mk (pw_cell_below hHeld D12.out)
                      replace D13 := Aside0.mk (pw_cell_below hHeld D13.out)
                      replace D14 := Aside0.mk (pw_cell_below hHeld D14.out)
                      replace E0 := Aside0.mk (Kd.C_below E0.out hHeld)
                      replace E1 := Aside0.mk (Kd.C_below E1.out hHeld)
                      replace E2 := Aside0.mk (Kd.C_below E2.out hHeld)
                      replace BB := Aside0.mk (below_step BB.out hHeld)
                      replace MX := Aside0.mk (MX.out.below hHeld)
                      clear hHeld HL7 P6 hw6b
                      (try simp only [Exit.then])
                      go_wp2
                      go_ret
                      rw [← HR.out]
                      exact Out.same HM.out BB.out _
                    · rw [if_neg (fun h => h9 h.2)] at hR
                      have e9 : decide ((64 : Int) ≤ (d.length : Int)) = false := decide_eq_false (by omega)
                      clear h8 h9
                      refine wp_region_held_drew (S := fun W => Below w6.heap.size w6 W) (by kernel_rfl) (below_drew (Below.refl _ _)) (fun hHeld => ?_)
                      refine wpAnyH_take (i := 0) (oi := ⟨some 124, _, _, _, _, _⟩) (v := (.int .i64 a)) rfl (by kernel_rfl) (by kernel_rfl) (by kernel_rfl) (fun _ _ _ h => h) (Or.inl ⟨by rfl, fun W hS => by have cc := pw_cell_below hS D13.out; go_simp⟩) hHeld ?_
                      (try simp only [Act.put, List.setIfInBounds_toArray, List.set_cons_zero, List.set_cons_succ])
                      refine wpAnyH_take (i := 1) (oi := ⟨some 125, _, _, _, _, _⟩) (v := (.int .i64 b)) rfl (by kernel_rfl) (by kernel_rfl) (by kernel_rfl) (fun _ _ _ h => h) (Or.inl ⟨by rfl, fun W hS => by have cc := pw_cell_below hS D14.out; go_simp⟩) hHeld ?_
                      (try simp only [Act.put, List.setIfInBounds_toArray, List.set_cons_zero, List.set_cons_succ])
                      refine wpAnyH_take (i := 2) (oi := ⟨some 126, _, _, _, _, _⟩) (v := (.bool true)) rfl (by kernel_rfl) (by kernel_rfl) (by kernel_rfl) (fun _ _ _ h => h) (Or.inl ⟨by rfl, fun W hS => by have hh := e8; have hh' := e8'; go_simp⟩) hHeld ?_
                      (try simp only [Act.put, List.setIfInBounds_toArray, List.set_cons_zero, List.set_cons_succ])
                      refine wpAnyH_take (i := 3) (oi := ⟨some 127, _, _, _, _, _⟩) (v := (.bool true)) rfl (by kernel_rfl) (by kernel_rfl) (by kernel_rfl) (fun _ _ _ h => h) (Or.inl ⟨by rfl, fun W hS => by go_simp⟩) hHeld ?_
                      (try simp only [Act.put, List.setIfInBounds_toArray, List.set_cons_zero, List.set_cons_succ])
                      refine wpAnyH_take (i := 4) (oi := ⟨some 128, _, _, _, _, _⟩) (v := (mp pb)) rfl (by kernel_rfl) (by kernel_rfl) (by kernel_rfl) (fun _ _ _ h => h) (Or.inl ⟨by rfl, fun W hS => by go_simp⟩) hHeld ?_
                      (try simp only [Act.put, List.setIfInBounds_toArray, List.set_cons_zero, List.set_cons_succ])
                      refine wpAnyH_take (i := 5) (oi := ⟨some 129, _, _, _, _, _⟩) (v := (mp pb)) rfl (by kernel_rfl) (by kernel_rfl) (by kernel_rfl) (fun _ _ _ h => h) (Or.inl ⟨by rfl, fun W hS => by go_simp⟩) hHeld ?_
                      (try simp only [Act.put, List.setIfInBounds_toArray, List.set_cons_zero, List.set_cons_succ])
                      refine wpAnyH_take (i := 6) (oi := ⟨some 130, _, _, _, _, _⟩) (v := (.pointer (some ⟨pb, 1, none⟩))) rfl (by kernel_rfl) (by kernel_rfl) (by kernel_rfl) (fun _ _ _ h => h) (Or.inl ⟨by rfl, fun W hS => by go_simp⟩) hHeld ?_
                      (try simp only [Act.put, List.setIfInBounds_toArray, List.set_cons_zero, List.set_cons_succ])
                      refine wpAnyH_take (i := 7) (oi := ⟨some 131, _, _, _, _, _⟩) (v := (.map (some mb))) rfl (by kernel_rfl) (by kernel_rfl) (by kernel_rfl) (fun _ _ _ h => h) (Or.inl ⟨by rfl, fun W hS => by have cc := pw_cell_below hS P6.out; go_simp⟩) hHeld ?_
                      (try simp only [Act.put, List.setIfInBounds_toArray, List.set_cons_zero, List.set_cons_succ])
                      refine wpAnyH_take (i := 8) (oi := ⟨some 132, _, _, _, _, _⟩) (v := (.int .i64 b)) rfl (by kernel_rfl) (by kernel_rfl) (by kernel_rfl) (fun _ _ _ h => h) (Or.inl ⟨by rfl, fun W hS => by have cc := pw_cell_below hS D14.out; go_simp⟩) hHeld ?_
                      (try simp only [Act.put, List.setIfInBounds_toArray, List.set_cons_zero, List.set_cons_succ])
                      refine wpAnyH_take (i := 9) (oi := ⟨some 133, _, _, _, _, _⟩) (v := (.iface 81 (.slice A7 d.length c7))) rfl (by kernel_rfl) (by kernel_rfl) (by kernel_rfl) (fun _ _ _ h => h) (Or.inl ⟨by rfl, fun W hS => by have hl := HL7.out W hS; go_simp⟩) hHeld ?_
                      (try simp only [Act.put, List.setIfInBounds_toArray, List.set_cons_zero, List.set_cons_succ])
                      refine wpAnyH_take (i := 10) (oi := ⟨some 134, _, _, _, _, _⟩) (v := (.slice A7 d.length c7)) rfl (by kernel_rfl) (by kernel_rfl) (by kernel_rfl) (fun _ _ _ h => h) (Or.inl ⟨by rfl, fun W hS => by go_simp⟩) hHeld ?_
                      (try simp only [Act.put, List.setIfInBounds_toArray, List.set_cons_zero, List.set_cons_succ])
                      refine wpAnyH_take (i := 11) (oi := ⟨some 135, _, _, _, _, _⟩) (v := (.int .i64 d.length)) rfl (by kernel_rfl) (by kernel_rfl) (by kernel_rfl) (fun _ _ _ h => h) (Or.inl ⟨by rfl, fun W hS => by go_simp⟩) hHeld ?_
                      (try simp only [Act.put, List.setIfInBounds_toArray, List.set_cons_zero, List.set_cons_succ])
                      refine wpAnyH_take (i := 12) (oi := ⟨some 136, _, _, _, _, _⟩) (v := (.bool false)) rfl (by kernel_rfl) (by kernel_rfl) (by kernel_rfl) (fun _ _ _ h => h) (Or.inl ⟨by rfl, fun W hS => by have hb := e9; go_simp⟩) hHeld ?_
                      (try simp only [Act.put, List.setIfInBounds_toArray, List.set_cons_zero, List.set_cons_succ])
                      refine wpAnyH_take (i := 13) (oi := ⟨some 137, _, _, _, _, _⟩) (v := (.bool false)) rfl (by kernel_rfl) (by kernel_rfl) (by kernel_rfl) (fun _ _ _ h => h) (Or.inl ⟨by rfl, fun W hS => by go_simp⟩) hHeld ?_
                      (try simp only [Act.put, List.setIfInBounds_toArray, List.set_cons_zero, List.set_cons_succ])
                      refine wpAnyH_done (by kernel_rfl) ?_ _
                      obtain ⟨w6b, hw6b⟩ : ∃ W, W = w6.drew := ⟨_, rfl⟩
                      rw [← hw6b] at hHeld ⊢
                      replace D7 := Aside0.mk (pw_cell_below hHeld D7.out)
                      replace D8 := Aside0.mk (pw_cell_below hHeld D8.out)
                      replace D12 := Aside0.mk (pw_cell_below hHeld D12.out)
                      replace D13 := Aside0.mk (pw_cell_below hHeld D13.out)
                      replace D14 := Aside0.mk (pw_cell_below hHeld D14.out)
                      replace E0 := Aside0.mk (Kd.C_below E0.out hHeld)
                      replace E1 := Aside0.mk (Kd.C_below E1.out hHeld)
                      replace E2 := Aside0.mk (Kd.C_below E2.out hHeld)
                      replace BB := Aside0.mk (below_step BB.out hHeld)
                      replace MX := Aside0.mk (MX.out.below hHeld)
                      clear hHeld HL7 P6 hw6b
                      (try simp only [Exit.then])
                      obtain ⟨da, d1, hda, ok1, hd1, ok2, hmv⟩ := move_facts (ino := ino) (a := a) (b := b) (x := X) (y := L) HO.out HD.out HST.out
                      rw [hmv] at hR
                      have HR := Aside0.mk hR
                      have HDA := Aside0.mk hda
                      have OK1 := Aside0.mk ok1
                      have HD1 := Aside0.mk hd1
                      have HFN := Aside0.mk ok2
                      clear hda ok1 hd1 ok2 hmv hR
                      have HOF := Aside0.mk (fun (W : World) (pb' mb' : Nat) (hB : Below w6b.heap.size w6b W) (hM : Mdl W pb' mb' q T) (_ : w6b.heap.size ≤ pb') (_ : w6b.heap.size ≤ mb') => rename_clo hM ⟨g13, 0, none⟩ ⟨w1.heap.size, 0, none⟩ ⟨g14, 0, none⟩ ⟨g12, 0, none⟩ ⟨w1.heap.size + 1, 0, none⟩ a b ino A0 c0 X A c L da d1 (pw_cell_below hB D13.out) (pw_cell_below hB D7.out) (pw_cell_below hB D14.out) (pw_cell_below hB D12.out) (pw_cell_below hB D8.out) HO.out HDA.out OK1.out HD1.out (Kd.C_below E0.out hB) HC0.out HX0.out HLX.out HNMX.out (Kd.C_below E1.out hB) HC1.out HL0.out HL1.out HNM.out (Utf8Tabs_below HT.out (below_step BB.out hB)))
                      have HTRY := Aside0.mk (try_rename (.pointer (some ⟨g13, 0, none⟩)) (.pointer (some ⟨w1.heap.size, 0, none⟩)) (.pointer (some ⟨g14, 0, none⟩)) (.pointer (some ⟨g12, 0, none⟩)) (.pointer (some ⟨w1.heap.size + 1, 0, none⟩)) MX.out HFN.out HOF.out)
                      go_wp2_with (first
                        | (go_at_call 42; refine Calls.mono HTRY.out ?_; rw [HR.out]; rintro e w9 ⟨mb', hmb, rfl, hm, ht⟩; have HFIN := Aside0.mk ((Out.mk_ hmb hm ht).lift BB.out); clear hm ht hmb))
                      go_ret
                      exact HFIN.out
              · have HTI := Aside0.mk hTi
                rw [hTi] at hv
                obtain ⟨B, cb, rfl, _, _⟩ := hv
                have HL2 := Aside0.mk (show ∀ W, Below w4.heap.size w4 W → (Instr.lookup 58 (.map (some mb)) (.int .i64 ino) false).run Tryd.prog W = .ok (.iface 81 (.slice B li.length cb)) W from fun W hS => hl W (hS.block mb MX.out.2.lt))
                clear hl hni
                go_wp2
                refine wp_region_held_drew (S := fun W => Below w4.heap.size w4 W) (by kernel_rfl) (below_drew (Below.refl _ _)) (fun hHeld => ?_)
                refine wpAnyH_take (i := 0) (oi := ⟨some 69, _, _, _, _, _⟩) (v := (mp pb)) rfl (by kernel_rfl) (by kernel_rfl) (by kernel_rfl) (fun _ _ _ h => h) (Or.inl ⟨by rfl, fun W hS => by go_simp⟩) hHeld ?_
                (try simp only [Act.put, List.setIfInBounds_toArray, List.set_cons_zero, List.set_cons_succ])
                refine wpAnyH_take (i := 1) (oi := ⟨some 70, _, _, _, _, _⟩) (v := (mp pb)) rfl (by kernel_rfl) (by kernel_rfl) (by kernel_rfl) (fun _ _ _ h => h) (Or.inl ⟨by rfl, fun W hS => by go_simp⟩) hHeld ?_
                (try simp only [Act.put, List.setIfInBounds_toArray, List.set_cons_zero, List.set_cons_succ])
                refine wpAnyH_take (i := 2) (oi := ⟨some 71, _, _, _, _, _⟩) (v := (.pointer (some ⟨pb, 1, none⟩))) rfl (by kernel_rfl) (by kernel_rfl) (by kernel_rfl) (fun _ _ _ h => h) (Or.inl ⟨by rfl, fun W hS => by go_simp⟩) hHeld ?_
                (try simp only [Act.put, List.setIfInBounds_toArray, List.set_cons_zero, List.set_cons_succ])
                refine wpAnyH_take (i := 3) (oi := ⟨some 72, _, _, _, _, _⟩) (v := (.map (some mb))) rfl (by kernel_rfl) (by kernel_rfl) (by kernel_rfl) (fun _ _ _ h => h) (Or.inl ⟨by rfl, fun W hS => by have cc := pw_cell_below hS P4.out; go_simp⟩) hHeld ?_
                (try simp only [Act.put, List.setIfInBounds_toArray, List.set_cons_zero, List.set_cons_succ])
                refine wpAnyH_take (i := 4) (oi := ⟨some 73, _, _, _, _, _⟩) (v := (.int .i64 ino)) rfl (by kernel_rfl) (by kernel_rfl) (by kernel_rfl) (fun _ _ _ h => h) (Or.inl ⟨by rfl, fun W hS => by have cc := pw_cell_below hS D12.out; go_simp⟩) hHeld ?_
                (try simp only [Act.put, List.setIfInBounds_toArray, List.set_cons_zero, List.set_cons_succ])
                refine wpAnyH_take (i := 5) (oi := ⟨some 74, _, _, _, _, _⟩) (v := (.iface 81 (.slice B li.length cb))) rfl (by kernel_rfl) (by kernel_rfl) (by kernel_rfl) (fun _ _ _ h => h) (Or.inl ⟨by rfl, fun W hS => by have hl := HL2.out W hS; go_simp⟩) hHeld ?_
                (try simp only [Act.put, List.setIfInBounds_toArray, List.set_cons_zero, List.set_cons_succ])
                refine wpAnyH_take (i := 6) (oi := ⟨some 75, _, _, _, _, _⟩) (v := (.tuple #[.slice B li.length cb, .bool true])) rfl (by kernel_rfl) (by kernel_rfl) (by kernel_rfl) (fun _ _ _ h => h) (Or.inl ⟨by rfl, fun W hS => by go_simp⟩) hHeld ?_
                (try simp only [Act.put, List.setIfInBounds_toArray, List.set_cons_zero, List.set_cons_succ])
                refine wpAnyH_take (i := 7) (oi := ⟨some 68, _, _, _, _, _⟩) (v := (.tuple #[.slice B li.length cb, .bool true])) rfl (by kernel_rfl) (by kernel_rfl) (by kernel_rfl) (fun _ _ _ h => h) (Or.inl ⟨by rfl, fun W hS => by go_simp⟩) hHeld ?_
                (try simp only [Act.put, List.setIfInBounds_toArray, List.set_cons_zero, List.set_cons_succ])
                refine wpAnyH_take (i := 8) (oi := ⟨some 76, _, _, _, _, _⟩) (v := (.slice B li.length cb)) rfl (by kernel_rfl) (by kernel_rfl) (by kernel_rfl) (fun _ _ _ h => h) (Or.inl ⟨by rfl, fun W hS => by go_simp⟩) hHeld ?_
                (try simp only [Act.put, List.setIfInBounds_toArray, List.set_cons_zero, List.set_cons_succ])
                refine wpAnyH_take (i := 9) (oi := ⟨some 77, _, _, _, _, _⟩) (v := (.bool true)) rfl (by kernel_rfl) (by kernel_rfl) (by kernel_rfl) (fun _ _ _ h => h) (Or.inl ⟨by rfl, fun W hS => by go_simp⟩) hHeld ?_
                (try simp only [Act.put, List.setIfInBounds_toArray, List.set_cons_zero, List.set_cons_succ])
                refine wpAnyH_take (i := 10) (oi := ⟨some 15, _, _, _, _, _⟩) (v := (.slice B li.length cb)) rfl (by kernel_rfl) (by kernel_rfl) (by kernel_rfl) (fun _ _ _ h => h) (Or.inl ⟨by rfl, fun W hS => by go_simp⟩) hHeld ?_
                (try simp only [Act.put, List.setIfInBounds_toArray, List.set_cons_zero, List.set_cons_succ])
                refine wpAnyH_take (i := 11) (oi := ⟨some 16, _, _, _, _, _⟩) (v := (.bool true)) rfl (by kernel_rfl) (by kernel_rfl) (by kernel_rfl) (fun _ _ _ h => h) (Or.inl ⟨by rfl, fun W hS => by go_simp⟩) hHeld ?_
                (try simp only [Act.put, List.setIfInBounds_toArray, List.set_cons_zero, List.set_cons_succ])
                refine wpAnyH_done (by kernel_rfl) ?_ _
                obtain ⟨w4b, hw4b⟩ : ∃ W, W = w4.drew := ⟨_, rfl⟩
                rw [← hw4b] at hHeld ⊢
                replace D7 := Aside0.mk (pw_cell_below hHeld D7.out)
                replace D8 := Aside0.mk (pw_cell_below hHeld D8.out)
                replace D12 := Aside0.mk (pw_cell_below hHeld D12.out)
                replace D13 := Aside0.mk (pw_cell_below hHeld D13.out)
                replace D14 := Aside0.mk (pw_cell_below hHeld D14.out)
                replace E0 := Aside0.mk (Kd.C_below E0.out hHeld)
                replace E1 := Aside0.mk (Kd.C_below E1.out hHeld)
                replace E2 := Aside0.mk (Kd.C_below E2.out hHeld)
                replace BB := Aside0.mk (below_step BB.out hHeld)
                replace MX := Aside0.mk (MX.out.below hHeld)
                clear hHeld P4 HL2 hw4b
                (try simp only [Exit.then])
                have c12 := D12.out
                by_cases h5 : ino ∈ G2
                · rw [if_pos ⟨by rw [hTi]; rfl, h5⟩] at hR
                  have HR := Aside0.mk hR
                  have HCB := Aside0.mk (show decide (ino ∈ G2) = true from decide_eq_true h5)
                  clear hR h5 hTi
                  go_wp2_with (first
                    | (have c12 := D12.out; go_at_call 45; refine Calls.mono (slices_Contains_int_int.calls (G2.length + 1) A3 c3 G2 ino (decide (ino ∈ G2)) w4b E2.out HC3.out (contains_i G2 ino (by have := HQ2.out; omega))) ?_; rw [HCB.out]; rintro e w5 ⟨rfl, hb⟩; have HB5 := Aside0.mk (drawn_below hb); clear hb))
                  have hb := HB5.out
                  replace D7 := Aside0.mk (pw_cell_below hb D7.out)
                  replace D8 := Aside0.mk (pw_cell_below hb D8.out)
                  replace D12 := Aside0.mk (pw_cell_below hb D12.out)
                  replace D13 := Aside0.mk (pw_cell_below hb D13.out)
                  replace D14 := Aside0.mk (pw_cell_below hb D14.out)
                  replace E0 := Aside0.mk (Kd.C_below E0.out hb)
                  replace E1 := Aside0.mk (Kd.C_below E1.out hb)
                  replace E2 := Aside0.mk (Kd.C_below E2.out hb)
                  replace BB := Aside0.mk (below_step BB.out hb)
                  replace MX := Aside0.mk (MX.out.below hb)
                  clear hb
                  go_ret
                  rw [← HR.out]
                  exact Out.same HM.out BB.out _
                · rw [if_neg (fun h => h5 h.2)] at hR
                  have HCB := Aside0.mk (show decide (ino ∈ G2) = false from decide_eq_false h5)
                  clear h5 hTi
                  go_wp2_with (first
                    | (have c12 := D12.out; go_at_call 45; refine Calls.mono (slices_Contains_int_int.calls (G2.length + 1) A3 c3 G2 ino (decide (ino ∈ G2)) w4b E2.out HC3.out (contains_i G2 ino (by have := HQ2.out; omega))) ?_; rw [HCB.out]; rintro e w5 ⟨rfl, hb⟩; have HB5 := Aside0.mk (drawn_below hb); clear hb))
                  have hb := HB5.out
                  replace D7 := Aside0.mk (pw_cell_below hb D7.out)
                  replace D8 := Aside0.mk (pw_cell_below hb D8.out)
                  replace D12 := Aside0.mk (pw_cell_below hb D12.out)
                  replace D13 := Aside0.mk (pw_cell_below hb D13.out)
                  replace D14 := Aside0.mk (pw_cell_below hb D14.out)
                  replace E0 := Aside0.mk (Kd.C_below E0.out hb)
                  replace E1 := Aside0.mk (Kd.C_below E1.out hb)
                  replace E2 := Aside0.mk (Kd.C_below E2.out hb)
                  replace BB := Aside0.mk (below_step BB.out hb)
                  replace MX := Aside0.mk (MX.out.below hb)
                  clear hb c12 HB5
                  have HLS := Aside0.mk (lastS_any A c L w5.drew (Kd.C_below E1.out (below_drew (Below.refl w5.heap.size w5))) HC1.out HL0.out HL1.out)
                  refine wp_region_held_drew (S := fun W => Below w5.heap.size w5 W) (by kernel_rfl) (below_drew (Below.refl _ _)) (fun hHeld => ?_)
                  refine wpAnyH_take (i := 0) (oi := ⟨some 85, _, _, _, _, _⟩) (v := (mp pb)) rfl (by kernel_rfl) (by kernel_rfl) (by kernel_rfl) (fun _ _ _ h => h) (Or.inl ⟨by rfl, fun W hS => by go_simp⟩) hHeld ?_
                  (try simp only [Act.put, List.setIfInBounds_toArray, List.set_cons_zero, List.set_cons_succ])
                  refine wpAnyH_take (i := 1) (oi := ⟨some 86, _, _, _, _, _⟩) (v := (.int .i64 b)) rfl (by kernel_rfl) (by kernel_rfl) (by kernel_rfl) (fun _ _ _ h => h) (Or.inl ⟨by rfl, fun W hS => by have cc := pw_cell_below hS D14.out; go_simp⟩) hHeld ?_
                  (try simp only [Act.put, List.setIfInBounds_toArray, List.set_cons_zero, List.set_cons_succ])
                  refine wpAnyH_take (i := 2) (oi := ⟨some 87, _, _, _, _, _⟩) (v := (.slice A L.length c)) rfl (by kernel_rfl) (by kernel_rfl) (by kernel_rfl) (fun _ _ _ h => h) (Or.inl ⟨by rfl, fun W hS => by have cc := pw_cell_below hS D8.out; go_simp⟩) hHeld ?_
                  (try simp only [Act.put, List.setIfInBounds_toArray, List.set_cons_zero, List.set_cons_succ])
                  refine wpAnyH_ready (rs := [3]) (by kernel_rfl) (by simp) ?_
                  refine AllReadyH.cons rfl (fun K hK => ?_) AllReadyH.nil
                  go_simp
                  refine (HLS.out).mono ?_
                  rintro e wl ⟨rfl, hb⟩
                  dsimp only
                  refine hK.out _ _ (below_step hHeld hb) (fun hH => ?_)
                  have HB6 := Aside0.mk hb
                  clear hK K hHeld hb
                  have hHeld := hH
                  clear hH
                  (try simp only [Act.put, List.setIfInBounds_toArray, List.set_cons_zero, List.set_cons_succ])
                  refine wpAnyH_ready (rs := [4]) (by kernel_rfl) (by simp) ?_
                  refine AllReadyH.cons rfl (fun K hK => ?_) AllReadyH.nil
                  go_simp
                  refine (step_any (MX.out.below hHeld) HO.out HAI.out (lastS L) HNM.out).mono ?_
                  rw [HY6.out, HI6.out]
                  rintro e w6 ⟨rfl, hb⟩
                  dsimp only
                  refine hK.out _ _ (below_step hHeld hb) (fun hH => ?_)
                  have HB7 := Aside0.mk hb
                  clear hK K hHeld hb
                  have hHeld := hH
                  clear hH
                  (try simp only [Act.put, List.setIfInBounds_toArray, List.set_cons_zero, List.set_cons_succ])
                  refine wpAnyH_take (i := 5) (oi := ⟨some 84, _, _, _, _, _⟩) (v := (.tuple #[.int .i64 other, .int .i64 y6])) rfl (by kernel_rfl) (by kernel_rfl) (by kernel_rfl) (fun _ _ _ h => h) (Or.inl ⟨by rfl, fun W hS => by go_simp⟩) hHeld ?_
                  (try simp only [Act.put, List.setIfInBounds_toArray, List.set_cons_zero, List.set_cons_succ])
                  refine wpAnyH_take (i := 6) (oi := ⟨some 90, _, _, _, _, _⟩) (v := (.int .i64 other)) rfl (by kernel_rfl) (by kernel_rfl) (by kernel_rfl) (fun _ _ _ h => h) (Or.inl ⟨by rfl, fun W hS => by go_simp⟩) hHeld ?_
                  (try simp only [Act.put, List.setIfInBounds_toArray, List.set_cons_zero, List.set_cons_succ])
                  refine wpAnyH_take (i := 7) (oi := ⟨some 91, _, _, _, _, _⟩) (v := (.int .i64 y6)) rfl (by kernel_rfl) (by kernel_rfl) (by kernel_rfl) (fun _ _ _ h => h) (Or.inl ⟨by rfl, fun W hS => by go_simp⟩) hHeld ?_
                  (try simp only [Act.put, List.setIfInBounds_toArray, List.set_cons_zero, List.set_cons_succ])
                  refine wpAnyH_take (i := 8) (oi := ⟨some 17, _, _, _, _, _⟩) (v := (.int .i64 other)) rfl (by kernel_rfl) (by kernel_rfl) (by kernel_rfl) (fun _ _ _ h => h) (Or.inl ⟨by rfl, fun W hS => by go_simp⟩) hHeld ?_
                  (try simp only [Act.put, List.setIfInBounds_toArray, List.set_cons_zero, List.set_cons_succ])
                  refine wpAnyH_take (i := 9) (oi := ⟨some 9, _, _, _, _, _⟩) (v := (.int .i64 y6)) rfl (by kernel_rfl) (by kernel_rfl) (by kernel_rfl) (fun _ _ _ h => h) (Or.inl ⟨by rfl, fun W hS => by go_simp⟩) hHeld ?_
                  (try simp only [Act.put, List.setIfInBounds_toArray, List.set_cons_zero, List.set_cons_succ])
                  refine wpAnyH_done (by kernel_rfl) ?_ _
                  replace D7 := Aside0.mk (pw_cell_below hHeld D7.out)
                  replace D8 := Aside0.mk (pw_cell_below hHeld D8.out)
                  replace D12 := Aside0.mk (pw_cell_below hHeld D12.out)
                  replace D13 := Aside0.mk (pw_cell_below hHeld D13.out)
                  replace D14 := Aside0.mk (pw_cell_below hHeld D14.out)
                  replace E0 := Aside0.mk (Kd.C_below E0.out hHeld)
                  replace E1 := Aside0.mk (Kd.C_below E1.out hHeld)
                  replace E2 := Aside0.mk (Kd.C_below E2.out hHeld)
                  replace BB := Aside0.mk (below_step BB.out hHeld)
                  replace MX := Aside0.mk (MX.out.below hHeld)
                  clear hHeld HLS
                  (try simp only [Exit.then])
                  by_cases h7 : y6 = 0
                  · subst h7
                    rw [if_pos rfl] at hR
                    by_cases h8 : other = ino
                    · rw [if_pos h8] at hR
                      have HR := Aside0.mk hR
                      have e8 : (other == ino) = true := beq_iff_eq.2 h8
                      clear hR h8
                      have c12 := D12.out
                      go_wp2
                      go_ret
                      rw [← HR.out]
                      exact Out.same HM.out BB.out _
                    · rw [if_neg h8] at hR
                      have e8 : (other == ino) = false := beq_eq_false_iff_ne.2 h8
                      clear h8
                      have HNO := Aside0.mk (hnd b (lastS L) HY6.out)
                      have HOI := Aside0.mk (show inR other from by have h := MX.out.2.1 other (by have := HNO.out; rw [HI6.out] at this; exact this); exact ⟨by omega, by omega⟩)
                      obtain ⟨y8, hy8⟩ : ∃ y, mayR (T ino) (T other) = y := ⟨_, rfl⟩
                      rw [hy8] at hR
                      have HY8 := Aside0.mk hy8
                      have HMAY := Aside0.mk (may_dir MX.out HOI.out HII.out HTI.out)
                      clear hy8
                      by_cases h9 : y8 = 0
                      · subst h9
                        rw [if_neg (fun h => h rfl)] at hR
                        obtain ⟨da2, d3, ok1, oth, ok2, ha2, ok3, hb3, hov⟩ := over_facts (ino := ino) (a := a) (b := b) (other := other) (x := X) (y := L) HO.out HD.out HY6.out HST.out HY8.out (by rw [HTI.out]; exact fun h => nomatch h) (by have := HNO.out; rw [HI6.out] at this; exact this)
                        rw [hov] at hR
                        have HR := Aside0.mk hR
                        have OK1 := Aside0.mk ok1
                        have OTH := Aside0.mk oth
                        have OK2 := Aside0.mk ok2
                        have DA2 := Aside0.mk ha2
                        have OK3 := Aside0.mk ok3
                        have DB3 := Aside0.mk hb3
                        clear hR ok1 oth ok2 ha2 ok3 hb3 hov
                        have c12 := D12.out
                        go_wp2_with (first
                          | (have c12 := D12.out; go_at_call 46; refine Calls.mono HMAY.out ?_; rw [HY8.out]; rintro e w7 ⟨rfl, hb⟩; have HB8 := Aside0.mk hb; clear hb))
                        have hb := HB8.out
                        replace D7 := Aside0.mk (pw_cell_below hb D7.out)
                        replace D8 := Aside0.mk (pw_cell_below hb D8.out)
                        replace D12 := Aside0.mk (pw_cell_below hb D12.out)
                        replace D13 := Aside0.mk (pw_cell_below hb D13.out)
                        replace D14 := Aside0.mk (pw_cell_below hb D14.out)
                        replace E0 := Aside0.mk (Kd.C_below E0.out hb)
                        replace E1 := Aside0.mk (Kd.C_below E1.out hb)
                        replace E2 := Aside0.mk (Kd.C_below E2.out hb)
                        replace BB := Aside0.mk (below_step BB.out hb)
                        replace MX := Aside0.mk (MX.out.below hb)
                        clear hb c12
                        have ND7 := Aside0.mk (cell_ne D7.out MX.out.2)
                        have ND8 := Aside0.mk (cell_ne D8.out MX.out.2)
                        have ND12 := Aside0.mk (cell_ne D12.out MX.out.2)
                        have ND13 := Aside0.mk (cell_ne D13.out MX.out.2)
                        have ND14 := Aside0.mk (cell_ne D14.out MX.out.2)
                        have UT := Aside0.mk (Utf8Tabs_below HT.out BB.out)
                        have TT := Aside0.mk (below_turn1 (mb := mb) BB.out)
                        have HMd := Aside0.mk (MX.out.below (below_drew (Below.refl w7.heap.size w7)))
                        have HUd := Aside0.mk (Utf8Tabs_below UT.out (below_drew (Below.refl w7.heap.size w7)))
                        have HLS := Aside0.mk (lastS_any A c L w7.drew (Kd.C_below E1.out (below_drew (Below.refl w7.heap.size w7))) HC1.out HL0.out HL1.out)
                        refine wp_region_held_drew (S := fun W => Turn1 mb w7 W) (by kernel_rfl) (below_turn1 (below_drew (Below.refl _ _))) (fun hHeld => ?_)
                        refine wpAnyH_take (i := 0) (oi := ⟨some 104, _, _, _, _, _⟩) (v := (mp pb)) rfl (by kernel_rfl) (by kernel_rfl) (by kernel_rfl) (fun _ _ _ h => h) (Or.inl ⟨by rfl, fun W hS => by go_simp⟩) hHeld ?_
                        (try simp only [Act.put, List.setIfInBounds_toArray, List.set_cons_zero, List.set_cons_succ])
                        refine wpAnyH_take (i := 1) (oi := ⟨some 105, _, _, _, _, _⟩) (v := (.int .i64 b)) rfl (by kernel_rfl) (by kernel_rfl) (by kernel_rfl) (fun _ _ _ h => h) (Or.inl ⟨by rfl, fun W hS => by have cc := (show Turn1 mb w7 W from hS).cell D14.out ND14.out; go_simp⟩) hHeld ?_
                        (try simp only [Act.put, List.setIfInBounds_toArray, List.set_cons_zero, List.set_cons_succ])
                        refine wpAnyH_take (i := 2) (oi := ⟨some 106, _, _, _, _, _⟩) (v := (.slice A L.length c)) rfl (by kernel_rfl) (by kernel_rfl) (by kernel_rfl) (fun _ _ _ h => h) (Or.inl ⟨by rfl, fun W hS => by have cc := (show Turn1 mb w7 W from hS).cell D8.out ND8.out; go_simp⟩) hHeld ?_
                        (try simp only [Act.put, List.setIfInBounds_toArray, List.set_cons_zero, List.set_cons_succ])
                        refine wpAnyH_ready (rs := [3]) (by kernel_rfl) (by simp) ?_
                        refine AllReadyH.cons rfl (fun K hK => ?_) AllReadyH.nil
                        go_simp
                        refine (HLS.out).mono ?_
                        rintro e wl ⟨rfl, hb⟩
                        dsimp only
                        refine hK.out _ _ (turn1_step hHeld (below_turn1 hb)) (fun hH => ?_)
                        have HMl := Aside0.mk (HMd.out.below hb)
                        have HTl := Aside0.mk (Utf8Tabs_below HUd.out hb)
                        clear hK K hHeld hb
                        have hHeld := hH
                        clear hH
                        (try simp only [Act.put, List.setIfInBounds_toArray, List.set_cons_zero, List.set_cons_succ])
                        refine wpAnyH_ready (rs := [4]) (by kernel_rfl) (by simp) ?_
                        refine AllReadyH.cons rfl (fun K hK => ?_) AllReadyH.nil
                        go_simp
                        refine (drop_any HMl.out HO.out HD.out (lastS L) HNM.out HTl.out).mono ?_
                        rintro e wd ⟨rfl, hm, ht⟩
                        dsimp only
                        refine hK.out _ _ (turn1_step hHeld ht) (fun hH => ?_)
                        have HMd2 := Aside0.mk hm
                        have hb := trivial
                        clear hm ht
                        clear hK K hHeld hb
                        have hHeld := hH
                        clear hH
                        (try simp only [Act.put, List.setIfInBounds_toArray, List.set_cons_zero, List.set_cons_succ])
                        refine wpAnyH_done (by kernel_rfl) ?_ _
                        have ht := (show Turn1 mb w7 wd from hHeld)
                        replace D7 := Aside0.mk ((ht).cell D7.out ND7.out)
                        replace D8 := Aside0.mk ((ht).cell D8.out ND8.out)
                        replace D12 := Aside0.mk ((ht).cell D12.out ND12.out)
                        replace D13 := Aside0.mk ((ht).cell D13.out ND13.out)
                        replace D14 := Aside0.mk ((ht).cell D14.out ND14.out)
                        replace E0 := Aside0.mk (St_turn E0.out (ht) MX.out.2.obj)
                        replace E1 := Aside0.mk (St_turn E1.out (ht) MX.out.2.obj)
                        replace UT := Aside0.mk (tabs_turn UT.out (ht) (fun k e => (show k = mb from e) ▸ MX.out.2.inner))
                        replace TT := Aside0.mk (turn1_step TT.out (ht))
                        replace MX := Aside0.mk (HMd2.out)
                        clear hHeld ht HMd HUd HLS HMl HTl HMd2
                        (try simp only [Exit.then])
                        go_wp2_with (first
                          | (go_at_call 35; refine Calls.mono (less_any MX.out OTH.out) ?_; rintro e w8 ⟨rfl, hm, ht⟩; have HM8 := Aside0.mk hm; have HT8 := Aside0.mk ht; clear hm ht))
                        replace D7 := Aside0.mk ((HT8.out).cell D7.out ND7.out)
                        replace D8 := Aside0.mk ((HT8.out).cell D8.out ND8.out)
                        replace D12 := Aside0.mk ((HT8.out).cell D12.out ND12.out)
                        replace D13 := Aside0.mk ((HT8.out).cell D13.out ND13.out)
                        replace D14 := Aside0.mk ((HT8.out).cell D14.out ND14.out)
                        replace E0 := Aside0.mk (St_turn E0.out (HT8.out) MX.out.2.obj)
                        replace E1 := Aside0.mk (St_turn E1.out (HT8.out) MX.out.2.obj)
                        replace UT := Aside0.mk (tabs_turn UT.out (HT8.out) (fun k e => (show k = mb from e) ▸ MX.out.2.inner))
                        replace TT := Aside0.mk (turn1_step TT.out (HT8.out))
                        replace MX := Aside0.mk (HM8.out)
                        clear HT8 HM8
                        have HMd := Aside0.mk (MX.out.below (below_drew (Below.refl w8.heap.size w8)))
                        have HUd := Aside0.mk (Utf8Tabs_below UT.out (below_drew (Below.refl w8.heap.size w8)))
                        have HLS := Aside0.mk (lastS_any A0 c0 X w8.drew (Kd.C_below E0.out (below_drew (Below.refl w8.heap.size w8))) HC0.out HX0.out HLX.out)
                        refine wp_region_held_drew (S := fun W => Turn1 mb w8 W) (by kernel_rfl) (below_turn1 (below_drew (Below.refl _ _))) (fun hHeld => ?_)
                        refine wpAnyH_take (i := 0) (oi := ⟨some 112, _, _, _, _, _⟩) (v := (mp pb)) rfl (by kernel_rfl) (by kernel_rfl) (by kernel_rfl) (fun _ _ _ h => h) (Or.inl ⟨by rfl, fun W hS => by go_simp⟩) hHeld ?_
                        (try simp only [Act.put, List.setIfInBounds_toArray, List.set_cons_zero, List.set_cons_succ])
                        refine wpAnyH_take (i := 1) (oi := ⟨some 113, _, _, _, _, _⟩) (v := (.int .i64 a)) rfl (by kernel_rfl) (by kernel_rfl) (by kernel_rfl) (fun _ _ _ h => h) (Or.inl ⟨by rfl, fun W hS => by have cc := (show Turn1 mb w8 W from hS).cell D13.out ND13.out; go_simp⟩) hHeld ?_
                        (try simp only [Act.put, List.setIfInBounds_toArray, List.set_cons_zero, List.set_cons_succ])
                        refine wpAnyH_take (i := 2) (oi := ⟨some 114, _, _, _, _, _⟩) (v := (.slice A0 X.length c0)) rfl (by kernel_rfl) (by kernel_rfl) (by kernel_rfl) (fun _ _ _ h => h) (Or.inl ⟨by rfl, fun W hS => by have cc := (show Turn1 mb w8 W from hS).cell D7.out ND7.out; go_simp⟩) hHeld ?_
                        (try simp only [Act.put, List.setIfInBounds_toArray, List.set_cons_zero, List.set_cons_succ])
                        refine wpAnyH_ready (rs := [3]) (by kernel_rfl) (by simp) ?_
                        refine AllReadyH.cons rfl (fun K hK => ?_) AllReadyH.nil
                        go_simp
                        refine (HLS.out).mono ?_
                        rintro e wm ⟨rfl, hb⟩
                        dsimp only
                        refine hK.out _ _ (turn1_step hHeld (below_turn1 hb)) (fun hH => ?_)
                        have HMl := Aside0.mk (HMd.out.below hb)
                        have HTl := Aside0.mk (Utf8Tabs_below HUd.out hb)
                        clear hK K hHeld hb
                        have hHeld := hH
                        clear hH
                        (try simp only [Act.put, List.setIfInBounds_toArray, List.set_cons_zero, List.set_cons_succ])
                        refine wpAnyH_ready (rs := [4]) (by kernel_rfl) (by simp) ?_
                        refine AllReadyH.cons rfl (fun K hK => ?_) AllReadyH.nil
                        go_simp
                        refine (drop_any HMl.out OK2.out DA2.out (lastS X) HNMX.out HTl.out).mono ?_
                        rintro e we ⟨rfl, hm, ht⟩
                        dsimp only
                        refine hK.out _ _ (turn1_step hHeld ht) (fun hH => ?_)
                        have HMd2 := Aside0.mk hm
                        have hb := trivial
                        clear hm ht
                        clear hK K hHeld hb
                        have hHeld := hH
                        clear hH
                        (try simp only [Act.put, List.setIfInBounds_toArray, List.set_cons_zero, List.set_cons_succ])
                        refine wpAnyH_done (by kernel_rfl) ?_ _
                        have ht := (show Turn1 mb w8 we from hHeld)
                        replace D7 := Aside0.mk ((ht).cell D7.out ND7.out)
                        replace D8 := Aside0.mk ((ht).cell D8.out ND8.out)
                        replace D12 := Aside0.mk ((ht).cell D12.out ND12.out)
                        replace D13 := Aside0.mk ((ht).cell D13.out ND13.out)
                        replace D14 := Aside0.mk ((ht).cell D14.out ND14.out)
                        replace E0 := Aside0.mk (St_turn E0.out (ht) MX.out.2.obj)
                        replace E1 := Aside0.mk (St_turn E1.out (ht) MX.out.2.obj)
                        replace UT := Aside0.mk (tabs_turn UT.out (ht) (fun k e => (show k = mb from e) ▸ MX.out.2.inner))
                        replace TT := Aside0.mk (turn1_step TT.out (ht))
                        replace MX := Aside0.mk (HMd2.out)
                        clear hHeld ht HMd HUd HLS HMl HTl HMd2
                        (try simp only [Exit.then])
                        go_wp2
                        have HMd := Aside0.mk (MX.out.below (below_drew (Below.refl we.heap.size we)))
                        have HUd := Aside0.mk (Utf8Tabs_below UT.out (below_drew (Below.refl we.heap.size we)))
                        have HLS := Aside0.mk (lastS_any A c L we.drew (Kd.C_below E1.out (below_drew (Below.refl we.heap.size we))) HC1.out HL0.out HL1.out)
                        refine wp_region_held_drew (S := fun W => Turn1 mb we W) (by kernel_rfl) (below_turn1 (below_drew (Below.refl _ _))) (fun hHeld => ?_)
                        refine wpAnyH_take (i := 0) (oi := ⟨some 117, _, _, _, _, _⟩) (v := (mp pb)) rfl (by kernel_rfl) (by kernel_rfl) (by kernel_rfl) (fun _ _ _ h => h) (Or.inl ⟨by rfl, fun W hS => by go_simp⟩) hHeld ?_
                        (try simp only [Act.put, List.setIfInBounds_toArray, List.set_cons_zero, List.set_cons_succ])
                        refine wpAnyH_take (i := 1) (oi := ⟨some 118, _, _, _, _, _⟩) (v := (.int .i64 b)) rfl (by kernel_rfl) (by kernel_rfl) (by kernel_rfl) (fun _ _ _ h => h) (Or.inl ⟨by rfl, fun W hS => by have cc := (show Turn1 mb we W from hS).cell D14.out ND14.out; go_simp⟩) hHeld ?_
                        (try simp only [Act.put, List.setIfInBounds_toArray, List.set_cons_zero, List.set_cons_succ])
                        refine wpAnyH_take (i := 2) (oi := ⟨some 119, _, _, _, _, _⟩) (v := (.int .i64 ino)) rfl (by kernel_rfl) (by kernel_rfl) (by kernel_rfl) (fun _ _ _ h => h) (Or.inl ⟨by rfl, fun W hS => by have cc := (show Turn1 mb we W from hS).cell D12.out ND12.out; go_simp⟩) hHeld ?_
                        (try simp only [Act.put, List.setIfInBounds_toArray, List.set_cons_zero, List.set_cons_succ])
                        refine wpAnyH_take (i := 3) (oi := ⟨some 120, _, _, _, _, _⟩) (v := (.slice A L.length c)) rfl (by kernel_rfl) (by kernel_rfl) (by kernel_rfl) (fun _ _ _ h => h) (Or.inl ⟨by rfl, fun W hS => by have cc := (show Turn1 mb we W from hS).cell D8.out ND8.out; go_simp⟩) hHeld ?_
                        (try simp only [Act.put, List.setIfInBounds_toArray, List.set_cons_zero, List.set_cons_succ])
                        refine wpAnyH_ready (rs := [4]) (by kernel_rfl) (by simp) ?_
                        refine AllReadyH.cons rfl (fun K hK => ?_) AllReadyH.nil
                        go_simp
                        refine (HLS.out).mono ?_
                        rintro e wn ⟨rfl, hb⟩
                        dsimp only
                        refine hK.out _ _ (turn1_step hHeld (below_turn1 hb)) (fun hH => ?_)
                        have HMl := Aside0.mk (HMd.out.below hb)
                        have HTl := Aside0.mk (Utf8Tabs_below HUd.out hb)
                        clear hK K hHeld hb
                        have hHeld := hH
                        clear hH
                        (try simp only [Act.put, List.setIfInBounds_toArray, List.set_cons_zero, List.set_cons_succ])
                        refine wpAnyH_take (i := 5) (oi := ⟨some 122, _, _, _, _, _⟩) (v := (.agg (cellsE ino (lastS L)))) rfl (by kernel_rfl) (by kernel_rfl) (by kernel_rfl) (fun _ _ _ h => h) (Or.inl ⟨by rfl, fun W hS => by go_simp; rfl⟩) hHeld ?_
                        (try simp only [Act.put, List.setIfInBounds_toArray, List.set_cons_zero, List.set_cons_succ])
                        refine wpAnyH_ready (rs := [6]) (by kernel_rfl) (by simp) ?_
                        refine AllReadyH.cons rfl (fun K hK => ?_) AllReadyH.nil
                        go_simp
                        refine (add_any HMl.out OK3.out DB3.out ino (lastS L) HNM.out HTl.out).mono ?_
                        rintro e wf ⟨rfl, hm, ht⟩
                        dsimp only
                        refine hK.out _ _ (turn1_step hHeld ht) (fun hH => ?_)
                        have HMd2 := Aside0.mk hm
                        have hb := trivial
                        clear hm ht
                        clear hK K hHeld hb
                        have hHeld := hH
                        clear hH
                        (try simp only [Act.put, List.setIfInBounds_toArray, List.set_cons_zero, List.set_cons_succ])
                        refine wpAnyH_done (by kernel_rfl) ?_ _
                        have ht := (show Turn1 mb we wf from hHeld)
                        replace D7 := Aside0.mk ((ht).cell D7.out ND7.out)
                        replace D8 := Aside0.mk ((ht).cell D8.out ND8.out)
                        replace D12 := Aside0.mk ((ht).cell D12.out ND12.out)
                        replace D13 := Aside0.mk ((ht).cell D13.out ND13.out)
                        replace D14 := Aside0.mk ((ht).cell D14.out ND14.out)
                        replace E0 := Aside0.mk (St_turn E0.out (ht) MX.out.2.obj)
                        replace E1 := Aside0.mk (St_turn E1.out (ht) MX.out.2.obj)
                        replace UT := Aside0.mk (tabs_turn UT.out (ht) (fun k e => (show k = mb from e) ▸ MX.out.2.inner))
                        replace TT := Aside0.mk (turn1_step TT.out (ht))
                        replace MX := Aside0.mk (HMd2.out)
                        clear hHeld ht HMd HUd HLS HMl HTl HMd2
                        (try simp only [Exit.then])
                        go_wp2
                        go_ret
                        rw [← HR.out]
                        exact ⟨rfl, mb, .inl rfl, MX.out, TT.out.turn⟩
                      · rw [if_pos h9] at hR
                        have HR := Aside0.mk hR
                        have e9 : (y8 == 0) = false := beq_eq_false_iff_ne.2 h9
                        have e9' : (y8 != 0) = true := by simp [h9]
                        clear hR h9
                        have c12 := D12.out
                        go_wp2_with (first
                          | (have c12 := D12.out; go_at_call 46; refine Calls.mono HMAY.out ?_; rw [HY8.out]; rintro e w7 ⟨rfl, hb⟩; have HB8 := Aside0.mk hb; clear hb))
                        have hb := HB8.out
                        replace D7 := Aside0.mk (pw_cell_below hb D7.out)
                        replace D8 := Aside0.mk (pw_cell_below hb D8.out)
                        replace D12 := Aside0.mk (pw_cell_below hb D12.out)
                        replace D13 := Aside0.mk (pw_cell_below hb D13.out)
                        replace D14 := Aside0.mk (pw_cell_below hb D14.out)
                        replace E0 := Aside0.mk (Kd.C_below E0.out hb)
                        replace E1 := Aside0.mk (Kd.C_below E1.out hb)
                        replace E2 := Aside0.mk (Kd.C_below E2.out hb)
                        replace BB := Aside0.mk (below_step BB.out hb)
                        replace MX := Aside0.mk (MX.out.below hb)
                        clear hb
                        go_ret
                        rw [← HR.out]
                        exact Out.same HM.out BB.out _
                  · rw [if_neg h7] at hR
                    have e7 : (y6 == 0) = false := beq_eq_false_iff_ne.2 h7
                    clear h7
                    have P6 := Aside0.mk MX.out.at_
                    go_wp2
                    obtain ⟨v6, hv6, hl6⟩ := MX.out.2.looks HAI.out
                    rw [HD.out] at hv6
                    obtain ⟨A7, c7, rfl, _, _⟩ := hv6
                    have HL7 := Aside0.mk (show ∀ W, Below w6.heap.size w6 W → (Instr.lookup 58 (.map (some mb)) (.int .i64 b) false).run Tryd.prog W = .ok (.iface 81 (.slice A7 d.length c7)) W from fun W hS => hl6 W (hS.block mb MX.out.2.lt))
                    clear hl6
                    by_cases h8 : a = b
                    · rw [if_neg (fun h => h.1 h8)] at hR
                      have e8 : (a == b) = true := beq_iff_eq.2 h8
                      have e8' : (a != b) = false := by simp [h8]
                      clear h8
                      refine wp_region_held_drew (S := fun W => Below w6.heap.size w6 W) (by kernel_rfl) (below_drew (Below.refl _ _)) (fun hHeld => ?_)
                      refine wpAnyH_take (i := 0) (oi := ⟨some 124, _, _, _, _, _⟩) (v := (.int .i64 a)) rfl (by kernel_rfl) (by kernel_rfl) (by kernel_rfl) (fun _ _ _ h => h) (Or.inl ⟨by rfl, fun W hS => by have cc := pw_cell_below hS D13.out; go_simp⟩) hHeld ?_
                      (try simp only [Act.put, List.setIfInBounds_toArray, List.set_cons_zero, List.set_cons_succ])
                      refine wpAnyH_take (i := 1) (oi := ⟨some 125, _, _, _, _, _⟩) (v := (.int .i64 b)) rfl (by kernel_rfl) (by kernel_rfl) (by kernel_rfl) (fun _ _ _ h => h) (Or.inl ⟨by rfl, fun W hS => by have cc := pw_cell_below hS D14.out; go_simp⟩) hHeld ?_
                      (try simp only [Act.put, List.setIfInBounds_toArray, List.set_cons_zero, List.set_cons_succ])
                      refine wpAnyH_take (i := 2) (oi := ⟨some 126, _, _, _, _, _⟩) (v := (.bool false)) rfl (by kernel_rfl) (by kernel_rfl) (by kernel_rfl) (fun _ _ _ h => h) (Or.inl ⟨by rfl, fun W hS => by have hh := e8; have hh' := e8'; go_simp⟩) hHeld ?_
                      (try simp only [Act.put, List.setIfInBounds_toArray, List.set_cons_zero, List.set_cons_succ])
                      refine wpAnyH_take (i := 3) (oi := ⟨some 127, _, _, _, _, _⟩) (v := (.bool false)) rfl (by kernel_rfl) (by kernel_rfl) (by kernel_rfl) (fun _ _ _ h => h) (Or.inl ⟨by rfl, fun W hS => by go_simp⟩) hHeld ?_
                      (try simp only [Act.put, List.setIfInBounds_toArray, List.set_cons_zero, List.set_cons_succ])
                      refine wpAnyH_take (i := 4) (oi := ⟨some 128, _, _, _, _, _⟩) (v := undef) rfl (by kernel_rfl) (by kernel_rfl) (by kernel_rfl) (fun _ _ _ h => h) (Or.inr ⟨by rfl, rfl⟩) hHeld ?_
                      (try simp only [Act.put, List.setIfInBounds_toArray, List.set_cons_zero, List.set_cons_succ])
                      refine wpAnyH_take (i := 5) (oi := ⟨some 129, _, _, _, _, _⟩) (v := undef) rfl (by kernel_rfl) (by kernel_rfl) (by kernel_rfl) (fun _ _ _ h => h) (Or.inr ⟨by rfl, rfl⟩) hHeld ?_
                      (try simp only [Act.put, List.setIfInBounds_toArray, List.set_cons_zero, List.set_cons_succ])
                      refine wpAnyH_take (i := 6) (oi := ⟨some 130, _, _, _, _, _⟩) (v := undef) rfl (by kernel_rfl) (by kernel_rfl) (by kernel_rfl) (fun _ _ _ h => h) (Or.inr ⟨by rfl, rfl⟩) hHeld ?_
                      (try simp only [Act.put, List.setIfInBounds_toArray, List.set_cons_zero, List.set_cons_succ])
                      refine wpAnyH_take (i := 7) (oi := ⟨some 131, _, _, _, _, _⟩) (v := undef) rfl (by kernel_rfl) (by kernel_rfl) (by kernel_rfl) (fun _ _ _ h => h) (Or.inr ⟨by rfl, rfl⟩) hHeld ?_
                      (try simp only [Act.put, List.setIfInBounds_toArray, List.set_cons_zero, List.set_cons_succ])
                      refine wpAnyH_take (i := 8) (oi := ⟨some 132, _, _, _, _, _⟩) (v := undef) rfl (by kernel_rfl) (by kernel_rfl) (by kernel_rfl) (fun _ _ _ h => h) (Or.inr ⟨by rfl, rfl⟩) hHeld ?_
                      (try simp only [Act.put, List.setIfInBounds_toArray, List.set_cons_zero, List.set_cons_succ])
                      refine wpAnyH_take (i := 9) (oi := ⟨some 133, _, _, _, _, _⟩) (v := undef) rfl (by kernel_rfl) (by kernel_rfl) (by kernel_rfl) (fun _ _ _ h => h) (Or.inr ⟨by rfl, rfl⟩) hHeld ?_
                      (try simp only [Act.put, List.setIfInBounds_toArray, List.set_cons_zero, List.set_cons_succ])
                      refine wpAnyH_take (i := 10) (oi := ⟨some 134, _, _, _, _, _⟩) (v := undef) rfl (by kernel_rfl) (by kernel_rfl) (by kernel_rfl) (fun _ _ _ h => h) (Or.inr ⟨by rfl, rfl⟩) hHeld ?_
                      (try simp only [Act.put, List.setIfInBounds_toArray, List.set_cons_zero, List.set_cons_succ])
                      refine wpAnyH_take (i := 11) (oi := ⟨some 135, _, _, _, _, _⟩) (v := undef) rfl (by kernel_rfl) (by kernel_rfl) (by kernel_rfl) (fun _ _ _ h => h) (Or.inr ⟨by rfl, rfl⟩) hHeld ?_
                      (try simp only [Act.put, List.setIfInBounds_toArray, List.set_cons_zero, List.set_cons_succ])
                      refine wpAnyH_take (i := 12) (oi := ⟨some 136, _, _, _, _, _⟩) (v := undef) rfl (by kernel_rfl) (by kernel_rfl) (by kernel_rfl) (fun _ _ _ h => h) (Or.inr ⟨by rfl, rfl⟩) hHeld ?_
                      (try simp only [Act.put, List.setIfInBounds_toArray, List.set_cons_zero, List.set_cons_succ])
                      refine wpAnyH_take (i := 13) (oi := ⟨some 137, _, _, _, _, _⟩) (v := (.bool false)) rfl (by kernel_rfl) (by kernel_rfl) (by kernel_rfl) (fun _ _ _ h => h) (Or.inl ⟨by rfl, fun W hS => by go_simp⟩) hHeld ?_
                      (try simp only [Act.put, List.setIfInBounds_toArray, List.set_cons_zero, List.set_cons_succ])
                      refine wpAnyH_done (by kernel_rfl) ?_ _
                      obtain ⟨w6b, hw6b⟩ : ∃ W, W = w6.drew := ⟨_, rfl⟩
                      rw [← hw6b] at hHeld ⊢
                      replace D7 := Aside0.mk (pw_cell_below hHeld D7.out)
                      replace D8 := Aside0.mk (pw_cell_below hHeld D8.out)
                      replace D12 := Aside0.mk (pw_cell_below hHeld D12.out)
                      replace D13 := Aside0.mk (pw_cell_below hHeld D13.out)
                      replace D14 := Aside0.mk (pw_cell_below hHeld D14.out)
                      replace E0 := Aside0.mk (Kd.C_below E0.out hHeld)
                      replace E1 := Aside0.mk (Kd.C_below E1.out hHeld)
                      replace E2 := Aside0.mk (Kd.C_below E2.out hHeld)
                      replace BB := Aside0.mk (below_step BB.out hHeld)
                      replace MX := Aside0.mk (MX.out.below hHeld)
                      clear hHeld HL7 P6 hw6b
                      (try simp only [Exit.then])
                      obtain ⟨da, d1, hda, ok1, hd1, ok2, hmv⟩ := move_facts (ino := ino) (a := a) (b := b) (x := X) (y := L) HO.out HD.out HST.out
                      rw [hmv] at hR
                      have HR := Aside0.mk hR
                      have HDA := Aside0.mk hda
                      have OK1 := Aside0.mk ok1
                      have HD1 := Aside0.mk hd1
                      have HFN := Aside0.mk ok2
                      clear hda ok1 hd1 ok2 hmv hR
                      have HOF := Aside0.mk (fun (W : World) (pb' mb' : Nat) (hB : Below w6b.heap.size w6b W) (hM : Mdl W pb' mb' q T) (_ : w6b.heap.size ≤ pb') (_ : w6b.heap.size ≤ mb') => rename_clo hM ⟨g13, 0, none⟩ ⟨w1.heap.size, 0, none⟩ ⟨g14, 0, none⟩ ⟨g12, 0, none⟩ ⟨w1.heap.size + 1, 0, none⟩ a b ino A0 c0 X A c L da d1 (pw_cell_below hB D13.out) (pw_cell_below hB D7.out) (pw_cell_below hB D14.out) (pw_cell_below hB D12.out) (pw_cell_below hB D8.out) HO.out HDA.out OK1.out HD1.out (Kd.C_below E0.out hB) HC0.out HX0.out HLX.out HNMX.out (Kd.C_below E1.out hB) HC1.out HL0.out HL1.out HNM.out (Utf8Tabs_below HT.out (below_step BB.out hB)))
                      have HTRY := Aside0.mk (try_rename (.pointer (some ⟨g13, 0, none⟩)) (.pointer (some ⟨w1.heap.size, 0, none⟩)) (.pointer (some ⟨g14, 0, none⟩)) (.pointer (some ⟨g12, 0, none⟩)) (.pointer (some ⟨w1.heap.size + 1, 0, none⟩)) MX.out HFN.out HOF.out)
                      go_wp2_with (first
                        | (go_at_call 42; refine Calls.mono HTRY.out ?_; rw [HR.out]; rintro e w9 ⟨mb', hmb, rfl, hm, ht⟩; have HFIN := Aside0.mk ((Out.mk_ hmb hm ht).lift BB.out); clear hm ht hmb))
                      go_ret
                      exact HFIN.out
                    · have e8 : (a == b) = false := beq_eq_false_iff_ne.2 h8
                      have e8' : (a != b) = true := by simp [h8]
                      by_cases h9 : 64 ≤ d.length
                      · rw [if_pos ⟨h8, h9⟩] at hR
                        have HR := Aside0.mk hR
                        have e9 : decide ((64 : Int) ≤ (d.length : Int)) = true := decide_eq_true (by omega)
                        clear hR h8
                        refine wp_region_held_drew (S := fun W => Below w6.heap.size w6 W) (by kernel_rfl) (below_drew (Below.refl _ _)) (fun hHeld => ?_)
                        refine wpAnyH_take (i := 0) (oi := ⟨some 124, _, _, _, _, _⟩) (v := (.int .i64 a)) rfl (by kernel_rfl) (by kernel_rfl) (by kernel_rfl) (fun _ _ _ h => h) (Or.inl ⟨by rfl, fun W hS => by have cc := pw_cell_below hS D13.out; go_simp⟩) hHeld ?_
                        (try simp only [Act.put, List.setIfInBounds_toArray, List.set_cons_zero, List.set_cons_succ])
                        refine wpAnyH_take (i := 1) (oi := ⟨some 125, _, _, _, _, _⟩) (v := (.int .i64 b)) rfl (by kernel_rfl) (by kernel_rfl) (by kernel_rfl) (fun _ _ _ h => h) (Or.inl ⟨by rfl, fun W hS => by have cc := pw_cell_below hS D14.out; go_simp⟩) hHeld ?_
                        (try simp only [Act.put, List.setIfInBounds_toArray, List.set_cons_zero, List.set_cons_succ])
                        refine wpAnyH_take (i := 2) (oi := ⟨some 126, _, _, _, _, _⟩) (v := (.bool true)) rfl (by kernel_rfl) (by kernel_rfl) (by kernel_rfl) (fun _ _ _ h => h) (Or.inl ⟨by rfl, fun W hS => by have hh := e8; have hh' := e8'; go_simp⟩) hHeld ?_
                        (try simp only [Act.put, List.setIfInBounds_toArray, List.set_cons_zero, List.set_cons_succ])
                        refine wpAnyH_take (i := 3) (oi := ⟨some 127, _, _, _, _, _⟩) (v := (.bool true)) rfl (by kernel_rfl) (by kernel_rfl) (by kernel_rfl) (fun _ _ _ h => h) (Or.inl ⟨by rfl, fun W hS => by go_simp⟩) hHeld ?_
                        (try simp only [Act.put, List.setIfInBounds_toArray, List.set_cons_zero, List.set_cons_succ])
                        refine wpAnyH_take (i := 4) (oi := ⟨some 128, _, _, _, _, _⟩) (v := (mp pb)) rfl (by kernel_rfl) (by kernel_rfl) (by kernel_rfl) (fun _ _ _ h => h) (Or.inl ⟨by rfl, fun W hS => by go_simp⟩) hHeld ?_
                        (try simp only [Act.put, List.setIfInBounds_toArray, List.set_cons_zero, List.set_cons_succ])
                        refine wpAnyH_take (i := 5) (oi := ⟨some 129, _, _, _, _, _⟩) (v := (mp pb)) rfl (by kernel_rfl) (by kernel_rfl) (by kernel_rfl) (fun _ _ _ h => h) (Or.inl ⟨by rfl, fun W hS => by go_simp⟩) hHeld ?_
                        (try simp only [Act.put, List.setIfInBounds_toArray, List.set_cons_zero, List.set_cons_succ])
                        refine wpAnyH_take (i := 6) (oi := ⟨some 130, _, _, _, _, _⟩) (v := (.pointer (some ⟨pb, 1, none⟩))) rfl (by kernel_rfl) (by kernel_rfl) (by kernel_rfl) (fun _ _ _ h => h) (Or.inl ⟨by rfl, fun W hS => by go_simp⟩) hHeld ?_
                        (try simp only [Act.put, List.setIfInBounds_toArray, List.set_cons_zero, List.set_cons_succ])
                        refine wpAnyH_take (i := 7) (oi := ⟨some 131, _, _, _, _, _⟩) (v := (.map (some mb))) rfl (by kernel_rfl) (by kernel_rfl) (by kernel_rfl) (fun _ _ _ h => h) (Or.inl ⟨by rfl, fun W hS => by have cc := pw_cell_below hS P6.out; go_simp⟩) hHeld ?_
                        (try simp only [Act.put, List.setIfInBounds_toArray, List.set_cons_zero, List.set_cons_succ])
                        refine wpAnyH_take (i := 8) (oi := ⟨some 132, _, _, _, _, _⟩) (v := (.int .i64 b)) rfl (by kernel_rfl) (by kernel_rfl) (by kernel_rfl) (fun _ _ _ h => h) (Or.inl ⟨by rfl, fun W hS => by have cc := pw_cell_below hS D14.out; go_simp⟩) hHeld ?_
                        (try simp only [Act.put, List.setIfInBounds_toArray, List.set_cons_zero, List.set_cons_succ])
                        refine wpAnyH_take (i := 9) (oi := ⟨some 133, _, _, _, _, _⟩) (v := (.iface 81 (.slice A7 d.length c7))) rfl (by kernel_rfl) (by kernel_rfl) (by kernel_rfl) (fun _ _ _ h => h) (Or.inl ⟨by rfl, fun W hS => by have hl := HL7.out W hS; go_simp⟩) hHeld ?_
                        (try simp only [Act.put, List.setIfInBounds_toArray, List.set_cons_zero, List.set_cons_succ])
                        refine wpAnyH_take (i := 10) (oi := ⟨some 134, _, _, _, _, _⟩) (v := (.slice A7 d.length c7)) rfl (by kernel_rfl) (by kernel_rfl) (by kernel_rfl) (fun _ _ _ h => h) (Or.inl ⟨by rfl, fun W hS => by go_simp⟩) hHeld ?_
                        (try simp only [Act.put, List.setIfInBounds_toArray, List.set_cons_zero, List.set_cons_succ])
                        refine wpAnyH_take (i := 11) (oi := ⟨some 135, _, _, _, _, _⟩) (v := (.int .i64 d.length)) rfl (by kernel_rfl) (by kernel_rfl) (by kernel_rfl) (fun _ _ _ h => h) (Or.inl ⟨by rfl, fun W hS => by go_simp⟩) hHeld ?_
                        (try simp only [Act.put, List.setIfInBounds_toArray, List.set_cons_zero, List.set_cons_succ])
                        refine wpAnyH_take (i := 12) (oi := ⟨some 136, _, _, _, _, _⟩) (v := (.bool true)) rfl (by kernel_rfl) (by kernel_rfl) (by kernel_rfl) (fun _ _ _ h => h) (Or.inl ⟨by rfl, fun W hS => by have hb := e9; go_simp⟩) hHeld ?_
                        (try simp only [Act.put, List.setIfInBounds_toArray, List.set_cons_zero, List.set_cons_succ])
                        refine wpAnyH_take (i := 13) (oi := ⟨some 137, _, _, _, _, _⟩) (v := (.bool true)) rfl (by kernel_rfl) (by kernel_rfl) (by kernel_rfl) (fun _ _ _ h => h) (Or.inl ⟨by rfl, fun W hS => by go_simp⟩) hHeld ?_
                        (try simp only [Act.put, List.setIfInBounds_toArray, List.set_cons_zero, List.set_cons_succ])
                        refine wpAnyH_done (by kernel_rfl) ?_ _
                        obtain ⟨w6b, hw6b⟩ : ∃ W, W = w6.drew := ⟨_, rfl⟩
                        rw [← hw6b] at hHeld ⊢
                        replace D7 := Aside0.mk (pw_cell_below hHeld D7.out)
                        replace D8 := Aside0.mk (pw_cell_below hHeld D8.out)
                        replace D12 := Aside0.mk (pw_cell_below hHeld D12.out)
                        replace D13 := Aside0.mk (pw_cell_below hHeld D13.out)
                        replace D14 := Aside0.mk (pw_cell_below hHeld D14.out)
                        replace E0 := Aside0.mk (Kd.C_below E0.out hHeld)
                        replace E1 := Aside0.mk (Kd.C_below E1.out hHeld)
                        replace E2 := Aside0.mk (Kd.C_below E2.out hHeld)
                        replace BB := Aside0.mk (below_step BB.out hHeld)
                        replace MX := Aside0.mk (MX.out.below hHeld)
                        clear hHeld HL7 P6 hw6b
                        (try simp only [Exit.then])
                        go_wp2
                        go_ret
                        rw [← HR.out]
                        exact Out.same HM.out BB.out _
                      · rw [if_neg (fun h => h9 h.2)] at hR
                        have e9 : decide ((64 : Int) ≤ (d.length : Int)) = false := decide_eq_false (by omega)
                        clear h8 h9
                        refine wp_region_held_drew (S := fun W => Below w6.heap.size w6 W) (by kernel_rfl) (below_drew (Below.refl _ _)) (fun hHeld => ?_)
                        refine wpAnyH_take (i := 0) (oi := ⟨some 124, _, _, _, _, _⟩) (v := (.int .i64 a)) rfl (by kernel_rfl) (by kernel_rfl) (by kernel_rfl) (fun _ _ _ h => h) (Or.inl ⟨by rfl, fun W hS => by have cc := pw_cell_below hS D13.out; go_simp⟩) hHeld ?_
                        (try simp only [Act.put, List.setIfInBounds_toArray, List.set_cons_zero, List.set_cons_succ])
                        refine wpAnyH_take (i := 1) (oi := ⟨some 125, _, _, _, _, _⟩) (v := (.int .i64 b)) rfl (by kernel_rfl) (by kernel_rfl) (by kernel_rfl) (fun _ _ _ h => h) (Or.inl ⟨by rfl, fun W hS => by have cc := pw_cell_below hS D14.out; go_simp⟩) hHeld ?_
                        (try simp only [Act.put, List.setIfInBounds_toArray, List.set_cons_zero, List.set_cons_succ])
                        refine wpAnyH_take (i := 2) (oi := ⟨some 126, _, _, _, _, _⟩) (v := (.bool true)) rfl (by kernel_rfl) (by kernel_rfl) (by kernel_rfl) (fun _ _ _ h => h) (Or.inl ⟨by rfl, fun W hS => by have hh := e8; have hh' := e8'; go_simp⟩) hHeld ?_
                        (try simp only [Act.put, List.setIfInBounds_toArray, List.set_cons_zero, List.set_cons_succ])
                        refine wpAnyH_take (i := 3) (oi := ⟨some 127, _, _, _, _, _⟩) (v := (.bool true)) rfl (by kernel_rfl) (by kernel_rfl) (by kernel_rfl) (fun _ _ _ h => h) (Or.inl ⟨by rfl, fun W hS => by go_simp⟩) hHeld ?_
                        (try simp only [Act.put, List.setIfInBounds_toArray, List.set_cons_zero, List.set_cons_succ])
                        refine wpAnyH_take (i := 4) (oi := ⟨some 128, _, _, _, _, _⟩) (v := (mp pb)) rfl (by kernel_rfl) (by kernel_rfl) (by kernel_rfl) (fun _ _ _ h => h) (Or.inl ⟨by rfl, fun W hS => by go_simp⟩) hHeld ?_
                        (try simp only [Act.put, List.setIfInBounds_toArray, List.set_cons_zero, List.set_cons_succ])
                        refine wpAnyH_take (i := 5) (oi := ⟨some 129, _, _, _, _, _⟩) (v := (mp pb)) rfl (by kernel_rfl) (by kernel_rfl) (by kernel_rfl) (fun _ _ _ h => h) (Or.inl ⟨by rfl, fun W hS => by go_simp⟩) hHeld ?_
                        (try simp only [Act.put, List.setIfInBounds_toArray, List.set_cons_zero, List.set_cons_succ])
                        refine wpAnyH_take (i := 6) (oi := ⟨some 130, _, _, _, _, _⟩) (v := (.pointer (some ⟨pb, 1, none⟩))) rfl (by kernel_rfl) (by kernel_rfl) (by kernel_rfl) (fun _ _ _ h => h) (Or.inl ⟨by rfl, fun W hS => by go_simp⟩) hHeld ?_
                        (try simp only [Act.put, List.setIfInBounds_toArray, List.set_cons_zero, List.set_cons_succ])
                        refine wpAnyH_take (i := 7) (oi := ⟨some 131, _, _, _, _, _⟩) (v := (.map (some mb))) rfl (by kernel_rfl) (by kernel_rfl) (by kernel_rfl) (fun _ _ _ h => h) (Or.inl ⟨by rfl, fun W hS => by have cc := pw_cell_below hS P6.out; go_simp⟩) hHeld ?_
                        (try simp only [Act.put, List.setIfInBounds_toArray, List.set_cons_zero, List.set_cons_succ])
                        refine wpAnyH_take (i := 8) (oi := ⟨some 132, _, _, _, _, _⟩) (v := (.int .i64 b)) rfl (by kernel_rfl) (by kernel_rfl) (by kernel_rfl) (fun _ _ _ h => h) (Or.inl ⟨by rfl, fun W hS => by have cc := pw_cell_below hS D14.out; go_simp⟩) hHeld ?_
                        (try simp only [Act.put, List.setIfInBounds_toArray, List.set_cons_zero, List.set_cons_succ])
                        refine wpAnyH_take (i := 9) (oi := ⟨some 133, _, _, _, _, _⟩) (v := (.iface 81 (.slice A7 d.length c7))) rfl (by kernel_rfl) (by kernel_rfl) (by kernel_rfl) (fun _ _ _ h => h) (Or.inl ⟨by rfl, fun W hS => by have hl := HL7.out W hS; go_simp⟩) hHeld ?_
                        (try simp only [Act.put, List.setIfInBounds_toArray, List.set_cons_zero, List.set_cons_succ])
                        refine wpAnyH_take (i := 10) (oi := ⟨some 134, _, _, _, _, _⟩) (v := (.slice A7 d.length c7)) rfl (by kernel_rfl) (by kernel_rfl) (by kernel_rfl) (fun _ _ _ h => h) (Or.inl ⟨by rfl, fun W hS => by go_simp⟩) hHeld ?_
                        (try simp only [Act.put, List.setIfInBounds_toArray, List.set_cons_zero, List.set_cons_succ])
                        refine wpAnyH_take (i := 11) (oi := ⟨some 135, _, _, _, _, _⟩) (v := (.int .i64 d.length)) rfl (by kernel_rfl) (by kernel_rfl) (by kernel_rfl) (fun _ _ _ h => h) (Or.inl ⟨by rfl, fun W hS => by go_simp⟩) hHeld ?_
                        (try simp only [Act.put, List.setIfInBounds_toArray, List.set_cons_zero, List.set_cons_succ])
                        refine wpAnyH_take (i := 12) (oi := ⟨some 136, _, _, _, _, _⟩) (v := (.bool false)) rfl (by kernel_rfl) (by kernel_rfl) (by kernel_rfl) (fun _ _ _ h => h) (Or.inl ⟨by rfl, fun W hS => by have hb := e9; go_simp⟩) hHeld ?_
                        (try simp only [Act.put, List.setIfInBounds_toArray, List.set_cons_zero, List.set_cons_succ])
                        refine wpAnyH_take (i := 13) (oi := ⟨some 137, _, _, _, _, _⟩) (v := (.bool false)) rfl (by kernel_rfl) (by kernel_rfl) (by kernel_rfl) (fun _ _ _ h => h) (Or.inl ⟨by rfl, fun W hS => by go_simp⟩) hHeld ?_
                        (try simp only [Act.put, List.setIfInBounds_toArray, List.set_cons_zero, List.set_cons_succ])
                        refine wpAnyH_done (by kernel_rfl) ?_ _
                        obtain ⟨w6b, hw6b⟩ : ∃ W, W = w6.drew := ⟨_, rfl⟩
                        rw [← hw6b] at hHeld ⊢
                        replace D7 := Aside0.mk (pw_cell_below hHeld D7.out)
                        replace D8 := Aside0.mk (pw_cell_below hHeld D8.out)
                        replace D12 := Aside0.mk (pw_cell_below hHeld D12.out)
                        replace D13 := Aside0.mk (pw_cell_below hHeld D13.out)
                        replace D14 := Aside0.mk (pw_cell_below hHeld D14.out)
                        replace E0 := Aside0.mk (Kd.C_below E0.out hHeld)
                        replace E1 := Aside0.mk (Kd.C_below E1.out hHeld)
                        replace E2 := Aside0.mk (Kd.C_below E2.out hHeld)
                        replace BB := Aside0.mk (below_step BB.out hHeld)
                        replace MX := Aside0.mk (MX.out.below hHeld)
                        clear hHeld HL7 P6 hw6b
                        (try simp only [Exit.then])
                        obtain ⟨da, d1, hda, ok1, hd1, ok2, hmv⟩ := move_facts (ino := ino) (a := a) (b := b) (x := X) (y := L) HO.out HD.out HST.out
                        rw [hmv] at hR
                        have HR := Aside0.mk hR
                        have HDA := Aside0.mk hda
                        have OK1 := Aside0.mk ok1
                        have HD1 := Aside0.mk hd1
                        have HFN := Aside0.mk ok2
                        clear hda ok1 hd1 ok2 hmv hR
                        have HOF := Aside0.mk (fun (W : World) (pb' mb' : Nat) (hB : Below w6b.heap.size w6b W) (hM : Mdl W pb' mb' q T) (_ : w6b.heap.size ≤ pb') (_ : w6b.heap.size ≤ mb') => rename_clo hM ⟨g13, 0, none⟩ ⟨w1.heap.size, 0, none⟩ ⟨g14, 0, none⟩ ⟨g12, 0, none⟩ ⟨w1.heap.size + 1, 0, none⟩ a b ino A0 c0 X A c L da d1 (pw_cell_below hB D13.out) (pw_cell_below hB D7.out) (pw_cell_below hB D14.out) (pw_cell_below hB D12.out) (pw_cell_below hB D8.out) HO.out HDA.out OK1.out HD1.out (Kd.C_below E0.out hB) HC0.out HX0.out HLX.out HNMX.out (Kd.C_below E1.out hB) HC1.out HL0.out HL1.out HNM.out (Utf8Tabs_below HT.out (below_step BB.out hB)))
                        have HTRY := Aside0.mk (try_rename (.pointer (some ⟨g13, 0, none⟩)) (.pointer (some ⟨w1.heap.size, 0, none⟩)) (.pointer (some ⟨g14, 0, none⟩)) (.pointer (some ⟨g12, 0, none⟩)) (.pointer (some ⟨w1.heap.size + 1, 0, none⟩)) MX.out HFN.out HOF.out)
                        go_wp2_with (first
                          | (go_at_call 42; refine Calls.mono HTRY.out ?_; rw [HR.out]; rintro e w9 ⟨mb', hmb, rfl, hm, ht⟩; have HFIN := Aside0.mk ((Out.mk_ hmb hm ht).lift BB.out); clear hm ht hmb))
                        go_ret
                        exact HFIN.out
          · rw [if_pos h4] at hR
            have HR := Aside0.mk hR
            have e4 : (y3 == 0) = false := beq_eq_false_iff_ne.2 h4
            have e4' : (y3 != 0) = true := by simp [h4]
            clear hR h4 hne hin hwl hws herr hup
            go_enter Tryd.func18, Tryd.ntmps18
            go_wp2_with (first
              | (have hz := HB2.out; clear hz; go_at_call 40; refine Calls.mono (up_any (HM.out.below HB2.out) HO.out A c L HS12.out HC1.out HNS.out HL1.out HL0.out) ?_; rw [HY3.out, HG2.out]; rintro e w3 ⟨A3, c3, rfl, hr3, hc3, hb⟩; have HB3 := Aside0.mk (below_step HB2.out hb); have C83 := Aside0.mk (pw_cell_below hb C82.out); have C73 := Aside0.mk (pw_cell_below hb C72.out); have HS03 := Aside0.mk (Kd.C_below HS02.out hb); have HS13 := Aside0.mk (Kd.C_below HS12.out hb); have HK13 := Aside0.mk (Kd.C_below HK1.out hb); have HK2 := Aside0.mk hr3; have HC3 := Aside0.mk hc3; clear hb hr3 hc3)
              | (have hz := HBV.out; clear hz; go_at_call 31; rw [← HV1.out, ← HW1.out]; refine Calls.mono (way_any (HM.out.below HBV.out) HO.out A0 c0 X HS0.out HC0.out HNX.out HLX.out) ?_; rw [HY2.out, HG1.out]; rintro e w2 ⟨A2, c2, rfl, hr2, hc2, hb⟩; have HB2 := Aside0.mk (below_step HBV.out hb); have c82 := pw_cell_below hb C8.out; have C82 := Aside0.mk c82; have C72 := Aside0.mk (pw_cell_below hb C7.out); have HS02 := Aside0.mk (Kd.C_below HS0.out hb); have HS12 := Aside0.mk (Kd.C_below HS1.out hb); have HK1 := Aside0.mk hr2; have HC2 := Aside0.mk hc2; clear hb hr2 hc2)
              | (go_at_call 39; refine Calls.mono HOKK.out ?_; rintro e w1 ⟨A0, c0, A, c, rfl, hs0, hc0, hs, hc, hb⟩; have HB1 := Aside0.mk hb; have HC0 := Aside0.mk hc0; have HC1 := Aside0.mk hc; obtain ⟨V1, hV1⟩ : ∃ V1, V1 = w1.alloc (.cells #[.slice A0 X.length c0] 50) := ⟨_, rfl⟩; obtain ⟨W1, hW1⟩ : ∃ W1, W1 = V1.alloc (.cells #[.slice A L.length c] 50) := ⟨_, rfl⟩; have HV1 := Aside0.mk hV1; have HW1 := Aside0.mk hW1; have hbv := (show Below w1.heap.size w1 V1 by rw [hV1]; exact below_alloc (Below.refl _ _) _); have hbw := (show Below V1.heap.size V1 W1 by rw [hW1]; exact below_alloc (Below.refl _ _) _); have hb12 := below_step hbv hbw; have HBV := Aside0.mk (below_step HB1.out hb12); have HS0 := Aside0.mk (Kd.C_below hs0 hb12); have HS1 := Aside0.mk (Kd.C_below hs hb12); have C7 := Aside0.mk (pw_cell_below hbw (show V1.cell? ⟨w1.heap.size, 0, none⟩ = some (.slice A0 X.length c0) by rw [hV1]; exact cell_new1 _ _ _)); have hvs := (show V1.heap.size = w1.heap.size + 1 by rw [hV1]; simp); have C8 := Aside0.mk (show W1.cell? ⟨w1.heap.size + 1, 0, none⟩ = some (.slice A L.length c) by rw [hW1, ← hvs]; exact cell_new1 _ _ _); clear hb hs0 hc0 hs hc hW1 hV1 hbv hbw hb12 hvs))
            go_ret
            rw [← HR.out]
            exact Out.same HM.out (HB3.out) _
        · rw [if_pos h3] at hR
          have HR := Aside0.mk hR
          obtain rfl := herr h3
          have e3 : (y2 == 0) = false := beq_eq_false_iff_ne.2 h3
          have e3' : (y2 != 0) = true := by simp [h3]
          clear hR h3 hne hin hwl hws herr
          go_enter Tryd.func18, Tryd.ntmps18
          go_wp2_with (first
            | (have hz := HBV.out; clear hz; go_at_call 31; rw [← HV1.out, ← HW1.out]; refine Calls.mono (way_any (HM.out.below HBV.out) HO.out A0 c0 X HS0.out HC0.out HNX.out HLX.out) ?_; rw [HY2.out, HG1.out]; rintro e w2 ⟨A2, c2, rfl, hr2, hc2, hb⟩; have HB2 := Aside0.mk (below_step HBV.out hb); have c82 := pw_cell_below hb C8.out; have C82 := Aside0.mk c82; have C72 := Aside0.mk (pw_cell_below hb C7.out); have HS02 := Aside0.mk (Kd.C_below HS0.out hb); have HS12 := Aside0.mk (Kd.C_below HS1.out hb); have HK1 := Aside0.mk hr2; have HC2 := Aside0.mk hc2; clear hb hr2 hc2)
            | (go_at_call 39; refine Calls.mono HOKK.out ?_; rintro e w1 ⟨A0, c0, A, c, rfl, hs0, hc0, hs, hc, hb⟩; have HB1 := Aside0.mk hb; have HC0 := Aside0.mk hc0; have HC1 := Aside0.mk hc; obtain ⟨V1, hV1⟩ : ∃ V1, V1 = w1.alloc (.cells #[.slice A0 X.length c0] 50) := ⟨_, rfl⟩; obtain ⟨W1, hW1⟩ : ∃ W1, W1 = V1.alloc (.cells #[.slice A L.length c] 50) := ⟨_, rfl⟩; have HV1 := Aside0.mk hV1; have HW1 := Aside0.mk hW1; have hbv := (show Below w1.heap.size w1 V1 by rw [hV1]; exact below_alloc (Below.refl _ _) _); have hbw := (show Below V1.heap.size V1 W1 by rw [hW1]; exact below_alloc (Below.refl _ _) _); have hb12 := below_step hbv hbw; have HBV := Aside0.mk (below_step HB1.out hb12); have HS0 := Aside0.mk (Kd.C_below hs0 hb12); have HS1 := Aside0.mk (Kd.C_below hs hb12); have C7 := Aside0.mk (pw_cell_below hbw (show V1.cell? ⟨w1.heap.size, 0, none⟩ = some (.slice A0 X.length c0) by rw [hV1]; exact cell_new1 _ _ _)); have hvs := (show V1.heap.size = w1.heap.size + 1 by rw [hV1]; simp); have C8 := Aside0.mk (show W1.cell? ⟨w1.heap.size + 1, 0, none⟩ = some (.slice A L.length c) by rw [hW1, ← hvs]; exact cell_new1 _ _ _); clear hb hs0 hc0 hs hc hW1 hV1 hbv hbw hb12 hvs))
          go_ret
          rw [← HR.out]
          exact Out.same HM.out (HB2.out) _
  · rw [if_pos h1] at hR
    have HR := Aside0.mk hR
    have e1 : (y1 == 0) = false := beq_eq_false_iff_ne.2 h1
    have e1' : (y1 != 0) = true := by simp [h1]
    clear hR h1 hgp hgs hok hz
    go_enter Tryd.func18, Tryd.ntmps18
    go_wp2_with (first
      | (go_at_call 39; refine Calls.mono HBAD.out ?_; rintro e w1 ⟨A0, n0, c0, A, n, c, rfl, hb⟩; have HB1 := Aside0.mk hb; clear hb))
    go_ret
    rw [← HR.out]
    exact Out.same HM.out (below_alloc (below_alloc HB1.out _) _) _
end Go.Proofs.YtcmcmkfoihlniaaDoor.MM
end
