/- What this claim uses of the texts that were printed for it. -/
import Derived.Test.YtcmcmkfoihlniaaDoorV5
section
namespace Go.Proofs.YtcmcmkfoihlniaaDoor.MM
open Go Go.RowKit Go.Maps Go.Proofs.YtcmcmkfoihlniaaDoorX Go.Proofs.YtcmcmkfoihlniaaDoor.NM Go.Proofs.YtcmcmkfoihlniaaDoor.EN Go.Proofs.YtcmcmkfoihlniaaDoorW.PrintWords Go.Proofs.YtcmcmkfoihlniaaDoorW.PrintLast Go.Proofs.YtcmcmkfoihlniaaDoorW.PrintMore Go.Proofs.YtcmcmkfoihlniaaDoor.PModelUndoes
set_option linter.unusedVariables false
set_option linter.unusedSimpArgs false
set_option maxRecDepth 100000
set_option maxHeartbeats 1000000
attribute [local go_sem] max2_int min2_int max_two min_two
theorem file_kind (b : List Int) (A : Option Addr) (c : Nat) (n : Int) (w : World) : Calls Tryd.prog 111 #[.agg #[.slice A b.length c, .int .i64 n]] w fun e w' => e = .returned (.int .i64 1) ∧ Below w.heap.size w w' := by
  go_enter Tryd.func111, Tryd.ntmps111
  go_wp2
  go_ret
  exact ⟨rfl, below_alloc (Below.refl _ _) _⟩
theorem dir_kind (l : List S90) (A : Option Addr) (c : Nat) (w : World) : Calls Tryd.prog 115 #[.slice A l.length c] w fun e w' => e = .returned (.int .i64 2) ∧ Below w.heap.size w w' := by
  go_enter Tryd.func115, Tryd.ntmps115
  go_wp2
  go_ret
  exact ⟨rfl, Below.refl _ _⟩
@[go_sem] theorem meth_kind62 (v : Value) (w : World) : (method 254 62 v "hayrick/model.kind").run Tryd.prog w = .ok (111, v) w := by kernel_rfl
@[go_sem] theorem meth_kind81 (v : Value) (w : World) : (method 254 81 v "hayrick/model.kind").run Tryd.prog w = .ok (115, v) w := by kernel_rfl
def kindN : Nd → Int
  | .file _ _ => 1
  | .dir _ => 2
def linksN : Nd → Int
  | .file _ n => n
  | .dir _ => 1
def statR (T : Tree) (p : ByteArray) : (Int × Int × Int × Int) × Int :=
  if (splitR p).2 ≠ 0 then ((0, 0, 0, 0), (splitR p).2) else if (findR T (splitR p).1).2 ≠ 0 then ((0, 0, 0, 0), (findR T (splitR p).1).2) else
  match T (findR T (splitR p).1).1 with | some x => (((findR T (splitR p).1).1, kindN x, sizeN x, linksN x), 0) | none => ((0, 0, 0, 0), -1)
abbrev stC (s : Int × Int × Int × Int) : Array Value := #[.int .i64 s.1, .int .i64 s.2.1, .int .i64 s.2.2.1, .int .i64 s.2.2.2]
theorem size30 : (Tryd.prog.info? 30).map (·.size) = some 4 := by kernel_rfl
theorem all30 (s : Int × Int × Int × Int) : (stC s).all (·.oneCell') = true := by simp [Value.oneCell']
theorem stat_any {w : World} {pb mb : Nat} {q : Int} {T : Tree} (h : Mdl w pb mb q T) (hO : Ok T) (p : ByteArray) (hT : Lib.Utf8Tabs 2 3 w) (hk : (findR T (splitR p).1).2 = 0 → T (findR T (splitR p).1).1 ≠ none) :
    Calls Tryd.prog 7 #[mp pb, .string p] w fun e w' => e = .returned (.tuple #[.agg (stC (statR T p).1), .int .i64 (statR T p).2]) ∧ Below w.heap.size w w' := by
  have hu30 := Aside0.mk Tryd.underlying30
  obtain ⟨W0, hW0⟩ : ∃ W0, W0 = w.alloc (.cells (stC (0, 0, 0, 0)) 30) := ⟨_, rfl⟩
  have HW0 := Aside0.mk hW0
  have HBW := Aside0.mk (show Below w.heap.size w W0 by rw [hW0]; exact below_alloc (Below.refl _ _) _)
  have B50 := Aside0.mk (show W0.heap[w.heap.size]? = some (.cells (stC (0, 0, 0, 0)) 30 (0, 0)) by rw [hW0]; exact heap_new _ _)
  have HM := Aside0.mk h
  have HO := Aside0.mk hO
  have HT := Aside0.mk hT
  have HSP := Aside0.mk (msplit_any (h.below HBW.out) p (Utf8Tabs_below hT HBW.out))
  obtain ⟨R, hR⟩ : ∃ R, statR T p = R := ⟨_, rfl⟩
  rw [hR]
  unfold statR at hR
  have hgood := @splitR_good p
  obtain ⟨y1, hy1⟩ : ∃ y, (splitR p).2 = y := ⟨_, rfl⟩
  obtain ⟨L, hL⟩ : ∃ y, (splitR p).1 = y := ⟨_, rfl⟩
  rw [hy1, hL] at hR hgood HSP
  rw [hL] at hk
  clear h hO hT hy1 hL hW0
  by_cases h1 : y1 = 0
  · subst h1
    rw [if_neg (fun h => h rfl)] at hR
    obtain ⟨hL3, hval⟩ := hgood rfl
    have HNS := Aside0.mk (show ∀ n ∈ L, n.size ≤ 1048576 from fun n hn => by have := valid_size (hval n hn); omega)
    have HL1 := Aside0.mk (show L.length ≤ 1048576 by omega)
    have hfi := @findR_in T HO.out L
    obtain ⟨y2, hy2⟩ : ∃ y, (findR T L).2 = y := ⟨_, rfl⟩
    obtain ⟨ino, hi2⟩ : ∃ y, (findR T L).1 = y := ⟨_, rfl⟩
    rw [hy2, hi2] at hR hfi hk
    have HY2 := Aside0.mk hy2
    have HI2 := Aside0.mk hi2
    clear hgood hval hy2 hi2
    by_cases h3 : y2 = 0
    · subst h3
      rw [if_neg (fun h => h rfl)] at hR
      have HIN := Aside0.mk (hfi rfl)
      have hk := hk rfl
      clear hfi
      rcases hTi : T ino with _ | (⟨b, n⟩ | l)
      · exact absurd hTi hk
      · rw [hTi] at hR
        have HR := Aside0.mk hR.symm
        have HTI := Aside0.mk hTi
        clear hR hTi hk
        go_enter Tryd.func7, Tryd.ntmps7
        obtain ⟨z, HSZ⟩ : ∃ z, Aside0 (sizeN (.file b n) = z) := ⟨_, ⟨rfl⟩⟩
        go_wp2_with (first
          | (have hz := HB4.out; clear hz; (with_reducible refine gate_store (t := 30) (p := 4) (v := .tmp 54) rfl ?_); refine ev_store_row (by rfl) 30 (.tmp 4) (.tmp 54) (by rfl) w.heap.size (stC (ino, 1, z, n)) (by kernel_rfl) (by kernel_rfl) 30 _ (blk_keep (blk_keep B54.out (below_alloc (Below.refl _ _) _)) (below_alloc (Below.refl _ _) _)) size30 (by rfl) (all30 _) ?_; intro w5 hbox hg; have HB5 := Aside0.mk (pw_below_grown (below_alloc (below_alloc HB4.out _) _) _ (below_alloc (below_alloc HB4.out _) _).size hg (fun q e => by cases e; exact Nat.le_refl _)); have B55 := Aside0.mk hbox; clear hbox hg)
          | (have hz := HB3.out; clear hz; go_at_call 113; refine Calls.mono (file_size b B cb n w3) ?_; rw [HSZ.out]; rintro e w4 ⟨rfl, hb⟩; have HB4 := Aside0.mk (below_step HB3.out hb); have B54 := Aside0.mk (blk_keep B53.out hb); clear hb)
          | (have hz := HB2.out; clear hz; go_at_call 111; refine Calls.mono (file_kind b B cb n w2) ?_; rintro e w3 ⟨rfl, hb⟩; have HB3 := Aside0.mk (below_step HB2.out hb); have B53 := Aside0.mk (blk_keep B52.out hb); clear hb)
          | (have hz := HB1.out; clear hz; go_at_call 24; refine Calls.mono (find_in (HM.out.below HB1.out) HO.out A c L HS1.out HC1.out HNS.out HL1.out) ?_; rw [HY2.out, HI2.out]; rintro e w2 ⟨rfl, hb⟩; have HB2 := Aside0.mk (below_step HB1.out hb); have B52 := Aside0.mk (blk_keep B51.out hb); have hM2 := HM.out.below (below_step HB1.out hb); have p2 := hM2.at_; obtain ⟨v, hl, hv⟩ := hM2.2.look HIN.out; rw [HTI.out] at hv; obtain ⟨B, cb, rfl, hrb, hcb⟩ := hv; clear hM2 hrb hcb; clear hb)
          | (go_at_call 23; rw [← HW0.out]; refine Calls.mono HSP.out ?_; rintro e w1 ⟨A, c, rfl, hs, hc, hb⟩; have HB1 := Aside0.mk (below_step HBW.out hb); have B51 := Aside0.mk (blk_keep B50.out hb); have HS1 := Aside0.mk hs; have HC1 := Aside0.mk hc; clear hb hs hc))
        (try simp only [Exit.inBlock, Exit.then])
        refine bodyPost_ret (results_ct rfl _ _ w.heap.size 30 (stC (ino, 1, z, n)) (0, 0) _ rfl B55.out hu30.out rfl size30) rfl ?_
        rw [HR.out]
        exact ⟨by rw [show sizeN (.file b n) = z from HSZ.out]; rfl, HB5.out⟩
      · rw [hTi] at hR
        have HR := Aside0.mk hR.symm
        have HTI := Aside0.mk hTi
        have HLL := Aside0.mk (show l.length ≤ 1048576 by have := may_len (HO.out.dirs ino l hTi); omega)
        clear hR hTi hk
        go_enter Tryd.func7, Tryd.ntmps7
        obtain ⟨z, HSZ⟩ : ∃ z, Aside0 (sizeN (.dir l) = z) := ⟨_, ⟨rfl⟩⟩
        go_wp2_with (first
          | (have hz := HB4.out; clear hz; (with_reducible refine gate_store (t := 30) (p := 4) (v := .tmp 54) rfl ?_); refine ev_store_row (by rfl) 30 (.tmp 4) (.tmp 54) (by rfl) w.heap.size (stC (ino, 2, z, 1)) (by kernel_rfl) (by kernel_rfl) 30 _ (blk_keep (blk_keep B54.out (below_alloc (Below.refl _ _) _)) (below_alloc (Below.refl _ _) _)) size30 (by rfl) (all30 _) ?_; intro w5 hbox hg; have HB5 := Aside0.mk (pw_below_grown (below_alloc (below_alloc HB4.out _) _) _ (below_alloc (below_alloc HB4.out _) _).size hg (fun q e => by cases e; exact Nat.le_refl _)); have B55 := Aside0.mk hbox; clear hbox hg)
          | (have hz := HB3.out; clear hz; go_at_call 117; refine Calls.mono (dir_size l B cb w3 HLL.out) ?_; rw [HSZ.out]; rintro e w4 ⟨rfl, hb⟩; have HB4 := Aside0.mk (below_step HB3.out hb); have B54 := Aside0.mk (blk_keep B53.out hb); clear hb)
          | (have hz := HB2.out; clear hz; go_at_call 115; refine Calls.mono (dir_kind l B cb w2) ?_; rintro e w3 ⟨rfl, hb⟩; have HB3 := Aside0.mk (below_step HB2.out hb); have B53 := Aside0.mk (blk_keep B52.out hb); clear hb)
          | (have hz := HB1.out; clear hz; go_at_call 24; refine Calls.mono (find_in (HM.out.below HB1.out) HO.out A c L HS1.out HC1.out HNS.out HL1.out) ?_; rw [HY2.out, HI2.out]; rintro e w2 ⟨rfl, hb⟩; have HB2 := Aside0.mk (below_step HB1.out hb); have B52 := Aside0.mk (blk_keep B51.out hb); have hM2 := HM.out.below (below_step HB1.out hb); have p2 := hM2.at_; obtain ⟨v, hl, hv⟩ := hM2.2.look HIN.out; rw [HTI.out] at hv; obtain ⟨B, cb, rfl, hrb, hcb⟩ := hv; clear hM2 hrb hcb; clear hb)
          | (go_at_call 23; rw [← HW0.out]; refine Calls.mono HSP.out ?_; rintro e w1 ⟨A, c, rfl, hs, hc, hb⟩; have HB1 := Aside0.mk (below_step HBW.out hb); have B51 := Aside0.mk (blk_keep B50.out hb); have HS1 := Aside0.mk hs; have HC1 := Aside0.mk hc; clear hb hs hc))
        (try simp only [Exit.inBlock, Exit.then])
        refine bodyPost_ret (results_ct rfl _ _ w.heap.size 30 (stC (ino, 2, z, 1)) (0, 0) _ rfl B55.out hu30.out rfl size30) rfl ?_
        rw [HR.out]
        exact ⟨by rw [show sizeN (.dir l) = z from HSZ.out]; rfl, HB5.out⟩
    · rw [if_pos h3] at hR
      have HR := Aside0.mk hR.symm
      have e3 : (y2 == 0) = false := beq_eq_false_iff_ne.2 h3
      have e3' : (y2 != 0) = true := by simp [h3]
      clear hR h3 hfi hk
      go_enter Tryd.func7, Tryd.ntmps7
      go_wp2_with (first
        | ((with_reducible refine gate_store (t := 30) (p := 4) (v := .tmp 31) rfl ?_); refine ev_store_row (by rfl) 30 (.tmp 4) (.tmp 31) (by rfl) w.heap.size (stC (0, 0, 0, 0)) (by kernel_rfl) (by kernel_rfl) 30 _ B52.out size30 (by rfl) (all30 _) ?_; intro w3 hbox hg; have HB3 := Aside0.mk (pw_below_grown HB2.out _ HB2.out.size hg (fun q e => by cases e; exact Nat.le_refl _)); have B53 := Aside0.mk hbox; clear hbox hg)
        | (have hz := HB1.out; clear hz; go_at_call 24; refine Calls.mono (find_in (HM.out.below HB1.out) HO.out A c L HS1.out HC1.out HNS.out HL1.out) ?_; rw [HY2.out, HI2.out]; rintro e w2 ⟨rfl, hb⟩; have HB2 := Aside0.mk (below_step HB1.out hb); have B52 := Aside0.mk (blk_keep B51.out hb);  clear hb)
        | (go_at_call 23; rw [← HW0.out]; refine Calls.mono HSP.out ?_; rintro e w1 ⟨A, c, rfl, hs, hc, hb⟩; have HB1 := Aside0.mk (below_step HBW.out hb); have B51 := Aside0.mk (blk_keep B50.out hb); have HS1 := Aside0.mk hs; have HC1 := Aside0.mk hc; clear hb hs hc))
      (try simp only [Exit.inBlock, Exit.then])
      refine bodyPost_ret (results_ct rfl _ _ w.heap.size 30 (stC (0, 0, 0, 0)) (0, 0) _ rfl B53.out hu30.out rfl size30) rfl ?_
      rw [HR.out]
      exact ⟨rfl, HB3.out⟩
  · rw [if_pos h1] at hR
    have HR := Aside0.mk hR.symm
    have e1 : (y1 == 0) = false := beq_eq_false_iff_ne.2 h1
    have e1' : (y1 != 0) = true := by simp [h1]
    clear hR h1 hgood hk
    go_enter Tryd.func7, Tryd.ntmps7
    go_wp2_with (first
      | ((with_reducible refine gate_store (t := 30) (p := 4) (v := .tmp 21) rfl ?_); refine ev_store_row (by rfl) 30 (.tmp 4) (.tmp 21) (by rfl) w.heap.size (stC (0, 0, 0, 0)) (by kernel_rfl) (by kernel_rfl) 30 _ B51.out size30 (by rfl) (all30 _) ?_; intro w2 hbox hg; have HB2 := Aside0.mk (pw_below_grown HB1.out _ HB1.out.size hg (fun q e => by cases e; exact Nat.le_refl _)); have B52 := Aside0.mk hbox; clear hbox hg)
      | (go_at_call 23; rw [← HW0.out]; refine Calls.mono HSP.out ?_; rintro e w1 ⟨A, c, rfl, hs, hc, hb⟩; have HB1 := Aside0.mk (below_step HBW.out hb); have B51 := Aside0.mk (blk_keep B50.out hb); have HS1 := Aside0.mk hs; have HC1 := Aside0.mk hc; clear hb hs hc))
    (try simp only [Exit.inBlock, Exit.then])
    refine bodyPost_ret (results_ct rfl _ _ w.heap.size 30 (stC (0, 0, 0, 0)) (0, 0) _ rfl B52.out hu30.out rfl size30) rfl ?_
    rw [HR.out]
    exact ⟨rfl, HB2.out⟩
end Go.Proofs.YtcmcmkfoihlniaaDoor.MM
end

section
namespace Go.Proofs.YtcmcmkfoihlniaaDoor.MM
open Go Go.RowKit Go.Maps Go.Proofs.YtcmcmkfoihlniaaDoorX Go.Proofs.YtcmcmkfoihlniaaDoor.NM Go.Proofs.YtcmcmkfoihlniaaDoor.EN Go.Proofs.YtcmcmkfoihlniaaDoorW.PrintWords Go.Proofs.YtcmcmkfoihlniaaDoorW.PrintLast Go.Proofs.YtcmcmkfoihlniaaDoorW.PrintMore Go.Proofs.YtcmcmkfoihlniaaDoor.PModelUndoes
set_option linter.unusedVariables false
set_option linter.unusedSimpArgs false
theorem s90_eta (x : S90) : x = ⟨x.f0, x.f1⟩ := by cases x; rfl
theorem mem_at {d : List S90} (h : mayE d = true) {i : Int} {n : ByteArray} : (⟨i, n⟩ : S90) ∈ d ↔ isE d n = true ∧ inoAt d (atE d n) = i := by
  constructor
  · intro hm
    obtain ⟨k, hk, e⟩ := List.mem_iff_getElem.1 hm
    obtain ⟨e0, e1⟩ := at_get hk
    rw [e] at e0 e1
    obtain ⟨f1, f2⟩ := find_own h hk
    rw [e1] at f1 f2
    exact ⟨f2, by rw [f1, e0]⟩
  · rintro ⟨h1, h2⟩
    have hl := isE_lt h1
    obtain ⟨e0, e1⟩ := at_get hl
    rw [isE_name h1] at e1
    rw [h2] at e0
    have : d[atE d n] = ⟨i, n⟩ := by rw [s90_eta d[atE d n], ← e0, ← e1]
    exact this ▸ List.getElem_mem hl
theorem not_is {d : List S90} (h : mayE d = true) {n : ByteArray} : isE d n = false ↔ ∀ i, (⟨i, n⟩ : S90) ∉ d := by
  constructor
  · intro hf i hm
    rw [((mem_at h).1 hm).1] at hf; cases hf
  · intro hn
    cases hi : isE d n with
    | false => rfl
    | true => exact absurd ((mem_at h).2 ⟨hi, rfl⟩) (hn _)
theorem mem_once {d : List S90} (h : mayE d = true) {i j : Int} {n : ByteArray} (h1 : (⟨i, n⟩ : S90) ∈ d) (h2 : (⟨j, n⟩ : S90) ∈ d) : i = j :=
  ((mem_at h).1 h1).2.symm.trans ((mem_at h).1 h2).2
def Nm (T : Tree) (a : Int) (n : ByteArray) (i : Int) : Prop := ∃ d, T a = some (.dir d) ∧ (⟨i, n⟩ : S90) ∈ d
theorem step_nm {T : Tree} (hO : Ok T) {a : Int} {n : ByteArray} {i : Int} : Nm T a n i ↔ (stepR (T a) n).2 = 0 ∧ (stepR (T a) n).1 = i := by
  constructor
  · rintro ⟨d, hd, hm⟩
    obtain ⟨h1, h2⟩ := (mem_at (hO.dirs a d hd)).1 hm
    rw [hd]
    simp only [stepR]
    rw [if_pos h1]
    exact ⟨rfl, h2⟩
  · rintro ⟨h1, h2⟩
    obtain ⟨d, hd, hi, e⟩ := step_dir h1
    exact ⟨d, hd, (mem_at (hO.dirs a d hd)).2 ⟨hi, e.symm.trans h2⟩⟩
def cntL (l : List S90) (k : Int) : Int := ((l.countP (fun x => decide (x.f0 = k)) : Nat) : Int)
def one (i k : Int) : Int := if k = i then 1 else 0
theorem cntL_nil (k : Int) : cntL [] k = 0 := rfl
theorem cntL_nn (l : List S90) (k : Int) : 0 ≤ cntL l k := Int.natCast_nonneg _
theorem cntL_app (a b : List S90) (k : Int) : cntL (a ++ b) k = cntL a k + cntL b k := by unfold cntL; rw [List.countP_append]; omega
theorem cntL_cons (x : S90) (b : List S90) (k : Int) : cntL (x :: b) k = one x.f0 k + cntL b k := by
  unfold cntL one
  rw [List.countP_cons]
  by_cases h : k = x.f0
  · rw [if_pos h, if_pos (decide_eq_true h.symm)]; omega
  · rw [if_neg h, if_neg (by simpa using fun e => h e.symm)]; omega
theorem cntL_pos {l : List S90} {x : S90} (h : x ∈ l) : 1 ≤ cntL l x.f0 := by
  have : 0 < l.countP (fun y => decide (y.f0 = x.f0)) := List.countP_pos_iff.2 ⟨x, h, by simp⟩
  unfold cntL; omega
theorem lt_irr {x y : S90} (h : Lt x y) : x.f1 ≠ y.f1 := fun e => by
  unfold Lt at h
  rw [e, (NM.ahead_zero (a := y.f1.data.toList)).2 rfl] at h
  omega
theorem rem_pair {d : List S90} (h : mayE d = true) {i : Int} {n : ByteArray} (hm : (⟨i, n⟩ : S90) ∈ d) : ∃ P Q, d = P ++ ⟨i, n⟩ :: Q ∧ (remR d n).1 = P ++ Q ∧ (∀ y ∈ P, y.f1 ≠ n) ∧ ∀ y ∈ Q, y.f1 ≠ n := by
  obtain ⟨h1, h2⟩ := (mem_at h).1 hm
  have hl := isE_lt h1
  obtain ⟨e, g1, g2, g3⟩ := may_at h hl
  obtain ⟨e0, e1⟩ := at_get hl
  rw [isE_name h1] at e1
  rw [h2] at e0
  have ex : d[atE d n] = ⟨i, n⟩ := by rw [s90_eta d[atE d n], ← e0, ← e1]
  rw [ex] at e g1 g2
  refine ⟨_, _, e, ?_, fun y hy => lt_irr (g1 y hy), fun y hy => (lt_irr (g2 y hy)).symm⟩
  unfold remR
  have : remErr d n = none := by unfold remErr; rw [if_pos h, if_pos h1]
  rw [this]
  exact List.eraseIdx_eq_take_drop_succ d _
theorem rem_mem {d : List S90} (h : mayE d = true) {i : Int} {n : ByteArray} (hm : (⟨i, n⟩ : S90) ∈ d) (y : S90) : y ∈ (remR d n).1 ↔ y ∈ d ∧ y.f1 ≠ n := by
  obtain ⟨P, Q, e, e2, h1, h2⟩ := rem_pair h hm
  rw [e2, e, List.mem_append, List.mem_append, List.mem_cons]
  constructor
  · rintro (hy | hy)
    · exact ⟨.inl hy, h1 y hy⟩
    · exact ⟨.inr (.inr hy), h2 y hy⟩
  · rintro ⟨hy | rfl | hy, hn⟩
    · exact .inl hy
    · exact absurd rfl hn
    · exact .inr hy
theorem rem_cnt {d : List S90} (h : mayE d = true) {i : Int} {n : ByteArray} (hm : (⟨i, n⟩ : S90) ∈ d) (k : Int) : cntL (remR d n).1 k = cntL d k - one i k := by
  obtain ⟨P, Q, e, e2, h1, h2⟩ := rem_pair h hm
  rw [e2, e, cntL_app, cntL_app, cntL_cons]
  show _ = cntL P k + (one i k + cntL Q k) - one i k
  omega
theorem rem_len {d : List S90} (h : mayE d = true) {i : Int} {n : ByteArray} (hm : (⟨i, n⟩ : S90) ∈ d) : (remR d n).1.length + 1 = d.length := by
  obtain ⟨P, Q, e, e2, h1, h2⟩ := rem_pair h hm
  rw [e2, e, List.length_append, List.length_append, List.length_cons]; omega
theorem ins_cnt {d : List S90} {x : S90} (he : insErr d x = none) (k : Int) : cntL (insR d x).1 k = cntL d k + one x.f0 k := by
  rw [insR_yes he]
  show cntL (insE d (atE d x.f1) x) k = _
  unfold insE
  rw [List.append_assoc, List.singleton_append, cntL_app, cntL_cons]
  have := cntL_app (d.take (atE d x.f1)) (d.drop (atE d x.f1)) k
  rw [List.take_append_drop] at this
  omega
theorem ins_len {d : List S90} {x : S90} (he : insErr d x = none) : (insR d x).1.length = d.length + 1 := by
  rw [insR_yes he]
  exact insE_length _ (atE_le _ _)
theorem insErr_ok {d : List S90} (h : mayE d = true) {i : Int} {n : ByteArray} (hv : valid n.data.toList = true) (hi : 1 ≤ i ∧ i ≤ 64) (hn : ∀ j, (⟨j, n⟩ : S90) ∉ d) (hl : d.length < 64) : insErr d ⟨i, n⟩ = none := by
  have ho : okIno i = true := by unfold okIno; rw [Bool.and_eq_true, decide_eq_true_eq, decide_eq_true_eq]; exact hi
  unfold insErr
  rw [if_pos h, if_pos hv, if_pos ho, (not_is h).2 hn, if_neg (by simp), if_neg (by omega)]
def cntT (T : Tree) (k : Int) : Int := sumT (fun j => cntL (dirL (T j)) k) 64
theorem sumT_nn {f : Int → Int} (h : ∀ k, 0 ≤ f k) : ∀ (n : Nat), 0 ≤ sumT f n
  | 0 => Int.le_refl _
  | n + 1 => by
    have := sumT_nn h n
    have := h ((n : Int) + 1)
    rw [sumT]; omega
theorem sumT_mono {f g : Int → Int} (h : ∀ k, f k ≤ g k) : ∀ (n : Nat), sumT f n ≤ sumT g n
  | 0 => Int.le_refl _
  | n + 1 => by
    have := sumT_mono h n
    have := h ((n : Int) + 1)
    rw [sumT, sumT]; omega
theorem cntT_nn (T : Tree) (k : Int) : 0 ≤ cntT T k := sumT_nn (fun _ => cntL_nn _ _) _
theorem cntT_upd {T : Tree} {a : Int} (ha : 1 ≤ a ∧ a ≤ 64) (o : Option Nd) (k : Int) : cntT (upd T a o) k = cntT T k + (cntL (dirL o) k - cntL (dirL (T a)) k) := by
  unfold cntT
  refine sumT_at 64 ha.1 (by omega) (fun j hj => ?_) ?_
  · rw [upd_other _ _ hj]
  · rw [upd_same]; omega
def lnk (o : Option Nd) (k : Int) : Int := if k = 1 then 0 else match o with | some x => linksN x | none => 0
structure InvE (T : Tree) (e : Int → Int) : Prop where
  ok : Ok T
  dom : ∀ k, T k ≠ none → 1 ≤ k ∧ k ≤ 64
  root : ∃ d, T 1 = some (.dir d)
  cnt : ∀ k, cntT T k + e k = lnk (T k) k
abbrev Inv (T : Tree) : Prop := InvE T (fun _ => 0)
theorem InvE.congr {T : Tree} {e e' : Int → Int} (h : InvE T e) (he : ∀ k, e k = e' k) : InvE T e' := ⟨h.ok, h.dom, h.root, fun k => by rw [← he k]; exact h.cnt k⟩
theorem InvE.at_ {T : Tree} {e : Int → Int} (h : InvE T e) {a : Int} {o : Nd} (ha : T a = some o) : 1 ≤ a ∧ a ≤ 64 := h.dom a (by rw [ha]; simp)
theorem dom_upd {T : Tree} (h : ∀ k, T k ≠ none → 1 ≤ k ∧ k ≤ 64) {a : Int} (ha : 1 ≤ a ∧ a ≤ 64) (o : Option Nd) : ∀ k, upd T a o k ≠ none → 1 ≤ k ∧ k ≤ 64 := fun k hk => by
  by_cases e : k = a
  · exact e ▸ ha
  · rw [upd_other _ _ e] at hk; exact h k hk
theorem InvE.dirs {T : Tree} {e : Int → Int} (h : InvE T e) {a : Int} {d : List S90} (ha : T a = some (.dir d)) (d' : List S90) (hd : mayE d' = true) : InvE (upd T a (some (.dir d'))) (fun k => e k - (cntL d' k - cntL d k)) := by
  refine ⟨dirOk h.ok hd, dom_upd h.dom (h.at_ ha) _, ?_, fun k => ?_⟩
  · obtain ⟨d1, h1⟩ := h.root
    by_cases e : (1 : Int) = a
    · exact ⟨d', by rw [e, upd_same]⟩
    · exact ⟨d1, by rw [upd_other _ _ e]; exact h1⟩
  · rw [cntT_upd (h.at_ ha), ha]
    have hk := h.cnt k
    have : lnk (upd T a (some (.dir d')) k) k = lnk (T k) k := by
      by_cases e : k = a
      · rw [e, upd_same, ha]; rfl
      · rw [upd_other _ _ e]
    rw [this]
    show cntT T k + (cntL d' k - cntL d k) + (e k - (cntL d' k - cntL d k)) = _
    omega
theorem InvE.rem {T : Tree} {e : Int → Int} (h : InvE T e) {a i : Int} {n : ByteArray} {d : List S90} (ha : T a = some (.dir d)) (hm : (⟨i, n⟩ : S90) ∈ d) : InvE (upd T a (some (.dir (remR d n).1))) (fun k => e k + one i k) :=
  (h.dirs ha _ (remR_may (h.ok.dirs _ _ ha) n)).congr (fun k => by rw [rem_cnt (h.ok.dirs _ _ ha) hm]; omega)
theorem InvE.ins {T : Tree} {e : Int → Int} (h : InvE T e) {a i : Int} {n : ByteArray} {d : List S90} (ha : T a = some (.dir d)) (hm : insErr d ⟨i, n⟩ = none) : InvE (upd T a (some (.dir (insR d ⟨i, n⟩).1))) (fun k => e k - one i k) :=
  (h.dirs ha _ (insR_may (h.ok.dirs _ _ ha) _)).congr (fun k => by rw [ins_cnt hm]; show e k - (cntL d k + one i k - cntL d k) = e k - one i k; omega)
theorem InvE.bare {T : Tree} {e : Int → Int} (h : InvE T e) {i : Int} (hi : 1 ≤ i ∧ i ≤ 64) (h1 : i ≠ 1) (o : Option Nd) (h0 : dirL (T i) = []) (h2 : dirL o = []) (hd : ∀ l, o = some (.dir l) → mayE l = true) (hf : ∀ b n, o = some (.file b n) → b.length ≤ 3808 ∧ 1 ≤ n ∧ n ≤ 64) :
    InvE (upd T i o) (fun k => e k + if k = i then lnk o i - lnk (T i) i else 0) := by
  refine ⟨h.ok.upd hd hf, dom_upd h.dom hi _, ?_, fun k => ?_⟩
  · obtain ⟨d1, h3⟩ := h.root
    exact ⟨d1, by rw [upd_other _ _ h1.symm]; exact h3⟩
  · rw [cntT_upd hi, h0, h2]
    have hk := h.cnt k
    by_cases e2 : k = i
    · subst e2
      rw [upd_same]
      simp only [if_true]
      omega
    · rw [upd_other _ _ e2]
      simp only [if_neg e2]
      omega
theorem one_same (i : Int) : one i i = 1 := if_pos rfl
theorem lnk_one (o : Option Nd) : lnk o 1 = 0 := if_pos rfl
theorem lnk_other (o : Option Nd) {k : Int} (h : k ≠ 1) : lnk o k = match o with | some x => linksN x | none => 0 := if_neg h
theorem InvE.new {T : Tree} {e : Int → Int} (h : InvE T e) {i : Int} (hi : 1 ≤ i ∧ i ≤ 64) (hT : T i = none) (x : Nd) (hx : x = .file [] 1 ∨ x = .dir []) : InvE (upd T i (some x)) (fun k => e k + one i k) := by
  have h1 : i ≠ 1 := fun e => by
    obtain ⟨d, h2⟩ := h.root
    rw [← e, hT] at h2; cases h2
  have hl : lnk (some x) i = 1 := by
    rw [lnk_other _ h1]
    rcases hx with rfl | rfl <;> rfl
  have hz : dirL (some x) = [] := by rcases hx with rfl | rfl <;> rfl
  have ha := h.bare hi h1 (some x) (by rw [hT]; rfl) hz (fun l e => by
      rcases hx with rfl | rfl
      · cases e
      · cases e; decide) (fun b n e => by
      rcases hx with rfl | rfl
      · cases e; exact ⟨Nat.zero_le _, by decide, by decide⟩
      · cases e)
  refine ha.congr (fun k => ?_)
  rw [hl, hT, lnk_other _ h1]
  unfold one
  split <;> rfl
theorem InvE.less {T : Tree} {e : Int → Int} (h : InvE T e) {i : Int} (he : 1 ≤ e i) (hT : (∃ b n, T i = some (.file b n)) ∨ T i = some (.dir [])) : InvE (lessR T i) (fun k => e k - one i k) := by
  have hi : 1 ≤ i ∧ i ≤ 64 := by
    rcases hT with ⟨b, n, hT⟩ | hT <;> exact h.at_ hT
  have h1 : i ≠ 1 := fun e1 => by
    have h2 := h.cnt i
    have h3 := cntT_nn T i
    rw [e1] at h2 h3 he
    rw [lnk_one] at h2
    omega
  have h0 : dirL (T i) = [] := by
    rcases hT with ⟨b, n, hT⟩ | hT <;> rw [hT] <;> rfl
  have hdel : lnk (T i) i = 1 → InvE (upd T i none) (fun k => e k - one i k) := fun hl => by
    have ha := h.bare hi h1 none h0 rfl (fun l e => nomatch e) (fun b n e => nomatch e)
    refine ha.congr (fun k => ?_)
    rw [hl, lnk_other _ h1]
    unfold one
    split <;> simp <;> omega
  rcases hT with ⟨b, n, hT⟩ | hT
  · have hf := h.ok.files i b n hT
    unfold lessR
    rw [hT]
    dsimp only
    by_cases hn : n = 1
    · rw [if_pos hn]
      exact hdel (by rw [hT, lnk_other _ h1]; exact hn)
    · rw [if_neg hn]
      have ha := h.bare hi h1 (some (.file b (n - 1))) h0 rfl (fun l e => nomatch (Option.some.inj e)) (fun b' n' e => by obtain ⟨rfl, rfl⟩ := Nd.file.inj (Option.some.inj e); exact ⟨hf.1, by omega, by omega⟩)
      refine ha.congr (fun k => ?_)
      rw [hT, lnk_other _ h1, lnk_other _ h1]
      unfold one
      show (e k + if k = i then n - 1 - n else 0) = _
      split <;> omega
  · unfold lessR
    rw [hT]
    exact hdel (by rw [hT, lnk_other _ h1]; rfl)
theorem InvE.more {T : Tree} {e : Int → Int} (h : InvE T e) {i : Int} {b : List Int} {n : Int} (hT : T i = some (.file b n)) (hn : n < 64) : InvE (upd T i (some (.file b (n + 1)))) (fun k => e k + one i k) := by
  have hf := h.ok.files i b n hT
  have h1 : i ≠ 1 := fun e1 => by
    obtain ⟨d, h2⟩ := h.root
    rw [← e1, hT] at h2; cases h2
  have ha := h.bare (h.at_ hT) h1 (some (.file b (n + 1))) (by rw [hT]; rfl) rfl (fun l e => nomatch (Option.some.inj e)) (fun b' n' e => by obtain ⟨rfl, rfl⟩ := Nd.file.inj (Option.some.inj e); exact ⟨hf.1, by omega, by omega⟩)
  refine ha.congr (fun k => ?_)
  rw [hT, lnk_other _ h1, lnk_other _ h1]
  unfold one
  show (e k + if k = i then n + 1 - n else 0) = _
  split <;> omega
theorem InvE.bytes {T : Tree} {e : Int → Int} (h : InvE T e) {i : Int} {b : List Int} {n : Int} (hT : T i = some (.file b n)) (b' : List Int) (hb : b'.length ≤ 3808) : InvE (upd T i (some (.file b' n))) e := by
  have hf := h.ok.files i b n hT
  have h1 : i ≠ 1 := fun e1 => by
    obtain ⟨d, h2⟩ := h.root
    rw [← e1, hT] at h2; cases h2
  have ha := h.bare (h.at_ hT) h1 (some (.file b' n)) (by rw [hT]; rfl) rfl (fun l e => nomatch (Option.some.inj e)) (fun b' n' e => by obtain ⟨rfl, rfl⟩ := Nd.file.inj (Option.some.inj e); exact ⟨hb, hf.2⟩)
  refine ha.congr (fun k => ?_)
  rw [hT, lnk_other _ h1, lnk_other _ h1]
  show (e k + if k = i then n - n else 0) = _
  split <;> omega
theorem nm_cnt {T : Tree} {e : Int → Int} (h : InvE T e) {a i : Int} {n : ByteArray} (hm : Nm T a n i) : 1 ≤ cntT T i := by
  obtain ⟨d, hd, hx⟩ := hm
  have h1 := cntT_upd (T := T) (h.at_ hd) none i
  have h2 := cntT_nn (upd T a none) i
  have h3 := cntL_pos hx
  rw [hd] at h1
  simp only [dirL, cntL_nil] at h1 h3
  omega
theorem Inv.live {T : Tree} (h : Inv T) {a i : Int} {n : ByteArray} (hm : Nm T a n i) : i ≠ 1 ∧ T i ≠ none := by
  have h1 := nm_cnt h hm
  have h2 := h.cnt i
  refine ⟨fun e => ?_, fun e => ?_⟩
  · rw [e, lnk_one] at h2; rw [e] at h1; omega
  · rw [e] at h2
    unfold lnk at h2
    split at h2 <;> simp at h2 <;> omega
theorem Inv.hnd {T : Tree} (h : Inv T) : ∀ k n, (stepR (T k) n).2 = 0 → T (stepR (T k) n).1 ≠ none := fun k n hs => (Inv.live h ((step_nm h.ok).2 ⟨hs, rfl⟩)).2
theorem usedT_mono {T T' : Tree} (h : ∀ k, costT T' k ≤ costT T k) : usedT T' ≤ usedT T := sumT_mono h 64
end Go.Proofs.YtcmcmkfoihlniaaDoor.MM
end

section
namespace Go.Proofs.YtcmcmkfoihlniaaDoor.MM
open Go Go.RowKit Go.Maps Go.Proofs.YtcmcmkfoihlniaaDoorX Go.Proofs.YtcmcmkfoihlniaaDoor.NM Go.Proofs.YtcmcmkfoihlniaaDoor.EN Go.Proofs.YtcmcmkfoihlniaaDoorW.PrintWords Go.Proofs.YtcmcmkfoihlniaaDoorW.PrintLast Go.Proofs.YtcmcmkfoihlniaaDoorW.PrintMore Go.Proofs.YtcmcmkfoihlniaaDoor.PModelUndoes
set_option linter.unusedVariables false
set_option linter.unusedSimpArgs false
theorem up_ok {T : Tree} {l : List ByteArray} (h : (upR T l).2 = 0) : (wayR T 1 l.dropLast).2 = 0 ∧ (upR T l).1 = (wayR T 1 l.dropLast).1 ∧ ∃ d, T (parR T l) = some (.dir d) := by
  unfold upR at h ⊢
  by_cases h1 : (wayR T 1 l.dropLast).2 = 0
  · rw [if_pos h1] at h ⊢
    refine ⟨h1, rfl, ?_⟩
    rcases dirR_or (T (lastI (wayR T 1 l.dropLast).1)) with ⟨d, hd⟩ | ⟨hd, _⟩
    · exact ⟨d, hd⟩
    · have h : (dirR (T (lastI (wayR T 1 l.dropLast).1))).2 = 0 := h
      rw [hd] at h; cases h
  · rw [if_neg h1] at h; exact absurd h h1
theorem up_last {T : Tree} {l : List ByteArray} (h : (upR T l).2 = 0) : lastI (upR T l).1 = parR T l := by rw [(up_ok h).2.1]; rfl
theorem no_step {T : Tree} (hO : Ok T) {a : Int} {n : ByteArray} {d : List S90} (hd : T a = some (.dir d)) : (stepR (T a) n).2 ≠ 0 ↔ ∀ j, (⟨j, n⟩ : S90) ∉ d := by
  constructor
  · intro h j hj
    exact h (((step_nm hO).1 ⟨d, hd, hj⟩).1)
  · intro h hs
    obtain ⟨d', hd', hm⟩ := (step_nm hO).2 ⟨hs, rfl⟩
    obtain rfl : d = d' := Nd.dir.inj (Option.some.inj (hd.symm.trans hd'))
    exact h _ hm
structure Plc (T : Tree) (l : List ByteArray) (a : Int) (d : List S90) : Prop where
  pos : 0 < l.length
  up : (wayR T 1 l.dropLast).2 = 0
  par : parR T l = a
  dir : T a = some (.dir d)
  free : ∀ j, (⟨j, lastS l⟩ : S90) ∉ d
  val : valid (lastS l).data.toList = true
theorem plc_of {T : Tree} (hO : Ok T) {p : ByteArray} (h1 : (splitR p).2 = 0) (h2 : (splitR p).1.length ≠ 0) (h3 : (upR T (splitR p).1).2 = 0) (h4 : (stepR (T (lastI (upR T (splitR p).1).1)) (lastS (splitR p).1)).2 ≠ 0) :
    ∃ d, Plc T (splitR p).1 (lastI (upR T (splitR p).1).1) d := by
  obtain ⟨u1, u2, d, u3⟩ := up_ok h3
  have e := up_last h3
  rw [← e] at u3
  have hp : 0 < (splitR p).1.length := by omega
  exact ⟨d, hp, u1, e.symm, u3, (no_step hO u3).1 h4, (splitR_good h1).2 _ (lastS_mem hp)⟩
theorem make_or {q : Int} {T : Tree} (hO : Ok T) (p : ByteArray) (x : Nd) :
    (∃ y, y ≠ 0 ∧ makeR q T p x = (T, y)) ∨ ((splitR p).2 = 0 ∧ ∃ a d k, Plc T (splitR p).1 a d ∧ d.length < 64 ∧ T k = none ∧ (1 ≤ k ∧ k ≤ 64) ∧
      usedT (upd (upd T k (some x)) a (some (.dir (insR d ⟨k, lastS (splitR p).1⟩).1))) ≤ q ∧ makeR q T p x = (upd (upd T k (some x)) a (some (.dir (insR d ⟨k, lastS (splitR p).1⟩).1)), 0)) := by
  unfold makeR
  by_cases h1 : (splitR p).2 = 0
  · rw [if_neg (fun h => h h1)]
    by_cases h2 : (splitR p).1.length = 0
    · rw [if_pos h2]; exact .inl ⟨_, by decide, rfl⟩
    · rw [if_neg h2]
      by_cases h3 : (upR T (splitR p).1).2 = 0
      · rw [if_neg (fun h => h h3)]
        by_cases h4 : (stepR (T (lastI (upR T (splitR p).1).1)) (lastS (splitR p).1)).2 = 0
        · rw [if_pos h4]; exact .inl ⟨_, by decide, rfl⟩
        · rw [if_neg h4]
          obtain ⟨d, hp⟩ := plc_of hO h1 h2 h3 h4
          rw [hp.dir, show dirL (some (Nd.dir d)) = d from rfl]
          by_cases h5 : 64 ≤ d.length
          · rw [if_pos h5]; exact .inl ⟨_, by decide, rfl⟩
          · rw [if_neg h5]
            by_cases h6 : leastR T = 0
            · rw [if_pos h6]; exact .inl ⟨_, by decide, rfl⟩
            · rw [if_neg h6]
              obtain ⟨k1, k2, k3⟩ := leastR_is rfl h6
              unfold tryR
              by_cases h7 : q < usedT (upd (upd T (leastR T) (some x)) (lastI (upR T (splitR p).1).1) (some (.dir (insR d ⟨leastR T, lastS (splitR p).1⟩).1)))
              · rw [if_pos h7]; exact .inl ⟨_, by decide, rfl⟩
              · rw [if_neg h7]
                exact .inr ⟨h1, _, d, _, hp, by omega, k3, ⟨k1, k2⟩, by omega, rfl⟩
      · rw [if_pos h3]; exact .inl ⟨_, h3, rfl⟩
  · rw [if_pos h1]; exact .inl ⟨_, h1, rfl⟩
theorem link_or {q : Int} {T : Tree} (hO : Ok T) (p s : ByteArray) :
    (∃ y, y ≠ 0 ∧ linkR q T p s = (T, y)) ∨ ((splitR s).2 = 0 ∧ ∃ a d k b n, Plc T (splitR s).1 a d ∧ d.length < 64 ∧ T k = some (.file b n) ∧ n < 64 ∧
      usedT (upd (upd T k (some (.file b (n + 1)))) a (some (.dir (insR d ⟨k, lastS (splitR s).1⟩).1))) ≤ q ∧ linkR q T p s = (upd (upd T k (some (.file b (n + 1)))) a (some (.dir (insR d ⟨k, lastS (splitR s).1⟩).1)), 0)) := by
  unfold linkR
  by_cases h0 : bothE p s = 0
  · rw [if_neg (fun h => h h0)]
    obtain ⟨_, h1⟩ := bothE_zero h0
    by_cases hf : (findR T (splitR p).1).2 = 0
    · rw [if_neg (fun h => h hf)]
      rcases hk : T (findR T (splitR p).1).1 with _ | (⟨b, n⟩ | l)
      · exact .inl ⟨_, by decide, rfl⟩
      · dsimp only
        by_cases h2 : (splitR s).1.length = 0
        · rw [if_pos h2]; exact .inl ⟨_, by decide, rfl⟩
        · rw [if_neg h2]
          by_cases h3 : (upR T (splitR s).1).2 = 0
          · rw [if_neg (fun h => h h3)]
            by_cases h4 : (stepR (T (lastI (upR T (splitR s).1).1)) (lastS (splitR s).1)).2 = 0
            · rw [if_pos h4]; exact .inl ⟨_, by decide, rfl⟩
            · rw [if_neg h4]
              obtain ⟨d, hp⟩ := plc_of hO h1 h2 h3 h4
              rw [hp.dir, show dirL (some (Nd.dir d)) = d from rfl]
              by_cases h5 : 64 ≤ n ∨ 64 ≤ d.length
              · rw [if_pos h5]; exact .inl ⟨_, by decide, rfl⟩
              · rw [if_neg h5]
                unfold tryR
                by_cases h7 : q < usedT (upd (upd T (findR T (splitR p).1).1 (some (.file b (n + 1)))) (lastI (upR T (splitR s).1).1) (some (.dir (insR d ⟨(findR T (splitR p).1).1, lastS (splitR s).1⟩).1)))
                · rw [if_pos h7]; exact .inl ⟨_, by decide, rfl⟩
                · rw [if_neg h7]
                  exact .inr ⟨h1, _, d, _, b, n, hp, by omega, hk, by omega, by omega, rfl⟩
          · rw [if_pos h3]; exact .inl ⟨_, h3, rfl⟩
      · exact .inl ⟨_, by decide, rfl⟩
    · rw [if_pos hf]; exact .inl ⟨_, hf, rfl⟩
  · rw [if_pos h0]; exact .inl ⟨_, h0, rfl⟩
structure Got (T : Tree) (l : List ByteArray) (a : Int) (d : List S90) (i : Int) : Prop where
  pos : 0 < l.length
  way : (wayR T 1 l).2 = 0
  par : parR T l = a
  dir : T a = some (.dir d)
  mem : (⟨i, lastS l⟩ : S90) ∈ d
  last : lastI (wayR T 1 l).1 = i
  up : (wayR T 1 l.dropLast).2 = 0
  eq : (wayR T 1 l).1 = (wayR T 1 l.dropLast).1 ++ [i]
theorem got_of {T : Tree} (hO : Ok T) {l : List ByteArray} (h0 : 0 < l.length) (h : (wayR T 1 l).2 = 0) : ∃ d, Got T l (parR T l) d (lastI (wayR T 1 l).1) := by
  obtain ⟨h1, h2, h3, h4⟩ := way_last h0 h
  obtain ⟨d, hd, hm⟩ := (step_nm hO).2 ⟨h3, h4⟩
  exact ⟨d, h0, h, rfl, hd, hm, rfl, h1, h2⟩
theorem way_nil (T : Tree) (a : Int) : lastI (wayR T a []).1 = a := lastI_snoc [] a
theorem unlink_or {T : Tree} (hI : Inv T) (p : ByteArray) :
    (∃ y, y ≠ 0 ∧ unlinkR T p = (T, y)) ∨ ((splitR p).2 = 0 ∧ ∃ a d i b n, Got T (splitR p).1 a d i ∧ T i = some (.file b n) ∧ unlinkR T p = (lessR (upd T a (some (.dir (remR d (lastS (splitR p).1)).1))) i, 0)) := by
  unfold unlinkR
  by_cases h1 : (splitR p).2 = 0
  · rw [if_neg (fun h => h h1)]
    by_cases h2 : (wayR T 1 (splitR p).1).2 = 0
    · rw [if_neg (fun h => h h2)]
      rcases hk : T (lastI (wayR T 1 (splitR p).1).1) with _ | (⟨b, n⟩ | l)
      · exact .inl ⟨_, by decide, rfl⟩
      · dsimp only
        have h0 : 0 < (splitR p).1.length := by
          rcases Nat.eq_zero_or_pos (splitR p).1.length with h | h
          · rw [List.eq_nil_of_length_eq_zero h, way_nil] at hk
            obtain ⟨d, hd⟩ := hI.root
            rw [hd] at hk; cases hk
          · exact h
        obtain ⟨d, hg⟩ := got_of hI.ok h0 h2
        exact .inr ⟨h1, _, d, _, b, n, hg, hk, by rw [isGone hg.dir]⟩
      · exact .inl ⟨_, by decide, rfl⟩
    · rw [if_pos h2]; exact .inl ⟨_, h2, rfl⟩
  · rw [if_pos h1]; exact .inl ⟨_, h1, rfl⟩
theorem rmdir_or {T : Tree} (hI : Inv T) (p : ByteArray) :
    (∃ y, y ≠ 0 ∧ rmdirR T p = (T, y)) ∨ ((splitR p).2 = 0 ∧ ∃ a d i, Got T (splitR p).1 a d i ∧ T i = some (.dir []) ∧ rmdirR T p = (lessR (upd T a (some (.dir (remR d (lastS (splitR p).1)).1))) i, 0)) := by
  unfold rmdirR
  by_cases h1 : (splitR p).2 = 0
  · rw [if_neg (fun h => h h1)]
    by_cases h0 : (splitR p).1.length = 0
    · rw [if_pos h0]; exact .inl ⟨_, by decide, rfl⟩
    · rw [if_neg h0]
      by_cases h2 : (wayR T 1 (splitR p).1).2 = 0
      · rw [if_neg (fun h => h h2)]
        obtain ⟨d, hg⟩ := got_of hI.ok (by omega) h2
        by_cases h3 : (dirR (T (lastI (wayR T 1 (splitR p).1).1))).2 = 0
        · rw [if_neg (fun h => h h3)]
          by_cases h4 : 0 < (dirR (T (lastI (wayR T 1 (splitR p).1).1))).1.length
          · rw [if_pos h4]; exact .inl ⟨_, by decide, rfl⟩
          · rw [if_neg h4]
            rcases dirR_or (T (lastI (wayR T 1 (splitR p).1).1)) with ⟨l, hl⟩ | ⟨hl, _⟩
            · have e : (dirR (some (Nd.dir l))).1 = l := rfl
              rw [hl, e] at h4
              obtain rfl : l = [] := List.eq_nil_of_length_eq_zero (by omega)
              exact .inr ⟨h1, _, d, _, hg, hl, by rw [isGone hg.dir]⟩
            · rw [hl] at h3; cases h3
        · rw [if_pos h3]; exact .inl ⟨_, h3, rfl⟩
      · rw [if_pos h2]; exact .inl ⟨_, h2, rfl⟩
  · rw [if_pos h1]; exact .inl ⟨_, h1, rfl⟩
theorem inv_more {T : Tree} {e : Int → Int} {a i : Int} {d : List S90} {n : ByteArray} (h : InvE T (fun k => e k + one i k)) (hd : T a = some (.dir d)) (he : insErr d ⟨i, n⟩ = none) : InvE (upd T a (some (.dir (insR d ⟨i, n⟩).1))) e :=
  (h.ins hd he).congr (fun k => by omega)
theorem plc_ins {T : Tree} (hO : Ok T) {l : List ByteArray} {a : Int} {d : List S90} (h : Plc T l a d) (hl : d.length < 64) {i : Int} (hi : 1 ≤ i ∧ i ≤ 64) : insErr d ⟨i, lastS l⟩ = none :=
  insErr_ok (hO.dirs _ _ h.dir) h.val hi h.free hl
theorem inv_make {T : Tree} (hI : Inv T) {l : List ByteArray} {a k : Int} {d : List S90} (h : Plc T l a d) (hl : d.length < 64) (hk : T k = none) (hk2 : 1 ≤ k ∧ k ≤ 64) (x : Nd) (hx : x = .file [] 1 ∨ x = .dir []) : Inv (upd (upd T k (some x)) a (some (.dir (insR d ⟨k, lastS l⟩).1))) := by
  have h1 : InvE (upd T k (some x)) (fun j => 0 + one k j) := hI.new hk2 hk x hx
  have hak : a ≠ k := fun e => by rw [← e, h.dir] at hk; cases hk
  exact inv_more h1 (by rw [upd_other _ _ hak]; exact h.dir) (plc_ins hI.ok h hl hk2)
theorem inv_link {T : Tree} (hI : Inv T) {l : List ByteArray} {a k : Int} {d : List S90} (h : Plc T l a d) (hl : d.length < 64) {b : List Int} {n : Int} (hk : T k = some (.file b n)) (hn : n < 64) : Inv (upd (upd T k (some (.file b (n + 1)))) a (some (.dir (insR d ⟨k, lastS l⟩).1))) := by
  have h1 : InvE (upd T k (some (.file b (n + 1)))) (fun j => 0 + one k j) := hI.more hk hn
  have hak : a ≠ k := fun e => by rw [← e, h.dir] at hk; cases hk
  exact inv_more h1 (by rw [upd_other _ _ hak]; exact h.dir) (plc_ins hI.ok h hl (hI.at_ hk))
theorem inv_gone {T : Tree} (hI : Inv T) {a i : Int} {d : List S90} {n : ByteArray} (hd : T a = some (.dir d)) (hm : (⟨i, n⟩ : S90) ∈ d) (ht : (∃ b n, T i = some (.file b n)) ∨ T i = some (.dir [])) : Inv (lessR (upd T a (some (.dir (remR d n).1))) i) := by
  have h1 := hI.rem hd hm
  have hai : i ≠ a := fun e => by
    rw [e, hd] at ht
    rcases ht with ⟨b, n, h⟩ | h
    · cases h
    · rw [Nd.dir.inj (Option.some.inj h)] at hm; cases hm
  have h2 := h1.less (i := i) (by rw [one_same]; decide) (by rw [upd_other _ _ hai]; exact ht)
  exact h2.congr (fun k => by omega)
theorem costT_upd_le {T : Tree} {a : Int} {x y : Nd} (h1 : T a = some y) (h : sizeN x ≤ sizeN y) (k : Int) : costT (upd T a (some x)) k ≤ costT T k := by
  unfold costT
  by_cases e : k = a
  · subst e; rw [upd_same, h1]; exact useI_mono h
  · rw [upd_other _ _ e]; exact Int.le_refl _
theorem costT_nn (T : Tree) (k : Int) : 0 ≤ costT T k := (costT_le T k).1
theorem costT_none_le (T : Tree) (a k : Int) : costT (upd T a none) k ≤ costT T k := by
  by_cases e : k = a
  · subst e
    have : costT (upd T k none) k = 0 := by unfold costT; rw [upd_same]
    rw [this]; exact costT_nn T k
  · unfold costT; rw [upd_other _ _ e]; exact Int.le_refl _
theorem costT_less_le (T : Tree) (i k : Int) : costT (lessR T i) k ≤ costT T k := by
  unfold lessR
  rcases hT : T i with _ | (⟨b, n⟩ | l)
  · exact costT_none_le T i k
  · dsimp only
    split
    · exact costT_none_le T i k
    · exact costT_upd_le (x := .file b (n - 1)) hT (Int.le_refl (b.length : Int)) k
  · exact costT_none_le T i k
theorem dir_le {d d' : List S90} (h : d'.length ≤ d.length) : sizeN (.dir d') ≤ sizeN (.dir d) := by
  show (d'.length : Int) * 28 ≤ (d.length : Int) * 28
  omega
theorem remR_len (d : List S90) (n : ByteArray) : (remR d n).1.length ≤ d.length := by
  unfold remR
  split
  · exact Nat.zero_le _
  · exact List.length_eraseIdx_le _ _
theorem used_gone {T : Tree} {a i : Int} {d : List S90} (n : ByteArray) (hd : T a = some (.dir d)) : usedT (lessR (upd T a (some (.dir (remR d n).1))) i) ≤ usedT T :=
  usedT_mono (fun k => Int.le_trans (costT_less_le _ _ _) (costT_upd_le hd (dir_le (remR_len d n)) k))
structure Mv (T : Tree) (x y : List ByteArray) (ino a b : Int) (da db : List S90) : Prop where
  from_ : Got T x a da ino
  dest : Plc T y b db
  loop : isDir (T ino) = true → ino ∉ (wayR T 1 y.dropLast).1
  len : a ≠ b → db.length < 64
def midD (a b : Int) (da db : List S90) (nx : ByteArray) : List S90 := if b = a then (remR da nx).1 else db
theorem mid_dir {T : Tree} {a b : Int} {da db : List S90} {nx : ByteArray} (hb : T b = some (.dir db)) : upd T a (some (.dir (remR da nx).1)) b = some (.dir (midD a b da db nx)) := by
  unfold midD
  by_cases e : b = a
  · rw [if_pos e, e, upd_same]
  · rw [if_neg e, upd_other _ _ e]; exact hb
section
variable {T : Tree} {a b i : Int} {da db : List S90} {nx ny : ByteArray} (hI : Inv T) (ha : T a = some (.dir da)) (hb : T b = some (.dir db)) (hm : (⟨i, nx⟩ : S90) ∈ da) (hv : valid ny.data.toList = true) (hl : a ≠ b → db.length < 64)
  (hf : ∀ j, (⟨j, ny⟩ : S90) ∉ midD a b da db nx)
include hI ha hb hm hv hl hf
theorem mid_err : insErr (midD a b da db nx) ⟨i, ny⟩ = none := by
  have hm1 := mid_dir (a := a) (da := da) (nx := nx) hb
  have hO := (hI.rem ha hm).ok
  have hi : 1 ≤ i ∧ i ≤ 64 := by
    have := (Inv.live hI ⟨da, ha, hm⟩).2
    exact hI.dom i this
  refine insErr_ok (hO.dirs _ _ hm1) hv hi hf ?_
  unfold midD
  by_cases e : b = a
  · rw [if_pos e]
    have h1 := rem_len (hI.ok.dirs _ _ ha) hm
    have h2 := may_len (hI.ok.dirs _ _ ha)
    omega
  · rw [if_neg e]; exact hl (fun e2 => e e2.symm)
theorem inv_move : Inv (upd (upd T a (some (.dir (remR da nx).1))) b (some (.dir (insR (midD a b da db nx) ⟨i, ny⟩).1))) :=
  inv_more (e := fun _ => 0) (hI.rem ha hm) (mid_dir hb) (mid_err hI ha hb hm hv hl hf)
end
theorem moveR_is {T : Tree} {x y : List ByteArray} {i a b : Int} {da db : List S90} (ha : T a = some (.dir da)) (hb : T b = some (.dir db)) :
    moveR T x y i a b = upd (upd T a (some (.dir (remR da (lastS x)).1))) b (some (.dir (insR (midD a b da db (lastS x)) ⟨i, lastS y⟩).1)) := by
  unfold moveR midD
  dsimp only
  rw [show dirL (T a) = da by rw [ha]; rfl]
  by_cases e : b = a
  · rw [if_pos e, e, upd_same]; rfl
  · rw [if_neg e, upd_other _ _ e, hb]; rfl
theorem overR_is {T : Tree} {x y : List ByteArray} {i a b o : Int} {db : List S90} (hb : T b = some (.dir db)) :
    overR T x y i a b o = moveR (lessR (upd T b (some (.dir (remR db (lastS y)).1))) o) x y i a b := by
  unfold overR moveR
  dsimp only
  rw [show dirL (T b) = db by rw [hb]; rfl]
end Go.Proofs.YtcmcmkfoihlniaaDoor.MM
end

section
namespace Go.Proofs.YtcmcmkfoihlniaaDoor.MM
open Go Go.RowKit Go.Maps Go.Proofs.YtcmcmkfoihlniaaDoorX Go.Proofs.YtcmcmkfoihlniaaDoor.NM Go.Proofs.YtcmcmkfoihlniaaDoor.EN Go.Proofs.YtcmcmkfoihlniaaDoorW.PrintWords Go.Proofs.YtcmcmkfoihlniaaDoorW.PrintLast Go.Proofs.YtcmcmkfoihlniaaDoorW.PrintMore Go.Proofs.YtcmcmkfoihlniaaDoor.PModelUndoes
set_option linter.unusedVariables false
set_option linter.unusedSimpArgs false
theorem find_of {T : Tree} {l : List ByteArray} (h : (wayR T 1 l).2 = 0) : findR T l = (lastI (wayR T 1 l).1, 0) := by unfold findR; rw [if_pos h]
theorem find_bad {T : Tree} {l : List ByteArray} (h : (wayR T 1 l).2 ≠ 0) : findR T l = (0, (wayR T 1 l).2) := by unfold findR; rw [if_neg h]
def There (T : Tree) (s : ByteArray) : Prop := (splitR s).2 = 0 ∧ 0 < (splitR s).1.length ∧ (upR T (splitR s).1).2 = 0 ∧ (stepR (T (parR T (splitR s).1)) (lastS (splitR s).1)).2 = 0
theorem rename_or {q : Int} {T : Tree} (hI : Inv T) (p s : ByteArray) :
    (∃ y, (y = 0 → There T s) ∧ renameR q T p s = (T, y)) ∨
    (There T s ∧ ∃ a b i o da db, Got T (splitR p).1 a da i ∧ T b = some (.dir db) ∧ (⟨o, lastS (splitR s).1⟩ : S90) ∈ db ∧ valid (lastS (splitR s).1).data.toList = true ∧ o ≠ i ∧ ((∃ b n, T o = some (.file b n)) ∨ T o = some (.dir [])) ∧
      renameR q T p s = (moveR (lessR (upd T b (some (.dir (remR db (lastS (splitR s).1)).1))) o) (splitR p).1 (splitR s).1 i a b, 0)) ∨
    ((splitR p).2 = 0 ∧ (splitR s).2 = 0 ∧ ∃ a b i da db, Mv T (splitR p).1 (splitR s).1 i a b da db ∧ usedT (moveR T (splitR p).1 (splitR s).1 i a b) ≤ q ∧ renameR q T p s = (moveR T (splitR p).1 (splitR s).1 i a b, 0)) := by
  unfold renameR
  by_cases h0 : bothE p s = 0
  · rw [if_neg (fun h => h h0)]
    obtain ⟨hp, hs⟩ := bothE_zero h0
    by_cases hz : (splitR p).1.length = 0 ∨ (splitR s).1.length = 0
    · rw [if_pos hz]; exact .inl ⟨_, fun e => absurd e (by decide), rfl⟩
    · rw [if_neg hz]
      have zp : 0 < (splitR p).1.length := by omega
      have zs : 0 < (splitR s).1.length := by omega
      by_cases h1 : (wayR T 1 (splitR p).1).2 = 0
      · rw [if_neg (fun h => h h1)]
        obtain ⟨da, hg⟩ := got_of hI.ok zp h1
        by_cases h2 : (upR T (splitR s).1).2 = 0
        · rw [if_neg (fun h => h h2)]
          obtain ⟨u1, u2, db, u3⟩ := up_ok h2
          have ul := up_last h2
          rw [ul]
          by_cases h3 : isDir (T (lastI (wayR T 1 (splitR p).1).1)) = true ∧ lastI (wayR T 1 (splitR p).1).1 ∈ (upR T (splitR s).1).1
          · rw [if_pos h3]; exact .inl ⟨_, fun e => absurd e (by decide), rfl⟩
          · rw [if_neg h3]
            have hval := (splitR_good hs).2 _ (lastS_mem zs)
            by_cases h4 : (stepR (T (parR T (splitR s).1)) (lastS (splitR s).1)).2 = 0
            · rw [if_pos h4]
              have hth : There T s := ⟨hs, zs, h2, h4⟩
              by_cases h5 : (stepR (T (parR T (splitR s).1)) (lastS (splitR s).1)).1 = lastI (wayR T 1 (splitR p).1).1
              · rw [if_pos h5]; exact .inl ⟨_, fun _ => hth, rfl⟩
              · rw [if_neg h5]
                by_cases h6 : mayR (T (lastI (wayR T 1 (splitR p).1).1)) (T (stepR (T (parR T (splitR s).1)) (lastS (splitR s).1)).1) = 0
                · rw [if_neg (fun h => h h6)]
                  obtain ⟨db', hdb', hm⟩ := (step_nm hI.ok).2 ⟨h4, rfl⟩
                  obtain rfl : db = db' := Nd.dir.inj (Option.some.inj (u3.symm.trans hdb'))
                  refine .inr (.inl ⟨hth, _, _, _, _, da, db, hg, u3, hm, hval, h5, ?_, by rw [overR_is u3]⟩)
                  have hl := (Inv.live hI ⟨db, u3, hm⟩).2
                  have hgl := (Inv.live hI ⟨da, hg.dir, hg.mem⟩).2
                  revert h6 hl
                  rcases T (stepR (T (parR T (splitR s).1)) (lastS (splitR s).1)).1 with _ | (⟨bo, no⟩ | lo)
                  · intro _ h; exact absurd rfl h
                  · intro _ _; exact .inl ⟨bo, no, rfl⟩
                  · intro h6 _
                    revert h6 hgl
                    rcases T (lastI (wayR T 1 (splitR p).1).1) with _ | (⟨bi, ni⟩ | li)
                    · intro h; exact absurd rfl h
                    · intro _ h6; exact absurd (show (35 : Int) = 0 from h6) (by decide)
                    · intro _ h6
                      rw [mayR_dir] at h6
                      have e0 : (dirR (some (Nd.dir lo))) = (lo, 0) := rfl
                      rw [e0, if_pos rfl] at h6
                      rcases Nat.eq_zero_or_pos lo.length with h | h
                      · rw [List.eq_nil_of_length_eq_zero h]; exact .inr rfl
                      · rw [if_pos h] at h6; exact absurd h6 (by decide)
                · rw [if_pos h6]; exact .inl ⟨_, fun e => absurd e h6, rfl⟩
            · rw [if_neg h4]
              rw [u3, show dirL (some (Nd.dir db)) = db from rfl]
              by_cases h5 : parR T (splitR p).1 ≠ parR T (splitR s).1 ∧ 64 ≤ db.length
              · rw [if_pos h5]; exact .inl ⟨_, fun e => absurd e (by decide), rfl⟩
              · rw [if_neg h5]
                have hto : Plc T (splitR s).1 (parR T (splitR s).1) db := ⟨zs, u1, rfl, u3, (no_step hI.ok u3).1 h4, hval⟩
                have hmv : Mv T (splitR p).1 (splitR s).1 (lastI (wayR T 1 (splitR p).1).1) (parR T (splitR p).1) (parR T (splitR s).1) da db :=
                  ⟨hg, hto, fun hd hin => h3 ⟨hd, by rw [u2]; exact hin⟩, fun hne => by omega⟩
                unfold tryR
                by_cases h7 : q < usedT (moveR T (splitR p).1 (splitR s).1 (lastI (wayR T 1 (splitR p).1).1) (parR T (splitR p).1) (parR T (splitR s).1))
                · rw [if_pos h7]; exact .inl ⟨_, fun e => absurd e (by decide), rfl⟩
                · rw [if_neg h7]
                  exact .inr (.inr ⟨hp, hs, _, _, _, da, db, hmv, by omega, rfl⟩)
        · rw [if_pos h2]; exact .inl ⟨_, fun e => absurd e h2, rfl⟩
      · rw [if_pos h1]; exact .inl ⟨_, fun e => absurd e h1, rfl⟩
  · rw [if_pos h0]; exact .inl ⟨_, fun e => absurd e h0, rfl⟩
end Go.Proofs.YtcmcmkfoihlniaaDoor.MM
end
