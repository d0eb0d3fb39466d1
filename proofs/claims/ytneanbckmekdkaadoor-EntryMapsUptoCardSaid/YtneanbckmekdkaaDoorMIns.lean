import Derived.Test.YtneanbckmekdkaaDoorMWk
import Derived.WalkSpells
import Derived.Lib.SliceRun
import Derived.Lib.AppendZerosOnto
import Derived.Lib.Overlaps
import Derived.Test.YtneanbckmekdkaaDoorMFind
section
/- slices.Clone over entries; entry.Set where it does it. -/
namespace Go.Proofs.YtneanbckmekdkaaDoor.EN
open Go Go.RowKit Go.Proofs.YtneanbckmekdkaaDoorX Go.Proofs.YtneanbckmekdkaaDoor.NM Go.Proofs.YtneanbckmekdkaaDoorW.PrintWords Go.Proofs.YtneanbckmekdkaaDoorW.PrintLast Go.Proofs.YtneanbckmekdkaaDoorW.PrintMore Go.Proofs.YtneanbckmekdkaaDoor.PEntryForms
set_option linter.unusedVariables false
set_option linter.unusedSimpArgs false
set_option maxHeartbeats 1000000 in
theorem clone_any (A : Option Addr) (c : Nat) (l : List S42) (w : World) (hr : Row w A l) (hl : l.length ≤ 5864062014700) :
    Calls Tryd.prog 37 #[.slice A l.length c] w fun e w' => ∃ v, e = .returned v ∧ w'.ownsRow w.heap.size 42 2 v l.length (rowsE l) ∧ Below w.heap.size w w' := by
  have HR := Aside0.mk hr
  have HL := Aside0.mk hl
  clear hl
  cases A with
  | none =>
    have h0 : l = [] := by
      rcases Nat.eq_zero_or_pos l.length with h | h
      · exact List.eq_nil_of_length_eq_zero h
      · obtain ⟨ad, e, _⟩ := hr.at_ h; cases e
    subst h0
    clear hr HL HR
    have hq := Lib.run_eql_slice_nil (P := Tryd.prog) w 22 42 none 0 c 0 0 Tryd.underlying22
    go_enter Tryd.func37, Tryd.ntmps37
    go_wp2
    go_ret
    exact ⟨_, rfl, own_nil _ _ _ _, Below.refl _ _⟩
  | some ad =>
    clear hr
    have hq := Lib.run_eql_slice_nil (P := Tryd.prog) w 22 42 (some ad) l.length c 0 0 Tryd.underlying22
    go_enter Tryd.func37, Tryd.ntmps37
    go_wp2_with (at_builtin; (with_reducible refine gate_dst (N := 7) rfl ?_); refine ev_append_ents rfl (.tmp 5) (.tmp 6) rfl w.heap.size (.slice (some ⟨w.heap.size, 0, none⟩) 0 0) [] l (some ad) c (by kernel_rfl) (by kernel_rfl) (row_own_new w [] (by decide)) (HR.out.below (below_alloc (Below.refl _ _) _)) (by simp) (by have := HL.out; simp; omega) ?_; intro v1 w1 ho hg; rw [List.nil_append] at ho; have HO := Aside0.mk ho; have HB := Aside0.mk ((below_alloc (Below.refl w.heap.size w) (.cells #[] 42)).grown hg (by simp) (fun k e => by simp [Value.ownBlock] at e; omega)); clear ho hg)
    go_ret
    exact ⟨_, rfl, HO.out, HB.out⟩
theorem rowsE_set (x : Int) (s : ByteArray) : ∀ (l : List S42) (i : Nat), i < l.length → nameAt l i = s → rowsE (l.set i ⟨x, s⟩) = (rowsE l).set (i * 2) (.int .i64 x)
  | y :: l, 0, h, hn => by
    have e : y.f1 = s := hn
    simp [rowsE, e]
  | y :: l, i + 1, h, hn => by
    have hl : i < l.length := by simpa using h
    have e2 : nameAt (y :: l) (i + 1) = nameAt l i := by
      have a := (at_get (l := y :: l) (i := i + 1) h).2
      rw [a, (at_get hl).2]; rfl
    have ih := rowsE_set x s l i hl (e2 ▸ hn)
    have c1 : rowsE (y :: l) = Value.int .i64 y.f0 :: Value.string y.f1 :: rowsE l := by simp [rowsE]
    have c2 : rowsE ((y :: l).set (i + 1) ⟨x, s⟩) = Value.int .i64 y.f0 :: Value.string y.f1 :: rowsE (l.set i ⟨x, s⟩) := by simp [rowsE]
    rw [c1, c2, ih, show (i + 1) * 2 = i * 2 + 1 + 1 by omega, List.set_cons_succ, List.set_cons_succ]
theorem own_form {W : World} {base : Nat} {v : Value} {l : List S42} (h : W.ownsRow base 42 2 v l.length (rowsE l)) (h0 : 0 < l.length) : ∃ g cap cur, v = .slice (some ⟨g, 0, none⟩) l.length cap ∧ base ≤ g ∧ W.heap[g]? = some (.cells cur 42 (0, 0)) ∧ l.length ≤ cap ∧ cap ≤ maxLen ∧ cur.size = cap * 2 ∧ cur.toList.take (l.length * 2) = rowsE l := by
  rcases h.2 with ⟨_, hn⟩ | ⟨g, cap, cur, rfl, hb, hh, hn, hm, hs, ht⟩
  · omega
  · exact ⟨g, cap, cur, rfl, hb, hh, hn, hm, hs, by simpa using ht⟩
theorem own_of {W : World} {base g cap : Nat} {cur : List Value} {l : List S42} (hb : base ≤ g) (hh : W.heap[g]? = some (.cells cur.toArray 42 (0, 0))) (hn : l.length ≤ cap) (hm : cap ≤ maxLen) (hs : cur.length = cap * 2) (ht : cur.take (l.length * 2) = rowsE l) : W.ownsRow base 42 2 (.slice (some ⟨g, 0, none⟩) l.length cap) l.length (rowsE l) :=
  ⟨rowsE_length l, .inr ⟨g, cap, cur.toArray, rfl, hb, hh, hn, hm, by simpa using hs, by simpa using ht⟩⟩
theorem list_set {L : List Value} {off : Nat} {v : Value} (h : off < L.length) : L.take off ++ [v] ++ L.drop (off + 1) = L.set off v := by
  rw [List.set_eq_take_append_cons_drop, if_pos h]; simp
end Go.Proofs.YtneanbckmekdkaaDoor.EN

end

section
/- entry.Set where it does it: the walk. -/
namespace Go.Proofs.YtneanbckmekdkaaDoor.EN
open Go Go.RowKit Go.Proofs.YtneanbckmekdkaaDoorX Go.Proofs.YtneanbckmekdkaaDoor.NM Go.Proofs.YtneanbckmekdkaaDoorW.PrintWords Go.Proofs.YtneanbckmekdkaaDoorW.PrintLast Go.Proofs.YtneanbckmekdkaaDoorW.PrintMore Go.Proofs.YtneanbckmekdkaaDoor.PEntryForms
set_option linter.unusedVariables false
set_option linter.unusedSimpArgs false
theorem sizeInt : (Tryd.prog.info? 3).map (·.size) = some 1 := by kernel_rfl
set_option maxHeartbeats 4000000 in
set_option maxRecDepth 100000 in
theorem set_yes (A : Option Addr) (c : Nat) (l : List S42) (nm : ByteArray) (x : Int) (w : World) (hr : Row w A l) (hz : ∀ x ∈ l, x.f1.size ≤ 17592186044416) (hn : nm.size ≤ 17592186044416) (hT : Lib.Utf8Tabs 1 2 w) (HM : Aside0 (mayE l = true)) (HI : Aside0 (okIno x = true)) (HE : Aside0 (isE l nm = true)) :
    Calls Tryd.prog 21 #[.slice A l.length c, .string nm, .int .i64 x] w fun e w' => ∃ v, e = .returned (.tuple #[v, .int .i64 (inoAt l (atE l nm)), .int .i64 0]) ∧ w'.ownsRow w.heap.size 42 2 v l.length (rowsE (l.set (atE l nm) ⟨x, nameAt l (atE l nm)⟩)) ∧ Below w.heap.size w w' := by
  have HR0 := Aside0.mk hr
  have hl64 := ((mayE_iff l).1 HM.out).1
  have HZ := Aside0.mk hz
  have HN := Aside0.mk hn
  have HT := Aside0.mk hT
  obtain ⟨J, HAT⟩ : ∃ J, Aside0 (atE l nm = J) := ⟨_, ⟨rfl⟩⟩
  rw [HAT.out]
  have hj : J < l.length := by
    have h := HE.out
    unfold isE at h
    rw [HAT.out, Bool.and_eq_true] at h
    exact of_decide_eq_true h.1
  obtain ⟨ad, rfl, _⟩ := hr.at_ hj
  have HR := Aside0.mk hr
  have HJ := Aside0.mk hj
  have HL := Aside0.mk (show l.length ≤ 9223372036854775807 by omega)
  have HL2 := Aside0.mk (show l.length ≤ 5864062014700 by omega)
  have HL0 := Aside0.mk (show 0 < l.length by omega)
  have j0 : (0 : Int) ≤ (J : Int) := Int.natCast_nonneg _
  have j1 : (J : Int) < (l.length : Int) := by omega
  obtain ⟨s, hs⟩ : ∃ s, nameAt l J = s := ⟨_, rfl⟩
  obtain ⟨ino, hino⟩ : ∃ q, inoAt l J = q := ⟨_, rfl⟩
  rw [hs, hino]
  have HS := Aside0.mk hs
  have HINO := Aside0.mk hino
  clear hr hz hn hT hl64 hj hs hino HR0
  go_enter Tryd.func21, Tryd.ntmps21
  go_wp2_with (first
    | (have hz := HB4.out; clear hz; (with_reducible refine gate_store (t := 3) (p := 34) (v := .tmp 32) rfl ?_); refine ev_store (by rfl) 3 (.tmp 34) (.tmp 32) (by rfl) g (J * 2) cur.toList [.int .i64 x] (.int .i64 x) (by kernel_rfl) (by kernel_rfl) (by rfl) 42 BG.out sizeInt (by have := CS.out; have := CN.out; have := HJ.out; simp only [List.length_cons, List.length_nil]; omega) (by simp [Value.oneCell']) ?_; intro w5 hbox hg; rw [show [Value.int .i64 x].length = 1 from rfl, list_set (by have := CS.out; have := CN.out; have := HJ.out; omega)] at hbox; have HO5 := Aside0.mk (own_of (l := l.set J ⟨x, s⟩) (base := w.heap.size) GE.out hbox (by rw [List.length_set]; exact CN.out) CM.out (by rw [List.length_set]; exact CS.out) (by rw [List.length_set, List.take_set, CT.out, rowsE_set x s l J HJ.out HS.out])); have HB5 := Aside0.mk (HB4.out.grown hg HB4.out.size (fun k e => by cases e; exact GE.out)); have HR5 := Aside0.mk (((HR.out.below HB3.out).below (HB34.out.grown hg HB34.out.size (fun k e => by cases e; exact GN.out)))); clear hbox hg)
    | (have hz := HB3.out; clear hz; go_at_call 37; refine (clone_any (some ad) c l w3 (HR.out.below HB3.out) HL2.out).mono ?_; rintro e w4 ⟨v, rfl, ho, hb⟩; obtain ⟨g, cap, cur, rfl, hg, hh, hn, hm, hs, ht⟩ := own_form ho HL0.out; have HB4 := Aside0.mk (below_step HB3.out hb); have HB34 := Aside0.mk hb; have GE := Aside0.mk (show w.heap.size ≤ g from Nat.le_trans HB3.out.size hg); have BG := Aside0.mk (show w4.heap[g]? = some (.cells cur.toList.toArray 42 (0, 0)) from by simpa using hh); have CN := Aside0.mk hn; have CM := Aside0.mk hm; have CS := Aside0.mk (show cur.toList.length = cap * 2 from by simpa using hs); have CT := Aside0.mk ht; have GN := Aside0.mk (show w3.heap.size ≤ g from hg); clear ho hb hg hh hn hm hs ht)
    | (have hz := HB2.out; clear hz; go_at_call 18; refine (find_any (some ad) c l nm w2 (HR.out.below HB2.out) HL.out HZ.out HN.out).mono ?_; rw [HE.out, HAT.out]; rintro e w3 ⟨rfl, hb⟩; have HB3 := Aside0.mk (below_step HB2.out hb); clear hb)
    | (have hz := HB1.out; clear hz; go_at_call 29; refine (may_call x w1).mono ?_; rw [HI.out]; rintro e w2 ⟨rfl, hb⟩; have HB2 := Aside0.mk (below_step HB1.out hb); clear hb)
    | (go_at_call 15; refine (may_any w (some ad) c l HR.out HT.out).mono ?_; rw [HM.out]; rintro e w1 ⟨rfl, hb⟩; have HB1 := Aside0.mk hb; clear hb))
  obtain ⟨ad', e', k5, _⟩ := HR5.out.at_ HJ.out
  cases e'
  rw [HINO.out] at k5
  have K5 := Aside0.mk k5
  clear k5
  refine wp_region_held_drew (S := fun W => Below w5.heap.size w5 W) (by kernel_rfl) (below_drew (Below.refl w5.heap.size w5)) (fun hHeld => ?_)
  refine wpAnyH_take (i := 0) (oi := ⟨some 35, _, _, _, _, _⟩) (v := (.slice (some ⟨g, 0, none⟩) l.length cap)) rfl (by kernel_rfl) (by kernel_rfl) (by kernel_rfl) (fun _ _ _ h => h) (Or.inl ⟨by rfl, fun W hS => by go_simp⟩) hHeld ?_
  (try simp only [Act.put, List.setIfInBounds_toArray, List.set_cons_zero, List.set_cons_succ])
  refine wpAnyH_take (i := 1) (oi := ⟨some 36, _, _, _, _, _⟩) (v := (.slice (some ad) l.length c)) rfl (by kernel_rfl) (by kernel_rfl) (by kernel_rfl) (fun _ _ _ h => h) (Or.inl ⟨by rfl, fun W hS => by go_simp⟩) hHeld ?_
  (try simp only [Act.put, List.setIfInBounds_toArray, List.set_cons_zero, List.set_cons_succ])
  refine wpAnyH_take (i := 2) (oi := ⟨some 37, _, _, _, _, _⟩) (v := (.int .i64 (J : Int))) rfl (by kernel_rfl) (by kernel_rfl) (by kernel_rfl) (fun _ _ _ h => h) (Or.inl ⟨by rfl, fun W hS => by go_simp⟩) hHeld ?_
  (try simp only [Act.put, List.setIfInBounds_toArray, List.set_cons_zero, List.set_cons_succ])
  refine wpAnyH_take (i := 3) (oi := ⟨some 38, _, _, _, _, _⟩) (v := (.pointer (some (ad.add (J * 2))))) rfl (by kernel_rfl) (by kernel_rfl) (by kernel_rfl) (fun _ _ _ h => h) (Or.inl ⟨by rfl, fun W hS => by go_simp⟩) hHeld ?_
  (try simp only [Act.put, List.setIfInBounds_toArray, List.set_cons_zero, List.set_cons_succ])
  refine wpAnyH_take (i := 4) (oi := ⟨some 39, _, _, _, _, _⟩) (v := (.pointer (some (ad.add (J * 2))))) rfl (by kernel_rfl) (by kernel_rfl) (by kernel_rfl) (fun _ _ _ h => h) (Or.inl ⟨by rfl, fun W hS => by go_simp⟩) hHeld ?_
  (try simp only [Act.put, List.setIfInBounds_toArray, List.set_cons_zero, List.set_cons_succ])
  refine wpAnyH_take (i := 5) (oi := ⟨some 40, _, _, _, _, _⟩) (v := (.int .i64 ino)) rfl (by kernel_rfl) (by kernel_rfl) (by kernel_rfl) (fun _ _ _ h => h) (Or.inl ⟨by rfl, fun W hS => by have cc := pw_cell_below hS K5.out; go_simp⟩) hHeld ?_
  (try simp only [Act.put, List.setIfInBounds_toArray, List.set_cons_zero, List.set_cons_succ])
  refine wpAnyH_take (i := 6) (oi := ⟨some 6, _, _, _, _, _⟩) (v := (.slice (some ⟨g, 0, none⟩) l.length cap)) rfl (by kernel_rfl) (by kernel_rfl) (by kernel_rfl) (fun _ _ _ h => h) (Or.inl ⟨by rfl, fun W hS => by go_simp⟩) hHeld ?_
  (try simp only [Act.put, List.setIfInBounds_toArray, List.set_cons_zero, List.set_cons_succ])
  refine wpAnyH_take (i := 7) (oi := ⟨some 7, _, _, _, _, _⟩) (v := (.int .i64 ino)) rfl (by kernel_rfl) (by kernel_rfl) (by kernel_rfl) (fun _ _ _ h => h) (Or.inl ⟨by rfl, fun W hS => by go_simp⟩) hHeld ?_
  (try simp only [Act.put, List.setIfInBounds_toArray, List.set_cons_zero, List.set_cons_succ])
  refine wpAnyH_take (i := 8) (oi := ⟨some 8, _, _, _, _, _⟩) (v := (.int .i64 0)) rfl (by kernel_rfl) (by kernel_rfl) (by kernel_rfl) (fun _ _ _ h => h) (Or.inl ⟨by rfl, fun W hS => by go_simp⟩) hHeld ?_
  (try simp only [Act.put, List.setIfInBounds_toArray, List.set_cons_zero, List.set_cons_succ])
  refine wpAnyH_done (by kernel_rfl) ?_ _
  have HF := Aside0.mk (below_step HB5.out hHeld)
  have HOF := Aside0.mk (pw_own_below HO5.out hHeld)
  clear hHeld
  (try simp only [Exit.then])
  go_wp2
  refine bodyPost_ret (results_tmp3 rfl _ _ _) rfl ?_
  exact ⟨_, rfl, by have := HOF.out; rw [List.length_set] at this; exact this, HF.out⟩
end Go.Proofs.YtneanbckmekdkaaDoor.EN

end

section
/- slices.Delete over entries, one of them: the walk. -/
namespace Go.Proofs.YtneanbckmekdkaaDoor.EN
open Go Go.RowKit Go.Proofs.YtneanbckmekdkaaDoorX Go.Proofs.YtneanbckmekdkaaDoor.NM Go.Proofs.YtneanbckmekdkaaDoorW.PrintWords Go.Proofs.YtneanbckmekdkaaDoorW.PrintLast Go.Proofs.YtneanbckmekdkaaDoorW.PrintMore Go.Proofs.YtneanbckmekdkaaDoor.PEntryForms
set_option linter.unusedVariables false
set_option linter.unusedSimpArgs false
theorem reps_cells {w : World} {base : Nat} {ok : Nat → Prop} : ∀ {l : List S42} {inner : List Value}, Reps (k42.M w base ok) 2 l inner → inner = rowsE l
  | [], inner, h => by
    have := h.1
    simp at this
    rw [this]; rfl
  | x :: l, inner, h => by
    have h0 := k42_openM (h.2 0 x rfl)
    have hl := h.1
    rw [Nat.zero_mul, List.drop_zero] at h0
    have ih := reps_cells (l := l) (inner := inner.drop 2) (w := w) (base := base) (ok := ok) ⟨by rw [List.length_drop, hl, List.length_cons]; omega, fun j p hj => by
      have := h.2 (j + 1) p (by simpa using hj)
      rw [List.drop_drop, show 2 + j * 2 = (j + 1) * 2 by omega]
      exact this⟩
    have hc : rowsE (x :: l) = Value.int .i64 x.f0 :: Value.string x.f1 :: rowsE l := by simp [rowsE]
    rw [hc, ← ih, ← List.take_append_drop 2 inner, h0]
    simp
theorem reps_mk {w : World} {base : Nat} {ok : Nat → Prop} (l : List S42) : Reps (k42.M w base ok) 2 l (rowsE l) := (rowsE_reps l).imp_ fun p c h => h ▸ k42_mkM w base ok p
theorem R_of_own {W : World} {base : Nat} {v : Value} {l : List S42} (h : W.ownsRow base 42 2 v l.length (rowsE l)) : k42.R 42 W base (fun _ => True) v l := ⟨fun _ _ => trivial, rowsE l, h, reps_mk l⟩
theorem own_of_R {W : World} {base : Nat} {v : Value} {l : List S42} {ok : Nat → Prop} (h : k42.R 42 W base ok v l) : W.ownsRow base 42 2 v l.length (rowsE l) := by
  obtain ⟨_, inner, ho, hr⟩ := h
  rw [reps_cells hr] at ho
  exact ho
section
variable {o : Oper} {a : Act} {K : Act → World → Prop} {Q : Exit → Act → World → Prop}
theorem wp_delete_ents (s x : Operand) (ho : o.op = .call { callee := .builtin .append, args := #[s, x], argTypes := #[22, 22] }) {W : World} (base g n c k : Nat) (A : Option Addr) (c2 : Nat) (l : List S42) (hs : a.eval s = .slice (some ⟨g, 0, none⟩) k c) (hx : a.eval x = .slice A (n - (k + 1)) c2)
    (hA : A = if c = k + 1 then some ⟨g, 0, none⟩ else (some (⟨g, 0, none⟩ : Addr)).map (·.add ((k + 1) * 2))) (hn : l.length = n) (hk : k < n) (HO : W.ownsRow base 42 2 (.slice (some ⟨g, 0, none⟩) n c) l.length (rowsE l))
    (h : ∀ w1, w1.ownsRow base 42 2 (.slice (some ⟨g, 0, none⟩) (n - 1) c) (l.eraseIdx k).length (rowsE (l.eraseIdx k)) → W.grownBy w1 (some g) → K (a.put o.dst (.slice (some ⟨g, 0, none⟩) (n - 1) c)) w1) : o.wp Tryd.prog a W K Q := by
  obtain ⟨i0, hi, hsz⟩ := Option.map_eq_some_iff.1 (show (Tryd.prog.info? 42).map (·.size) = some k42.sz by kernel_rfl)
  obtain ⟨w1, hr, h1, h2⟩ := Kd.R_delete_run (P := Tryd.prog) k42 base 22 o.type 42 i0 Tryd.underlying22 hi hsz (R_of_own HO) hk hA c2
  unfold Oper.wp execOp
  simp only [ho, resolve, invoke, builtin, Sem.run_bind, Sem.run_pure, Result.andThen_ok, List.map_toArray, List.map_cons, List.map_nil, hs, hx, hr]
  exact h w1 (own_of_R h1) h2
end
theorem own_form2 {W : World} {base g n cap : Nat} {l : List S42} (h : W.ownsRow base 42 2 (.slice (some ⟨g, 0, none⟩) n cap) l.length (rowsE l)) : base ≤ g ∧ ∃ cur : List Value, W.heap[g]? = some (.cells cur.toArray 42 (0, 0)) ∧ l.length ≤ cap ∧ cap ≤ maxLen ∧ cur.length = cap * 2 ∧ cur.take (l.length * 2) = rowsE l := by
  rcases h.2 with ⟨he, _⟩ | ⟨g', cap', cur, he, hb, hh, hn, hm, hs, ht⟩
  · cases he
  · cases he
    exact ⟨hb, cur.toList, by simpa using hh, hn, hm, by simpa using hs, by simpa using ht⟩
theorem run_clear_one (W : World) (ty g o c : Nat) (cur : List Value) (hg : W.heap[g]? = some (.cells cur.toArray 42 (0, 0))) (hfit : o + 2 ≤ cur.length) :
    (Builtin.clear_ #[22] ty #[.slice (some ⟨g, o, none⟩) 1 c]).run Tryd.prog W = .ok (.tuple #[]) (W.setRow g (cur.take o ++ [Value.int .i64 0, Value.string ⟨#[]⟩] ++ cur.drop (o + 2)).toArray) := by
  have hst := run_storeCells_at (P := Tryd.prog) g o 42 [Value.int .i64 0, Value.string ⟨#[]⟩] 0 cur.toArray W hg (by simpa using hfit) (by simp [Value.oneCell'])
  simp only [Nat.add_zero, List.length_cons, List.length_nil, Nat.zero_add, Nat.reduceAdd] at hst
  have hz : ∀ w : World, (zeroValue 42).run Tryd.prog w = .ok (.agg #[.int .i64 0, .string ⟨#[]⟩]) w := fun w => by go_simp
  have hzc : (Builtin.zeroCells (Value.agg #[.int .i64 0, .string ⟨#[]⟩]).cells 1).toList = [Value.int .i64 0, Value.string ⟨#[]⟩] := by kernel_rfl
  simp [Builtin.clear_, run_underlying Tryd.underlying22, hz, hzc, hst]
theorem ev_clear_one {P : Unit} {ops : Array Oper} {rest : List Oper} {o : Oper} {a : Act} {W : World} {Q : Exit → Act → World → Prop} (hgd : o.guard = none) (s : Operand) (ho : o.op = .call { callee := .builtin .clear, args := #[s], argTypes := #[22] }) (g off c : Nat) (cur : List Value) (hs : a.eval s = .slice (some ⟨g, off, none⟩) 1 c)
    (hg : W.heap[g]? = some (.cells cur.toArray 42 (0, 0))) (hfit : off + 2 ≤ cur.length)
    (h : ∀ w1, w1.heap[g]? = some (.cells (cur.take off ++ [Value.int .i64 0, Value.string ⟨#[]⟩] ++ cur.drop (off + 2)).toArray 42 (0, 0)) → W.grownBy w1 (some g) → wpList Tryd.prog ops Q rest (a.put o.dst (.tuple #[])) w1) : wpList Tryd.prog ops Q (o :: rest) a W := by
  have hr := run_clear_one W o.type g off c cur hg hfit
  refine wpList_plain hgd fun K hK => ?_
  unfold Oper.wp execOp
  simp only [ho, resolve, invoke, builtin, Sem.run_bind, Sem.run_pure, Result.andThen_ok, List.map_toArray, List.map_cons, List.map_nil, hs, hr]
  exact hK _ _ (h _ (setRow_heap W g cur.toArray _ 42 (0, 0) hg) (grown_setRow W g _))
set_option maxHeartbeats 4000000 in
set_option maxRecDepth 100000 in
theorem delete_any (base g n cap k : Nat) (l : List S42) (w : World) (ho : w.ownsRow base 42 2 (.slice (some ⟨g, 0, none⟩) n cap) l.length (rowsE l)) (hn : l.length = n) (hk : k < n) (hn64 : n ≤ 5864062014700) :
    Calls Tryd.prog 38 #[.slice (some ⟨g, 0, none⟩) n cap, .int .i64 (k : Int), .int .i64 ((k + 1 : Nat) : Int)] w fun e w' => e = .returned (.slice (some ⟨g, 0, none⟩) (n - 1) cap) ∧ w'.ownsRow base 42 2 (.slice (some ⟨g, 0, none⟩) (n - 1) cap) (n - 1) (rowsE (l.eraseIdx k)) ∧ w.grownBy w' (some g) := by
  have HO := Aside0.mk ho
  have HLN := Aside0.mk hn
  have HKN := Aside0.mk hk
  have HCAP := Aside0.mk (own_cap (show w.ownsRow base 42 2 (.slice (some ⟨g, 0, none⟩) n cap) n (rowsE l) from hn ▸ ho))
  obtain ⟨k1, hk1⟩ : ∃ q, q = k + 1 := ⟨_, rfl⟩
  obtain ⟨n1, hn1⟩ : ∃ q, n - 1 = q := ⟨_, rfl⟩
  obtain ⟨n2, hn2⟩ : ∃ q, n - (k + 1) = q := ⟨_, rfl⟩
  obtain ⟨c2, hc2⟩ : ∃ q, cap - (k + 1) = q := ⟨_, rfl⟩
  obtain ⟨A2, hA2⟩ : ∃ q, q = (if cap = k + 1 then some ⟨g, 0, none⟩ else (some (⟨g, 0, none⟩ : Addr)).map (·.add ((k + 1) * 2))) := ⟨_, rfl⟩
  rw [hn1, ← hk1]
  have HE := Aside0.mk (And.intro hk1 hn1)
  have hcapn := HCAP.out
  have hcut : ∀ W : World, (Instr.slice 22 (.slice (some ⟨g, 0, none⟩) n cap) (some (.int .i64 (k1 : Int))) none none).run Tryd.prog W = .ok (.slice A2 n2 c2) W := by
    intro W
    obtain ⟨i, hi, hsz⟩ := Option.map_eq_some_iff.1 (show (Tryd.prog.info? 42).map (·.size) = some 2 by kernel_rfl)
    have hel : Tryd.prog.elem 22 = 42 := by simp [Program.elem, Tryd.underlying22]
    have hu : Tryd.prog.underlying 22 = some (.slice (Tryd.prog.elem 22)) := by rw [hel]; exact Tryd.underlying22
    rw [run_slice_l W 22 _ n cap hu .i64 (k1 : Int) (by omega) (by omega), hel]
    have h1 : ((k1 : Int)).toNat = k + 1 := by omega
    simp only [sizeOf, typeInfo, hi, hsz, sliced, Result.andThen, Sem.run_bind, h1]
    rw [hA2, ← hn2, ← hc2]
    simp [hi, hsz, Result.andThen]
  have HCUT := Aside0.mk hcut
  obtain ⟨c3, hc3⟩ : ∃ q, cap - n1 = q := ⟨_, rfl⟩
  have hcut2 : ∀ W : World, (Instr.slice 22 (.slice (some ⟨g, 0, none⟩) n1 cap) (some (.int .i64 (n1 : Int))) (some (.int .i64 (n : Int))) none).run Tryd.prog W = .ok (.slice (some ⟨g, n1 * 2, none⟩) 1 c3) W := by
    intro W
    obtain ⟨i, hi, hsz⟩ := Option.map_eq_some_iff.1 (show (Tryd.prog.info? 42).map (·.size) = some 2 by kernel_rfl)
    have hel : Tryd.prog.elem 22 = 42 := by simp [Program.elem, Tryd.underlying22]
    have hu : Tryd.prog.underlying 22 = some (.slice (Tryd.prog.elem 22)) := by rw [hel]; exact Tryd.underlying22
    rw [run_slice_lh W 22 _ n1 cap hu .i64 .i64 (n1 : Int) (n : Int) (by omega) (by omega) (by omega), hel]
    have h1 : ¬ cap = n1 := by omega
    have h2 : n - n1 = 1 := by omega
    have h3 : (⟨g, 0, none⟩ : Addr).add (n1 * 2) = ⟨g, n1 * 2, none⟩ := add_plain _ _
    simp [sizeOf, typeInfo, hi, hsz, sliced, Result.andThen, h1, h2, h3, hc3]
  have HC2 := Aside0.mk hcut2
  have HN2 := Aside0.mk (show n - (k + 1) = n2 ∧ A2 = (if cap = k + 1 then some ⟨g, 0, none⟩ else (some (⟨g, 0, none⟩ : Addr)).map (·.add ((k + 1) * 2))) ∧ n1 = n - 1 from ⟨hn2, hA2, hn1.symm⟩)
  have z0 : (0 : Int) ≤ (k : Int) := Int.natCast_nonneg _
  have z1 : (k : Int) ≤ (k1 : Int) := by omega
  have z2 : (k1 : Int) ≤ (n : Int) := by omega
  have z3 : (n : Int) ≤ (cap : Int) := by omega
  have z4 : (k : Int) ≤ (cap : Int) := by omega
  have z5 : ((k : Int) == (k1 : Int)) = false := beq_eq_false_iff_ne.2 (by omega)
  have z5b : ¬ ((k : Int) = (k1 : Int)) := by omega
  have z5c : ¬ (k = k1) := by omega
  have z6 : (n1 : Int) ≤ (n : Int) := by omega
  have z7 : (0 : Int) ≤ (n1 : Int) := Int.natCast_nonneg _
  clear ho hn hk hk1 hn1 hn2 hc2 hA2 hcut hcapn hc3 hcut2
  go_enter Tryd.func38, Tryd.ntmps38
  go_wp2
  have HOD := Aside0.mk (show w.drew.ownsRow base 42 2 (.slice (some ⟨g, 0, none⟩) n cap) l.length (rowsE l) from HO.out)
  refine wp_region_held_drew (S := fun W => w.grownBy W (some g)) (by kernel_rfl) (grown_of_below (below_drew (Below.refl w.heap.size w)) _) (fun hHeld => ?_)
  refine wpAnyH_take (i := 0) (oi := ⟨some 20, _, _, _, _, _⟩) (v := (.slice (some ⟨g, 0, none⟩) n cap)) rfl (by kernel_rfl) (by kernel_rfl) (by kernel_rfl) (fun _ _ _ h => h) (Or.inl ⟨by rfl, fun W hS => by go_simp⟩) hHeld ?_
  (try simp only [Act.put, List.setIfInBounds_toArray, List.set_cons_zero, List.set_cons_succ])
  refine wpAnyH_take (i := 1) (oi := ⟨some 21, _, _, _, _, _⟩) (v := (.int .i64 (k : Int))) rfl (by kernel_rfl) (by kernel_rfl) (by kernel_rfl) (fun _ _ _ h => h) (Or.inl ⟨by rfl, fun W hS => by go_simp⟩) hHeld ?_
  (try simp only [Act.put, List.setIfInBounds_toArray, List.set_cons_zero, List.set_cons_succ])
  refine wpAnyH_take (i := 2) (oi := ⟨some 22, _, _, _, _, _⟩) (v := (.slice (some ⟨g, 0, none⟩) k cap)) rfl (by kernel_rfl) (by kernel_rfl) (by kernel_rfl) (fun _ _ _ h => h) (Or.inl ⟨by rfl, fun W hS => by go_simp⟩) hHeld ?_
  (try simp only [Act.put, List.setIfInBounds_toArray, List.set_cons_zero, List.set_cons_succ])
  refine wpAnyH_take (i := 3) (oi := ⟨some 23, _, _, _, _, _⟩) (v := (.slice (some ⟨g, 0, none⟩) n cap)) rfl (by kernel_rfl) (by kernel_rfl) (by kernel_rfl) (fun _ _ _ h => h) (Or.inl ⟨by rfl, fun W hS => by go_simp⟩) hHeld ?_
  (try simp only [Act.put, List.setIfInBounds_toArray, List.set_cons_zero, List.set_cons_succ])
  refine wpAnyH_take (i := 4) (oi := ⟨some 24, _, _, _, _, _⟩) (v := (.int .i64 (k1 : Int))) rfl (by kernel_rfl) (by kernel_rfl) (by kernel_rfl) (fun _ _ _ h => h) (Or.inl ⟨by rfl, fun W hS => by go_simp⟩) hHeld ?_
  (try simp only [Act.put, List.setIfInBounds_toArray, List.set_cons_zero, List.set_cons_succ])
  refine wpAnyH_take (i := 5) (oi := ⟨some 25, _, _, _, _, _⟩) (v := (.slice A2 n2 c2)) rfl (by kernel_rfl) (by kernel_rfl) (by kernel_rfl) (fun _ _ _ h => h) (Or.inl ⟨by rfl, fun W hS => by have hcut := HCUT.out W; go_simp⟩) hHeld ?_
  (try simp only [Act.put, List.setIfInBounds_toArray, List.set_cons_zero, List.set_cons_succ])
  refine wpAnyH_ready (rs := [6]) (by kernel_rfl) (by simp) ?_
  refine AllReadyH.cons rfl (fun K hK => ?_) AllReadyH.nil
  refine wp_delete_ents (.tmp 22) (.tmp 25) rfl base g n cap k A2 c2 l (by kernel_rfl) (by rw [← HN2.out.1]; kernel_rfl) HN2.out.2.1 HLN.out HKN.out HOD.out (fun w1 ho hg => ?_)
  refine hK.out _ _ (hHeld.trans hg) (fun hH => ?_)
  rw [← HN2.out.2.2] at ho ⊢
  have HO1 := Aside0.mk ho
  clear hK K hHeld ho hg
  have hHeld := hH
  clear hH
  (try simp only [Act.put, List.setIfInBounds_toArray, List.set_cons_zero, List.set_cons_succ])
  refine wpAnyH_take (i := 7) (oi := ⟨some 0, _, _, _, _, _⟩) (v := (.slice (some ⟨g, 0, none⟩) n1 cap)) rfl (by kernel_rfl) (by kernel_rfl) (by kernel_rfl) (fun _ _ _ h => h) (Or.inl ⟨by rfl, fun W hS => by go_simp⟩) hHeld ?_
  (try simp only [Act.put, List.setIfInBounds_toArray, List.set_cons_zero, List.set_cons_succ])
  refine wpAnyH_done (by kernel_rfl) ?_ _
  (try simp only [Exit.then])
  have HG5 := Aside0.mk hHeld
  clear hHeld HCUT
  obtain ⟨gb, cur, hh, hnc, hcm, hcs, htk⟩ := own_form2 HO1.out
  have hlen1 : (l.eraseIdx k).length = n1 := by rw [List.length_eraseIdx, if_pos (by rw [HLN.out]; exact HKN.out), HLN.out]; exact HE.out.2
  have hcut2 := HC2.out
  obtain ⟨wz, hwz⟩ : ∃ W, w1 = W := ⟨_, rfl⟩
  have HH := Aside0.mk hh
  have HFC := Aside0.mk (show n1 * 2 + 2 ≤ cur.length by have := HE.out.2; have := HKN.out; have := HCAP.out; omega)
  have HTK := Aside0.mk htk
  have HCS := Aside0.mk hcs
  have HNC := Aside0.mk (show (l.eraseIdx k).length ≤ cap by rw [hlen1]; have := HE.out.2; have := HCAP.out; omega)
  have HCM := Aside0.mk hcm
  have HGB := Aside0.mk gb
  have HL1 := Aside0.mk hlen1
  clear hh hnc hcm hcs htk gb hlen1 hwz
  have hclr := run_clear_one w1 0 g (n1 * 2) c3 cur HH.out HFC.out
  obtain ⟨w2, hw2⟩ : ∃ W, w1.setRow g (cur.take (n1 * 2) ++ [Value.int .i64 0, Value.string ⟨#[]⟩] ++ cur.drop (n1 * 2 + 2)).toArray = W := ⟨_, rfl⟩
  have hbox : w2.heap[g]? = some (.cells (cur.take (n1 * 2) ++ [Value.int .i64 0, Value.string ⟨#[]⟩] ++ cur.drop (n1 * 2 + 2)).toArray 42 (0, 0)) := by rw [← hw2]; exact setRow_heap w1 g cur.toArray _ 42 (0, 0) HH.out
  have hg2 : w1.grownBy w2 (some g) := by rw [← hw2]; exact grown_setRow w1 g _
  rw [hw2] at hclr
  clear hw2
  have HO2 := Aside0.mk (own_of (l := l.eraseIdx k) (base := base) (cap := cap) HGB.out hbox HNC.out HCM.out (by have := HFC.out; have := HCS.out; simp only [List.length_append, List.length_take, List.length_drop, List.length_cons, List.length_nil]; omega) (by rw [← HTK.out, HL1.out, List.append_assoc, List.take_append_of_le_length (by rw [List.length_take]; have := HFC.out; omega), List.take_take, Nat.min_self]))
  have HG6 := Aside0.mk (HG5.out.trans hg2)
  clear hbox hg2
  go_wp2
  go_ret
  refine ⟨rfl, ?_, HG6.out⟩
  have := HO2.out
  rw [HL1.out] at this
  exact this
end Go.Proofs.YtneanbckmekdkaaDoor.EN

end

section
/- entry.Remove: the walk. -/
namespace Go.Proofs.YtneanbckmekdkaaDoor.EN
open Go Go.RowKit Go.Proofs.YtneanbckmekdkaaDoorX Go.Proofs.YtneanbckmekdkaaDoor.NM Go.Proofs.YtneanbckmekdkaaDoorW.PrintWords Go.Proofs.YtneanbckmekdkaaDoorW.PrintLast Go.Proofs.YtneanbckmekdkaaDoorW.PrintMore Go.Proofs.YtneanbckmekdkaaDoor.PEntryForms
set_option linter.unusedVariables false
set_option linter.unusedSimpArgs false
/-- Why a name may not be taken out. -/
def remErr (l : List S42) (nm : ByteArray) : Option Int := if mayE l = true then (if isE l nm = true then none else some 32) else some 1
set_option maxHeartbeats 2000000 in
theorem rem_may (A : Option Addr) (c : Nat) (l : List S42) (nm : ByteArray) (w : World) (hr : Row w A l) (hl : l.length ≤ 9223372036854775807) (hz : ∀ x ∈ l, x.f1.size ≤ 17592186044416) (hn : nm.size ≤ 17592186044416) (hT : Lib.Utf8Tabs 1 2 w) (HM : Aside0 (mayE l = false)) :
    Calls Tryd.prog 23 #[.slice A l.length c, .string nm] w fun e w' => e = .returned (.tuple #[.slice none 0 0, .int .i64 0, .int .i64 1]) ∧ Below w.heap.size w w' := by
  have HR := Aside0.mk hr
  have HL := Aside0.mk hl
  have HZ := Aside0.mk hz
  have HN := Aside0.mk hn
  have HT := Aside0.mk hT
  obtain ⟨J, HAT⟩ : ∃ J, Aside0 (atE l nm = J) := ⟨_, ⟨rfl⟩⟩
  clear hr hl hz hn hT
  go_enter Tryd.func23, Tryd.ntmps23
  go_wp2_with (first
    | (go_at_call 15; refine (may_any w A c l HR.out HT.out).mono ?_; rw [HM.out]; rintro e w2 ⟨rfl, hb⟩; have HB2 := Aside0.mk hb; clear hb))
  refine bodyPost_ret (results_tmp3 rfl _ _ _) rfl ?_
  exact ⟨rfl, HB2.out⟩
set_option maxHeartbeats 2000000 in
theorem rem_none (A : Option Addr) (c : Nat) (l : List S42) (nm : ByteArray) (w : World) (hr : Row w A l) (hl : l.length ≤ 9223372036854775807) (hz : ∀ x ∈ l, x.f1.size ≤ 17592186044416) (hn : nm.size ≤ 17592186044416) (hT : Lib.Utf8Tabs 1 2 w) (HM : Aside0 (mayE l = true)) (HE : Aside0 (isE l nm = false)) :
    Calls Tryd.prog 23 #[.slice A l.length c, .string nm] w fun e w' => e = .returned (.tuple #[.slice none 0 0, .int .i64 0, .int .i64 32]) ∧ Below w.heap.size w w' := by
  have HR := Aside0.mk hr
  have HL := Aside0.mk hl
  have HZ := Aside0.mk hz
  have HN := Aside0.mk hn
  have HT := Aside0.mk hT
  obtain ⟨J, HAT⟩ : ∃ J, Aside0 (atE l nm = J) := ⟨_, ⟨rfl⟩⟩
  clear hr hl hz hn hT
  go_enter Tryd.func23, Tryd.ntmps23
  go_wp2_with (first
    | (have hz := HB2.out; clear hz; go_at_call 18; refine (find_any A c l nm w2 (HR.out.below HB2.out) HL.out HZ.out HN.out).mono ?_; rw [HE.out, HAT.out]; rintro e w3 ⟨rfl, hb⟩; have HB3 := Aside0.mk (below_step HB2.out hb); clear hb)
    | (go_at_call 15; refine (may_any w A c l HR.out HT.out).mono ?_; rw [HM.out]; rintro e w2 ⟨rfl, hb⟩; have HB2 := Aside0.mk hb; clear hb))
  refine bodyPost_ret (results_tmp3 rfl _ _ _) rfl ?_
  exact ⟨rfl, HB3.out⟩
theorem rem_err (A : Option Addr) (c : Nat) (l : List S42) (nm : ByteArray) (w : World) (hr : Row w A l) (hl : l.length ≤ 9223372036854775807) (hz : ∀ x ∈ l, x.f1.size ≤ 17592186044416) (hn : nm.size ≤ 17592186044416) (hT : Lib.Utf8Tabs 1 2 w) (y : Int) (he : remErr l nm = some y) :
    Calls Tryd.prog 23 #[.slice A l.length c, .string nm] w fun e w' => e = .returned (.tuple #[.slice none 0 0, .int .i64 0, .int .i64 y]) ∧ Below w.heap.size w w' := by
  unfold remErr at he
  cases hm : mayE l with
  | false =>
    rw [hm, if_neg (by simp)] at he
    cases he
    exact rem_may A c l nm w hr hl hz hn hT ⟨hm⟩
  | true =>
    rw [hm, if_pos rfl] at he
    cases hx : isE l nm with
    | true => rw [hx, if_pos rfl] at he; cases he
    | false =>
      rw [hx, if_neg (by simp)] at he
      cases he
      exact rem_none A c l nm w hr hl hz hn hT ⟨hm⟩ ⟨hx⟩
set_option maxHeartbeats 4000000 in
set_option maxRecDepth 100000 in
theorem rem_yes (A : Option Addr) (c : Nat) (l : List S42) (nm : ByteArray) (w : World) (hr : Row w A l) (hz : ∀ x ∈ l, x.f1.size ≤ 17592186044416) (hn : nm.size ≤ 17592186044416) (hT : Lib.Utf8Tabs 1 2 w) (HM : Aside0 (mayE l = true)) (HE : Aside0 (isE l nm = true)) :
    Calls Tryd.prog 23 #[.slice A l.length c, .string nm] w fun e w' => ∃ v, e = .returned (.tuple #[v, .int .i64 (inoAt l (atE l nm)), .int .i64 0]) ∧ w'.ownsRow w.heap.size 42 2 v (l.length - 1) (rowsE (l.eraseIdx (atE l nm))) ∧ Below w.heap.size w w' := by
  have hl64 := ((mayE_iff l).1 HM.out).1
  have HZ := Aside0.mk hz
  have HN := Aside0.mk hn
  have HT := Aside0.mk hT
  obtain ⟨J, HAT⟩ : ∃ J, Aside0 (atE l nm = J) := ⟨_, ⟨rfl⟩⟩
  rw [HAT.out]
  have hj : J < l.length := by
    have h := HE.out
    unfold isE at h
    rw [HAT.out, Bool.and_eq_true] at h
    exact of_decide_eq_true h.1
  obtain ⟨ad, rfl, _⟩ := hr.at_ hj
  have HR := Aside0.mk hr
  have HJ := Aside0.mk hj
  have HL := Aside0.mk (show l.length ≤ 9223372036854775807 by omega)
  have HL2 := Aside0.mk (show l.length ≤ 5864062014700 by omega)
  have HL0 := Aside0.mk (show 0 < l.length by omega)
  have j0 : (0 : Int) ≤ (J : Int) := Int.natCast_nonneg _
  have j1 : (J : Int) < (l.length : Int) := by omega
  obtain ⟨J1, hJ1⟩ : ∃ q, q = J + 1 := ⟨_, rfl⟩
  have hwJ : IntKind.wrap .i64 ((J : Int) + 1) = (J1 : Int) := (IntWalk.i64_in _ ⟨by omega, by omega⟩).trans (by omega)
  have HJ1 := Aside0.mk hJ1
  obtain ⟨ino, hino⟩ : ∃ q, inoAt l J = q := ⟨_, rfl⟩
  rw [hino]
  have HINO := Aside0.mk hino
  clear hr hz hn hT hl64 hj hino hJ1
  go_enter Tryd.func23, Tryd.ntmps23
  go_wp2_with (first
    | (have hz := HB2.out; clear hz; go_at_call 18; refine (find_any (some ad) c l nm w2 (HR.out.below HB2.out) HL.out HZ.out HN.out).mono ?_; rw [HE.out, HAT.out]; rintro e w3 ⟨rfl, hb⟩; have HB3 := Aside0.mk (below_step HB2.out hb); clear hb)
    | (go_at_call 15; refine (may_any w (some ad) c l HR.out HT.out).mono ?_; rw [HM.out]; rintro e w2 ⟨rfl, hb⟩; have HB2 := Aside0.mk hb; clear hb))
  have HR3 := Aside0.mk (HR.out.below HB3.out)
  obtain ⟨ad', e', k3, _⟩ := HR3.out.at_ HJ.out
  cases e'
  rw [HINO.out] at k3
  have K3 := Aside0.mk k3
  clear k3
  refine wp_region_held_drew (S := fun W => Below w3.heap.size w3 W) (by kernel_rfl) (below_drew (Below.refl w3.heap.size w3)) (fun hHeld => ?_)
  refine wpAnyH_take (i := 0) (oi := ⟨some 20, _, _, _, _, _⟩) (v := (.slice (some ad) l.length c)) rfl (by kernel_rfl) (by kernel_rfl) (by kernel_rfl) (fun _ _ _ h => h) (Or.inl ⟨by rfl, fun W hS => by go_simp⟩) hHeld ?_
  (try simp only [Act.put, List.setIfInBounds_toArray, List.set_cons_zero, List.set_cons_succ])
  refine wpAnyH_take (i := 2) (oi := ⟨some 22, _, _, _, _, _⟩) (v := (.int .i64 (J : Int))) rfl (by kernel_rfl) (by kernel_rfl) (by kernel_rfl) (fun _ _ _ h => h) (Or.inl ⟨by rfl, fun W hS => by go_simp⟩) hHeld ?_
  (try simp only [Act.put, List.setIfInBounds_toArray, List.set_cons_zero, List.set_cons_succ])
  refine wpAnyH_take (i := 3) (oi := ⟨some 23, _, _, _, _, _⟩) (v := (.int .i64 (J : Int))) rfl (by kernel_rfl) (by kernel_rfl) (by kernel_rfl) (fun _ _ _ h => h) (Or.inl ⟨by rfl, fun W hS => by go_simp⟩) hHeld ?_
  (try simp only [Act.put, List.setIfInBounds_toArray, List.set_cons_zero, List.set_cons_succ])
  refine wpAnyH_take (i := 4) (oi := ⟨some 24, _, _, _, _, _⟩) (v := (.int .i64 (J1 : Int))) rfl (by kernel_rfl) (by kernel_rfl) (by kernel_rfl) (fun _ _ _ h => h) (Or.inl ⟨by rfl, fun W hS => by go_simp⟩) hHeld ?_
  (try simp only [Act.put, List.setIfInBounds_toArray, List.set_cons_zero, List.set_cons_succ])
  refine wpAnyH_take (i := 6) (oi := ⟨some 26, _, _, _, _, _⟩) (v := (.slice (some ad) l.length c)) rfl (by kernel_rfl) (by kernel_rfl) (by kernel_rfl) (fun _ _ _ h => h) (Or.inl ⟨by rfl, fun W hS => by go_simp⟩) hHeld ?_
  (try simp only [Act.put, List.setIfInBounds_toArray, List.set_cons_zero, List.set_cons_succ])
  refine wpAnyH_take (i := 7) (oi := ⟨some 27, _, _, _, _, _⟩) (v := (.int .i64 (J : Int))) rfl (by kernel_rfl) (by kernel_rfl) (by kernel_rfl) (fun _ _ _ h => h) (Or.inl ⟨by rfl, fun W hS => by go_simp⟩) hHeld ?_
  (try simp only [Act.put, List.setIfInBounds_toArray, List.set_cons_zero, List.set_cons_succ])
  refine wpAnyH_take (i := 8) (oi := ⟨some 28, _, _, _, _, _⟩) (v := (.pointer (some (ad.add (J * 2))))) rfl (by kernel_rfl) (by kernel_rfl) (by kernel_rfl) (fun _ _ _ h => h) (Or.inl ⟨by rfl, fun W hS => by go_simp⟩) hHeld ?_
  (try simp only [Act.put, List.setIfInBounds_toArray, List.set_cons_zero, List.set_cons_succ])
  refine wpAnyH_take (i := 9) (oi := ⟨some 29, _, _, _, _, _⟩) (v := (.pointer (some (ad.add (J * 2))))) rfl (by kernel_rfl) (by kernel_rfl) (by kernel_rfl) (fun _ _ _ h => h) (Or.inl ⟨by rfl, fun W hS => by go_simp⟩) hHeld ?_
  (try simp only [Act.put, List.setIfInBounds_toArray, List.set_cons_zero, List.set_cons_succ])
  refine wpAnyH_ready (rs := [1, 10]) (by kernel_rfl) (by simp) ?_
  refine AllReadyH.cons rfl (fun K hK => ?_) (AllReadyH.cons rfl (fun K hK => ?_) (AllReadyH.nil))
  case' refine_1 =>
    go_simp
    refine (clone_any (some ad) c l _ (HR3.out.below hHeld) HL2.out).mono ?_
    rintro e wc ⟨v, rfl, ho, hb⟩
    obtain ⟨g, cap, cur, rfl, _⟩ := own_form ho HL0.out
    have HOC := Aside0.mk (own_less ho hHeld.size)
    dsimp only
    refine hK.out _ _ (below_step hHeld hb) (fun hH => ?_)
    clear hK K hHeld ho hb
    have hHeld := hH
    clear hH
    (try simp only [Act.put, List.setIfInBounds_toArray, List.set_cons_zero, List.set_cons_succ])
    refine wpAnyH_ready (rs := [5, 10]) (by kernel_rfl) (by simp) ?_
    refine AllReadyH.cons rfl (fun K hK => ?_) (AllReadyH.cons rfl (fun K hK => ?_) (AllReadyH.nil))
    case' refine_1 =>
      go_simp
      have hdel := delete_any w3.heap.size g l.length cap J l wc HOC.out rfl HJ.out HL2.out
      rw [← HJ1.out] at hdel
      refine hdel.mono ?_
      rintro e wd ⟨rfl, ho, hg⟩
      dsimp only
      refine hK.out _ _ (hHeld.grown hg hHeld.size (fun k e => by cases e; exact own_base HOC.out _ rfl)) (fun hH => ?_)
      have HOD := Aside0.mk ho
      clear hK K hHeld ho hg hdel
      have hHeld := hH
      clear hH
      (try simp only [Act.put, List.setIfInBounds_toArray, List.set_cons_zero, List.set_cons_succ])
      refine wpAnyH_take (i := 11) (oi := ⟨some 4, _, _, _, _, _⟩) (v := (.slice (some ⟨g, 0, none⟩) (l.length - 1) cap)) rfl (by kernel_rfl) (by kernel_rfl) (by kernel_rfl) (fun _ _ _ h => h) (Or.inl ⟨by rfl, fun W hS => by go_simp⟩) hHeld ?_
      (try simp only [Act.put, List.setIfInBounds_toArray, List.set_cons_zero, List.set_cons_succ])
      refine wpAnyH_ready (rs := [10]) (by kernel_rfl) (by simp) ?_
      refine AllReadyH.cons rfl (fun K hK => ?_) (AllReadyH.nil)
      have cc := pw_cell_below hHeld K3.out
      go_simp
      refine hK.out _ _ hHeld (fun _ => ?_)
      clear hK K cc
      (try simp only [Act.put, List.setIfInBounds_toArray, List.set_cons_zero, List.set_cons_succ])
      refine wpAnyH_take (i := 12) (oi := ⟨some 5, _, _, _, _, _⟩) (v := (.int .i64 ino)) rfl (by kernel_rfl) (by kernel_rfl) (by kernel_rfl) (fun _ _ _ h => h) (Or.inl ⟨by rfl, fun W hS => by go_simp⟩) hHeld ?_
      (try simp only [Act.put, List.setIfInBounds_toArray, List.set_cons_zero, List.set_cons_succ])
      refine wpAnyH_take (i := 13) (oi := ⟨some 6, _, _, _, _, _⟩) (v := (.int .i64 0)) rfl (by kernel_rfl) (by kernel_rfl) (by kernel_rfl) (fun _ _ _ h => h) (Or.inl ⟨by rfl, fun W hS => by go_simp⟩) hHeld ?_
      (try simp only [Act.put, List.setIfInBounds_toArray, List.set_cons_zero, List.set_cons_succ])
      refine wpAnyH_done (by kernel_rfl) ?_ _
      have HF := Aside0.mk (below_step HB3.out hHeld)
      clear hHeld
      (try simp only [Exit.then])
      go_wp2
      refine bodyPost_ret (results_tmp3 rfl _ _ _) rfl ?_
      exact ⟨_, rfl, own_less HOD.out HB3.out.size, HF.out⟩
    case' refine_2 =>
      have cc := pw_cell_below hHeld K3.out
      go_simp
      refine hK.out _ _ hHeld (fun _ => ?_)
      clear hK K cc
      (try simp only [Act.put, List.setIfInBounds_toArray, List.set_cons_zero, List.set_cons_succ])
      refine wpAnyH_ready (rs := [5]) (by kernel_rfl) (by simp) ?_
      refine AllReadyH.cons rfl (fun K hK => ?_) (AllReadyH.nil)
      go_simp
      have hdel := delete_any w3.heap.size g l.length cap J l wc HOC.out rfl HJ.out HL2.out
      rw [← HJ1.out] at hdel
      refine hdel.mono ?_
      rintro e wd ⟨rfl, ho, hg⟩
      dsimp only
      refine hK.out _ _ (hHeld.grown hg hHeld.size (fun k e => by cases e; exact own_base HOC.out _ rfl)) (fun hH => ?_)
      have HOD := Aside0.mk ho
      clear hK K hHeld ho hg hdel
      have hHeld := hH
      clear hH
      (try simp only [Act.put, List.setIfInBounds_toArray, List.set_cons_zero, List.set_cons_succ])
      refine wpAnyH_take (i := 11) (oi := ⟨some 4, _, _, _, _, _⟩) (v := (.slice (some ⟨g, 0, none⟩) (l.length - 1) cap)) rfl (by kernel_rfl) (by kernel_rfl) (by kernel_rfl) (fun _ _ _ h => h) (Or.inl ⟨by rfl, fun W hS => by go_simp⟩) hHeld ?_
      (try simp only [Act.put, List.setIfInBounds_toArray, List.set_cons_zero, List.set_cons_succ])
      refine wpAnyH_take (i := 12) (oi := ⟨some 5, _, _, _, _, _⟩) (v := (.int .i64 ino)) rfl (by kernel_rfl) (by kernel_rfl) (by kernel_rfl) (fun _ _ _ h => h) (Or.inl ⟨by rfl, fun W hS => by go_simp⟩) hHeld ?_
      (try simp only [Act.put, List.setIfInBounds_toArray, List.set_cons_zero, List.set_cons_succ])
      refine wpAnyH_take (i := 13) (oi := ⟨some 6, _, _, _, _, _⟩) (v := (.int .i64 0)) rfl (by kernel_rfl) (by kernel_rfl) (by kernel_rfl) (fun _ _ _ h => h) (Or.inl ⟨by rfl, fun W hS => by go_simp⟩) hHeld ?_
      (try simp only [Act.put, List.setIfInBounds_toArray, List.set_cons_zero, List.set_cons_succ])
      refine wpAnyH_done (by kernel_rfl) ?_ _
      have HF := Aside0.mk (below_step HB3.out hHeld)
      clear hHeld
      (try simp only [Exit.then])
      go_wp2
      refine bodyPost_ret (results_tmp3 rfl _ _ _) rfl ?_
      exact ⟨_, rfl, own_less HOD.out HB3.out.size, HF.out⟩
  case' refine_2 =>
    have cc := pw_cell_below hHeld K3.out
    go_simp
    refine hK.out _ _ hHeld (fun _ => ?_)
    clear hK K cc
    (try simp only [Act.put, List.setIfInBounds_toArray, List.set_cons_zero, List.set_cons_succ])
    refine wpAnyH_ready (rs := [1]) (by kernel_rfl) (by simp) ?_
    refine AllReadyH.cons rfl (fun K hK => ?_) (AllReadyH.nil)
    go_simp
    refine (clone_any (some ad) c l _ (HR3.out.below hHeld) HL2.out).mono ?_
    rintro e wc ⟨v, rfl, ho, hb⟩
    obtain ⟨g, cap, cur, rfl, _⟩ := own_form ho HL0.out
    have HOC := Aside0.mk (own_less ho hHeld.size)
    dsimp only
    refine hK.out _ _ (below_step hHeld hb) (fun hH => ?_)
    clear hK K hHeld ho hb
    have hHeld := hH
    clear hH
    (try simp only [Act.put, List.setIfInBounds_toArray, List.set_cons_zero, List.set_cons_succ])
    refine wpAnyH_ready (rs := [5]) (by kernel_rfl) (by simp) ?_
    refine AllReadyH.cons rfl (fun K hK => ?_) (AllReadyH.nil)
    go_simp
    have hdel := delete_any w3.heap.size g l.length cap J l wc HOC.out rfl HJ.out HL2.out
    rw [← HJ1.out] at hdel
    refine hdel.mono ?_
    rintro e wd ⟨rfl, ho, hg⟩
    dsimp only
    refine hK.out _ _ (hHeld.grown hg hHeld.size (fun k e => by cases e; exact own_base HOC.out _ rfl)) (fun hH => ?_)
    have HOD := Aside0.mk ho
    clear hK K hHeld ho hg hdel
    have hHeld := hH
    clear hH
    (try simp only [Act.put, List.setIfInBounds_toArray, List.set_cons_zero, List.set_cons_succ])
    refine wpAnyH_take (i := 11) (oi := ⟨some 4, _, _, _, _, _⟩) (v := (.slice (some ⟨g, 0, none⟩) (l.length - 1) cap)) rfl (by kernel_rfl) (by kernel_rfl) (by kernel_rfl) (fun _ _ _ h => h) (Or.inl ⟨by rfl, fun W hS => by go_simp⟩) hHeld ?_
    (try simp only [Act.put, List.setIfInBounds_toArray, List.set_cons_zero, List.set_cons_succ])
    refine wpAnyH_take (i := 12) (oi := ⟨some 5, _, _, _, _, _⟩) (v := (.int .i64 ino)) rfl (by kernel_rfl) (by kernel_rfl) (by kernel_rfl) (fun _ _ _ h => h) (Or.inl ⟨by rfl, fun W hS => by go_simp⟩) hHeld ?_
    (try simp only [Act.put, List.setIfInBounds_toArray, List.set_cons_zero, List.set_cons_succ])
    refine wpAnyH_take (i := 13) (oi := ⟨some 6, _, _, _, _, _⟩) (v := (.int .i64 0)) rfl (by kernel_rfl) (by kernel_rfl) (by kernel_rfl) (fun _ _ _ h => h) (Or.inl ⟨by rfl, fun W hS => by go_simp⟩) hHeld ?_
    (try simp only [Act.put, List.setIfInBounds_toArray, List.set_cons_zero, List.set_cons_succ])
    refine wpAnyH_done (by kernel_rfl) ?_ _
    have HF := Aside0.mk (below_step HB3.out hHeld)
    clear hHeld
    (try simp only [Exit.then])
    go_wp2
    refine bodyPost_ret (results_tmp3 rfl _ _ _) rfl ?_
    exact ⟨_, rfl, own_less HOD.out HB3.out.size, HF.out⟩
end Go.Proofs.YtneanbckmekdkaaDoor.EN

end

section
/- slices.Insert over entries, one more: laws of its events. -/
namespace Go.Proofs.YtneanbckmekdkaaDoor.EN
open Go Go.RowKit Go.Proofs.YtneanbckmekdkaaDoorX Go.Proofs.YtneanbckmekdkaaDoor.NM Go.Proofs.YtneanbckmekdkaaDoorW.PrintWords Go.Proofs.YtneanbckmekdkaaDoorW.PrintLast Go.Proofs.YtneanbckmekdkaaDoorW.PrintMore Go.Proofs.YtneanbckmekdkaaDoor.PEntryForms
set_option linter.unusedVariables false
set_option linter.unusedSimpArgs false
theorem cut_end (g n c i : Nat) (hin : i ≤ n) (hnc : n ≤ c) : ∃ A2 d2 c2, ∀ W : World, (Instr.slice 22 (.slice (some ⟨g, 0, none⟩) n c) (some (.int .i64 (i : Int))) none none).run Tryd.prog W = .ok (.slice A2 d2 c2) W := by
  obtain ⟨i0, hi, hsz⟩ := Option.map_eq_some_iff.1 (show (Tryd.prog.info? 42).map (·.size) = some 2 by kernel_rfl)
  refine ⟨if c = i then some ⟨g, 0, none⟩ else (some (⟨g, 0, none⟩ : Addr)).map (·.add (i * 2)), n - i, c - i, fun W => ?_⟩
  have hel : Tryd.prog.elem 22 = 42 := by simp [Program.elem, Tryd.underlying22]
  have hu : Tryd.prog.underlying 22 = some (.slice (Tryd.prog.elem 22)) := by rw [hel]; exact Tryd.underlying22
  rw [run_slice_l W 22 _ n c hu .i64 (i : Int) (by omega) (by omega), hel]
  have h1 : ((i : Int)).toNat = i := by omega
  simp [sizeOf, typeInfo, hi, hsz, sliced, Result.andThen, h1]
theorem cut_lo (W : World) (g n c i : Nat) (hin : i ≤ n) (hic : i < c) : (Instr.slice 22 (.slice (some ⟨g, 0, none⟩) n c) (some (.int .i64 (i : Int))) none none).run Tryd.prog W = .ok (.slice (some ⟨g, i * 2, none⟩) (n - i) (c - i)) W := by
  obtain ⟨i0, hi, hsz⟩ := Option.map_eq_some_iff.1 (show (Tryd.prog.info? 42).map (·.size) = some 2 by kernel_rfl)
  have hel : Tryd.prog.elem 22 = 42 := by simp [Program.elem, Tryd.underlying22]
  have hu : Tryd.prog.underlying 22 = some (.slice (Tryd.prog.elem 22)) := by rw [hel]; exact Tryd.underlying22
  rw [run_slice_l W 22 _ n c hu .i64 (i : Int) (by omega) (by omega), hel]
  have h1 : ((i : Int)).toNat = i := by omega
  have h2 : ¬ (c = i) := by omega
  have h3 : (⟨g, 0, none⟩ : Addr).add (i * 2) = ⟨g, i * 2, none⟩ := add_plain _ _
  simp [sizeOf, typeInfo, hi, hsz, sliced, Result.andThen, h1, h2, h3]
theorem cut_hi (W : World) (g n c i : Nat) (hic : i ≤ c) : (Instr.slice 22 (.slice (some ⟨g, 0, none⟩) n c) none (some (.int .i64 (i : Int))) none).run Tryd.prog W = .ok (.slice (some ⟨g, 0, none⟩) i c) W := by
  obtain ⟨i0, hi, hsz⟩ := Option.map_eq_some_iff.1 (show (Tryd.prog.info? 42).map (·.size) = some 2 by kernel_rfl)
  have hel : Tryd.prog.elem 22 = 42 := by simp [Program.elem, Tryd.underlying22]
  have hu : Tryd.prog.underlying 22 = some (.slice (Tryd.prog.elem 22)) := by rw [hel]; exact Tryd.underlying22
  rw [run_slice_h W 22 _ n c hu .i64 (i : Int) (by omega) (by omega), hel]
  have h1 : ((i : Int)).toNat = i := by omega
  have h3 : (⟨g, 0, none⟩ : Addr).add 0 = ⟨g, 0, none⟩ := add_plain _ _
  simp [sizeOf, typeInfo, hi, hsz, sliced, Result.andThen, h1, h3]
theorem run_copy_ents (W : World) (ty g off dLen dCap : Nat) (b : Addr) (sLen sCap n : Nat) (cur cs : List Value) (hn : n = Nat.min sLen dLen) (hc : cs.length = n * 2)
    (hg : W.heap[g]? = some (.cells cur.toArray 42 (0, 0))) (hsrc : ∀ j v, cs[j]? = some v → W.cell? (b.add j) = some v) (hfit : off + cs.length ≤ cur.length) (h1 : ∀ v ∈ cs, v.oneCell' = true) :
    (Builtin.copy_ #[22, 22] ty #[.slice (some ⟨g, off, none⟩) dLen dCap, .slice (some b) sLen sCap]).run Tryd.prog W = .ok (goInt n) (W.setRow g (cur.take off ++ cs ++ cur.drop (off + cs.length)).toArray) := by
  have hst := run_storeCells_at (P := Tryd.prog) g off 42 cs 0 cur.toArray W hg (by simpa using hfit) h1
  simp only [Nat.add_zero] at hst
  have hf := run_firstCells_some (P := Tryd.prog) W 2 n b sLen sCap cs hc hsrc
  obtain ⟨i0, hi, hsz⟩ := Option.map_eq_some_iff.1 (show (Tryd.prog.info? 42).map (·.size) = some 2 by kernel_rfl)
  simp [Builtin.copy_, run_underlying Tryd.underlying22, Builtin.lenOf, sizeOf, typeInfo, hi, hsz, ← hn, hf, hst]
section
variable {o : Oper} {a : Act} {K : Act → World → Prop} {Q : Exit → Act → World → Prop}
theorem wp_copy_ents (s x : Operand) (ho : o.op = .call { callee := .builtin .copy, args := #[s, x], argTypes := #[22, 22] }) {W : World} (g off dLen dCap : Nat) (b : Addr) (sLen sCap n : Nat) (cur cs : List Value) (hs : a.eval s = .slice (some ⟨g, off, none⟩) dLen dCap) (hx : a.eval x = .slice (some b) sLen sCap)
    (hn : n = Nat.min sLen dLen) (hc : cs.length = n * 2) (hg : W.heap[g]? = some (.cells cur.toArray 42 (0, 0))) (hsrc : ∀ j v, cs[j]? = some v → W.cell? (b.add j) = some v) (hfit : off + cs.length ≤ cur.length) (h1 : ∀ v ∈ cs, v.oneCell' = true)
    (h : ∀ w1, w1.heap[g]? = some (.cells (cur.take off ++ cs ++ cur.drop (off + cs.length)).toArray 42 (0, 0)) → W.grownBy w1 (some g) → K (a.put o.dst (goInt n)) w1) : o.wp Tryd.prog a W K Q := by
  have hr := run_copy_ents W o.type g off dLen dCap b sLen sCap n cur cs hn hc hg hsrc hfit h1
  unfold Oper.wp execOp
  simp only [ho, resolve, invoke, builtin, Sem.run_bind, Sem.run_pure, Result.andThen_ok, List.map_toArray, List.map_cons, List.map_nil, hs, hx, hr]
  exact h _ (setRow_heap W g cur.toArray _ 42 (0, 0) hg) (grown_setRow W g _)
theorem ev_copy_ents {ops : Array Oper} {rest : List Oper} (hgd : o.guard = none) (s x : Operand) (ho : o.op = .call { callee := .builtin .copy, args := #[s, x], argTypes := #[22, 22] }) {W : World} (g off dLen dCap : Nat) (b : Addr) (sLen sCap n : Nat) (cur cs : List Value) (hs : a.eval s = .slice (some ⟨g, off, none⟩) dLen dCap) (hx : a.eval x = .slice (some b) sLen sCap)
    (hn : n = Nat.min sLen dLen) (hc : cs.length = n * 2) (hg : W.heap[g]? = some (.cells cur.toArray 42 (0, 0))) (hsrc : ∀ j v, cs[j]? = some v → W.cell? (b.add j) = some v) (hfit : off + cs.length ≤ cur.length) (h1 : ∀ v ∈ cs, v.oneCell' = true)
    (h : ∀ w1, w1.heap[g]? = some (.cells (cur.take off ++ cs ++ cur.drop (off + cs.length)).toArray 42 (0, 0)) → W.grownBy w1 (some g) → wpList Tryd.prog ops Q rest (a.put o.dst (goInt n)) w1) : wpList Tryd.prog ops Q (o :: rest) a W :=
  wpList_plain hgd fun _ hK => wp_copy_ents s x ho g off dLen dCap b sLen sCap n cur cs hs hx hn hc hg hsrc hfit h1 (fun w1 a1 a2 => hK _ _ (h w1 a1 a2))
/-- append(s[:i], make(S, d)...), no room. -/
theorem ev_append_zeros_ents {ops : Array Oper} {rest : List Oper} (hgd : o.guard = none) (s x : Operand) (ho : o.op = .call { callee := .builtin .append, args := #[s, x], argTypes := #[22, 3] }) {W : World} (g i cap d n1 h0 : Nat) (P : List Value) (hh0 : W.heap.size = h0) (hs : a.eval s = .slice (some ⟨g, 0, none⟩) i cap) (hx : a.eval x = .int .i64 (d : Int))
    (hP : P.length = i * 2) (hold : ∀ j v, P[j]? = some v → W.cell? ⟨g, j, none⟩ = some v) (hd : 0 < d) (hid : i + d = n1) (hcap : cap < n1) (hb : n1 * 24 ≤ 140737488355328)
    (h : ∀ G Z w1, n1 ≤ G → G ≤ maxLen → Z.length = (G - i) * 2 → w1.heap[h0]? = some (.cells (P ++ Z).toArray 42 (0, 0)) → Below W.heap.size W w1 → wpList Tryd.prog ops Q rest (a.put o.dst (.slice (some ⟨h0, 0, none⟩) n1 G)) w1) : wpList Tryd.prog ops Q (o :: rest) a W := by
  subst hh0
  obtain ⟨i0, hi, hz0, hz1, hz2⟩ := info_parts infoEnt'
  have hf : (Builtin.firstCells i0.size i (.slice (some ⟨g, 0, none⟩) i cap)).run Tryd.prog W.drew = .ok P.toArray W.drew := by
    rw [hz1]
    exact run_firstCells_some W.drew 2 i ⟨g, 0, none⟩ i cap P hP (fun j v hj => by rw [add_plain]; exact hold j v hj)
  have hr := Lib.run_append_grow_zeros W 22 3 o.type 42 i0 _ .i64 .i64 Tryd.underlying22 Tryd.underlying3 hi hz0 (some ⟨g, 0, none⟩) i cap P hf d hd (by omega) (by omega) (by omega) (by rw [hz2]; omega) (by rw [hz2, hid]; exact growslice_fits hcap hb)
  rw [hid] at hr
  have hG1 := grownCap_ge W n1 cap 42
  have hG2 := grownCap_le_maxLen W n1 cap 42 (by unfold maxLen; omega)
  obtain ⟨G, hG⟩ : ∃ G, grownCap W n1 cap 42 = G := ⟨_, rfl⟩
  rw [hG] at hr hG1 hG2
  refine Lib.wpList_append_run W hgd s x 22 3 ho _ _ hs hx _ _ hr ?_
  obtain ⟨Z, hZ⟩ : ∃ Z : List Value, Z = (Builtin.zeroCells (Value.agg #[.int .i64 0, .string ⟨#[]⟩]).cells d ++ Builtin.zeroCells (Value.agg #[.int .i64 0, .string ⟨#[]⟩]).cells (G - n1)).toList := ⟨_, rfl⟩
  have hzl : ∀ k, (Builtin.zeroCells (Value.agg #[.int .i64 0, .string ⟨#[]⟩]).cells k).size = k * 2 := fun k => by simp [Builtin.zeroCells, Value.cells]
  have hZl : Z.length = (G - i) * 2 := by rw [hZ]; simp only [Array.length_toList, Array.size_append, hzl]; omega
  have hrow : P.toArray ++ Builtin.zeroCells (Value.agg #[.int .i64 0, .string ⟨#[]⟩]).cells d ++ Builtin.zeroCells (Value.agg #[.int .i64 0, .string ⟨#[]⟩]).cells (G - n1) = (P ++ Z).toArray := by
    rw [hZ]
    apply Array.toList_inj.1
    simp
  rw [hrow]
  refine h G Z _ hG1 hG2 hZl ?_ (below_alloc (w := W) (W := W.drew) ⟨rfl, rfl, rfl, Nat.le_refl _, fun _ _ => rfl⟩ _)
  show (W.heap.push _)[W.heap.size]? = _
  rw [Array.getElem?_push_size]
end
theorem rowsE_split (l : List S42) (i : Nat) : rowsE l = rowsE (l.take i) ++ rowsE (l.drop i) := by rw [← rowsE_append, List.take_append_drop]
def insE (l : List S42) (i : Nat) (x : S42) : List S42 := l.take i ++ [x] ++ l.drop i
theorem insE_length {l : List S42} {i : Nat} (x : S42) (h : i ≤ l.length) : (insE l i x).length = l.length + 1 := by simp [insE]; omega
theorem rowsE_ins (l : List S42) (i : Nat) (x : S42) : rowsE (insE l i x) = rowsE (l.take i) ++ [Value.int .i64 x.f0, Value.string x.f1] ++ rowsE (l.drop i) := by
  unfold insE
  rw [rowsE_append, rowsE_append]
  rfl
/-- Cells of a row that grew: both copies. -/
theorem grow_cells {P Z D e : List Value} {i d k : Nat} (hP : P.length = i * 2) (he : e.length = 2) (hD : D.length = d * 2) (hZ : Z.length = k) (hk : 2 + d * 2 ≤ k) :
    ∃ R, ((P ++ Z).take (i * 2) ++ e ++ (P ++ Z).drop (i * 2 + e.length)).take ((i + 1) * 2) ++ D ++ ((P ++ Z).take (i * 2) ++ e ++ (P ++ Z).drop (i * 2 + e.length)).drop ((i + 1) * 2 + D.length) = P ++ e ++ D ++ R ∧ R.length + 2 + d * 2 = k := by
  have h1 : (P ++ Z).take (i * 2) = P := by rw [← hP]; simp
  have h2 : (P ++ Z).drop (i * 2 + e.length) = Z.drop 2 := by rw [← hP, he, List.drop_append, List.drop_eq_nil_of_le (by omega), List.nil_append, Nat.add_sub_cancel_left]
  rw [h1, h2]
  have h3 : (P ++ e ++ Z.drop 2).take ((i + 1) * 2) = P ++ e := List.take_left' (by simp; omega)
  rw [h3]
  refine ⟨_, rfl, ?_⟩
  simp only [List.length_drop, List.length_append]
  omega
theorem shift_cells {P D S e : List Value} {i d k : Nat} (hP : P.length = i * 2) (he : e.length = 2) (hD : D.length = d * 2) (hS : S.length = k) (hk : 2 ≤ k) :
    ∃ R, ((P ++ D ++ S).take ((i + 1) * 2) ++ D ++ (P ++ D ++ S).drop ((i + 1) * 2 + D.length)).take (i * 2) ++ e ++ ((P ++ D ++ S).take ((i + 1) * 2) ++ D ++ (P ++ D ++ S).drop ((i + 1) * 2 + D.length)).drop (i * 2 + e.length) = P ++ e ++ D ++ R ∧ R.length + 2 = k := by
  obtain ⟨T, hT⟩ : ∃ T, (P ++ D ++ S).take ((i + 1) * 2) = P ++ T ∧ T.length = 2 := by
    refine ⟨(D ++ S).take 2, ?_, by rw [List.length_take, List.length_append]; omega⟩
    rw [List.append_assoc, List.take_append, List.take_of_length_le (by omega), hP]
    congr 2
    omega
  rw [hT.1]
  obtain ⟨R, hR⟩ : ∃ R, (P ++ D ++ S).drop ((i + 1) * 2 + D.length) = R := ⟨_, rfl⟩
  have hRl : R.length + 2 = k := by rw [← hR]; simp only [List.length_drop, List.length_append]; omega
  rw [hR]
  refine ⟨R, ?_, hRl⟩
  have h1 : (P ++ T ++ D ++ R).take (i * 2) = P := by rw [← hP]; simp
  have h2 : (P ++ T ++ D ++ R).drop (i * 2 + e.length) = D ++ R := by
    have : P ++ T ++ D ++ R = (P ++ T) ++ (D ++ R) := by simp
    rw [this, show i * 2 + e.length = (P ++ T).length by simp; omega, List.drop_left]
  rw [h1, h2]
  simp
end Go.Proofs.YtneanbckmekdkaaDoor.EN

end

section
/- slices.Insert over entries, one more: no room. -/
namespace Go.Proofs.YtneanbckmekdkaaDoor.EN
open Go Go.RowKit Go.Proofs.YtneanbckmekdkaaDoorX Go.Proofs.YtneanbckmekdkaaDoor.NM Go.Proofs.YtneanbckmekdkaaDoorW.PrintWords Go.Proofs.YtneanbckmekdkaaDoorW.PrintLast Go.Proofs.YtneanbckmekdkaaDoorW.PrintMore Go.Proofs.YtneanbckmekdkaaDoor.PEntryForms
set_option linter.unusedVariables false
set_option linter.unusedSimpArgs false
set_option maxHeartbeats 4000000 in
set_option maxRecDepth 100000 in
theorem insert_grow (base : Nat) (l : List S42) (i : Nat) (x : S42) (vb g cap : Nat) (w : World) (ho : w.ownsRow base 42 2 (.slice (some ⟨g, 0, none⟩) l.length cap) l.length (rowsE l)) (hb : base ≤ w.heap.size) (hi : i < l.length) (hl : l.length ≤ 1000) (hv : w.heap[vb]? = some (.cells #[.int .i64 x.f0, .string x.f1] 42 (0, 0))) (hne : g ≠ vb) (hcap : cap < l.length + 1) :
    Calls Tryd.prog 36 #[.slice (some ⟨g, 0, none⟩) l.length cap, .int .i64 (i : Int), .slice (some ⟨vb, 0, none⟩) 1 1] w fun e w' => ∃ v', e = .returned v' ∧ w'.ownsRow base 42 2 v' (l.length + 1) (rowsE (insE l i x)) ∧ w.grownBy w' (some g) := by
  obtain ⟨hgb, cur, hh, hnc, hcm, hcs, htk⟩ := own_form2 ho
  obtain ⟨n, hn⟩ : ∃ n, l.length = n := ⟨_, rfl⟩
  rw [hn] at ho hi hl hnc htk ⊢
  have hPl := rowsE_length (l.take i)
  have hDl := rowsE_length (l.drop i)
  rw [List.length_take, hn, Nat.min_eq_left (by omega)] at hPl
  rw [List.length_drop, hn] at hDl
  have hspl := rowsE_split l i
  have hins := rowsE_ins l i x
  have hP1 := rowsE_one (l.take i)
  have hD1 := rowsE_one (l.drop i)
  obtain ⟨P, hP⟩ : ∃ P, rowsE (l.take i) = P := ⟨_, rfl⟩
  obtain ⟨D, hD⟩ : ∃ D, rowsE (l.drop i) = D := ⟨_, rfl⟩
  obtain ⟨E, hE⟩ : ∃ E, E = [Value.int .i64 x.f0, Value.string x.f1] := ⟨_, rfl⟩
  rw [hP] at hPl hspl hins hP1
  rw [hD] at hDl hspl hins hD1
  rw [← hE] at hins
  have hEl : E.length = 2 := by rw [hE]; rfl
  have hE1 : ∀ v ∈ E, v.oneCell' = true := by rw [hE]; intro v hv; simp at hv; rcases hv with rfl | rfl <;> rfl
  have hins2 : (insE l i x).length = n + 1 := hn ▸ insE_length x (by omega)
  rw [hspl] at htk
  have hcell : ∀ (W : World), W.heap[g]? = some (.cells cur.toArray 42 (0, 0)) → ∀ j u, (P ++ D)[j]? = some u → W.cell? ⟨g, j, none⟩ = some u := fun W hW j u hj => by
    rw [World.cell?, hW]
    have : cur[j]? = some u := by
      rw [← htk, List.getElem?_take] at hj
      split at hj
      · exact hj
      · cases hj
    simpa using this
  have hcellV : ∀ (W : World), W.heap[vb]? = some (.cells #[.int .i64 x.f0, .string x.f1] 42 (0, 0)) → ∀ j u, E[j]? = some u → W.cell? ((⟨vb, 0, none⟩ : Addr).add j) = some u := fun W hW j u hj => by
    rw [add_plain, World.cell?, hW]
    rw [hE] at hj
    simpa using hj
  obtain ⟨rowV, hrowV⟩ : ∃ r : Array Value, r = #[.int .i64 x.f0, .string x.f1] := ⟨_, rfl⟩
  rw [← hrowV] at hv hcellV
  have hVs : rowV.size = 2 := by rw [hrowV]; rfl
  obtain ⟨n1, hn1⟩ : ∃ q, q = n + 1 := ⟨_, rfl⟩
  obtain ⟨i1, hi1⟩ : ∃ q, q = i + 1 := ⟨_, rfl⟩
  obtain ⟨d, hd⟩ : ∃ q, n - i = q := ⟨_, rfl⟩
  obtain ⟨d1, hd1⟩ : ∃ q, n1 - i = q := ⟨_, rfl⟩
  obtain ⟨ci, hci⟩ : ∃ q, cap - i = q := ⟨_, rfl⟩
  have hd2 : n1 - i1 = d := by omega
  have hc0 : ∀ W : World, _ := fun W => cut_lo W g n cap i (by omega) (by omega)
  rw [hd, hci] at hc0
  have hx1 : IntKind.wrap .i64 ((n : Int) + 1) = (n1 : Int) := (IntWalk.i64_in _ ⟨by omega, by omega⟩).trans (by omega)
  have hx2 : IntKind.wrap .i64 ((i : Int) + 1) = (i1 : Int) := (IntWalk.i64_in _ ⟨by omega, by omega⟩).trans (by omega)
  have hx3 : IntKind.wrap .i64 ((n1 : Int) - (i : Int)) = (d1 : Int) := (IntWalk.i64_in _ ⟨by omega, by omega⟩).trans (by omega)
  have hz2 : ¬ ((i : Int) = (n : Int)) := by omega
  have hz2b : ((i : Int) == (n : Int)) = false := beq_eq_false_iff_ne.2 hz2
  have hz2c : ¬ (i = n) := by omega
  have z0 : (0 : Int) ≤ (i : Int) := Int.natCast_nonneg _
  have z1 : (i : Int) ≤ (n : Int) := by omega
  have hz3 : (cap : Int) < (n1 : Int) := by omega
  have hc1 : ∀ W : World, _ := fun W => cut_hi W g n cap i (by omega)
  have hE0 := hcell w hh
  have HC0 := Aside0.mk hc0
  have HG0 := Aside0.mk (show i + d1 = n1 ∧ 0 < d1 ∧ cap < n1 ∧ n1 * 24 ≤ 140737488355328 by omega)
  have HPL := Aside0.mk hPl
  have HOLD := Aside0.mk (show ∀ j u, P[j]? = some u → w.cell? ⟨g, j, none⟩ = some u from fun j u hj => hE0 j u (by rw [List.getElem?_append_left (List.getElem?_eq_some_iff.1 hj).1]; exact hj))
  have hOD : ∀ (W : World), W.heap[g]? = some (.cells cur.toArray 42 (0, 0)) → ∀ j u, D[j]? = some u → W.cell? ((⟨g, i * 2, none⟩ : Addr).add j) = some u := fun W hW j u hj => by
    have h3 : (⟨g, i * 2, none⟩ : Addr).add j = ⟨g, i * 2 + j, none⟩ := by unfold Addr.add; split <;> simp_all
    rw [h3]
    exact hcell W hW _ u (by rw [← hPl, List.getElem?_append_right (by omega), Nat.add_sub_cancel_left]; exact hj)
  have HOD := Aside0.mk hOD
  have HDL := Aside0.mk (show D.length = d * 2 by rw [hDl, hd])
  have HD1 := Aside0.mk hD1
  have HH := Aside0.mk hh
  have HV := Aside0.mk hv
  have HCV := Aside0.mk hcellV
  have HE1 := Aside0.mk hE1
  have HEL := Aside0.mk hEl
  have HINS := Aside0.mk hins
  have HINS2 := Aside0.mk hins2
  have HB := Aside0.mk hb
  have HN := Aside0.mk (show n1 = n + 1 ∧ i1 = i + 1 ∧ n - i = d ∧ n1 - i = d1 ∧ i < n from ⟨hn1, hi1, hd, hd1, hi⟩)
  have HNE := Aside0.mk hne
  have HVL := Aside0.mk (show vb < w.heap.size from (Array.getElem?_eq_some_iff.1 hv).1)
  have hgl : g < w.heap.size := (Array.getElem?_eq_some_iff.1 hh).1
  clear ho hb hi hl hv hne hcap hgb hh hnc hcm hcs htk hPl hDl hspl hins hP1 hD1 hP hD hE hEl hE1 hins2 hcell hcellV hrowV hVs hn hn1 hi1 hd hd1 hci hd2 hE0 hOD
  obtain ⟨h0, hh0⟩ : ∃ q, w.heap.size = q := ⟨_, rfl⟩
  have HH0 := Aside0.mk hh0
  have HGL := Aside0.mk hgl
  clear hh0 hgl
  go_enter Tryd.func36, Tryd.ntmps36
  go_wp2_with (first
    | (have hz := HB1.out; clear hz; (with_reducible refine gate_dst (N := 45) rfl ?_); refine ev_copy_ents rfl (.tmp 43) (.tmp 44) rfl h0 (i * 2) d1 Gi ⟨vb, 0, none⟩ 1 1 1 (P ++ Z) E (by kernel_rfl) (by kernel_rfl) (by have := HG0.out.2.1; simp only [Nat.min_def]; split <;> omega) HEL.out HROW0.out (HCV.out _ ((HB1.out.block vb HVL.out).trans HV.out)) (by have := HEL.out; have := HGG.out.2.2.1; have := HPL.out; have := HGG.out.1; have := HG0.out.1; have := HG0.out.2.1; have := HGG.out.2.2.2; rw [List.length_append]; omega) HE1.out ?_; intro w2 hbox hg2; obtain ⟨C1, hC1⟩ : ∃ C, (P ++ Z).take (i * 2) ++ E ++ (P ++ Z).drop (i * 2 + E.length) = C := ⟨_, rfl⟩; rw [hC1] at hbox; have HC1 := Aside0.mk hC1; have HROW1 := Aside0.mk hbox; have HB2 := Aside0.mk (HB1.out.grown hg2 HB1.out.size (fun k e => by cases e; exact Nat.le_of_eq HH0.out)); have HMIN := Aside0.mk (show d = Nat.min d d by simp); have HSRC := Aside0.mk (HOD.out w2 ((HB2.out.block g HGL.out).trans HH.out)); have HCL := Aside0.mk (show C1.length = G * 2 by rw [← hC1]; have := HEL.out; have := HGG.out.2.2.1; have := HPL.out; have := HGG.out.1; have := HG0.out.1; have := HG0.out.2.1; have := HGG.out.2.2.2; simp only [List.length_append, List.length_take, List.length_drop]; omega); have HFIT := Aside0.mk (show i1 * 2 + D.length ≤ C1.length by rw [HCL.out]; have := HDL.out; have := HN.out; have := HGG.out.1; omega); clear hbox hg2 hC1)
    | (at_builtin; (with_reducible refine gate_dst (N := 40) rfl ?_); refine ev_append_zeros_ents rfl (.tmp 34) (.tmp 39) rfl g i cap d1 n1 h0 P HH0.out (by kernel_rfl) (by kernel_rfl) HPL.out HOLD.out HG0.out.2.1 HG0.out.1 HG0.out.2.2.1 HG0.out.2.2.2 ?_; intro G Z w1 hG1 hG2 hZ hbox hb1; obtain ⟨Gi, hGi⟩ : ∃ q, G - i = q := ⟨_, rfl⟩; obtain ⟨Gi1, hGi1⟩ : ∃ q, G - i1 = q := ⟨_, rfl⟩; have hc3 : ∀ W : World, _ := fun W => cut_lo W h0 n1 G i (by have := HG0.out.1; omega) (by have := HN.out; omega); rw [HN.out.2.2.2.1, hGi] at hc3; have hc4 : ∀ W : World, _ := fun W => cut_lo W h0 n1 G i1 (by have := HN.out; omega) (by have := HN.out; omega); rw [show n1 - i1 = d by have := HN.out; omega, hGi1] at hc4; have HC4 := Aside0.mk hc4; rw [hGi] at hZ; have HROW0 := Aside0.mk hbox; have HB1 := Aside0.mk hb1; have HGG := Aside0.mk (And.intro hG1 (And.intro hG2 (And.intro hZ hGi))); clear hbox hb1 hG1 hG2 hZ hGi hGi1 hc4))
  refine wp_region_held_drew (S := fun W => Below w.heap.size w W) (by kernel_rfl) (below_drew HB2.out) (fun hHeld => ?_)
  refine wpAnyH_take (i := 0) (oi := ⟨some 46, _, _, _, _, _⟩) (v := (.slice (some ⟨h0, 0, none⟩) n1 G)) rfl (by kernel_rfl) (by kernel_rfl) (by kernel_rfl) (fun _ _ _ h => h) (Or.inl ⟨by rfl, fun W hS => by go_simp⟩) hHeld ?_
  (try simp only [Act.put, List.setIfInBounds_toArray, List.set_cons_zero, List.set_cons_succ])
  refine wpAnyH_take (i := 1) (oi := ⟨some 47, _, _, _, _, _⟩) (v := (.int .i64 (i : Int))) rfl (by kernel_rfl) (by kernel_rfl) (by kernel_rfl) (fun _ _ _ h => h) (Or.inl ⟨by rfl, fun W hS => by go_simp⟩) hHeld ?_
  (try simp only [Act.put, List.setIfInBounds_toArray, List.set_cons_zero, List.set_cons_succ])
  refine wpAnyH_take (i := 2) (oi := ⟨some 48, _, _, _, _, _⟩) (v := (.int .i64 1)) rfl (by kernel_rfl) (by kernel_rfl) (by kernel_rfl) (fun _ _ _ h => h) (Or.inl ⟨by rfl, fun W hS => by go_simp⟩) hHeld ?_
  (try simp only [Act.put, List.setIfInBounds_toArray, List.set_cons_zero, List.set_cons_succ])
  refine wpAnyH_take (i := 3) (oi := ⟨some 49, _, _, _, _, _⟩) (v := (.int .i64 (i1 : Int))) rfl (by kernel_rfl) (by kernel_rfl) (by kernel_rfl) (fun _ _ _ h => h) (Or.inl ⟨by rfl, fun W hS => by go_simp⟩) hHeld ?_
  (try simp only [Act.put, List.setIfInBounds_toArray, List.set_cons_zero, List.set_cons_succ])
  refine wpAnyH_take (i := 4) (oi := ⟨some 50, _, _, _, _, _⟩) (v := (.slice (some ⟨h0, i1 * 2, none⟩) d Gi1)) rfl (by kernel_rfl) (by kernel_rfl) (by kernel_rfl) (fun _ _ _ h => h) (Or.inl ⟨by rfl, fun W hS => by have hc4 := HC4.out; go_simp⟩) hHeld ?_
  (try simp only [Act.put, List.setIfInBounds_toArray, List.set_cons_zero, List.set_cons_succ])
  refine wpAnyH_take (i := 5) (oi := ⟨some 51, _, _, _, _, _⟩) (v := (.slice (some ⟨g, 0, none⟩) n cap)) rfl (by kernel_rfl) (by kernel_rfl) (by kernel_rfl) (fun _ _ _ h => h) (Or.inl ⟨by rfl, fun W hS => by go_simp⟩) hHeld ?_
  (try simp only [Act.put, List.setIfInBounds_toArray, List.set_cons_zero, List.set_cons_succ])
  refine wpAnyH_take (i := 6) (oi := ⟨some 52, _, _, _, _, _⟩) (v := (.int .i64 (i : Int))) rfl (by kernel_rfl) (by kernel_rfl) (by kernel_rfl) (fun _ _ _ h => h) (Or.inl ⟨by rfl, fun W hS => by go_simp⟩) hHeld ?_
  (try simp only [Act.put, List.setIfInBounds_toArray, List.set_cons_zero, List.set_cons_succ])
  refine wpAnyH_take (i := 7) (oi := ⟨some 53, _, _, _, _, _⟩) (v := (.slice (some ⟨g, i * 2, none⟩) d ci)) rfl (by kernel_rfl) (by kernel_rfl) (by kernel_rfl) (fun _ _ _ h => h) (Or.inl ⟨by rfl, fun W hS => by have hc0 := HC0.out; go_simp⟩) hHeld ?_
  (try simp only [Act.put, List.setIfInBounds_toArray, List.set_cons_zero, List.set_cons_succ])
  refine wpAnyH_ready (rs := [8]) (by kernel_rfl) (by simp) ?_
  refine AllReadyH.cons rfl (fun K hK => ?_) AllReadyH.nil
  refine wp_copy_ents (.tmp 50) (.tmp 53) rfl h0 (i1 * 2) d Gi1 ⟨g, i * 2, none⟩ d ci d C1 D (by kernel_rfl) (by kernel_rfl) HMIN.out HDL.out HROW1.out HSRC.out HFIT.out HD1.out (fun w3 hbox hg3 => ?_)
  refine hK.out _ _ (hHeld.grown hg3 hHeld.size (fun k e => by cases e; exact Nat.le_of_eq HH0.out)) (fun hH => ?_)
  have HROW2 := Aside0.mk hbox
  clear hK K hHeld hbox hg3
  have hHeld := hH
  clear hH
  (try simp only [Act.put, List.setIfInBounds_toArray, List.set_cons_zero, List.set_cons_succ])
  refine wpAnyH_done (by kernel_rfl) ?_ _
  (try simp only [Exit.then])
  go_wp2
  go_ret
  obtain ⟨R, hR, hRl⟩ := grow_cells (k := Gi * 2) HPL.out HEL.out HDL.out HGG.out.2.2.1 (by have := HGG.out; have := HN.out; omega)
  rw [HC1.out, ← HN.out.2.1] at hR
  have hrow := HROW2.out
  rw [hR] at hrow
  refine ⟨_, rfl, ?_, grown_of_below hHeld _⟩
  have hown := own_of (base := base) (l := insE l i x) (cap := G) (by have := HB.out; have := HH0.out; omega) hrow (by rw [HINS2.out]; have := HGG.out.1; have := HN.out; omega) HGG.out.2.1 (by have := HPL.out; have := HEL.out; have := HDL.out; have := HGG.out; have := HN.out; simp only [List.length_append]; omega) (by rw [HINS2.out, HINS.out]; exact List.take_left' (by have := HPL.out; have := HEL.out; have := HDL.out; have := HN.out; simp only [List.length_append]; omega))
  rw [HINS2.out, ← HN.out.1] at hown
  rw [← HN.out.1]
  exact hown

end Go.Proofs.YtneanbckmekdkaaDoor.EN

end

section
/- slices.Insert over entries, one more: room. -/
namespace Go.Proofs.YtneanbckmekdkaaDoor.EN
open Go Go.RowKit Go.Proofs.YtneanbckmekdkaaDoorX Go.Proofs.YtneanbckmekdkaaDoor.NM Go.Proofs.YtneanbckmekdkaaDoorW.PrintWords Go.Proofs.YtneanbckmekdkaaDoorW.PrintLast Go.Proofs.YtneanbckmekdkaaDoorW.PrintMore Go.Proofs.YtneanbckmekdkaaDoor.PEntryForms
set_option linter.unusedVariables false
set_option linter.unusedSimpArgs false
set_option maxHeartbeats 4000000 in
set_option maxRecDepth 100000 in
theorem insert_shift (base : Nat) (l : List S42) (i : Nat) (x : S42) (vb g cap : Nat) (w : World) (ho : w.ownsRow base 42 2 (.slice (some ⟨g, 0, none⟩) l.length cap) l.length (rowsE l)) (hb : base ≤ w.heap.size) (hi : i < l.length) (hl : l.length ≤ 1000) (hv : w.heap[vb]? = some (.cells #[.int .i64 x.f0, .string x.f1] 42 (0, 0))) (hne : g ≠ vb) (hcap : l.length + 1 ≤ cap) :
    Calls Tryd.prog 36 #[.slice (some ⟨g, 0, none⟩) l.length cap, .int .i64 (i : Int), .slice (some ⟨vb, 0, none⟩) 1 1] w fun e w' => ∃ v', e = .returned v' ∧ w'.ownsRow base 42 2 v' (l.length + 1) (rowsE (insE l i x)) ∧ w.grownBy w' (some g) := by
  obtain ⟨hgb, cur, hh, hnc, hcm, hcs, htk⟩ := own_form2 ho
  obtain ⟨n, hn⟩ : ∃ n, l.length = n := ⟨_, rfl⟩
  rw [hn] at ho hi hl hnc htk ⊢
  have hPl := rowsE_length (l.take i)
  have hDl := rowsE_length (l.drop i)
  rw [List.length_take, hn, Nat.min_eq_left (by omega)] at hPl
  rw [List.length_drop, hn] at hDl
  have hspl := rowsE_split l i
  have hins := rowsE_ins l i x
  have hP1 := rowsE_one (l.take i)
  have hD1 := rowsE_one (l.drop i)
  obtain ⟨P, hP⟩ : ∃ P, rowsE (l.take i) = P := ⟨_, rfl⟩
  obtain ⟨D, hD⟩ : ∃ D, rowsE (l.drop i) = D := ⟨_, rfl⟩
  obtain ⟨E, hE⟩ : ∃ E, E = [Value.int .i64 x.f0, Value.string x.f1] := ⟨_, rfl⟩
  rw [hP] at hPl hspl hins hP1
  rw [hD] at hDl hspl hins hD1
  rw [← hE] at hins
  have hEl : E.length = 2 := by rw [hE]; rfl
  have hE1 : ∀ v ∈ E, v.oneCell' = true := by rw [hE]; intro v hv; simp at hv; rcases hv with rfl | rfl <;> rfl
  have hins2 : (insE l i x).length = n + 1 := hn ▸ insE_length x (by omega)
  rw [hspl] at htk
  have hcell : ∀ (W : World), W.heap[g]? = some (.cells cur.toArray 42 (0, 0)) → ∀ j u, (P ++ D)[j]? = some u → W.cell? ⟨g, j, none⟩ = some u := fun W hW j u hj => by
    rw [World.cell?, hW]
    have : cur[j]? = some u := by
      rw [← htk, List.getElem?_take] at hj
      split at hj
      · exact hj
      · cases hj
    simpa using this
  have hcellV : ∀ (W : World), W.heap[vb]? = some (.cells #[.int .i64 x.f0, .string x.f1] 42 (0, 0)) → ∀ j u, E[j]? = some u → W.cell? ((⟨vb, 0, none⟩ : Addr).add j) = some u := fun W hW j u hj => by
    rw [add_plain, World.cell?, hW]
    rw [hE] at hj
    simpa using hj
  obtain ⟨rowV, hrowV⟩ : ∃ r : Array Value, r = #[.int .i64 x.f0, .string x.f1] := ⟨_, rfl⟩
  rw [← hrowV] at hv hcellV
  have hVs : rowV.size = 2 := by rw [hrowV]; rfl
  obtain ⟨n1, hn1⟩ : ∃ q, q = n + 1 := ⟨_, rfl⟩
  obtain ⟨i1, hi1⟩ : ∃ q, q = i + 1 := ⟨_, rfl⟩
  obtain ⟨d, hd⟩ : ∃ q, n - i = q := ⟨_, rfl⟩
  obtain ⟨d1, hd1⟩ : ∃ q, n1 - i = q := ⟨_, rfl⟩
  obtain ⟨ci, hci⟩ : ∃ q, cap - i = q := ⟨_, rfl⟩
  have hd2 : n1 - i1 = d := by omega
  have hc0 : ∀ W : World, _ := fun W => cut_lo W g n cap i (by omega) (by omega)
  rw [hd, hci] at hc0
  have hx1 : IntKind.wrap .i64 ((n : Int) + 1) = (n1 : Int) := (IntWalk.i64_in _ ⟨by omega, by omega⟩).trans (by omega)
  have hx2 : IntKind.wrap .i64 ((i : Int) + 1) = (i1 : Int) := (IntWalk.i64_in _ ⟨by omega, by omega⟩).trans (by omega)
  have hx3 : IntKind.wrap .i64 ((n1 : Int) - (i : Int)) = (d1 : Int) := (IntWalk.i64_in _ ⟨by omega, by omega⟩).trans (by omega)
  have hz2 : ¬ ((i : Int) = (n : Int)) := by omega
  have hz2b : ((i : Int) == (n : Int)) = false := beq_eq_false_iff_ne.2 hz2
  have hz2c : ¬ (i = n) := by omega
  have z0 : (0 : Int) ≤ (i : Int) := Int.natCast_nonneg _
  have z1 : (i : Int) ≤ (n : Int) := by omega
  have hz3 : ¬ ((cap : Int) < (n1 : Int)) := by omega
  have z2 : (i1 : Int) ≤ (n1 : Int) := by omega
  have z3 : (i : Int) ≤ (n1 : Int) := by omega
  have z4 : (n1 : Int) ≤ (cap : Int) := by omega
  have hc1 : ∀ W : World, _ := fun W => cut_hi W g n cap n1 (by omega)
  have hc4 : ∀ W : World, _ := fun W => cut_lo W g n1 cap i1 (by omega) (by omega)
  have hc5 : ∀ W : World, _ := fun W => cut_lo W g n1 cap i (by omega) (by omega)
  obtain ⟨c1, hc1'⟩ : ∃ q, cap - i1 = q := ⟨_, rfl⟩
  rw [hd2, hc1'] at hc4
  rw [hd1, hci] at hc5
  have hov : (callFunc 46 #[.slice (some ⟨vb, 0, none⟩) 1 1, .slice (some ⟨g, i1 * 2, none⟩) d c1]).run Tryd.prog w = .ok (.value (.bool false)) w := by
    rw [run_callFunc_extern Tryd.func46 (by kernel_rfl) (by kernel_rfl) (by kernel_rfl) (e := Extern.SlicesOverlaps.overlaps #[22, 22] #[4]) (by kernel_rfl),
      Lib.run_overlaps_apart w 22 4 42 Tryd.underlying22 2 (fun W => by go_simp) ⟨vb, 0, none⟩ ⟨g, i1 * 2, none⟩ 1 1 d c1 (fun e => hne e.symm) 42 42 2 (cap * 2) (by simp [World.shape?, hv, hVs]) (by simp [World.shape?, hh, hcs]) (by omega) (by simp [World.frozen?, hv]) (by simp [World.frozen?, hv])]
    rfl
  have hE0 := hcell w hh
  have HC4 := Aside0.mk hc4
  have HC5 := Aside0.mk hc5
  have HPL := Aside0.mk hPl
  have hOD : ∀ (W : World), W.heap[g]? = some (.cells cur.toArray 42 (0, 0)) → ∀ j u, D[j]? = some u → W.cell? ((⟨g, i * 2, none⟩ : Addr).add j) = some u := fun W hW j u hj => by
    have h3 : (⟨g, i * 2, none⟩ : Addr).add j = ⟨g, i * 2 + j, none⟩ := by unfold Addr.add; split <;> simp_all
    rw [h3]
    exact hcell W hW _ u (by rw [← hPl, List.getElem?_append_right (by omega), Nat.add_sub_cancel_left]; exact hj)
  have HOD := Aside0.mk hOD
  have HDL := Aside0.mk (show D.length = d * 2 by rw [hDl, hd])
  have HD1 := Aside0.mk hD1
  have HH := Aside0.mk hh
  have HV := Aside0.mk hv
  have HCV := Aside0.mk hcellV
  have HE1 := Aside0.mk hE1
  have HEL := Aside0.mk hEl
  have HINS := Aside0.mk hins
  have HINS2 := Aside0.mk hins2
  have HGB := Aside0.mk hgb
  have HN := Aside0.mk (show n1 = n + 1 ∧ i1 = i + 1 ∧ n - i = d ∧ n1 - i = d1 ∧ i < n ∧ n1 ≤ cap from ⟨hn1, hi1, hd, hd1, hi, by omega⟩)
  have HNE2 := Aside0.mk (show some vb ≠ some g from fun e => hne (Option.some.inj e).symm)
  have HVL := Aside0.mk (show vb < w.heap.size from (Array.getElem?_eq_some_iff.1 hv).1)
  have HCM := Aside0.mk hcm
  have HCS := Aside0.mk hcs
  have HTK := Aside0.mk htk
  have HMIN := Aside0.mk (show d = Nat.min d1 d by simp only [Nat.min_def]; split <;> omega)
  have HFIT := Aside0.mk (show i1 * 2 + D.length ≤ cur.length by rw [hDl, hcs]; omega)
  obtain ⟨C1, hC1⟩ : ∃ C, cur.take (i1 * 2) ++ D ++ cur.drop (i1 * 2 + D.length) = C := ⟨_, rfl⟩
  have HCL := Aside0.mk (show C1.length = cap * 2 by rw [← hC1]; simp only [List.length_append, List.length_take, List.length_drop]; omega)
  have HC1 := Aside0.mk hC1
  clear ho hb hi hl hv hne hcap hgb hh hnc hcm hcs htk hPl hDl hspl hins hP1 hD1 hP hD hE hEl hE1 hins2 hcell hcellV hrowV hVs hn hn1 hi1 hd hd1 hci hd2 hE0 hOD hc1' hC1
  go_enter Tryd.func36, Tryd.ntmps36
  go_wp2_with (simp only [hov])
  refine wp_region_held_drew (S := fun W => w.grownBy W (some g)) (by kernel_rfl) (grown_of_below (below_drew (Below.refl w.heap.size w)) _) (fun hHeld => ?_)
  refine wpAnyH_take (i := 0) (oi := ⟨some 69, _, _, _, _, _⟩) (v := (.slice (some ⟨g, 0, none⟩) n1 cap)) rfl (by kernel_rfl) (by kernel_rfl) (by kernel_rfl) (fun _ _ _ h => h) (Or.inl ⟨by rfl, fun W hS => by go_simp⟩) hHeld ?_
  (try simp only [Act.put, List.setIfInBounds_toArray, List.set_cons_zero, List.set_cons_succ])
  refine wpAnyH_take (i := 1) (oi := ⟨some 70, _, _, _, _, _⟩) (v := (.int .i64 (i : Int))) rfl (by kernel_rfl) (by kernel_rfl) (by kernel_rfl) (fun _ _ _ h => h) (Or.inl ⟨by rfl, fun W hS => by go_simp⟩) hHeld ?_
  (try simp only [Act.put, List.setIfInBounds_toArray, List.set_cons_zero, List.set_cons_succ])
  refine wpAnyH_take (i := 2) (oi := ⟨some 71, _, _, _, _, _⟩) (v := (.int .i64 1)) rfl (by kernel_rfl) (by kernel_rfl) (by kernel_rfl) (fun _ _ _ h => h) (Or.inl ⟨by rfl, fun W hS => by go_simp⟩) hHeld ?_
  (try simp only [Act.put, List.setIfInBounds_toArray, List.set_cons_zero, List.set_cons_succ])
  refine wpAnyH_take (i := 3) (oi := ⟨some 72, _, _, _, _, _⟩) (v := (.int .i64 (i1 : Int))) rfl (by kernel_rfl) (by kernel_rfl) (by kernel_rfl) (fun _ _ _ h => h) (Or.inl ⟨by rfl, fun W hS => by go_simp⟩) hHeld ?_
  (try simp only [Act.put, List.setIfInBounds_toArray, List.set_cons_zero, List.set_cons_succ])
  refine wpAnyH_take (i := 4) (oi := ⟨some 73, _, _, _, _, _⟩) (v := (.slice (some ⟨g, i1 * 2, none⟩) d c1)) rfl (by kernel_rfl) (by kernel_rfl) (by kernel_rfl) (fun _ _ _ h => h) (Or.inl ⟨by rfl, fun W hS => by have hc4 := HC4.out; go_simp⟩) hHeld ?_
  (try simp only [Act.put, List.setIfInBounds_toArray, List.set_cons_zero, List.set_cons_succ])
  refine wpAnyH_take (i := 5) (oi := ⟨some 74, _, _, _, _, _⟩) (v := (.slice (some ⟨g, 0, none⟩) n1 cap)) rfl (by kernel_rfl) (by kernel_rfl) (by kernel_rfl) (fun _ _ _ h => h) (Or.inl ⟨by rfl, fun W hS => by go_simp⟩) hHeld ?_
  (try simp only [Act.put, List.setIfInBounds_toArray, List.set_cons_zero, List.set_cons_succ])
  refine wpAnyH_take (i := 6) (oi := ⟨some 75, _, _, _, _, _⟩) (v := (.int .i64 (i : Int))) rfl (by kernel_rfl) (by kernel_rfl) (by kernel_rfl) (fun _ _ _ h => h) (Or.inl ⟨by rfl, fun W hS => by go_simp⟩) hHeld ?_
  (try simp only [Act.put, List.setIfInBounds_toArray, List.set_cons_zero, List.set_cons_succ])
  refine wpAnyH_take (i := 7) (oi := ⟨some 76, _, _, _, _, _⟩) (v := (.slice (some ⟨g, i * 2, none⟩) d1 ci)) rfl (by kernel_rfl) (by kernel_rfl) (by kernel_rfl) (fun _ _ _ h => h) (Or.inl ⟨by rfl, fun W hS => by have hc5 := HC5.out; go_simp⟩) hHeld ?_
  (try simp only [Act.put, List.setIfInBounds_toArray, List.set_cons_zero, List.set_cons_succ])
  refine wpAnyH_ready (rs := [8]) (by kernel_rfl) (by simp) ?_
  refine AllReadyH.cons rfl (fun K hK => ?_) AllReadyH.nil
  refine wp_copy_ents (.tmp 73) (.tmp 76) rfl g (i1 * 2) d c1 ⟨g, i * 2, none⟩ d1 ci d cur D (by kernel_rfl) (by kernel_rfl) HMIN.out HDL.out HH.out (HOD.out w.drew HH.out) HFIT.out HD1.out (fun w3 hbox hg3 => ?_)
  refine hK.out _ _ (hHeld.trans hg3) (fun hH => ?_)
  have HROW1 := Aside0.mk hbox
  clear hK K hHeld hbox hg3
  have hHeld := hH
  clear hH
  (try simp only [Act.put, List.setIfInBounds_toArray, List.set_cons_zero, List.set_cons_succ])
  refine wpAnyH_done (by kernel_rfl) ?_ _
  (try simp only [Exit.then])
  rw [HC1.out] at HROW1
  have HG1 := Aside0.mk hHeld
  clear hHeld
  go_wp2_with (first
    | (have hz := HROW1.out; clear hz; (with_reducible refine gate_dst (N := 82) rfl ?_); refine ev_copy_ents rfl (.tmp 80) (.tmp 81) rfl g (i * 2) d1 ci ⟨vb, 0, none⟩ 1 1 1 C1 E (by kernel_rfl) (by kernel_rfl) (by have := HN.out; simp only [Nat.min_def]; split <;> omega) HEL.out HROW1.out (HCV.out _ ((HG1.out.block vb HVL.out HNE2.out).trans HV.out)) (by rw [HCL.out, HEL.out]; have := HN.out; omega) HE1.out ?_; intro w4 hbox hg4; have HROW2 := Aside0.mk hbox; have HG2 := Aside0.mk (HG1.out.trans hg4); clear hbox hg4))
  go_ret
  obtain ⟨R, hR, hRl⟩ := shift_cells (S := cur.drop (n * 2)) (k := cap * 2 - n * 2) HPL.out HEL.out HDL.out (by rw [List.length_drop, HCS.out]) (by have := HN.out; omega)
  rw [← HTK.out, List.take_append_drop, ← HN.out.2.1, HC1.out] at hR
  have hrow := HROW2.out
  rw [hR] at hrow
  refine ⟨_, rfl, ?_, HG2.out⟩
  have hown := own_of (base := base) (l := insE l i x) (cap := cap) HGB.out hrow (by rw [HINS2.out]; have := HN.out; omega) HCM.out (by have := HPL.out; have := HEL.out; have := HDL.out; have := HN.out; simp only [List.length_append]; omega) (by rw [HINS2.out, HINS.out]; exact List.take_left' (by have := HPL.out; have := HEL.out; have := HDL.out; have := HN.out; simp only [List.length_append]; omega))
  rw [HINS2.out, ← HN.out.1] at hown
  rw [← HN.out.1]
  exact hown
end Go.Proofs.YtneanbckmekdkaaDoor.EN

end

section
/- slices.Insert over entries, one more: at the end; all roads. -/
namespace Go.Proofs.YtneanbckmekdkaaDoor.EN
open Go Go.RowKit Go.Proofs.YtneanbckmekdkaaDoorX Go.Proofs.YtneanbckmekdkaaDoor.NM Go.Proofs.YtneanbckmekdkaaDoorW.PrintWords Go.Proofs.YtneanbckmekdkaaDoorW.PrintLast Go.Proofs.YtneanbckmekdkaaDoorW.PrintMore Go.Proofs.YtneanbckmekdkaaDoor.PEntryForms
set_option linter.unusedVariables false
set_option linter.unusedSimpArgs false
theorem one_row {w : World} {vb : Nat} {x : S42} (hv : w.heap[vb]? = some (.cells #[.int .i64 x.f0, .string x.f1] 42 (0, 0))) (hz : x.f1.size ≤ 140737488351232) : Row w (some ⟨vb, 0, none⟩) [x] :=
  own_row (own_of (base := vb) (l := [x]) (cap := 1) (cur := [.int .i64 x.f0, .string x.f1]) (Nat.le_refl _) hv (by simp) (by decide) rfl (by rfl)) (fun y hy => by rw [List.mem_singleton.1 hy]; exact hz)
theorem insE_end (l : List S42) (x : S42) : insE l l.length x = l ++ [x] := by simp [insE]
set_option maxHeartbeats 4000000 in
set_option maxRecDepth 100000 in
theorem insert_end (base : Nat) (v : Value) (l : List S42) (x : S42) (vb : Nat) (w : World) (ho : w.ownsRow base 42 2 v l.length (rowsE l)) (hb : base ≤ w.heap.size) (hl : l.length ≤ 1000) (hv : w.heap[vb]? = some (.cells #[.int .i64 x.f0, .string x.f1] 42 (0, 0))) (hz : x.f1.size ≤ 140737488351232) :
    Calls Tryd.prog 36 #[v, .int .i64 (l.length : Int), .slice (some ⟨vb, 0, none⟩) 1 1] w fun e w' => ∃ v', e = .returned v' ∧ w'.ownsRow base 42 2 v' (l.length + 1) (rowsE (insE l l.length x)) ∧ w.grownBy w' v.ownBlock := by
  have HRV := Aside0.mk (one_row hv hz)
  have HB := Aside0.mk hb
  have HO := Aside0.mk ho
  clear hv hz hb
  rcases ho.2 with ⟨hn0, h0⟩ | ⟨g, cap, cur, hv0, _⟩
  · obtain rfl : l = [] := List.eq_nil_of_length_eq_zero h0
    subst hn0
    clear ho h0
    go_enter Tryd.func36, Tryd.ntmps36
    go_wp2_with (at_builtin; (with_reducible refine gate_dst (N := 25) rfl ?_); refine ev_append_ents rfl (.tmp 23) (.tmp 24) rfl base (.slice none 0 0) [] [x] (some ⟨vb, 0, none⟩) 1 (by kernel_rfl) (by kernel_rfl) HO.out HRV.out HB.out (by simp) ?_; intro v1 w1 ho1 hg1; have HO1 := Aside0.mk ho1; have HG1 := Aside0.mk hg1; clear ho1 hg1)
    go_ret
    exact ⟨_, rfl, HO1.out, HG1.out⟩
  · subst hv0
    have hnc := own_form2 ho
    have hcapn : (l.length : Int) ≤ (cap : Int) := by have := hnc.2.choose_spec.2.1; omega
    obtain ⟨A2, d2, c2, hcut⟩ := cut_end g l.length cap l.length (Nat.le_refl _) hnc.2.choose_spec.2.1
    have HEND := Aside0.mk (insE_end l x)
    have HLL := Aside0.mk (show l.length + [x].length ≤ 5864062014700 by simp; omega)
    obtain ⟨n, hn⟩ : ∃ n, l.length = n := ⟨_, rfl⟩
    have HN := Aside0.mk hn
    rw [hn] at hcut hl hcapn ⊢
    have HEND' := HEND.out
    rw [hn] at HEND'
    have HE2 := Aside0.mk HEND'
    have HOn := Aside0.mk (show w.ownsRow base 42 2 (.slice (some ⟨g, 0, none⟩) n cap) l.length (rowsE l) from hn ▸ HO.out)
    clear ho hn hnc HEND' HO HEND
    have HO := HOn
    go_enter Tryd.func36, Tryd.ntmps36
    go_wp2_with (at_builtin; (with_reducible refine gate_dst (N := 25) rfl ?_); refine ev_append_ents rfl (.tmp 23) (.tmp 24) rfl base (.slice (some ⟨g, 0, none⟩) n cap) l [x] (some ⟨vb, 0, none⟩) 1 (by kernel_rfl) (by kernel_rfl) HO.out HRV.out HB.out HLL.out ?_; intro v1 w1 ho1 hg1; have HO1 := Aside0.mk ho1; have HG1 := Aside0.mk hg1; clear ho1 hg1)
    go_ret
    refine ⟨_, rfl, ?_, HG1.out⟩
    have := HO1.out
    rw [List.length_append, HN.out] at this
    rw [HE2.out]
    exact this
theorem insert_any (base : Nat) (v : Value) (l : List S42) (i : Nat) (x : S42) (vb : Nat) (w : World) (ho : w.ownsRow base 42 2 v l.length (rowsE l)) (hb : base ≤ w.heap.size) (hi : i ≤ l.length) (hl : l.length ≤ 1000) (hv : w.heap[vb]? = some (.cells #[.int .i64 x.f0, .string x.f1] 42 (0, 0))) (hz : x.f1.size ≤ 140737488351232) (hne : ∀ k, v.ownBlock = some k → k ≠ vb) :
    Calls Tryd.prog 36 #[v, .int .i64 (i : Int), .slice (some ⟨vb, 0, none⟩) 1 1] w fun e w' => ∃ v', e = .returned v' ∧ w'.ownsRow base 42 2 v' (l.length + 1) (rowsE (insE l i x)) ∧ w.grownBy w' v.ownBlock := by
  rcases Nat.lt_or_ge i l.length with h | h
  · obtain ⟨g, cap, cur, rfl, _⟩ := own_form ho (by omega)
    rcases Nat.lt_or_ge cap (l.length + 1) with hc | hc
    · exact insert_grow base l i x vb g cap w ho hb h hl hv (hne g rfl) hc
    · exact insert_shift base l i x vb g cap w ho hb h hl hv (hne g rfl) hc
  · obtain rfl : i = l.length := by omega
    exact insert_end base v l x vb w ho hb hl hv hz
end Go.Proofs.YtneanbckmekdkaaDoor.EN

end

section
/- entry.Insert: where it puts it in: the walk. -/
namespace Go.Proofs.YtneanbckmekdkaaDoor.EN
open Go Go.RowKit Go.Proofs.YtneanbckmekdkaaDoorX Go.Proofs.YtneanbckmekdkaaDoor.NM Go.Proofs.YtneanbckmekdkaaDoorW.PrintWords Go.Proofs.YtneanbckmekdkaaDoorW.PrintLast Go.Proofs.YtneanbckmekdkaaDoorW.PrintMore Go.Proofs.YtneanbckmekdkaaDoor.PEntryForms
set_option linter.unusedVariables false
set_option linter.unusedSimpArgs false
theorem rangeAt_blk {w : World} {b t : Nat} {cs : List Value} (h : w.heap[b]? = some (.cells cs.toArray t (0, 0))) : w.rangeAt b 0 cs := fun j v hv => by
  have hj : j < cs.length := by by_cases hlt : j < cs.length; exact hlt; rw [List.getElem?_eq_none (by omega)] at hv; cases hv
  have he : cs.toArray[0 + j]? = some v := by rw [Nat.zero_add]; simpa using hv
  have := blk_cell h (0 + j)
  rw [this, he]
theorem heap_new (W : World) (o : Obj) : (W.alloc o).heap[W.heap.size]? = some o := by
  show (W.heap.push o)[W.heap.size]? = _
  rw [Array.getElem?_push_size]
theorem insErr_none {l : List S42} {x : S42} (h : insErr l x = none) : mayE l = true ∧ valid x.f1.data.toList = true ∧ okIno x.f0 = true ∧ isE l x.f1 = false ∧ l.length < 64 := by
  unfold insErr at h
  by_cases h1 : mayE l = true
  · rw [if_pos h1] at h
    by_cases h2 : valid x.f1.data.toList = true
    · rw [if_pos h2] at h
      by_cases h3 : okIno x.f0 = true
      · rw [if_pos h3] at h
        by_cases h4 : isE l x.f1 = true
        · rw [if_pos h4] at h; cases h
        · rw [if_neg h4] at h
          by_cases h5 : 64 ≤ l.length
          · rw [if_pos h5] at h; cases h
          · exact ⟨h1, h2, h3, by simpa using h4, by omega⟩
      · rw [if_neg h3] at h; cases h
    · rw [if_neg h2] at h; cases h
  · rw [if_neg h1] at h; cases h
set_option maxHeartbeats 4000000 in
set_option maxRecDepth 100000 in
theorem ins_yes (A : Option Addr) (c : Nat) (l : List S42) (a : Int) (s : ByteArray) (w : World) (hr : Row w A l) (hz : ∀ x ∈ l, x.f1.size ≤ 17592186044416) (hn : s.size ≤ 17592186044416) (hT : Lib.Utf8Tabs 1 2 w) (he : insErr l ⟨a, s⟩ = none) :
    Calls Tryd.prog 20 #[.slice A l.length c, .agg (cellsE a s)] w fun e w' => ∃ v, e = .returned (.tuple #[v, .int .i64 0]) ∧ w'.ownsRow w.heap.size 42 2 v (l.length + 1) (rowsE (insE l (atE l s) ⟨a, s⟩)) ∧ Below w.heap.size w w' := by
  obtain ⟨hm, hv, hi, hx, hlen⟩ := insErr_none he
  have HM := Aside0.mk hm
  have HV := Aside0.mk hv
  have HI := Aside0.mk hi
  have HE := Aside0.mk hx
  have HR := Aside0.mk hr
  have HZ := Aside0.mk hz
  have HN := Aside0.mk hn
  have HT := Aside0.mk hT
  obtain ⟨J, HAT⟩ : ∃ J, Aside0 (atE l s = J) := ⟨_, ⟨rfl⟩⟩
  rw [HAT.out]
  have HJ := Aside0.mk (show J ≤ l.length by rw [← HAT.out]; exact atE_le l s)
  have HL := Aside0.mk (show l.length ≤ 9223372036854775807 by omega)
  have HL2 := Aside0.mk (show l.length ≤ 5864062014700 by omega)
  have HLL := Aside0.mk (show l.length ≤ 1000 by omega)
  have HSZ := Aside0.mk (show s.size ≤ 140737488351232 by omega)
  have hfull : ¬ ((64 : Int) ≤ (l.length : Int)) := by omega
  clear hr hz hn hT he hm hv hi hx hlen
  go_enter Tryd.func20, Tryd.ntmps20
  go_wp2_with (first
    | ((with_reducible refine gate_dst (N := 3) rfl ?_); refine box_event ?hg (N := 3) ?hd (cs := cellsE a s) (t := 42) ?hr ?_; (case hd => rfl); (case hg => rfl); (case hr => first | (go_simp; done) | (go_simp; rfl) | kernel_rfl); intro gg hg w1 hbox hb; have HB1 := Aside0.mk hb; have BG := Aside0.mk hbox; have d1 : w1.cell? ⟨gg, 1, none⟩ = some (.string s) := (blk_cell hbox 1).trans (cellE_one a s); have d0 : w1.cell? ⟨gg, 0, none⟩ = some (.int .i64 a) := (blk_cell hbox 0).trans (cellE_zero a s); clear hb hbox hg)
    | (go_at_call 29; refine (may_call a _).mono ?_; rw [HI.out]; rintro e w5 ⟨rfl, hb⟩; have HB5 := Aside0.mk (below_step HB4.out hb); have d1 := pw_cell_below hb d1; have d0 := pw_cell_below hb d0; have BG := Aside0.mk (blk_below BG.out hb); clear hb)
    | (go_at_call 30; refine (valid_any s _ (by have := HN.out; omega) (Utf8Tabs_below HT.out HB3.out)).mono ?_; rw [HV.out]; rintro e w4 ⟨rfl, hb⟩; have HB4 := Aside0.mk (below_step HB3.out hb); have d1 := pw_cell_below hb d1; have d0 := pw_cell_below hb d0; have BG := Aside0.mk (blk_below BG.out hb); clear hb)
    | (go_at_call 18; refine (find_any A c l s _ (HR.out.below HB2.out) HL.out HZ.out HN.out).mono ?_; rw [HE.out, HAT.out]; rintro e w3 ⟨rfl, hb⟩; have HB3 := Aside0.mk (below_step HB2.out hb); have d1 := pw_cell_below hb d1; have d0 := pw_cell_below hb d0; have BG := Aside0.mk (blk_below BG.out hb); clear hb)
    | (go_at_call 15; refine (may_any _ A c l (HR.out.below HB1.out) (Utf8Tabs_below HT.out HB1.out)).mono ?_; rw [HM.out]; rintro e w2 ⟨rfl, hb⟩; have HB2 := Aside0.mk (below_step HB1.out hb); have d1 := pw_cell_below hb d1; have d0 := pw_cell_below hb d0; have BG := Aside0.mk (blk_below BG.out hb); clear hb))
  refine wp_region_held_drew (S := fun W => Below w5.drew.heap.size w5.drew W) (by kernel_rfl) (Below.refl w5.drew.heap.size w5.drew) (fun hHeld => ?_)
  obtain ⟨wq, hwq⟩ : ∃ W, w5.drew = W := ⟨_, rfl⟩
  have HBQ := Aside0.mk (show Below w.heap.size w w5.drew from below_drew HB5.out)
  have BGQ := Aside0.mk (show w5.drew.heap[gg]? = some (.cells [Value.int .i64 a, Value.string s].toArray 42 (0, 0)) from BG.out)
  have HRQ := Aside0.mk (HR.out.below HBQ.out)
  rw [hwq] at hHeld HBQ BGQ HRQ ⊢
  clear hwq
  refine wpAnyH_take (i := 0) (oi := ⟨some 34, _, _, _, _, _⟩) (v := (.slice A l.length c)) rfl (by kernel_rfl) (by kernel_rfl) (by kernel_rfl) (fun _ _ _ h => h) (Or.inl ⟨by rfl, fun W hS => by go_simp⟩) hHeld ?_
  (try simp only [Act.put, List.setIfInBounds_toArray, List.set_cons_zero, List.set_cons_succ])
  refine wpAnyH_take (i := 2) (oi := ⟨some 36, _, _, _, _, _⟩) (v := (.int .i64 (J : Int))) rfl (by kernel_rfl) (by kernel_rfl) (by kernel_rfl) (fun _ _ _ h => h) (Or.inl ⟨by rfl, fun W hS => by go_simp⟩) hHeld ?_
  (try simp only [Act.put, List.setIfInBounds_toArray, List.set_cons_zero, List.set_cons_succ])
  refine wpAnyH_take (i := 3) (oi := ⟨some 37, _, _, _, _, _⟩) rfl (by kernel_rfl) (by kernel_rfl) (by kernel_rfl) (fun _ _ _ h => h) (yieldsIf_load_mid (by rfl) 42 (.tmp 3) rfl gg 0 rfl [.int .i64 a, .string s] _ (fun W hS => rangeAt_blk (blk_below BGQ.out hS)) Tryd.underlying42 rfl (by kernel_rfl)) hHeld ?_
  (try simp only [Act.put, List.setIfInBounds_toArray, List.set_cons_zero, List.set_cons_succ])
  refine wpAnyH_ready (rs := [1, 4]) (by kernel_rfl) (by simp) ?_
  refine AllReadyH.cons rfl (fun K hK => ?_) (AllReadyH.cons rfl (fun K hK => ?_) (AllReadyH.nil))
  case' refine_1 =>
    go_simp
    refine (clone_any A c l _ (HRQ.out.below hHeld) HL2.out).mono ?_
    rintro e wc ⟨v, rfl, ho, hb⟩
    have HOC := Aside0.mk (own_less ho hHeld.size)
    (first
      | (have HVI := Aside0.mk (blk_below HVA.out hb); have HNI := Aside0.mk (show ∀ k, v.ownBlock = some k → k ≠ wq.heap.size from fun k e => Nat.ne_of_gt (Nat.lt_of_lt_of_le (blk_lt HVA.out) (own_base ho k e))); have HOI := HOC)
      | skip)
    dsimp only
    refine hK.out _ _ (below_step hHeld hb) (fun hH => ?_)
    clear hK K hHeld ho hb
    have hHeld := hH
    clear hH
    (try simp only [Act.put, List.setIfInBounds_toArray, List.set_cons_zero, List.set_cons_succ])
    refine wpAnyH_ready (rs := [4]) (by kernel_rfl) (by simp) ?_
    refine AllReadyH.cons rfl (fun K hK => ?_) (AllReadyH.nil)
    go_simp
    (first
      | (have HVI := Aside0.mk (heap_new wc (.cells #[.int .i64 a, .string s] 42)); have HNI := Aside0.mk (show ∀ k, v.ownBlock = some k → k ≠ wc.heap.size from fun k e => Nat.ne_of_lt (own_lt HOC.out k e)); have HOI := Aside0.mk (HOC.out.alloc (.cells #[.int .i64 a, .string s] 42)))
      | (have HVA := Aside0.mk (heap_new wq (.cells #[.int .i64 a, .string s] 42))))
    refine hK.out _ _ (hHeld.alloc hHeld.size _) (fun hH => ?_)
    clear hK K hHeld
    have hHeld := hH
    clear hH
    (try simp only [Act.put, List.setIfInBounds_toArray, List.set_cons_zero, List.set_cons_succ])
    refine wpAnyH_ready (rs := [5]) (by kernel_rfl) (by simp) ?_
    refine AllReadyH.cons rfl (fun K hK => ?_) (AllReadyH.nil)
    go_simp
    refine (insert_any wq.heap.size v l J ⟨a, s⟩ _ _ HOI.out hHeld.size HJ.out HLL.out HVI.out HSZ.out HNI.out).mono ?_
    rintro e wi ⟨v', rfl, ho, hg⟩
    have HOF := Aside0.mk ho
    dsimp only
    refine hK.out _ _ (hHeld.grown hg hHeld.size (own_base HOI.out)) (fun hH => ?_)
    clear hK K hHeld ho hg
    have hHeld := hH
    clear hH
    (try simp only [Act.put, List.setIfInBounds_toArray, List.set_cons_zero, List.set_cons_succ])
    refine wpAnyH_take (i := 6) (oi := ⟨some 4, _, _, _, _, _⟩) (v := v') rfl (by kernel_rfl) (by kernel_rfl) (by kernel_rfl) (fun _ _ _ h => h) (Or.inl ⟨by rfl, fun W hS => by go_simp⟩) hHeld ?_
    (try simp only [Act.put, List.setIfInBounds_toArray, List.set_cons_zero, List.set_cons_succ])
    refine wpAnyH_take (i := 7) (oi := ⟨some 5, _, _, _, _, _⟩) (v := (.int .i64 0)) rfl (by kernel_rfl) (by kernel_rfl) (by kernel_rfl) (fun _ _ _ h => h) (Or.inl ⟨by rfl, fun W hS => by go_simp⟩) hHeld ?_
    (try simp only [Act.put, List.setIfInBounds_toArray, List.set_cons_zero, List.set_cons_succ])
    refine wpAnyH_done (by kernel_rfl) ?_ _
    have HF := Aside0.mk (below_step HBQ.out hHeld)
    clear hHeld
    (try simp only [Exit.then])
    go_wp2
    go_ret2
    exact ⟨_, rfl, own_less HOF.out HBQ.out.size, HF.out⟩
  case' refine_2 =>
    go_simp
    (first
      | (have HVI := Aside0.mk (heap_new wc (.cells #[.int .i64 a, .string s] 42)); have HNI := Aside0.mk (show ∀ k, v.ownBlock = some k → k ≠ wc.heap.size from fun k e => Nat.ne_of_lt (own_lt HOC.out k e)); have HOI := Aside0.mk (HOC.out.alloc (.cells #[.int .i64 a, .string s] 42)))
      | (have HVA := Aside0.mk (heap_new wq (.cells #[.int .i64 a, .string s] 42))))
    refine hK.out _ _ (hHeld.alloc hHeld.size _) (fun hH => ?_)
    clear hK K hHeld
    have hHeld := hH
    clear hH
    (try simp only [Act.put, List.setIfInBounds_toArray, List.set_cons_zero, List.set_cons_succ])
    refine wpAnyH_ready (rs := [1]) (by kernel_rfl) (by simp) ?_
    refine AllReadyH.cons rfl (fun K hK => ?_) (AllReadyH.nil)
    go_simp
    refine (clone_any A c l _ (HRQ.out.below hHeld) HL2.out).mono ?_
    rintro e wc ⟨v, rfl, ho, hb⟩
    have HOC := Aside0.mk (own_less ho hHeld.size)
    (first
      | (have HVI := Aside0.mk (blk_below HVA.out hb); have HNI := Aside0.mk (show ∀ k, v.ownBlock = some k → k ≠ wq.heap.size from fun k e => Nat.ne_of_gt (Nat.lt_of_lt_of_le (blk_lt HVA.out) (own_base ho k e))); have HOI := HOC)
      | skip)
    dsimp only
    refine hK.out _ _ (below_step hHeld hb) (fun hH => ?_)
    clear hK K hHeld ho hb
    have hHeld := hH
    clear hH
    (try simp only [Act.put, List.setIfInBounds_toArray, List.set_cons_zero, List.set_cons_succ])
    refine wpAnyH_ready (rs := [5]) (by kernel_rfl) (by simp) ?_
    refine AllReadyH.cons rfl (fun K hK => ?_) (AllReadyH.nil)
    go_simp
    refine (insert_any wq.heap.size v l J ⟨a, s⟩ _ _ HOI.out hHeld.size HJ.out HLL.out HVI.out HSZ.out HNI.out).mono ?_
    rintro e wi ⟨v', rfl, ho, hg⟩
    have HOF := Aside0.mk ho
    dsimp only
    refine hK.out _ _ (hHeld.grown hg hHeld.size (own_base HOI.out)) (fun hH => ?_)
    clear hK K hHeld ho hg
    have hHeld := hH
    clear hH
    (try simp only [Act.put, List.setIfInBounds_toArray, List.set_cons_zero, List.set_cons_succ])
    refine wpAnyH_take (i := 6) (oi := ⟨some 4, _, _, _, _, _⟩) (v := v') rfl (by kernel_rfl) (by kernel_rfl) (by kernel_rfl) (fun _ _ _ h => h) (Or.inl ⟨by rfl, fun W hS => by go_simp⟩) hHeld ?_
    (try simp only [Act.put, List.setIfInBounds_toArray, List.set_cons_zero, List.set_cons_succ])
    refine wpAnyH_take (i := 7) (oi := ⟨some 5, _, _, _, _, _⟩) (v := (.int .i64 0)) rfl (by kernel_rfl) (by kernel_rfl) (by kernel_rfl) (fun _ _ _ h => h) (Or.inl ⟨by rfl, fun W hS => by go_simp⟩) hHeld ?_
    (try simp only [Act.put, List.setIfInBounds_toArray, List.set_cons_zero, List.set_cons_succ])
    refine wpAnyH_done (by kernel_rfl) ?_ _
    have HF := Aside0.mk (below_step HBQ.out hHeld)
    clear hHeld
    (try simp only [Exit.then])
    go_wp2
    go_ret2
    exact ⟨_, rfl, own_less HOF.out HBQ.out.size, HF.out⟩
end Go.Proofs.YtneanbckmekdkaaDoor.EN

end
