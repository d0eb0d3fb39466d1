/- entry.Set: where it refuses; a row of entries behind another; own. -/
import Derived.Test.YtneanbckmekdkaaDoorEWakes
import Derived.Deep.DeepAppendWide
namespace Go.Proofs.YtneanbckmekdkaaDoor.EN
open Go Go.RowKit Go.Proofs.YtneanbckmekdkaaDoorX Go.Proofs.YtneanbckmekdkaaDoor.NM Go.Proofs.YtneanbckmekdkaaDoorW.PrintWords Go.Proofs.YtneanbckmekdkaaDoorW.PrintLast Go.Proofs.YtneanbckmekdkaaDoorW.PrintMore Go.Proofs.YtneanbckmekdkaaDoor.PEntryForms
set_option linter.unusedVariables false
set_option linter.unusedSimpArgs false
/-- Why a number may not be set. -/
def setErr (l : List S42) (nm : ByteArray) (x : Int) : Option Int := if mayE l = true ∧ okIno x = true then (if isE l nm = true then none else some 32) else some 1
set_option maxHeartbeats 2000000 in
theorem set_may (A : Option Addr) (c : Nat) (l : List S42) (nm : ByteArray) (x : Int) (w : World) (hr : Row w A l) (hl : l.length ≤ 9223372036854775807) (hz : ∀ x ∈ l, x.f1.size ≤ 17592186044416) (hn : nm.size ≤ 17592186044416) (hT : Lib.Utf8Tabs 1 2 w) (HM : Aside0 (mayE l = false)) :
    Calls Tryd.prog 21 #[.slice A l.length c, .string nm, .int .i64 x] w fun e w' => e = .returned (.tuple #[.slice none 0 0, .int .i64 0, .int .i64 1]) ∧ Below w.heap.size w w' := by
  have HR := Aside0.mk hr
  have HL := Aside0.mk hl
  have HZ := Aside0.mk hz
  have HN := Aside0.mk hn
  have HT := Aside0.mk hT
  obtain ⟨J, HAT⟩ : ∃ J, Aside0 (atE l nm = J) := ⟨_, ⟨rfl⟩⟩
  clear hr hl hz hn hT
  go_enter Tryd.func21, Tryd.ntmps21
  go_wp2_with (first
    | (go_at_call 15; refine (may_any w A c l HR.out HT.out).mono ?_; rw [HM.out]; rintro e w1 ⟨rfl, hb⟩; have HB1 := Aside0.mk hb; clear hb))
  refine bodyPost_ret (results_tmp3 rfl _ _ _) rfl ?_
  exact ⟨rfl, HB1.out⟩
set_option maxHeartbeats 2000000 in
theorem set_ino (A : Option Addr) (c : Nat) (l : List S42) (nm : ByteArray) (x : Int) (w : World) (hr : Row w A l) (hl : l.length ≤ 9223372036854775807) (hz : ∀ x ∈ l, x.f1.size ≤ 17592186044416) (hn : nm.size ≤ 17592186044416) (hT : Lib.Utf8Tabs 1 2 w) (HM : Aside0 (mayE l = true)) (HI : Aside0 (okIno x = false)) :
    Calls Tryd.prog 21 #[.slice A l.length c, .string nm, .int .i64 x] w fun e w' => e = .returned (.tuple #[.slice none 0 0, .int .i64 0, .int .i64 1]) ∧ Below w.heap.size w w' := by
  have HR := Aside0.mk hr
  have HL := Aside0.mk hl
  have HZ := Aside0.mk hz
  have HN := Aside0.mk hn
  have HT := Aside0.mk hT
  obtain ⟨J, HAT⟩ : ∃ J, Aside0 (atE l nm = J) := ⟨_, ⟨rfl⟩⟩
  clear hr hl hz hn hT
  go_enter Tryd.func21, Tryd.ntmps21
  go_wp2_with (first
    | (have hz := HB1.out; clear hz; go_at_call 29; refine (may_call x w1).mono ?_; rw [HI.out]; rintro e w2 ⟨rfl, hb⟩; have HB2 := Aside0.mk (below_step HB1.out hb); clear hb)
    | (go_at_call 15; refine (may_any w A c l HR.out HT.out).mono ?_; rw [HM.out]; rintro e w1 ⟨rfl, hb⟩; have HB1 := Aside0.mk hb; clear hb))
  refine bodyPost_ret (results_tmp3 rfl _ _ _) rfl ?_
  exact ⟨rfl, HB2.out⟩
set_option maxHeartbeats 2000000 in
theorem set_none (A : Option Addr) (c : Nat) (l : List S42) (nm : ByteArray) (x : Int) (w : World) (hr : Row w A l) (hl : l.length ≤ 9223372036854775807) (hz : ∀ x ∈ l, x.f1.size ≤ 17592186044416) (hn : nm.size ≤ 17592186044416) (hT : Lib.Utf8Tabs 1 2 w) (HM : Aside0 (mayE l = true)) (HI : Aside0 (okIno x = true)) (HE : Aside0 (isE l nm = false)) :
    Calls Tryd.prog 21 #[.slice A l.length c, .string nm, .int .i64 x] w fun e w' => e = .returned (.tuple #[.slice none 0 0, .int .i64 0, .int .i64 32]) ∧ Below w.heap.size w w' := by
  have HR := Aside0.mk hr
  have HL := Aside0.mk hl
  have HZ := Aside0.mk hz
  have HN := Aside0.mk hn
  have HT := Aside0.mk hT
  obtain ⟨J, HAT⟩ : ∃ J, Aside0 (atE l nm = J) := ⟨_, ⟨rfl⟩⟩
  clear hr hl hz hn hT
  go_enter Tryd.func21, Tryd.ntmps21
  go_wp2_with (first
    | (have hz := HB2.out; clear hz; go_at_call 18; refine (find_any A c l nm w2 (HR.out.below HB2.out) HL.out HZ.out HN.out).mono ?_; rw [HE.out, HAT.out]; rintro e w3 ⟨rfl, hb⟩; have HB3 := Aside0.mk (below_step HB2.out hb); clear hb)
    | (have hz := HB1.out; clear hz; go_at_call 29; refine (may_call x w1).mono ?_; rw [HI.out]; rintro e w2 ⟨rfl, hb⟩; have HB2 := Aside0.mk (below_step HB1.out hb); clear hb)
    | (go_at_call 15; refine (may_any w A c l HR.out HT.out).mono ?_; rw [HM.out]; rintro e w1 ⟨rfl, hb⟩; have HB1 := Aside0.mk hb; clear hb))
  refine bodyPost_ret (results_tmp3 rfl _ _ _) rfl ?_
  exact ⟨rfl, HB3.out⟩
theorem set_err (A : Option Addr) (c : Nat) (l : List S42) (nm : ByteArray) (x : Int) (w : World) (hr : Row w A l) (hl : l.length ≤ 9223372036854775807) (hz : ∀ x ∈ l, x.f1.size ≤ 17592186044416) (hn : nm.size ≤ 17592186044416) (hT : Lib.Utf8Tabs 1 2 w) (y : Int) (he : setErr l nm x = some y) :
    Calls Tryd.prog 21 #[.slice A l.length c, .string nm, .int .i64 x] w fun e w' => e = .returned (.tuple #[.slice none 0 0, .int .i64 0, .int .i64 y]) ∧ Below w.heap.size w w' := by
  unfold setErr at he
  cases hm : mayE l with
  | false =>
    rw [hm, if_neg (by simp)] at he
    cases he
    exact set_may A c l nm x w hr hl hz hn hT ⟨hm⟩
  | true =>
    cases hi : okIno x with
    | false =>
      rw [hm, hi, if_neg (by simp)] at he
      cases he
      exact set_ino A c l nm x w hr hl hz hn hT ⟨hm⟩ ⟨hi⟩
    | true =>
      rw [hm, hi, if_pos (by simp)] at he
      cases hx : isE l nm with
      | true => rw [hx, if_pos rfl] at he; cases he
      | false =>
        rw [hx, if_neg (by simp)] at he
        cases he
        exact set_none A c l nm x w hr hl hz hn hT ⟨hm⟩ ⟨hi⟩ ⟨hx⟩
theorem rowsE_append (a b : List S42) : rowsE (a ++ b) = rowsE a ++ rowsE b := by simp [rowsE]
theorem rowsE_one (l : List S42) : ∀ u ∈ rowsE l, u.oneCell' = true := by
  intro u hu
  rw [rowsE, List.mem_flatMap] at hu
  obtain ⟨x, _, hx⟩ := hu
  simp only [List.mem_cons, List.not_mem_nil, or_false] at hx
  rcases hx with rfl | rfl <;> rfl
theorem rowsE_get {l : List S42} : ∀ {j : Nat} {u : Value}, (rowsE l)[j]? = some u → ∃ i, i < l.length ∧ ((j = i * 2 ∧ u = .int .i64 (inoAt l i)) ∨ (j = i * 2 + 1 ∧ u = .string (nameAt l i))) := by
  induction l with
  | nil => intro j u h; cases h
  | cons x l ih =>
    intro j u h
    have hc : rowsE (x :: l) = Value.int .i64 x.f0 :: Value.string x.f1 :: rowsE l := by simp [rowsE]
    rw [hc] at h
    match j, h with
    | 0, h => cases h; exact ⟨0, by simp, .inl ⟨rfl, rfl⟩⟩
    | 1, h => cases h; exact ⟨0, by simp, .inr ⟨rfl, rfl⟩⟩
    | j + 2, h =>
      obtain ⟨i, hi, hu⟩ := ih (j := j) (u := u) (by simpa using h)
      have e1 : inoAt (x :: l) (i + 1) = inoAt l i := by
        have a := (at_get (l := x :: l) (i := i + 1) (by simp; omega)).1
        rw [a, (at_get hi).1]; rfl
      have e2 : nameAt (x :: l) (i + 1) = nameAt l i := by
        have a := (at_get (l := x :: l) (i := i + 1) (by simp; omega)).2
        rw [a, (at_get hi).2]; rfl
      refine ⟨i + 1, by simp; omega, ?_⟩
      rw [e1, e2]
      rcases hu with ⟨h1, h2⟩ | ⟨h1, h2⟩
      · exact .inl ⟨by omega, h2⟩
      · exact .inr ⟨by omega, h2⟩
theorem row_news {w : World} {A : Option Addr} {l : List S42} (h : Row w A l) (h0 : 0 < l.length) : ∃ ad, A = some ad ∧ ∀ j u, (rowsE l)[j]? = some u → w.cell? (ad.add j) = some u := by
  obtain ⟨ad, rfl, _⟩ := h.at_ h0
  refine ⟨ad, rfl, fun j u hu => ?_⟩
  obtain ⟨i, hi, hc⟩ := rowsE_get hu
  obtain ⟨ad', e, c0, c1⟩ := h.at_ hi
  cases e
  rcases hc with ⟨rfl, rfl⟩ | ⟨rfl, rfl⟩
  · exact c0
  · rw [add_field _ _ 1 (by decide)]; exact c1
theorem infoEnt' : (Tryd.prog.info? 42).map (fun i => (i.zero, i.size, i.bytes)) = some (some (.agg #[.int .i64 0, .string ⟨#[]⟩]), 2, 24) := by kernel_rfl
section
variable {o : Oper} {a : Act} {K : Act → World → Prop} {Q : Exit → Act → World → Prop}
/-- append(v, x...), entries: at an operation. -/
theorem wp_append_ents (s x : Operand) (ho : o.op = .call { callee := .builtin .append, args := #[s, x], argTypes := #[22, 22] }) {W : World} (base : Nat) (v : Value) (xs ys : List S42) (A : Option Addr) (c : Nat) (hs : a.eval s = v) (hx : a.eval x = .slice A ys.length c)
    (HO : W.ownsRow base 42 2 v xs.length (rowsE xs)) (HR : Row W A ys) (hbase : base ≤ W.heap.size) (hl : xs.length + ys.length ≤ 5800000000000)
    (h : ∀ v1 w1, w1.ownsRow base 42 2 v1 (xs ++ ys).length (rowsE (xs ++ ys)) → W.grownBy w1 v.ownBlock → K (a.put o.dst v1) w1) : o.wp Tryd.prog a W K Q := by
  obtain ⟨i0, hi, hz0, hz1, hz2⟩ := info_parts infoEnt'
  rcases Nat.eq_zero_or_pos ys.length with h0 | h0
  · obtain rfl : ys = [] := List.eq_nil_of_length_eq_zero h0
    have h1 := h v W (by simpa using HO) (World.grownBy.refl W _)
    cases A with
    | some ad =>
      refine wp_append_own_wide W s x 22 ho base 42 i0 (.agg #[.int .i64 0, .string ⟨#[]⟩]) 2 24 Tryd.underlying22 hi hz0 hz1 hz2 rfl (by decide) v xs.length _ hs HO ad 0 c [] hx rfl (fun j u hu => by cases hu) (fun u hu => by cases hu) (by simp only [maxLen, List.length_nil] at *; omega) (by simp only [List.length_nil] at hl; omega) hbase ?_
      intro v1 w1 ho1 hg _
      exact h v1 w1 (by simpa using ho1) hg
    | none =>
      unfold Oper.wp execOp
      have hrun : (Builtin.append_ #[22, 22] o.type #[v, .slice none 0 c]).run Tryd.prog W = .ok v W := by
        rcases HO.2 with ⟨rfl, hn⟩ | ⟨g, cap, cur, rfl, _, _, hnc, _⟩
        · simp [Builtin.append_, run_underlying Tryd.underlying22, sizeOf, typeInfo, hi, Builtin.lenOf, Builtin.firstCells]
        · simp [Builtin.append_, run_underlying Tryd.underlying22, sizeOf, typeInfo, hi, Builtin.lenOf, Builtin.firstCells, hnc, storeCells]
      have hx' : a.eval x = .slice none 0 c := hx
      simp only [ho, resolve, invoke, builtin, Sem.run_bind, Sem.run_pure, Result.andThen_ok, List.map_toArray, List.map_cons, List.map_nil, hs, hx', hrun]
      exact h1
  · obtain ⟨ad, rfl, hc⟩ := row_news HR h0
    refine wp_append_own_wide W s x 22 ho base 42 i0 (.agg #[.int .i64 0, .string ⟨#[]⟩]) 2 24 Tryd.underlying22 hi hz0 hz1 hz2 rfl (by decide) v xs.length _ hs HO ad ys.length c (rowsE ys) hx (rowsE_length ys) hc (rowsE_one ys) (by simp only [maxLen]; omega) (by omega) hbase ?_
    intro v1 w1 ho1 hg _
    exact h v1 w1 (by rw [List.length_append, rowsE_append]; exact ho1) hg
theorem ev_append_ents {ops : Array Oper} {rest : List Oper} (hgd : o.guard = none) (s x : Operand) (ho : o.op = .call { callee := .builtin .append, args := #[s, x], argTypes := #[22, 22] }) {W : World} (base : Nat) (v : Value) (xs ys : List S42) (A : Option Addr) (c : Nat) (hs : a.eval s = v) (hx : a.eval x = .slice A ys.length c)
    (HO : W.ownsRow base 42 2 v xs.length (rowsE xs)) (HR : Row W A ys) (hbase : base ≤ W.heap.size) (hl : xs.length + ys.length ≤ 5800000000000)
    (h : ∀ v1 w1, w1.ownsRow base 42 2 v1 (xs ++ ys).length (rowsE (xs ++ ys)) → W.grownBy w1 v.ownBlock → wpList Tryd.prog ops Q rest (a.put o.dst v1) w1) : wpList Tryd.prog ops Q (o :: rest) a W :=
  wpList_plain hgd fun _ hK => wp_append_ents s x ho base v xs ys A c hs hx HO HR hbase hl (fun v1 w1 h1 h2 => hK _ _ (h v1 w1 h1 h2))
end
theorem own_any (A : Option Addr) (c : Nat) (l : List S42) (w : World) (hr : Row w A l) (hl : l.length ≤ 5800000000000) :
    Calls Tryd.prog 9 #[.slice A l.length c] w fun e w' => ∃ B d, e = .returned (.slice B l.length d) ∧ w'.ownsRow w.heap.size 42 2 (.slice B l.length d) l.length (rowsE l) ∧ Below w.heap.size w w' := by
  have HR := Aside0.mk hr
  have HL := Aside0.mk hl
  clear hr hl
  go_enter Tryd.func9, Tryd.ntmps9
  go_wp2_with (at_builtin; (with_reducible refine gate_dst (N := 4) rfl ?_); refine ev_append_ents rfl (.const (.slice none 0 0)) (.tmp 3) rfl w.heap.size (.slice none 0 0) [] l A c (by kernel_rfl) (by kernel_rfl) (own_nil _ _ _ _) HR.out (Nat.le_refl _) (by have := HL.out; simp; omega) ?_; intro v1 w1 ho hg; rw [List.nil_append] at ho; have HO := Aside0.mk ho; have HB := Aside0.mk (pw_below_grown (Below.refl w.heap.size w) _ (Nat.le_refl _) hg (fun k e => by simp [Value.ownBlock] at e)); clear ho hg)
  go_ret
  obtain ⟨B, d, rfl⟩ := own_slice HO.out
  exact ⟨B, d, rfl, HO.out, HB.out⟩
end Go.Proofs.YtneanbckmekdkaaDoor.EN
