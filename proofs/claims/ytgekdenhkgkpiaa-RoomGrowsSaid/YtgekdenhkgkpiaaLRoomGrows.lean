/- RoomGrows: more uses no less; more segments have no less room. Conditions: none. -/
import Derived.Test.YtgekdenhkgkpiaaRows
import Derived.Test.YtgekdenhkgkpiaaWkRoomGrows
import Derived.Test.YtgekdenhkgkpiaaPureRoomGrows
import Derived.WalkKit
import Derived.ProofKit
import Derived.OpenShut
import Derived.ShutString
import Derived.ChangeOld
import Derived.Below
import Derived.SizedLaws
import Derived.Lib.SmallJoins
import Derived.Test.YtgekdenhkgkpiaaWSized
namespace Go.Proofs.Ytgekdenhkgkpiaa.roomGrows
open Go.ChangeShapes Go.WideShapes Go.ChangeAt Go.RowKit Go.Joins
open Go.ChangeMaps (open_string shut_string)
set_option linter.unusedVariables false
theorem own : ownKnob Try.prog.godebug = none := by kernel_rfl
theorem laidOut : laidOutB Try.prog = true := by kernel_rfl
theorem cells31 : Try.prog.cellsOf 31 = 3 := by kernel_rfl
def IsRow (k : IntKind) (w : World) (a : Option Addr) (len cap : Nat) (zs : List Int) : Prop :=
  (a = none ∧ len = 0 ∧ cap = 0 ∧ zs = []) ∨
  ∃ x, a = some x ∧ len ≤ cap ∧ cap ≤ maxLen ∧ zs.length = cap ∧ (∀ i, i < zs.length → w.cell? (x.add i) = some (.int k (zs.getD i 0))) ∧ ∀ n ∈ zs, (Lit.int k n).wf = true
open Go.Proofs.YtgekdenhkgkpiaaW.PrintWords Go.Proofs.Ytgekdenhkgkpiaa.TRoomGrows in
theorem walk (x0_0 x0_1 x0_2 : Int) (x1 : Int) (x2 : Int) (x3 : Int) (A4 : Option Addr) (n4 c4 : Nat) (z4 : List Int) (x5 : Int) (x6 : Int) (w : World) (wf0_0 : (Lit.int .i64 x0_0).wf = true) (wf0_1 : (Lit.int .i64 x0_1).wf = true) (wf0_2 : (Lit.int .i64 x0_2).wf = true) (wf1 : (Lit.int .i64 x1).wf = true) (wf2 : (Lit.int .i64 x2).wf = true) (wf3 : (Lit.int .i64 x3).wf = true) (row4 : IsRow .i64 w A4 n4 c4 z4) (sz4 : n4 * 8 ≤ 140737488351232) (wf5 : (Lit.int .i64 x5).wf = true) (wf6 : (Lit.int .i64 x6).wf = true) :
    Calls Try.prog 7 #[.agg #[.int .i64 x0_0, .int .i64 x0_1, .int .i64 x0_2], .int .i64 x1, .int .i64 x2, .int .i64 x3, .slice A4 n4 c4, .int .i64 x5, .int .i64 x6] w fun e w' => e = .returned (.bool true) ∧ Below w.heap.size w w' := by
  obtain ⟨l, rfl, hr, hm, hw, hc⟩ := ReadsInt.ofRowC row4
  have b2 := (bounds_i64 wf2).2
  have b3 := (bounds_i64 wf3).2
  have hu := use_bd x5
  have hb := used_bd l
  have hk : 0 < l.length + 5 := by omega
  have U1 := used_eq sz4 (k := l.length + 5) (by omega)
  have U2 : PRoomGrows.room_Used.f (l.length + 5) (l ++ [x5]) = some (usedK l + useK x5) := by
    rw [← Pure.used_snoc]
    by_cases h1 : (l ++ [x5]).length * 8 ≤ 140737488351232
    · exact used_eq h1 (by simp only [List.length_append, List.length_cons, List.length_nil]; omega)
    · exact used_eq' (by simp only [List.length_append, List.length_cons, List.length_nil]; omega) (by simp only [List.length_append, List.length_cons, List.length_nil]; omega)
  have hlo := Pure.lo_bd b3 b2
  have hg := Pure.great_bd (g2 := x0_2) (more := x1)
  have G1 := seg_eq (a := x0_0) hlo.1
  have G2 := seg_eq (a := x0_0) hlo.2.1
  have hs := Pure.seg_mono (a := x0_0) hlo.2.2
  have Wk := wakes_true (l.length + 5) (by omega)
  by_cases hso : x5 ≤ x6
  · by_cases hf : FitsK x0_0 x0_1 x0_2 x2
    · by_cases hle : x3 ≤ x2
      · exact WkRoomGrows.walk_yyy (l.length + 5) x0_0 x0_1 x0_2 x1 x2 x3 x5 x6 A4 c4 l w hr sz4 hc _ _ _ _ _ _ _ _ _ U1 U2 (by omega) (by omega) (use_eq x5) hu.1 hu.2 (use_eq x6) hso (Pure.use_mono hso) rfl rfl rfl rfl
          (by rw [fits_eq hk, decide_eq_true hf]) (by rw [fits_eq hk, decide_eq_true (Pure.fits_great hf hg.1 hg.2)]) hle (by rw [fits_eq hk, decide_eq_true (Pure.fits_less hf hle)]) G1 G2 hs Wk
      · exact WkRoomGrows.walk_yyn (l.length + 5) x0_0 x0_1 x0_2 x1 x2 x3 x5 x6 A4 c4 l w hr sz4 hc _ _ _ _ _ _ _ _ _ U1 U2 (by omega) (by omega) (use_eq x5) hu.1 hu.2 (use_eq x6) hso (Pure.use_mono hso) rfl rfl rfl rfl
          (by rw [fits_eq hk, decide_eq_true hf]) (by rw [fits_eq hk, decide_eq_true (Pure.fits_great hf hg.1 hg.2)]) (by omega) G1 G2 hs Wk
    · exact WkRoomGrows.walk_yn (l.length + 5) x0_0 x0_1 x0_2 x1 x2 x3 x5 x6 A4 c4 l w hr sz4 hc _ _ _ _ _ _ _ _ _ U1 U2 (by omega) (by omega) (use_eq x5) hu.1 hu.2 (use_eq x6) hso (Pure.use_mono hso) rfl rfl rfl rfl
        (by rw [fits_eq hk, decide_eq_false hf]) G1 G2 hs Wk
  · by_cases hf : FitsK x0_0 x0_1 x0_2 x2
    · by_cases hle : x3 ≤ x2
      · exact WkRoomGrows.walk_nyy (l.length + 5) x0_0 x0_1 x0_2 x1 x2 x3 x5 x6 A4 c4 l w hr sz4 hc _ _ _ _ _ _ _ _ U1 U2 (by omega) (by omega) (use_eq x5) hu.1 hu.2 (by omega) rfl rfl rfl rfl
          (by rw [fits_eq hk, decide_eq_true hf]) (by rw [fits_eq hk, decide_eq_true (Pure.fits_great hf hg.1 hg.2)]) hle (by rw [fits_eq hk, decide_eq_true (Pure.fits_less hf hle)]) G1 G2 hs Wk
      · exact WkRoomGrows.walk_nyn (l.length + 5) x0_0 x0_1 x0_2 x1 x2 x3 x5 x6 A4 c4 l w hr sz4 hc _ _ _ _ _ _ _ _ U1 U2 (by omega) (by omega) (use_eq x5) hu.1 hu.2 (by omega) rfl rfl rfl rfl
          (by rw [fits_eq hk, decide_eq_true hf]) (by rw [fits_eq hk, decide_eq_true (Pure.fits_great hf hg.1 hg.2)]) (by omega) G1 G2 hs Wk
    · exact WkRoomGrows.walk_nn (l.length + 5) x0_0 x0_1 x0_2 x1 x2 x3 x5 x6 A4 c4 l w hr sz4 hc _ _ _ _ _ _ _ _ U1 U2 (by omega) (by omega) (use_eq x5) hu.1 hu.2 (by omega) rfl rfl rfl rfl
        (by rw [fits_eq hk, decide_eq_false hf]) G1 G2 hs Wk
set_option maxRecDepth 100000 in
theorem lifted (os : Os) (started : os.Started) (H : Type) (enc : TypeId × Value → H) :
    ReturnsInHanded {} Try.checked os 7 .any (Rows.roomGrowsSpec.pre6 enc Try.prog Try.f7 Rows.roomGrowsRow.domain false) (Rows.roomGrowsSpec.post enc Try.prog Try.f7 false true false false) := by
  refine returnsInHanded_of_change_sized (C := Try.checked) own started (by kernel_rfl) Try.func7
    (ChangeSpec.witness6 (enc := enc) (C := Try.checked) false ⟨#[], #[.agg #[.int .i64 0, .int .i64 0, .int .i64 0], .int .i64 0, .int .i64 0, .int .i64 0, .slice none 0 0, .int .i64 0, .int .i64 0], []⟩ 8 (by kernel_rfl) (by kernel_rfl) (by kernel_rfl) (by kernel_rfl)) ?_
  intro W base args ds gs before hval0 hW hcnd hsz0 _
  have hsz : (DataW.weightsEach Try.prog (Try.f7.params.toList ++ Rows.roomGrowsSpec.plain.varTypes Try.prog) (ds ++ gs)).all (· ≤ reachBytes) = true := hsz0
  have hval : ∀ (j : Nat) t v, Try.f7.params[j]? = some t → args[j]? = some v → Value.okWide Try.prog W .any base t v := hval0
  have hW' := hW
  obtain ⟨p, q, hA0, hV, rfl, hfz, hnd⟩ := hW
  have hA : DataW.TrodAll enc Try.prog W 0 (fun _ => true) true Try.f7.params.toList args.toList ds p := hA0
  rw [Try.params7] at hA hval hsz
  obtain ⟨v0, vs0, d0, ds0, p0, q0, hargs, rfl, rfl, h0, r0⟩ := trodAll_cons hA
  obtain ⟨v1, vs1, d1, ds1, p1, q1, rfl, rfl, rfl, h1, r1⟩ := trodAll_cons r0
  obtain ⟨v2, vs2, d2, ds2, p2, q2, rfl, rfl, rfl, h2, r2⟩ := trodAll_cons r1
  obtain ⟨v3, vs3, d3, ds3, p3, q3, rfl, rfl, rfl, h3, r3⟩ := trodAll_cons r2
  obtain ⟨v4, vs4, d4, ds4, p4, q4, rfl, rfl, rfl, h4, r4⟩ := trodAll_cons r3
  obtain ⟨v5, vs5, d5, ds5, p5, q5, rfl, rfl, rfl, h5, r5⟩ := trodAll_cons r4
  obtain ⟨v6, vs6, d6, ds6, p6, q6, rfl, rfl, rfl, h6, r6⟩ := trodAll_cons r5
  obtain ⟨rfl, rfl, rfl⟩ := trodAll_nil r6
  obtain rfl : args = #[v0, v1, v2, v3, v4, v5, v6] := by cases args; simp_all
  obtain ⟨rfl, rfl⟩ := trodVars_none hV
  obtain ⟨e0_0, e0_1, e0_2, y0_0, y0_1, y0_2, m0, rfl, rfl, rfl, hy0_0, hy0_1, hy0_2⟩ := open_agg3 Try.underlying31 (by kernel_rfl) cells31 (hval 0 31 v0 rfl rfl) h0
  obtain ⟨x0_0, z0_0, rfl, wf0_0⟩ := DataW.trod_int Try.underlying3 hy0_0
  obtain ⟨x0_1, z0_1, rfl, wf0_1⟩ := DataW.trod_int Try.underlying3 hy0_1
  obtain ⟨x0_2, z0_2, rfl, wf0_2⟩ := DataW.trod_int Try.underlying3 hy0_2
  simp at z0_0 z0_1 z0_2
  subst z0_0 z0_1 z0_2
  obtain ⟨x1, rfl, rfl, rfl, wf1⟩ := open_int Try.underlying3 (hval 1 3 v1 rfl rfl) h1
  obtain ⟨x2, rfl, rfl, rfl, wf2⟩ := open_int Try.underlying3 (hval 2 3 v2 rfl rfl) h2
  obtain ⟨x3, rfl, rfl, rfl, wf3⟩ := open_int Try.underlying3 (hval 3 3 v3 rfl rfl) h3
  obtain ⟨A4, n4, c4, rfl⟩ := okWide_slice Try.underlying22 (hval 4 22 v4 rfl rfl)
  have k4 := h4
  have lt4 : ∀ x ∈ p4, x.block < W.heap.size := by obtain ⟨m, hm⟩ := k4; exact DataW.trod_lt m _ _ _ hm
  obtain ⟨z4, row4⟩ : ∃ zs, IsRow .i64 W A4 n4 c4 zs := by
    obtain ⟨fuel, hf⟩ := h4
    rcases open_ints Try.underlying22 Try.underlying3 (by kernel_rfl) hf with ⟨hcs, _⟩ | ⟨x, l, c, zs, hcs, _, hl, hm, hz, _, hcell, hwz⟩
    · simp [Value.cells] at hcs
      obtain ⟨rfl, rfl, rfl⟩ := hcs
      exact ⟨[], .inl ⟨rfl, rfl, rfl, rfl⟩⟩
    · simp [Value.cells] at hcs
      obtain ⟨rfl, rfl, rfl⟩ := hcs
      exact ⟨zs, .inr ⟨_, rfl, hl, hm, by simpa using hz, hcell, hwz⟩⟩
  have sz4 : n4 * 8 ≤ 140737488351232 := Go.Proofs.YtgekdenhkgkpiaaW.PrintWords.sized_ints hsz (j := 4) (t := 22) rfl rfl Try.underlying22 Try.underlying3 (by kernel_rfl) (by kernel_rfl) h4
  obtain ⟨x5, rfl, rfl, rfl, wf5⟩ := open_int Try.underlying3 (hval 5 3 v5 rfl rfl) h5
  obtain ⟨x6, rfl, rfl, rfl, wf6⟩ := open_int Try.underlying3 (hval 6 3 v6 rfl rfl) h6
  clear hA0 hval0 hsz0 hsz
  refine (walk x0_0 x0_1 x0_2 x1 x2 x3 A4 n4 c4 z4 x5 x6 W wf0_0 wf0_1 wf0_2 wf1 wf2 wf3 row4 sz4 wf5 wf6).mono fun e W' ⟨he, bel⟩ => ?_
  subst he
  have st0 : DataW.Trod enc Try.prog W' 0 (fun b => decide (b < W.heap.size)) true 31 (.agg #[.int .i64 x0_0, .int .i64 x0_1, .int .i64 x0_2]) (.agg [.lit (.int .i64 x0_0), .lit (.int .i64 x0_1), .lit (.int .i64 x0_2)]) [] :=
    shut_agg3 (y0 := (.lit (.int .i64 x0_0), [])) (y1 := (.lit (.int .i64 x0_1), [])) (y2 := (.lit (.int .i64 x0_2), [])) Try.underlying31 (by kernel_rfl) cells31 ⟨1, by simp [DataW.trod, Try.underlying3, wf0_0]⟩ ⟨1, by simp [DataW.trod, Try.underlying3, wf0_1]⟩ ⟨1, by simp [DataW.trod, Try.underlying3, wf0_2]⟩
  exact ⟨_, rfl, _, _, _, [], _, [], hW', trodAll_mk1 (shut_bool Try.underlying4 _), (trodAll_cons_mk (st0) (trodAll_cons_mk (shut_int Try.underlying3 wf1) (trodAll_cons_mk (shut_int Try.underlying3 wf2) (trodAll_cons_mk (shut_int Try.underlying3 wf3) (trodAll_cons_mk ((Below.trod laidOut (by kernel_rfl) (of_decide_eq_true (by kernel_rfl)) k4 bel lt4)) (trodAll_cons_mk (shut_int Try.underlying3 wf5) (trodAll_cons_mk (shut_int Try.underlying3 wf6) trodAll_mk0))))))), rfl, bel.frame _, fun h => by cases h⟩
theorem proved : Rows.RoomGrowsSaid :=
  OpenClaim.holds_of_wide 7 Try.f7 rfl rfl rfl rfl rfl rfl rfl ⟨rfl, rfl, rfl, rfl, rfl⟩ rfl rfl rfl rfl rfl (by kernel_rfl) Try.func7 (by kernel_rfl)
    (of_decide_eq_true (by kernel_rfl)) (by unfold Func.isWrapper; first | (rw [if_pos (by decide +kernel)]; kernel_rfl) | (rw [if_neg (by decide +kernel)]; exact ⟨rfl, rfl⟩))
    (fun os started H enc _ => lifted os started H enc)
#print axioms proved
end Go.Proofs.Ytgekdenhkgkpiaa.roomGrows
namespace Go.Proofs.Ytgekdenhkgkpiaa
/-- The row, under a short name, for the claim. -/
theorem roomGrows_holds : Rows.RoomGrowsSaid := roomGrows.proved
end Go.Proofs.Ytgekdenhkgkpiaa
