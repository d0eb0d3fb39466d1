/- UsageLives: the row. -/
import Derived.Test.YtgiapegacbibeaaRows
import Derived.Test.YtgiapegacbibeaaULv
import Derived.WalkKit
import Derived.ProofKit
import Derived.OpenShut
import Derived.ShutString
import Derived.ChangeOld
import Derived.Below
import Derived.SizedLaws
import Derived.Lib.SmallJoins
namespace Go.Proofs.Ytgiapegacbibeaa.usageLives
open Go.ChangeShapes Go.WideShapes Go.ChangeAt Go.RowKit Go.Joins
open Go.ChangeMaps (open_string shut_string)
set_option linter.unusedVariables false
theorem own : ownKnob Try.prog.godebug = none := by kernel_rfl
theorem laidOut : laidOutB Try.prog = true := by kernel_rfl
theorem cells23 : Try.prog.cellsOf 23 = 3 := by kernel_rfl
theorem rng32 {n : Int} (h : (Lit.int .u32 n).wf = true) : 0 ≤ n ∧ n < 4294967296 := by
  have h' : IntKind.u32.min ≤ n ∧ n ≤ IntKind.u32.max := by simpa [Lit.wf] using h
  have e1 : IntKind.u32.min = 0 := by kernel_rfl
  have e2 : IntKind.u32.max = 4294967296 - 1 := by kernel_rfl
  rw [e1, e2] at h'
  omega
theorem rng8 {n : Int} (h : (Lit.int .u8 n).wf = true) : 0 ≤ n ∧ n < 256 := by
  have h' : IntKind.u8.min ≤ n ∧ n ≤ IntKind.u8.max := by simpa [Lit.wf] using h
  have e1 : IntKind.u8.min = 0 := by kernel_rfl
  have e2 : IntKind.u8.max = 256 - 1 := by kernel_rfl
  rw [e1, e2] at h'
  omega
open Go.Proofs.YtgiapegacbibeaaW.PrintWords Go.Proofs.Ytgiapegacbibeaa.PUsageLives in
theorem walk (x0_0 x0_1 x0_2 : Int) (m1 : List Int) (A2 : Option Addr) (c2 : Nat) (l2 : List S62) (w : World) (wf0_0 : (Lit.int .i64 x0_0).wf = true) (wf0_1 : (Lit.int .i64 x0_1).wf = true) (wf0_2 : (Lit.int .i64 x0_2).wf = true) (ml1 : m1.length = 64) (mw1 : ∀ x ∈ m1, (Lit.int .u32 x).wf = true) (V2 : Kd.V k62 62 w w.heap.size (fun k => k < w.heap.size) (.slice A2 l2.length c2) l2) (ll2 : l2.length ≤ reachBytes) (u2 : ∀ p ∈ l2, (Lit.int .u32 p.f0).wf = true) (y2 : ∀ p ∈ l2, ∀ x ∈ p.f1, (Lit.int .u8 x).wf = true) (s2 : ∀ p ∈ l2, p.f1.length ≤ reachBytes) : Calls Try.prog 4 #[.agg #[.int .i64 x0_0, .int .i64 x0_1, .int .i64 x0_2], .agg (nums .u32 m1).toArray, .slice A2 l2.length c2] w fun e w' => e = .returned (.bool true) ∧ Below w.heap.size w w' := Go.Proofs.Ytgiapegacbibeaa.UM.lives_law x0_0 x0_1 x0_2 m1 A2 c2 l2 w ml1 (fun x hx => rng32 (mw1 x hx)) V2 (by have h := ll2; simp only [reachBytes] at h; omega) (fun p hp => rng32 (u2 p hp)) (fun p hp => by have h := s2 p hp; simp only [reachBytes] at h; omega) (fun p hp x hx => rng8 (y2 p hp x hx))
set_option maxRecDepth 100000 in
theorem lifted (os : Os) (started : os.Started) (H : Type) (enc : TypeId × Value → H) :
    ReturnsInHanded {} Try.checked os 4 .any (Rows.usageLivesSpec.pre6 enc Try.prog Try.f4 Rows.usageLivesRow.domain false) (Rows.usageLivesSpec.post enc Try.prog Try.f4 false true false false) := by
  refine returnsInHanded_of_change_sized (C := Try.checked) own started (by kernel_rfl) Try.func4
    (ChangeSpec.witness6 (enc := enc) (C := Try.checked) false ⟨#[], #[.agg #[.int .i64 0, .int .i64 0, .int .i64 0], .agg #[.int .u32 0, .int .u32 0, .int .u32 0, .int .u32 0, .int .u32 0, .int .u32 0, .int .u32 0, .int .u32 0, .int .u32 0, .int .u32 0, .int .u32 0, .int .u32 0, .int .u32 0, .int .u32 0, .int .u32 0, .int .u32 0, .int .u32 0, .int .u32 0, .int .u32 0, .int .u32 0, .int .u32 0, .int .u32 0, .int .u32 0, .int .u32 0, .int .u32 0, .int .u32 0, .int .u32 0, .int .u32 0, .int .u32 0, .int .u32 0, .int .u32 0, .int .u32 0, .int .u32 0, .int .u32 0, .int .u32 0, .int .u32 0, .int .u32 0, .int .u32 0, .int .u32 0, .int .u32 0, .int .u32 0, .int .u32 0, .int .u32 0, .int .u32 0, .int .u32 0, .int .u32 0, .int .u32 0, .int .u32 0, .int .u32 0, .int .u32 0, .int .u32 0, .int .u32 0, .int .u32 0, .int .u32 0, .int .u32 0, .int .u32 0, .int .u32 0, .int .u32 0, .int .u32 0, .int .u32 0, .int .u32 0, .int .u32 0, .int .u32 0, .int .u32 0], .slice none 0 0], []⟩ 8 (by kernel_rfl) (by kernel_rfl) (by kernel_rfl) (by kernel_rfl)) ?_
  intro W base args ds gs before hval0 hW hcnd hsz0 _
  have hsz : (DataW.weightsEach Try.prog (Try.f4.params.toList ++ Rows.usageLivesSpec.plain.varTypes Try.prog) (ds ++ gs)).all (· ≤ reachBytes) = true := hsz0
  have hval : ∀ (j : Nat) t v, Try.f4.params[j]? = some t → args[j]? = some v → Value.okWide Try.prog W .any base t v := hval0
  have hW' := hW
  obtain ⟨p, q, hA0, hV, rfl, hfz, hnd⟩ := hW
  have hA : DataW.TrodAll enc Try.prog W 0 (fun _ => true) true Try.f4.params.toList args.toList ds p := hA0
  rw [Try.params4] at hA hval hsz
  obtain ⟨v0, vs0, d0, ds0, p0, q0, hargs, rfl, rfl, h0, r0⟩ := trodAll_cons hA
  obtain ⟨v1, vs1, d1, ds1, p1, q1, rfl, rfl, rfl, h1, r1⟩ := trodAll_cons r0
  obtain ⟨v2, vs2, d2, ds2, p2, q2, rfl, rfl, rfl, h2, r2⟩ := trodAll_cons r1
  obtain ⟨rfl, rfl, rfl⟩ := trodAll_nil r2
  obtain rfl : args = #[v0, v1, v2] := by cases args; simp_all
  obtain ⟨rfl, rfl⟩ := trodVars_none hV
  obtain ⟨e0_0, e0_1, e0_2, y0_0, y0_1, y0_2, m0, rfl, rfl, rfl, hy0_0, hy0_1, hy0_2⟩ := open_agg3 Try.underlying23 (by kernel_rfl) cells23 (hval 0 23 v0 rfl rfl) h0
  obtain ⟨x0_0, z0_0, rfl, wf0_0⟩ := DataW.trod_int Try.underlying3 hy0_0
  obtain ⟨x0_1, z0_1, rfl, wf0_1⟩ := DataW.trod_int Try.underlying3 hy0_1
  obtain ⟨x0_2, z0_2, rfl, wf0_2⟩ := DataW.trod_int Try.underlying3 hy0_2
  simp at z0_0 z0_1 z0_2
  subst z0_0 z0_1 z0_2
  obtain ⟨m1, ml1, mw1, rfl, rfl, st1⟩ := Go.Proofs.Ytgiapegacbibeaa.UM.open_arr64 (hval 1 36 v1 rfl rfl) h1
  have lt2 : ∀ x ∈ p2, x.block < W.heap.size := by obtain ⟨m, hm⟩ := h2; exact DataW.trod_lt m _ _ _ hm
  obtain ⟨A2, c2, l2, rfl, V2, ll2, u2, y2, s2⟩ := Go.Proofs.Ytgiapegacbibeaa.UM.open_ats (hval 2 37 v2 rfl rfl) h2 hsz (j := 2) rfl rfl
  clear hA0 hval0 hsz0 hsz
  refine (walk x0_0 x0_1 x0_2 m1 A2 c2 l2 W wf0_0 wf0_1 wf0_2 ml1 mw1 V2 ll2 u2 y2 s2).mono fun e W' ⟨he, bel⟩ => ?_
  subst he
  have st0 : DataW.Trod enc Try.prog W' 0 (fun b => decide (b < W.heap.size)) true 23 (.agg #[.int .i64 x0_0, .int .i64 x0_1, .int .i64 x0_2]) (.agg [.lit (.int .i64 x0_0), .lit (.int .i64 x0_1), .lit (.int .i64 x0_2)]) [] :=
    shut_agg3 (y0 := (.lit (.int .i64 x0_0), [])) (y1 := (.lit (.int .i64 x0_1), [])) (y2 := (.lit (.int .i64 x0_2), [])) Try.underlying23 (by kernel_rfl) cells23 ⟨1, by simp [DataW.trod, Try.underlying3, wf0_0]⟩ ⟨1, by simp [DataW.trod, Try.underlying3, wf0_1]⟩ ⟨1, by simp [DataW.trod, Try.underlying3, wf0_2]⟩
  exact ⟨_, rfl, _, _, _, [], _, [], hW', trodAll_mk1 (shut_bool Try.underlying4 _), (trodAll_cons_mk (st0) (trodAll_cons_mk (st1 _ _ _ _) (trodAll_cons_mk ((Below.trod laidOut (by kernel_rfl) (of_decide_eq_true (by kernel_rfl)) h2 bel lt2)) trodAll_mk0))), rfl, bel.frame _, fun h => by cases h⟩
theorem proved : Rows.UsageLivesSaid :=
  OpenClaim.holds_of_wide 4 Try.f4 rfl rfl rfl rfl rfl rfl rfl ⟨rfl, rfl, rfl, rfl, rfl⟩ rfl rfl rfl rfl rfl (by kernel_rfl) Try.func4 (by kernel_rfl)
    (of_decide_eq_true (by kernel_rfl)) (by unfold Func.isWrapper; first | (rw [if_pos (by decide +kernel)]; kernel_rfl) | (rw [if_neg (by decide +kernel)]; exact ⟨rfl, rfl⟩))
    (fun os started H enc _ => lifted os started H enc)
#print axioms proved
end Go.Proofs.Ytgiapegacbibeaa.usageLives
namespace Go.Proofs.Ytgiapegacbibeaa
/-- The row, under a short name, for the claim. -/
theorem usageLives_holds : Rows.UsageLivesSaid := usageLives.proved
end Go.Proofs.Ytgiapegacbibeaa
