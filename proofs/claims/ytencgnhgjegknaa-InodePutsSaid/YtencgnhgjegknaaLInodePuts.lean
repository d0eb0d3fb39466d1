/- InodePuts: the row. -/
import Derived.Test.YtencgnhgjegknaaRows
import Derived.Test.YtencgnhgjegknaaIPuts
import Derived.Test.YtencgnhgjegknaaIno
import Derived.WalkKit
import Derived.ProofKit
import Derived.OpenShut
import Derived.ShutString
import Derived.ChangeOld
import Derived.Below
import Derived.SizedLaws
import Derived.Lib.SmallJoins
namespace Go.Proofs.Ytencgnhgjegknaa.inodePuts
open Go.ChangeShapes Go.WideShapes Go.ChangeAt Go.RowKit Go.Joins
open Go.ChangeMaps (open_string shut_string)
set_option linter.unusedVariables false
theorem own : ownKnob Try.prog.godebug = none := by kernel_rfl
theorem laidOut : laidOutB Try.prog = true := by kernel_rfl
theorem rng {n : Int} (h : (Lit.int .i64 n).wf = true) : -9223372036854775808 ≤ n ∧ n ≤ 9223372036854775807 := by
  have h' : IntKind.i64.min ≤ n ∧ n ≤ IntKind.i64.max := by simpa [Lit.wf] using h
  have e1 : IntKind.i64.min = -9223372036854775808 := by kernel_rfl
  have e2 : IntKind.i64.max = 9223372036854775807 := by kernel_rfl
  rw [e1, e2] at h'
  exact h'
theorem rng32 {n : Int} (h : (Lit.int .u32 n).wf = true) : 0 ≤ n ∧ n < 4294967296 := by
  have h' : IntKind.u32.min ≤ n ∧ n ≤ IntKind.u32.max := by simpa [Lit.wf] using h
  have e1 : IntKind.u32.min = 0 := by kernel_rfl
  have e2 : IntKind.u32.max = 4294967296 - 1 := by kernel_rfl
  rw [e1, e2] at h'
  omega
open Go.Proofs.YtencgnhgjegknaaW.PrintWords in
theorem walk (x0_a x0_k x0_s x0_l x0_d0 x0_d1 x0_d2 x0_d3 x0_d4 x0_d5 x0_p : Int) (x1 : Int) (w : World) (wf0_a : (Lit.int .i64 x0_a).wf = true) (wf0_k : (Lit.int .i64 x0_k).wf = true) (wf0_s : (Lit.int .i64 x0_s).wf = true) (wf0_l : (Lit.int .i64 x0_l).wf = true) (wf0_d0 : (Lit.int .u32 x0_d0).wf = true) (wf0_d1 : (Lit.int .u32 x0_d1).wf = true) (wf0_d2 : (Lit.int .u32 x0_d2).wf = true) (wf0_d3 : (Lit.int .u32 x0_d3).wf = true) (wf0_d4 : (Lit.int .u32 x0_d4).wf = true) (wf0_d5 : (Lit.int .u32 x0_d5).wf = true) (wf0_p : (Lit.int .u32 x0_p).wf = true) (wf1 : (Lit.int .i64 x1).wf = true) : Calls Try.prog 3 #[.agg (Go.Proofs.YtencgnhgjegknaaX.inoCells x0_a x0_k x0_s x0_l x0_d0 x0_d1 x0_d2 x0_d3 x0_d4 x0_d5 x0_p), .int .i64 x1] w fun e w' => e = .returned (.bool true) ∧ Below w.heap.size w w' := Go.Proofs.YtencgnhgjegknaaX.iputs_law x0_a x0_k x0_s x0_l x0_d0 x0_d1 x0_d2 x0_d3 x0_d4 x0_d5 x0_p x1 w (rng wf0_s).2 (rng wf1).2 ⟨rng32 wf0_d0, rng32 wf0_d1, rng32 wf0_d2, rng32 wf0_d3, rng32 wf0_d4, rng32 wf0_d5, rng32 wf0_p⟩
set_option maxRecDepth 100000 in
theorem lifted (os : Os) (started : os.Started) (H : Type) (enc : TypeId × Value → H) :
    ReturnsInHanded {} Try.checked os 3 .any (Rows.inodePutsSpec.pre6 enc Try.prog Try.f3 Rows.inodePutsRow.domain false) (Rows.inodePutsSpec.post enc Try.prog Try.f3 false true false false) := by
  refine returnsInHanded_of_change (C := Try.checked) own started (by kernel_rfl) Try.func3
    (ChangeSpec.witness6 (enc := enc) (C := Try.checked) false ⟨#[], #[.agg #[.int .i64 0, .int .i64 0, .int .i64 0, .int .i64 0, .int .u32 0, .int .u32 0, .int .u32 0, .int .u32 0, .int .u32 0, .int .u32 0, .int .u32 0], .int .i64 0], []⟩ 8 (by kernel_rfl) (by kernel_rfl) (by kernel_rfl) (by kernel_rfl)) ?_
  intro W base args ds gs before hval0 hW hcnd _
  have hval : ∀ (j : Nat) t v, Try.f3.params[j]? = some t → args[j]? = some v → Value.okWide Try.prog W .any base t v := hval0
  have hW' := hW
  obtain ⟨p, q, hA0, hV, rfl, hfz, hnd⟩ := hW
  have hA : DataW.TrodAll enc Try.prog W 0 (fun _ => true) true Try.f3.params.toList args.toList ds p := hA0
  rw [Try.params3] at hA hval
  obtain ⟨v0, vs0, d0, ds0, p0, q0, hargs, rfl, rfl, h0, r0⟩ := trodAll_cons hA
  obtain ⟨v1, vs1, d1, ds1, p1, q1, rfl, rfl, rfl, h1, r1⟩ := trodAll_cons r0
  obtain ⟨rfl, rfl, rfl⟩ := trodAll_nil r1
  obtain rfl : args = #[v0, v1] := by cases args; simp_all
  obtain ⟨rfl, rfl⟩ := trodVars_none hV
  obtain ⟨x0_a, x0_k, x0_s, x0_l, x0_d0, x0_d1, x0_d2, x0_d3, x0_d4, x0_d5, x0_p, rfl, rfl, wf0_a, wf0_k, wf0_s, wf0_l, wf0_d0, wf0_d1, wf0_d2, wf0_d3, wf0_d4, wf0_d5, wf0_p, st0⟩ := Go.Proofs.YtencgnhgjegknaaX.open_ino (hval 0 25 v0 rfl rfl) h0
  obtain ⟨x1, rfl, rfl, rfl, wf1⟩ := open_int Try.underlying3 (hval 1 3 v1 rfl rfl) h1
  clear hA0 hval0
  refine (walk x0_a x0_k x0_s x0_l x0_d0 x0_d1 x0_d2 x0_d3 x0_d4 x0_d5 x0_p x1 W wf0_a wf0_k wf0_s wf0_l wf0_d0 wf0_d1 wf0_d2 wf0_d3 wf0_d4 wf0_d5 wf0_p wf1).mono fun e W' ⟨he, bel⟩ => ?_
  subst he
  exact ⟨_, rfl, _, _, _, [], _, [], hW', trodAll_mk1 (shut_bool Try.underlying4 _), (trodAll_cons_mk (st0 _ _ _ _) (trodAll_cons_mk (shut_int Try.underlying3 wf1) trodAll_mk0)), rfl, bel.frame _, fun h => by cases h⟩
theorem proved : Rows.InodePutsSaid :=
  OpenClaim.holds_of_wide 3 Try.f3 rfl rfl rfl rfl rfl rfl rfl ⟨rfl, rfl, rfl, rfl, rfl⟩ rfl rfl rfl rfl rfl (by kernel_rfl) Try.func3 (by kernel_rfl)
    (of_decide_eq_true (by kernel_rfl)) (by unfold Func.isWrapper; first | (rw [if_pos (by decide +kernel)]; kernel_rfl) | (rw [if_neg (by decide +kernel)]; exact ⟨rfl, rfl⟩))
    (fun os started H enc _ => lifted os started H enc)
#print axioms proved
end Go.Proofs.Ytencgnhgjegknaa.inodePuts
namespace Go.Proofs.Ytencgnhgjegknaa
/-- The row, under a short name, for the claim. -/
theorem inodePuts_holds : Rows.InodePutsSaid := inodePuts.proved
end Go.Proofs.Ytencgnhgjegknaa
