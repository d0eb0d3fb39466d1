/- InodeCounts: the row. -/
import Derived.Test.YtencgnhgjegknaaRows
import Derived.Test.YtencgnhgjegknaaICounts
import Derived.Test.YtencgnhgjegknaaIno
import Derived.WalkKit
import Derived.ProofKit
import Derived.OpenShut
import Derived.ShutString
import Derived.ChangeOld
import Derived.Below
import Derived.SizedLaws
import Derived.Lib.SmallJoins
namespace Go.Proofs.Ytencgnhgjegknaa.inodeCounts
open Go.ChangeShapes Go.WideShapes Go.ChangeAt Go.RowKit Go.Joins
open Go.ChangeMaps (open_string shut_string)
set_option linter.unusedVariables false
theorem own : ownKnob Try.prog.godebug = none := by kernel_rfl
theorem laidOut : laidOutB Try.prog = true := by kernel_rfl
theorem rng {n : Int} (h : (Lit.int .i64 n).wf = true) : -9223372036854775808 ≤ n ∧ n ≤ 9223372036854775807 := by
  have h' : IntKind.i64.min ≤ n ∧ n ≤ IntKind.i64.max := by simpa [Lit.wf] using h
  have e1 : IntKind.i64.min = -9223372036854775808 := by kernel_rfl
  have e2 : IntKind.i64.max = 9223372036854775807 := by kernel_rfl
  rw [e1, e2] at h'
  exact h'
open Go.Proofs.YtencgnhgjegknaaW.PrintWords in
theorem walk (x0 : Int) (x1_a x1_k x1_s x1_l x1_d0 x1_d1 x1_d2 x1_d3 x1_d4 x1_d5 x1_p : Int) (w : World) (wf0 : (Lit.int .i64 x0).wf = true) (wf1_a : (Lit.int .i64 x1_a).wf = true) (wf1_k : (Lit.int .i64 x1_k).wf = true) (wf1_s : (Lit.int .i64 x1_s).wf = true) (wf1_l : (Lit.int .i64 x1_l).wf = true) (wf1_d0 : (Lit.int .u32 x1_d0).wf = true) (wf1_d1 : (Lit.int .u32 x1_d1).wf = true) (wf1_d2 : (Lit.int .u32 x1_d2).wf = true) (wf1_d3 : (Lit.int .u32 x1_d3).wf = true) (wf1_d4 : (Lit.int .u32 x1_d4).wf = true) (wf1_d5 : (Lit.int .u32 x1_d5).wf = true) (wf1_p : (Lit.int .u32 x1_p).wf = true) : Calls Try.prog 6 #[.int .i64 x0, .agg (Go.Proofs.YtencgnhgjegknaaX.inoCells x1_a x1_k x1_s x1_l x1_d0 x1_d1 x1_d2 x1_d3 x1_d4 x1_d5 x1_p)] w fun e w' => e = .returned (.bool true) ∧ Below w.heap.size w w' := Go.Proofs.YtencgnhgjegknaaX.counts_law x0 x1_a x1_k x1_s x1_l x1_d0 x1_d1 x1_d2 x1_d3 x1_d4 x1_d5 x1_p w (rng wf1_s).2 (rng wf0).2
set_option maxRecDepth 100000 in
theorem lifted (os : Os) (started : os.Started) (H : Type) (enc : TypeId × Value → H) :
    ReturnsInHanded {} Try.checked os 6 .any (Rows.inodeCountsSpec.pre6 enc Try.prog Try.f6 Rows.inodeCountsRow.domain false) (Rows.inodeCountsSpec.post enc Try.prog Try.f6 false true false false) := by
  refine returnsInHanded_of_change (C := Try.checked) own started (by kernel_rfl) Try.func6
    (ChangeSpec.witness6 (enc := enc) (C := Try.checked) false ⟨#[], #[.int .i64 0, .agg #[.int .i64 0, .int .i64 0, .int .i64 0, .int .i64 0, .int .u32 0, .int .u32 0, .int .u32 0, .int .u32 0, .int .u32 0, .int .u32 0, .int .u32 0]], []⟩ 8 (by kernel_rfl) (by kernel_rfl) (by kernel_rfl) (by kernel_rfl)) ?_
  intro W base args ds gs before hval0 hW hcnd _
  have hval : ∀ (j : Nat) t v, Try.f6.params[j]? = some t → args[j]? = some v → Value.okWide Try.prog W .any base t v := hval0
  have hW' := hW
  obtain ⟨p, q, hA0, hV, rfl, hfz, hnd⟩ := hW
  have hA : DataW.TrodAll enc Try.prog W 0 (fun _ => true) true Try.f6.params.toList args.toList ds p := hA0
  rw [Try.params6] at hA hval
  obtain ⟨v0, vs0, d0, ds0, p0, q0, hargs, rfl, rfl, h0, r0⟩ := trodAll_cons hA
  obtain ⟨v1, vs1, d1, ds1, p1, q1, rfl, rfl, rfl, h1, r1⟩ := trodAll_cons r0
  obtain ⟨rfl, rfl, rfl⟩ := trodAll_nil r1
  obtain rfl : args = #[v0, v1] := by cases args; simp_all
  obtain ⟨rfl, rfl⟩ := trodVars_none hV
  obtain ⟨x0, rfl, rfl, rfl, wf0⟩ := open_int Try.underlying3 (hval 0 3 v0 rfl rfl) h0
  obtain ⟨x1_a, x1_k, x1_s, x1_l, x1_d0, x1_d1, x1_d2, x1_d3, x1_d4, x1_d5, x1_p, rfl, rfl, wf1_a, wf1_k, wf1_s, wf1_l, wf1_d0, wf1_d1, wf1_d2, wf1_d3, wf1_d4, wf1_d5, wf1_p, st1⟩ := Go.Proofs.YtencgnhgjegknaaX.open_ino (hval 1 25 v1 rfl rfl) h1
  clear hA0 hval0
  refine (walk x0 x1_a x1_k x1_s x1_l x1_d0 x1_d1 x1_d2 x1_d3 x1_d4 x1_d5 x1_p W wf0 wf1_a wf1_k wf1_s wf1_l wf1_d0 wf1_d1 wf1_d2 wf1_d3 wf1_d4 wf1_d5 wf1_p).mono fun e W' ⟨he, bel⟩ => ?_
  subst he
  exact ⟨_, rfl, _, _, _, [], _, [], hW', trodAll_mk1 (shut_bool Try.underlying4 _), (trodAll_cons_mk (shut_int Try.underlying3 wf0) (trodAll_cons_mk (st1 _ _ _ _) trodAll_mk0)), rfl, bel.frame _, fun h => by cases h⟩
theorem proved : Rows.InodeCountsSaid :=
  OpenClaim.holds_of_wide 6 Try.f6 rfl rfl rfl rfl rfl rfl rfl ⟨rfl, rfl, rfl, rfl, rfl⟩ rfl rfl rfl rfl rfl (by kernel_rfl) Try.func6 (by kernel_rfl)
    (of_decide_eq_true (by kernel_rfl)) (by unfold Func.isWrapper; first | (rw [if_pos (by decide +kernel)]; kernel_rfl) | (rw [if_neg (by decide +kernel)]; exact ⟨rfl, rfl⟩))
    (fun os started H enc _ => lifted os started H enc)
#print axioms proved
end Go.Proofs.Ytencgnhgjegknaa.inodeCounts
namespace Go.Proofs.Ytencgnhgjegknaa
/-- The row, under a short name, for the claim. -/
theorem inodeCounts_holds : Rows.InodeCountsSaid := inodeCounts.proved
end Go.Proofs.Ytencgnhgjegknaa
