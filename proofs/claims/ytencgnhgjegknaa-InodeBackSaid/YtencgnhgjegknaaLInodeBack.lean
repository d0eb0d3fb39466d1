/- InodeBack: the row. -/
import Derived.Test.YtencgnhgjegknaaRows
import Derived.Test.YtencgnhgjegknaaIBack
import Derived.Test.YtencgnhgjegknaaIno
import Derived.WalkKit
import Derived.ProofKit
import Derived.OpenShut
import Derived.ShutString
import Derived.ChangeOld
import Derived.Below
import Derived.SizedLaws
import Derived.Lib.SmallJoins
import Derived.Test.YtencgnhgjegknaaWSized
namespace Go.Proofs.Ytencgnhgjegknaa.inodeBack
open Go.ChangeShapes Go.WideShapes Go.ChangeAt Go.RowKit Go.Joins
open Go.ChangeMaps (open_string shut_string)
set_option linter.unusedVariables false
theorem own : ownKnob Try.prog.godebug = none := by kernel_rfl
theorem laidOut : laidOutB Try.prog = true := by kernel_rfl
def IsRow (k : IntKind) (w : World) (a : Option Addr) (len cap : Nat) (zs : List Int) : Prop :=
  (a = none ∧ len = 0 ∧ cap = 0 ∧ zs = []) ∨
  ∃ x, a = some x ∧ len ≤ cap ∧ cap ≤ maxLen ∧ zs.length = cap ∧ (∀ i, i < zs.length → w.cell? (x.add i) = some (.int k (zs.getD i 0))) ∧ ∀ n ∈ zs, (Lit.int k n).wf = true
theorem rng {n : Int} (h : (Lit.int .i64 n).wf = true) : -9223372036854775808 ≤ n ∧ n ≤ 9223372036854775807 := by
  have h' : IntKind.i64.min ≤ n ∧ n ≤ IntKind.i64.max := by simpa [Lit.wf] using h
  have e1 : IntKind.i64.min = -9223372036854775808 := by kernel_rfl
  have e2 : IntKind.i64.max = 9223372036854775807 := by kernel_rfl
  rw [e1, e2] at h'
  exact h'
theorem reads_of {k : IntKind} {w : World} {a : Option Addr} {n c : Nat} {zs : List Int} (h : IsRow k w a n c zs) : Go.Proofs.YtencgnhgjegknaaW.PrintWords.ReadsInt w k a n (zs.take n) ∧ n ≤ c ∧ (a = none → n = 0 ∧ c = 0) ∧ c ≤ 9223372036854775807 := by
  rcases h with ⟨rfl, rfl, rfl, rfl⟩ | ⟨x, rfl, hl, hm, hz, hcell, _⟩
  · exact ⟨⟨rfl, by decide, fun h => absurd h (by decide)⟩, by decide, fun _ => ⟨rfl, rfl⟩, by decide⟩
  · simp only [maxLen] at hm
    refine ⟨⟨by rw [List.length_take]; omega, by omega, fun hp => ⟨x, rfl, fun j hj => ?_⟩⟩, hl, (fun h => by cases h), by omega⟩
    rw [hcell j (by omega)]
    simp [List.getD_eq_getElem?_getD, hj]
theorem wf_of {k : IntKind} {w : World} {a : Option Addr} {n c : Nat} {zs : List Int} (h : IsRow k w a n c zs) : ∀ x ∈ zs.take n, (Lit.int k x).wf = true := by
  rcases h with ⟨rfl, rfl, rfl, rfl⟩ | ⟨_, _, _, _, _, _, hw⟩
  · intro x hx; cases hx
  · exact fun x hx => hw x (List.mem_of_mem_take hx)
theorem rng32 {n : Int} (h : (Lit.int .u32 n).wf = true) : 0 ≤ n ∧ n < 4294967296 := by
  have h' : IntKind.u32.min ≤ n ∧ n ≤ IntKind.u32.max := by simpa [Lit.wf] using h
  have e1 : IntKind.u32.min = 0 := by kernel_rfl
  have e2 : IntKind.u32.max = 4294967296 - 1 := by kernel_rfl
  rw [e1, e2] at h'
  omega
theorem rng8 {n : Int} (h : (Lit.int .u8 n).wf = true) : 0 ≤ n ∧ n < 256 := by
  have h' : IntKind.u8.min ≤ n ∧ n ≤ IntKind.u8.max := by simpa [Lit.wf] using h
  have e1 : IntKind.u8.min = 0 := by kernel_rfl
  have e2 : IntKind.u8.max = 256 - 1 := by kernel_rfl
  rw [e1, e2] at h'
  omega
open Go.Proofs.YtencgnhgjegknaaW.PrintWords in
theorem walk (x0_a x0_k x0_s x0_l x0_d0 x0_d1 x0_d2 x0_d3 x0_d4 x0_d5 x0_p : Int) (A1 : Option Addr) (n1 c1 : Nat) (z1 : List Int) (w : World) (wf0_a : (Lit.int .i64 x0_a).wf = true) (wf0_k : (Lit.int .i64 x0_k).wf = true) (wf0_s : (Lit.int .i64 x0_s).wf = true) (wf0_l : (Lit.int .i64 x0_l).wf = true) (wf0_d0 : (Lit.int .u32 x0_d0).wf = true) (wf0_d1 : (Lit.int .u32 x0_d1).wf = true) (wf0_d2 : (Lit.int .u32 x0_d2).wf = true) (wf0_d3 : (Lit.int .u32 x0_d3).wf = true) (wf0_d4 : (Lit.int .u32 x0_d4).wf = true) (wf0_d5 : (Lit.int .u32 x0_d5).wf = true) (wf0_p : (Lit.int .u32 x0_p).wf = true) (row1 : IsRow .u8 w A1 n1 c1 z1) (sz1 : n1 * 1 ≤ 140737488351232) : Calls Try.prog 5 #[.agg (Go.Proofs.YtencgnhgjegknaaX.inoCells x0_a x0_k x0_s x0_l x0_d0 x0_d1 x0_d2 x0_d3 x0_d4 x0_d5 x0_p), .slice A1 n1 c1] w fun e w' => e = .returned (.bool true) ∧ Below w.heap.size w w' := by
  obtain ⟨r1, k1, _, c63⟩ := reads_of row1
  exact Go.Proofs.YtencgnhgjegknaaX.iback_law x0_a x0_k x0_s x0_l x0_d0 x0_d1 x0_d2 x0_d3 x0_d4 x0_d5 x0_p _ _ _ _ w k1 c63 r1 (fun x hx => rng8 (wf_of row1 x hx)) (rng wf0_s).2 ⟨rng32 wf0_d0, rng32 wf0_d1, rng32 wf0_d2, rng32 wf0_d3, rng32 wf0_d4, rng32 wf0_d5, rng32 wf0_p⟩
set_option maxRecDepth 100000 in
theorem lifted (os : Os) (started : os.Started) (H : Type) (enc : TypeId × Value → H) :
    ReturnsInHanded {} Try.checked os 5 .any (Rows.inodeBackSpec.pre6 enc Try.prog Try.f5 Rows.inodeBackRow.domain false) (Rows.inodeBackSpec.post enc Try.prog Try.f5 false true false false) := by
  refine returnsInHanded_of_change_sized (C := Try.checked) own started (by kernel_rfl) Try.func5
    (ChangeSpec.witness6 (enc := enc) (C := Try.checked) false ⟨#[], #[.agg #[.int .i64 0, .int .i64 0, .int .i64 0, .int .i64 0, .int .u32 0, .int .u32 0, .int .u32 0, .int .u32 0, .int .u32 0, .int .u32 0, .int .u32 0], .slice none 0 0], []⟩ 8 (by kernel_rfl) (by kernel_rfl) (by kernel_rfl) (by kernel_rfl)) ?_
  intro W base args ds gs before hval0 hW hcnd hsz0 _
  have hsz : (DataW.weightsEach Try.prog (Try.f5.params.toList ++ Rows.inodeBackSpec.plain.varTypes Try.prog) (ds ++ gs)).all (· ≤ reachBytes) = true := hsz0
  have hval : ∀ (j : Nat) t v, Try.f5.params[j]? = some t → args[j]? = some v → Value.okWide Try.prog W .any base t v := hval0
  have hW' := hW
  obtain ⟨p, q, hA0, hV, rfl, hfz, hnd⟩ := hW
  have hA : DataW.TrodAll enc Try.prog W 0 (fun _ => true) true Try.f5.params.toList args.toList ds p := hA0
  rw [Try.params5] at hA hval hsz
  obtain ⟨v0, vs0, d0, ds0, p0, q0, hargs, rfl, rfl, h0, r0⟩ := trodAll_cons hA
  obtain ⟨v1, vs1, d1, ds1, p1, q1, rfl, rfl, rfl, h1, r1⟩ := trodAll_cons r0
  obtain ⟨rfl, rfl, rfl⟩ := trodAll_nil r1
  obtain rfl : args = #[v0, v1] := by cases args; simp_all
  obtain ⟨rfl, rfl⟩ := trodVars_none hV
  obtain ⟨x0_a, x0_k, x0_s, x0_l, x0_d0, x0_d1, x0_d2, x0_d3, x0_d4, x0_d5, x0_p, rfl, rfl, wf0_a, wf0_k, wf0_s, wf0_l, wf0_d0, wf0_d1, wf0_d2, wf0_d3, wf0_d4, wf0_d5, wf0_p, st0⟩ := Go.Proofs.YtencgnhgjegknaaX.open_ino (hval 0 25 v0 rfl rfl) h0
  obtain ⟨A1, n1, c1, rfl⟩ := okWide_slice Try.underlying26 (hval 1 26 v1 rfl rfl)
  have k1 := h1
  have lt1 : ∀ x ∈ p1, x.block < W.heap.size := by obtain ⟨m, hm⟩ := k1; exact DataW.trod_lt m _ _ _ hm
  obtain ⟨z1, row1⟩ : ∃ zs, IsRow .u8 W A1 n1 c1 zs := by
    obtain ⟨fuel, hf⟩ := h1
    rcases open_ints Try.underlying26 Try.underlying5 (by kernel_rfl) hf with ⟨hcs, _⟩ | ⟨x, l, c, zs, hcs, _, hl, hm, hz, _, hcell, hwz⟩
    · simp [Value.cells] at hcs
      obtain ⟨rfl, rfl, rfl⟩ := hcs
      exact ⟨[], .inl ⟨rfl, rfl, rfl, rfl⟩⟩
    · simp [Value.cells] at hcs
      obtain ⟨rfl, rfl, rfl⟩ := hcs
      exact ⟨zs, .inr ⟨_, rfl, hl, hm, by simpa using hz, hcell, hwz⟩⟩
  have sz1 : n1 * 1 ≤ 140737488351232 := Go.Proofs.YtencgnhgjegknaaW.PrintWords.sized_ints hsz (j := 1) (t := 26) rfl rfl Try.underlying26 Try.underlying5 (by kernel_rfl) (by kernel_rfl) h1
  clear hA0 hval0 hsz0 hsz
  refine (walk x0_a x0_k x0_s x0_l x0_d0 x0_d1 x0_d2 x0_d3 x0_d4 x0_d5 x0_p A1 n1 c1 z1 W wf0_a wf0_k wf0_s wf0_l wf0_d0 wf0_d1 wf0_d2 wf0_d3 wf0_d4 wf0_d5 wf0_p row1 sz1).mono fun e W' ⟨he, bel⟩ => ?_
  subst he
  exact ⟨_, rfl, _, _, _, [], _, [], hW', trodAll_mk1 (shut_bool Try.underlying4 _), (trodAll_cons_mk (st0 _ _ _ _) (trodAll_cons_mk ((Below.trod laidOut (by kernel_rfl) (of_decide_eq_true (by kernel_rfl)) k1 bel lt1)) trodAll_mk0)), rfl, bel.frame _, fun h => by cases h⟩
theorem proved : Rows.InodeBackSaid :=
  OpenClaim.holds_of_wide 5 Try.f5 rfl rfl rfl rfl rfl rfl rfl ⟨rfl, rfl, rfl, rfl, rfl⟩ rfl rfl rfl rfl rfl (by kernel_rfl) Try.func5 (by kernel_rfl)
    (of_decide_eq_true (by kernel_rfl)) (by unfold Func.isWrapper; first | (rw [if_pos (by decide +kernel)]; kernel_rfl) | (rw [if_neg (by decide +kernel)]; exact ⟨rfl, rfl⟩))
    (fun os started H enc _ => lifted os started H enc)
#print axioms proved
end Go.Proofs.Ytencgnhgjegknaa.inodeBack
namespace Go.Proofs.Ytencgnhgjegknaa
/-- The row, under a short name, for the claim. -/
theorem inodeBack_holds : Rows.InodeBackSaid := inodeBack.proved
end Go.Proofs.Ytencgnhgjegknaa
