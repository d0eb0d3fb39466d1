/- An api.Inode that comes in by value: opened into its eleven numbers, and read again in any world. -/
import Derived.Test.YtencgnhgjegknaaMay
import Derived.Lib.SmallJoins
import Derived.WideShapes
namespace Go.Proofs.YtencgnhgjegknaaX
open Go.ChangeShapes Go.WideShapes Go.ChangeAt Go.RowKit Go.Joins
set_option linter.unusedVariables false
theorem array11 {α : Type} {cs : Array α} (h : cs.size = 11) : ∃ c0 c1 c2 c3 c4 c5 c6 c7 c8 c9 c10, cs = #[c0, c1, c2, c3, c4, c5, c6, c7, c8, c9, c10] := by
  obtain ⟨l⟩ := cs
  match l, h with
  | [c0, c1, c2, c3, c4, c5, c6, c7, c8, c9, c10], _ => exact ⟨c0, c1, c2, c3, c4, c5, c6, c7, c8, c9, c10, rfl⟩
theorem cellsI : Try.prog.cellsOf 25 = 11 := by kernel_rfl
theorem cellsD : Try.prog.cellsOf 23 = 6 := by kernel_rfl
theorem cells1i : Try.prog.cellsOf 3 = 1 := by kernel_rfl
theorem cells1u : Try.prog.cellsOf 22 = 1 := by kernel_rfl
section
variable {H : Type} {enc : TypeId × Value → H}
theorem trod_i_mk {W : World} {base : Nat} {sp : Nat → Bool} {held : Bool} {n : Nat} {x : Int} (h : (Lit.int .i64 x).wf = true) : DataW.trod enc Try.prog W base sp held (n + 1) 3 [.int .i64 x] = some (.lit (.int .i64 x), []) := by
  simp [DataW.trod, Try.underlying3, h]
theorem trod_u_mk {W : World} {base : Nat} {sp : Nat → Bool} {held : Bool} {n : Nat} {x : Int} (h : (Lit.int .u32 x).wf = true) : DataW.trod enc Try.prog W base sp held (n + 1) 22 [.int .u32 x] = some (.lit (.int .u32 x), []) := by
  simp [DataW.trod, Try.underlying22, h]
theorem trod_d {W : World} {base : Nat} {sp : Nat → Bool} {held : Bool} {n : Nat} {c0 c1 c2 c3 c4 c5 : Value} {y : DataW H × List MemPlace} (h : DataW.trod enc Try.prog W base sp held n 23 [c0, c1, c2, c3, c4, c5] = some y) :
    ∃ d0 d1 d2 d3 d4 d5, c0 = .int .u32 d0 ∧ c1 = .int .u32 d1 ∧ c2 = .int .u32 d2 ∧ c3 = .int .u32 d3 ∧ c4 = .int .u32 d4 ∧ c5 = .int .u32 d5 ∧ y = (.agg [.lit (.int .u32 d0), .lit (.int .u32 d1), .lit (.int .u32 d2), .lit (.int .u32 d3), .lit (.int .u32 d4), .lit (.int .u32 d5)], []) ∧
      (Lit.int .u32 d0).wf = true ∧ (Lit.int .u32 d1).wf = true ∧ (Lit.int .u32 d2).wf = true ∧ (Lit.int .u32 d3).wf = true ∧ (Lit.int .u32 d4).wf = true ∧ (Lit.int .u32 d5).wf = true := by
  cases n with
  | zero => simp [DataW.trod] at h
  | succ n =>
    unfold DataW.trod at h
    rw [Try.underlying23] at h
    simp only [cells1u, cellsD] at h
    rw [if_pos (by rfl)] at h
    simp only [Option.map_eq_some_iff] at h
    obtain ⟨xs, hx, rfl⟩ := h
    have hl : xs.length = 6 := by simpa using mapM_some_length hx
    have hg := fun i (hi : i < 6) => mapM_some_get hx i i (by simp [hi])
    match xs, hl with
    | [y0, y1, y2, y3, y4, y5], _ =>
      obtain ⟨d0, e0, r0, w0⟩ := DataW.trod_int Try.underlying22 (show DataW.trod enc Try.prog W base sp held n 22 [c0] = some y0 from by simpa using hg 0 (by decide))
      obtain ⟨d1, e1, r1, w1⟩ := DataW.trod_int Try.underlying22 (show DataW.trod enc Try.prog W base sp held n 22 [c1] = some y1 from by simpa using hg 1 (by decide))
      obtain ⟨d2, e2, r2, w2⟩ := DataW.trod_int Try.underlying22 (show DataW.trod enc Try.prog W base sp held n 22 [c2] = some y2 from by simpa using hg 2 (by decide))
      obtain ⟨d3, e3, r3, w3⟩ := DataW.trod_int Try.underlying22 (show DataW.trod enc Try.prog W base sp held n 22 [c3] = some y3 from by simpa using hg 3 (by decide))
      obtain ⟨d4, e4, r4, w4⟩ := DataW.trod_int Try.underlying22 (show DataW.trod enc Try.prog W base sp held n 22 [c4] = some y4 from by simpa using hg 4 (by decide))
      obtain ⟨d5, e5, r5, w5⟩ := DataW.trod_int Try.underlying22 (show DataW.trod enc Try.prog W base sp held n 22 [c5] = some y5 from by simpa using hg 5 (by decide))
      simp only [List.cons.injEq, and_true] at e0 e1 e2 e3 e4 e5
      subst e0 e1 e2 e3 e4 e5 r0 r1 r2 r3 r4 r5
      exact ⟨d0, d1, d2, d3, d4, d5, rfl, rfl, rfl, rfl, rfl, rfl, rfl, w0, w1, w2, w3, w4, w5⟩
theorem trod_d_mk {W : World} {base : Nat} {sp : Nat → Bool} {held : Bool} {n : Nat} {d0 d1 d2 d3 d4 d5 : Int} (w0 : (Lit.int .u32 d0).wf = true) (w1 : (Lit.int .u32 d1).wf = true) (w2 : (Lit.int .u32 d2).wf = true) (w3 : (Lit.int .u32 d3).wf = true) (w4 : (Lit.int .u32 d4).wf = true) (w5 : (Lit.int .u32 d5).wf = true) :
    DataW.trod enc Try.prog W base sp held (n + 2) 23 [.int .u32 d0, .int .u32 d1, .int .u32 d2, .int .u32 d3, .int .u32 d4, .int .u32 d5] = some (.agg [.lit (.int .u32 d0), .lit (.int .u32 d1), .lit (.int .u32 d2), .lit (.int .u32 d3), .lit (.int .u32 d4), .lit (.int .u32 d5)], []) := by
  unfold DataW.trod
  rw [Try.underlying23]
  simp only [cells1u, cellsD]
  rw [if_pos (by rfl)]
  have e : List.range 6 = [0, 1, 2, 3, 4, 5] := by decide
  simp [e, trod_u_mk w0, trod_u_mk w1, trod_u_mk w2, trod_u_mk w3, trod_u_mk w4, trod_u_mk w5]
theorem open_ino {W : World} {base b0 : Nat} {sp : Nat → Bool} {held : Bool} {r : Reach} {v : Value} {d : DataW H} {ps : List MemPlace} (hv : Value.okWide Try.prog W r b0 25 v) (h : DataW.Trod enc Try.prog W base sp held 25 v d ps) :
    ∃ a k s l d0 d1 d2 d3 d4 d5 p, v = .agg (inoCells a k s l d0 d1 d2 d3 d4 d5 p) ∧ ps = [] ∧ (Lit.int .i64 a).wf = true ∧ (Lit.int .i64 k).wf = true ∧ (Lit.int .i64 s).wf = true ∧ (Lit.int .i64 l).wf = true ∧ (Lit.int .u32 d0).wf = true ∧ (Lit.int .u32 d1).wf = true ∧ (Lit.int .u32 d2).wf = true ∧ (Lit.int .u32 d3).wf = true ∧ (Lit.int .u32 d4).wf = true ∧ (Lit.int .u32 d5).wf = true ∧ (Lit.int .u32 p).wf = true ∧
      ∀ (W' : World) (base' : Nat) (sp' : Nat → Bool) (held' : Bool), DataW.Trod enc Try.prog W' base' sp' held' 25 (.agg (inoCells a k s l d0 d1 d2 d3 d4 d5 p)) d [] := by
  obtain ⟨cs, rfl, hsz⟩ := okWide_struct Try.underlying25 hv
  obtain ⟨c0, c1, c2, c3, c4, c5, c6, c7, c8, c9, c10, rfl⟩ := array11 (hsz.trans cellsI)
  obtain ⟨fuel, hf⟩ := h
  obtain ⟨xs, n, _, hx, _, hlen, hg⟩ := DataW.trod_struct Try.underlying25 hf
  match xs, hlen with
  | [y0, y1, y2, y3, y4, y5], _ =>
    obtain ⟨a, e0, r0, w0⟩ := DataW.trod_int Try.underlying3 (show DataW.trod enc Try.prog W base sp held n 3 [c0] = some y0 from by simpa [Value.cells, cells1i] using hg 0 _ rfl)
    obtain ⟨k, e1, r1, w1⟩ := DataW.trod_int Try.underlying3 (show DataW.trod enc Try.prog W base sp held n 3 [c1] = some y1 from by simpa [Value.cells, cells1i] using hg 1 _ rfl)
    obtain ⟨s, e2, r2, w2⟩ := DataW.trod_int Try.underlying3 (show DataW.trod enc Try.prog W base sp held n 3 [c2] = some y2 from by simpa [Value.cells, cells1i] using hg 2 _ rfl)
    obtain ⟨l, e3, r3, w3⟩ := DataW.trod_int Try.underlying3 (show DataW.trod enc Try.prog W base sp held n 3 [c3] = some y3 from by simpa [Value.cells, cells1i] using hg 3 _ rfl)
    obtain ⟨d0, d1, d2, d3, d4, d5, f0, f1, f2, f3, f4, f5, r4, x0, x1, x2, x3, x4, x5⟩ := trod_d (show DataW.trod enc Try.prog W base sp held n 23 [c4, c5, c6, c7, c8, c9] = some y4 from by simpa [Value.cells, cellsD] using hg 4 _ rfl)
    obtain ⟨p, e5, r5, w5⟩ := DataW.trod_int Try.underlying22 (show DataW.trod enc Try.prog W base sp held n 22 [c10] = some y5 from by simpa [Value.cells, cells1u] using hg 5 _ rfl)
    simp only [List.cons.injEq, and_true] at e0 e1 e2 e3 e5
    subst e0 e1 e2 e3 e5 r0 r1 r2 r3 r4 r5 f0 f1 f2 f3 f4 f5
    simp only [Prod.mk.injEq] at hx
    refine ⟨a, k, s, l, d0, d1, d2, d3, d4, d5, p, rfl, by rw [hx.2]; rfl, w0, w1, w2, w3, x0, x1, x2, x3, x4, x5, w5, fun W' base' sp' held' => ?_⟩
    rw [hx.1]
    refine ⟨3, ?_⟩
    unfold DataW.trod
    rw [Try.underlying25]
    simp only [Value.cells, cellsI]
    rw [if_pos (by rfl)]
    simp [cells1i, cells1u, cellsD, trod_i_mk w0, trod_i_mk w1, trod_i_mk w2, trod_i_mk w3, trod_u_mk w5, trod_d_mk x0 x1 x2 x3 x4 x5]
end
end Go.Proofs.YtencgnhgjegknaaX
