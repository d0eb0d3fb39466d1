/- What this claim uses of the texts that were printed for it. -/
import Derived.Test.YtcmcmkfoihlniaaDoorCards
import Derived.Deep.SlicePairs
import Derived.SizedLaws
import Derived.WideShapes
import Derived.OpenShut
import Derived.ChangeMaps5
import Derived.Test.YtcmcmkfoihlniaaDoorU9
section
namespace Go.Proofs.YtcmcmkfoihlniaaDoor.MM
open Go Go.RowKit Go.Maps Go.Proofs.YtcmcmkfoihlniaaDoorX Go.Proofs.YtcmcmkfoihlniaaDoor.NM Go.Proofs.YtcmcmkfoihlniaaDoor.EN Go.Proofs.YtcmcmkfoihlniaaDoorW.PrintWords Go.Proofs.YtcmcmkfoihlniaaDoorW.PrintLast Go.Proofs.YtcmcmkfoihlniaaDoorW.PrintMore Go.Proofs.YtcmcmkfoihlniaaDoor.PModelUndoes Go.ChangeShapes Go.WideShapes
set_option linter.unusedVariables false
set_option linter.unusedSimpArgs false
theorem cells48 : Tryd.prog.cellsOf 48 = 6 := by kernel_rfl
theorem cells3 : Tryd.prog.cellsOf 3 = 1 := by kernel_rfl
theorem cells9 : Tryd.prog.cellsOf 9 = 1 := by kernel_rfl
theorem cells23 : Tryd.prog.cellsOf 23 = 1 := by kernel_rfl
theorem cells5 : Tryd.prog.cellsOf 5 = 1 := by kernel_rfl
section
variable {H : Type} {enc : TypeId × Value → H}
theorem add_pos (a : Addr) {n : Nat} (h : n ≠ 0) : a.add n = ⟨a.block, a.off + n, none⟩ := by
  unfold Addr.add; simp [h]
theorem add_two (a : Addr) (i j : Nat) (h : j ≠ 0) : (a.add i).add j = ⟨(a.add i).block, (a.add i).off + j, none⟩ := add_pos _ h
theorem open_bytes' {W : World} {fuel base : Nat} {sp : Nat → Bool} {held : Bool} {v : Value} {y : DataW H × List MemPlace} (h : DataW.trod enc Tryd.prog W base sp held fuel 23 [v] = some y) :
    ∃ (B : Option Addr) (cb : Nat) (b : List Int), v = .slice B b.length cb ∧ ReadsInt W .u8 B b.length b ∧ b.length ≤ cb := by
  rcases open_ints Tryd.underlying23 Tryd.underlying5 cells5 h with ⟨hcs, _⟩ | ⟨a1, l1, c1, zs, hcs, _, hl1, hm1, hz1, hx1, hcell, hwz⟩
  · exact ⟨none, 0, [], by simpa using hcs, ⟨rfl, Nat.zero_le _, fun h => absurd h (Nat.lt_irrefl 0)⟩, Nat.le_refl _⟩
  · have hzl : l1 ≤ zs.length := by rw [hz1]; split <;> omega
    have htl : (zs.take l1).length = l1 := by rw [List.length_take]; omega
    refine ⟨some a1, c1, zs.take l1, by rw [htl]; simpa using hcs, ⟨rfl, ?_, fun hp => ⟨a1, rfl, fun j hj => ?_⟩⟩, by rw [htl]; exact hl1⟩
    · rw [htl]; simp only [maxLen] at hm1; omega
    · have hj' : j < l1 := by rw [← htl]; exact hj
      rw [hcell j (by omega)]
      simp [List.getD_eq_getElem?_getD, hj']
def OpAt (W : World) (ad : Addr) (o : OpV) : Prop := ∃ B cb, ReadsInt W .u8 B o.data.length o.data ∧ o.data.length ≤ cb ∧
  W.cell? ad = some (.int .i64 o.what) ∧ W.cell? ⟨ad.block, ad.off + 1, none⟩ = some (.string o.p) ∧ W.cell? ⟨ad.block, ad.off + 2, none⟩ = some (.string o.q) ∧
  W.cell? ⟨ad.block, ad.off + 3, none⟩ = some (.int .i64 o.off) ∧ W.cell? ⟨ad.block, ad.off + 4, none⟩ = some (.int .i64 o.n) ∧ W.cell? ⟨ad.block, ad.off + 5, none⟩ = some (.slice B o.data.length cb)
set_option maxRecDepth 100000 in
theorem open_ops {W : World} {v : Value} {d : DataW H} {ps : List MemPlace} {b0 : Nat} {r : Reach} (hv : Value.okWide Tryd.prog W r b0 22 v) (h : DataW.Trod enc Tryd.prog W 0 (fun _ => true) true 22 v d ps) :
    ∃ (A : Option Addr) (c : Nat) (l : List OpV), v = .slice A l.length c ∧ OpsAt W A l ∧ l.length ≤ 9223372036854775807 := by
  obtain ⟨A, n, c, rfl⟩ := okWide_slice Tryd.underlying22 hv
  obtain ⟨fuel, hf⟩ := h
  rcases Go.Deep.open_slice Tryd.underlying22 hf with ⟨hcs, _⟩ | ⟨a, len, cap, m, k, D, Pl, hcs, hb, hl, hm, hmm, hx0, hx⟩
  · simp [Value.cells] at hcs
    obtain ⟨rfl, rfl, rfl⟩ := hcs
    exact ⟨none, 0, [], rfl, fun i hi => absurd hi (Nat.not_lt_zero _), Nat.zero_le _⟩
  · simp [Value.cells] at hcs
    obtain ⟨rfl, rfl, rfl⟩ := hcs
    have hlm : n ≤ m := by rw [hmm]; simp; exact hl
    have each : ∀ i, i < n → ∃ o : OpV, OpAt W (a.add (i * 6)) o := by
      intro i hi
      obtain ⟨cs', h1, h2⟩ := hx i (by omega)
      rw [cells48] at h1
      obtain ⟨_, hlen, hcell⟩ := World.cells?_some h1
      obtain ⟨xs, k', hk, hxy, _, hxl, hfl⟩ := DataW.trod_struct Tryd.underlying48 h2
      match xs, hxl, cs', hlen with
      | [y0, y1, y2, y3, y4, y5], _, [v0, v1, v2, v3, v4, v5], _ =>
        have g0 := hfl 0 _ rfl
        have g1 := hfl 1 _ rfl
        have g2 := hfl 2 _ rfl
        have g3 := hfl 3 _ rfl
        have g4 := hfl 4 _ rfl
        have g5 := hfl 5 _ rfl
        simp [cells3, cells9, cells23] at g0 g1 g2 g3 g4 g5
        obtain ⟨x0, e0, _, _⟩ := DataW.trod_int Tryd.underlying3 g0
        obtain ⟨x1, e1, _, _⟩ := DataW.trod_string Tryd.underlying9 g1
        obtain ⟨x2, e2, _, _⟩ := DataW.trod_string Tryd.underlying9 g2
        obtain ⟨x3, e3, _, _⟩ := DataW.trod_int Tryd.underlying3 g3
        obtain ⟨x4, e4, _, _⟩ := DataW.trod_int Tryd.underlying3 g4
        obtain ⟨B, cb, b, rfl, hr, hc⟩ := open_bytes' g5
        simp only [List.cons.injEq, and_true] at e0 e1 e2 e3 e4
        subst e0 e1 e2 e3 e4
        have q0 := hcell 0 (by omega)
        have q1 := hcell 1 (by omega)
        have q2 := hcell 2 (by omega)
        have q3 := hcell 3 (by omega)
        have q4 := hcell 4 (by omega)
        have q5 := hcell 5 (by omega)
        rw [add_two _ _ _ (by decide)] at q1 q2 q3 q4 q5
        refine ⟨⟨x0, x1, x2, x3, x4, b⟩, B, cb, hr, hc, ?_, ?_, ?_, ?_, ?_, ?_⟩
        · have : (a.add (i * 6)).add 0 = a.add (i * 6) := by rw [add_add, Nat.add_zero]
          rw [this] at q0; simpa using q0
        · simpa using q1
        · simpa using q2
        · simpa using q3
        · simpa using q4
        · simpa using q5
    classical
    obtain ⟨G, hG⟩ : ∃ G : Nat → OpV, ∀ i, i < n → OpAt W (a.add (i * 6)) (G i) := ⟨fun i => if hin : i < n then Classical.choose (each i hin) else ⟨0, ByteArray.empty, ByteArray.empty, 0, 0, []⟩, fun i hin => by
      show OpAt W (a.add (i * 6)) (if hin : i < n then Classical.choose (each i hin) else ⟨0, ByteArray.empty, ByteArray.empty, 0, 0, []⟩)
      rw [dif_pos hin]
      exact Classical.choose_spec (each i hin)⟩
    have hll : ((List.range n).map G).length = n := by rw [List.length_map, List.length_range]
    refine ⟨some a, c, (List.range n).map G, by rw [hll], fun i hi => ?_, by rw [hll]; simp only [maxLen] at hm; omega⟩
    have hin : i < n := by rw [← hll]; exact hi
    have hget : ((List.range n).map G)[i] = G i := by simp
    rw [hget]
    obtain ⟨B, cb, h1, h2, h3⟩ := hG i hin
    exact ⟨a, B, cb, rfl, h1, h2, h3⟩
end
end Go.Proofs.YtcmcmkfoihlniaaDoor.MM
end
