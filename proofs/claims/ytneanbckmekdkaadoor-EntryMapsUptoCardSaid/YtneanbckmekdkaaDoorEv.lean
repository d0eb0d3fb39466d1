/- Events of the walk, told by what they leave: a row that is stored whole; an append within the capacity of a block that is known whole. -/
import Derived.Laws.Tables
import Derived.Laws.Rows
import Derived.Laws.CopyOwn
import Derived.Laws.CopyRow
import Derived.Laws.AppendOwn
import Derived.Below
import Derived.Laws.MakeOwn
import Derived.Test.YtneanbckmekdkaaDoorWWords
namespace Go.Proofs.YtneanbckmekdkaaDoorX
open Go.RowKit Go.Proofs.YtneanbckmekdkaaDoorW.PrintWords
section
variable {P : Program} {ops : Array Oper} {rest : List Oper} {o : Oper} {a : Act} {w : World} {Q : Exit → Act → World → Prop}
theorem grown_setRow (w : World) (g : Nat) (cs : Array Value) : w.grownBy (w.setRow g cs) (some g) :=
  ⟨by simp, by simp, by simp, by simp, fun i _ hne => setRow_other w g i cs (fun e => hne (by rw [e]))⟩
/-- A whole row is stored into a block of its own: the world behind it has a name. -/
theorem ev_store_row (hgd : o.guard = none) (ty : TypeId) (x y : Operand) (ho : o.op = .store ty x y)
    (g : Nat) (cells : Array Value) (hx : a.eval x = .pointer (some ⟨g, 0, none⟩)) (hy : a.eval y = .agg cells)
    (t : TypeId) (old : Array Value) (hg : w.heap[g]? = some (.cells old t (0, 0))) (hi : (P.info? ty).map (·.size) = some cells.size)
    (hold : old.size = cells.size) (h1 : cells.all (·.oneCell') = true)
    (h : ∀ w1, w1.heap[g]? = some (.cells cells t (0, 0)) → w.grownBy w1 (some g) → wpList P ops Q rest (a.put o.dst undef) w1) : wpList P ops Q (o :: rest) a w :=
  wpList_store_row hgd ty x y ho g cells hx hy t old hg hi hold h1
    (h _ (setRow_heap w g old cells t (0, 0) hg) (grown_setRow w g cells))
/-- append where there is room, in a block that is known whole, elements of one cell. -/
theorem ev_append_room (hgd : o.guard = none) (s x : Operand) (t e : TypeId) (ho : o.op = .call { callee := .builtin .append, args := #[s, x], argTypes := #[t, t] })
    (ht : P.underlying t = some (.slice e)) (hi : (P.info? e).map (·.size) = some 1)
    (g n cap : Nat) (L : List Value) (hg : w.heap[g]? = some (.cells L.toArray e (0, 0))) (hs : a.eval s = .slice (some ⟨g, 0, none⟩) n cap)
    (ad : Addr) (m c : Nat) (news : List Value) (hx : a.eval x = .slice (some ad) m c) (hl : news.length = m) (hnews : ∀ j u, news[j]? = some u → w.cell? (ad.add j) = some u) (h1 : ∀ u ∈ news, u.oneCell' = true)
    (hroom : n + m ≤ cap) (hfit : n + m ≤ L.length)
    (h : ∀ w1, w1.heap[g]? = some (.cells (L.take n ++ news ++ L.drop (n + m)).toArray e (0, 0)) → w.grownBy w1 (some g) → wpList P ops Q rest (a.put o.dst (.slice (some ⟨g, 0, none⟩) (n + m) cap)) w1) : wpList P ops Q (o :: rest) a w := by
  obtain ⟨i, hi', hz⟩ := Option.map_eq_some_iff.1 hi
  have hr := run_append_room (P := P) w t o.type e i ht hi' g n cap L.toArray hg ad m c news (by rw [hl, hz, Nat.mul_one]) hnews h1 hroom (by rw [hz, Nat.mul_one, hl]; simpa using hfit)
  rw [hz, Nat.mul_one, hl] at hr
  simp only at hr
  refine wpList_plain hgd fun K hK => ?_
  unfold Oper.wp execOp
  simp only [ho, resolve, invoke, builtin, Sem.run_bind, Sem.run_pure, Result.andThen_ok, List.map_toArray, List.map_cons, List.map_nil, hs, hx, hr]
  exact hK _ _ (h _ (setRow_heap w g L.toArray _ e (0, 0) hg) (grown_setRow w g _))
/-- A store into the midst of a block that is known whole. -/
theorem ev_store (hgd : o.guard = none) (ty : TypeId) (x y : Operand) (ho : o.op = .store ty x y)
    (g off : Nat) (L news : List Value) (v : Value) (hx : a.eval x = .pointer (some ⟨g, off, none⟩)) (hy : a.eval y = v) (hv : v.cells.toList = news)
    (t : TypeId) (hg : w.heap[g]? = some (.cells L.toArray t (0, 0))) (hi : (P.info? ty).map (·.size) = some news.length)
    (hfit : off + news.length ≤ L.length) (h1 : ∀ u ∈ news, u.oneCell' = true)
    (h : ∀ w1, w1.heap[g]? = some (.cells (L.take off ++ news ++ L.drop (off + news.length)).toArray t (0, 0)) → w.grownBy w1 (some g) → wpList P ops Q rest (a.put o.dst undef) w1) : wpList P ops Q (o :: rest) a w := by
  have hst := run_storeCells_at (P := P) g off t news 0 L.toArray w hg (by simpa using hfit) h1
  simp only [Nat.add_zero] at hst
  have hrun : (storeVar ty ⟨g, off, none⟩ v).run P w = .ok () (w.setRow g (L.take off ++ news ++ L.drop (off + news.length)).toArray) := by
    cases hq : P.info? ty with
    | none => simp [hq] at hi
    | some i =>
      have hs : v.cells.size = i.size := by
        simp [hq] at hi
        rw [← Array.length_toList, hv]; omega
      simp [storeVar, sizeOf, typeInfo, hq, hs, hv, hst]
  refine wpList_plain hgd fun K hK => ?_
  unfold Oper.wp execOp
  simp only [ho, hx, hy, Instr.storeAt, Instr.sureAddr, Sem.run_bind, Sem.run_pure, Result.andThen_ok, hrun]
  exact hK _ _ (h _ (setRow_heap w g L.toArray _ t (0, 0) hg) (grown_setRow w g _))
/-- copy into the midst of a block that is known whole: the world behind it is told. -/
theorem ev_copy (hgd : o.guard = none) (d s : Operand) (dT sT : TypeId)
    (ho : o.op = .call { callee := .builtin .copy, args := #[d, s], argTypes := #[dT, sT] }) (elem : TypeId) (hu : P.underlying dT = some (.slice elem)) (hsz : (P.info? elem).map (·.size) = some 1)
    (dp sp : Option Addr) (dLen dCap sLen sCap : Nat) (hd : a.eval d = .slice dp dLen dCap) (hs : a.eval s = .slice sp sLen sCap)
    (g off : Nat) (cur : List Value) (t : TypeId) (hg : w.heap[g]? = some (.cells cur.toArray t (0, 0))) (cs : List Value) (hn : cs.length = Nat.min sLen dLen)
    (hpos : 0 < cs.length → dp = some ⟨g, off, none⟩ ∧ ∃ ad, sp = some ad ∧ ∀ j v, cs[j]? = some v → w.cell? (ad.add j) = some v)
    (hfit : off + cs.length ≤ cur.length) (h1 : ∀ v ∈ cs, v.oneCell' = true)
    (h : ∀ w', w'.heap[g]? = some (.cells (splice cur off cs).toArray t (0, 0)) → w.grownBy w' (some g) → wpList P ops Q rest (a.put o.dst (goInt cs.length)) w') :
    wpList P ops Q (o :: rest) a w := by
  by_cases h0 : cs.length = 0
  · obtain rfl : cs = [] := List.eq_nil_of_length_eq_zero h0
    refine wpList_copy_nothing hgd d s dT sT ho elem hu hsz dp sp dLen dCap sLen sCap hd hs (by simpa using hn.symm) ?_
    exact h w (by simpa [splice] using hg) (grown_of_below (Below.refl _ _) _)
  · obtain ⟨rfl, ad, rfl, hsrc⟩ := hpos (by omega)
    refine wpList_copy_own hgd d s dT sT ho elem hu hsz g off dLen dCap ad sLen sCap hd hs cur.toArray t hg cs hn hsrc (by simpa using hfit) h1 ?_
    exact h _ (by simpa [splice] using setRow_heap w g _ _ t _ hg) (grown_setRow w g _)
/-- make([]T, n, k), numbers: the new row has a name. -/
theorem ev_make (hgd : o.guard = none) (l c : Operand) (t e : TypeId) (kk : IntKind) (bytes : Nat) (ho : o.op = .makeSlice t l c) (ht : P.underlying t = some (.slice e))
    (hinfo : (P.info? e).map (fun i => (i.zero, i.size, i.bytes)) = some (some (.int kk 0), 1, bytes)) (n k : Nat) (kl kc : IntKind) (nl nc : Int) (hl : a.eval l = .int kl nl) (hc : a.eval c = .int kc nc) (hnl : nl = n) (hnc : nc = k)
    (hnk : n ≤ k) (hb : bytes * k ≤ 281474976710656) (h63 : k ≤ 9223372036854775807)
    (h : ∀ g, g = w.heap.size → ∀ w1, w1.heap[g]? = some (.cells (nums kk (List.replicate k 0)).toArray e (0, 0)) → Below w.heap.size w w1 → wpList P ops Q rest (a.put o.dst (.slice (some ⟨g, 0, none⟩) n k)) w1) : wpList P ops Q (o :: rest) a w := by
  obtain ⟨i, hi, hzz⟩ := Option.map_eq_some_iff.1 hinfo
  simp only [Prod.mk.injEq] at hzz
  obtain ⟨hz, hs, hby⟩ := hzz
  subst hnl hnc
  have hbi : (i.bytes : Int) * (k : Int) ≤ 281474976710656 := by rw [hby, ← Int.natCast_mul]; omega
  have hr := run_make (P := P) w t e i (.int kk 0) ht hi hz kl kc n k (by omega) (by omega) hbi (by omega)
  rw [hs, Int.toNat_natCast, Int.toNat_natCast, Nat.mul_one] at hr
  have hcells : madeCells (Value.int kk 0).cells k = (nums kk (List.replicate k 0)).toArray := by
    have hl : (madeCells #[Value.int kk 0] k).toList = nums kk (List.replicate k 0) := by
      apply List.ext_getElem
      · simp [nums, madeCells]
      · intro i h1 h2
        simp [nums, madeCells, Nat.mod_one]
    rw [show (Value.int kk 0).cells = #[Value.int kk 0] from rfl, ← hl]
  rw [hcells] at hr
  refine wpList_plain hgd fun K hK => ?_
  unfold Oper.wp execOp
  simp only [ho, hl, hc, Sem.run_bind, Sem.run_pure, Result.andThen_ok, hr]
  exact hK _ _ (h _ rfl _ (heap_alloc_new w _) ((Below.refl _ _).alloc (Nat.le_refl _) _))
end
theorem one_nums (k : IntKind) (l : List Int) : ∀ u ∈ nums k l, u.oneCell' = true := by
  intro u hu
  simp only [nums, List.mem_map] at hu
  obtain ⟨x, _, rfl⟩ := hu
  rfl
end Go.Proofs.YtneanbckmekdkaaDoorX
