import Derived.Laws.Tables
import Derived.Laws.Rows
import Derived.Laws.CopyOwn
import Derived.Laws.CopyRow
import Derived.Laws.AppendOwn
import Derived.Below
import Derived.Laws.MakeOwn
import Derived.Test.YtgiapegacbibeaaWWords
import Derived.Test.YtgiapegacbibeaaProg
import Derived.WalkKit
import Derived.KernelRfl
import Derived.WalkSpells
import Derived.Lib.LazyBuf
section
/- Events of the walk, told by what they leave: a row that is stored whole; an append within the capacity of a block that is known whole. -/
namespace Go.Proofs.YtgiapegacbibeaaX
open Go.RowKit Go.Proofs.YtgiapegacbibeaaW.PrintWords
section
variable {P : Program} {ops : Array Oper} {rest : List Oper} {o : Oper} {a : Act} {w : World} {Q : Exit → Act → World → Prop}
theorem grown_setRow (w : World) (g : Nat) (cs : Array Value) : w.grownBy (w.setRow g cs) (some g) :=
  ⟨by simp, by simp, by simp, by simp, fun i _ hne => setRow_other w g i cs (fun e => hne (by rw [e]))⟩
/-- A whole row is stored into a block of its own: the world behind it has a name. -/
theorem ev_store_row (hgd : o.guard = none) (ty : TypeId) (x y : Operand) (ho : o.op = .store ty x y)
    (g : Nat) (cells : Array Value) (hx : a.eval x = .pointer (some ⟨g, 0, none⟩)) (hy : a.eval y = .agg cells)
    (t : TypeId) (old : Array Value) (hg : w.heap[g]? = some (.cells old t (0, 0))) (hi : (P.info? ty).map (·.size) = some cells.size)
    (hold : old.size = cells.size) (h1 : cells.all (·.oneCell') = true)
    (h : ∀ w1, w1.heap[g]? = some (.cells cells t (0, 0)) → w.grownBy w1 (some g) → wpList P ops Q rest (a.put o.dst undef) w1) : wpList P ops Q (o :: rest) a w :=
  wpList_store_row hgd ty x y ho g cells hx hy t old hg hi hold h1
    (h _ (setRow_heap w g old cells t (0, 0) hg) (grown_setRow w g cells))
/-- append where there is room, in a block that is known whole, elements of one cell. -/
theorem ev_append_room (hgd : o.guard = none) (s x : Operand) (t e : TypeId) (ho : o.op = .call { callee := .builtin .append, args := #[s, x], argTypes := #[t, t] })
    (ht : P.underlying t = some (.slice e)) (hi : (P.info? e).map (·.size) = some 1)
    (g n cap : Nat) (L : List Value) (hg : w.heap[g]? = some (.cells L.toArray e (0, 0))) (hs : a.eval s = .slice (some ⟨g, 0, none⟩) n cap)
    (ad : Addr) (m c : Nat) (news : List Value) (hx : a.eval x = .slice (some ad) m c) (hl : news.length = m) (hnews : ∀ j u, news[j]? = some u → w.cell? (ad.add j) = some u) (h1 : ∀ u ∈ news, u.oneCell' = true)
    (hroom : n + m ≤ cap) (hfit : n + m ≤ L.length)
    (h : ∀ w1, w1.heap[g]? = some (.cells (L.take n ++ news ++ L.drop (n + m)).toArray e (0, 0)) → w.grownBy w1 (some g) → wpList P ops Q rest (a.put o.dst (.slice (some ⟨g, 0, none⟩) (n + m) cap)) w1) : wpList P ops Q (o :: rest) a w := by
  obtain ⟨i, hi', hz⟩ := Option.map_eq_some_iff.1 hi
  have hr := run_append_room (P := P) w t o.type e i ht hi' g n cap L.toArray hg ad m c news (by rw [hl, hz, Nat.mul_one]) hnews h1 hroom (by rw [hz, Nat.mul_one, hl]; simpa using hfit)
  rw [hz, Nat.mul_one, hl] at hr
  simp only at hr
  refine wpList_plain hgd fun K hK => ?_
  unfold Oper.wp execOp
  simp only [ho, resolve, invoke, builtin, Sem.run_bind, Sem.run_pure, Result.andThen_ok, List.map_toArray, List.map_cons, List.map_nil, hs, hx, hr]
  exact hK _ _ (h _ (setRow_heap w g L.toArray _ e (0, 0) hg) (grown_setRow w g _))
/-- A store into the midst of a block that is known whole. -/
theorem ev_store (hgd : o.guard = none) (ty : TypeId) (x y : Operand) (ho : o.op = .store ty x y)
    (g off : Nat) (L news : List Value) (v : Value) (hx : a.eval x = .pointer (some ⟨g, off, none⟩)) (hy : a.eval y = v) (hv : v.cells.toList = news)
    (t : TypeId) (hg : w.heap[g]? = some (.cells L.toArray t (0, 0))) (hi : (P.info? ty).map (·.size) = some news.length)
    (hfit : off + news.length ≤ L.length) (h1 : ∀ u ∈ news, u.oneCell' = true)
    (h : ∀ w1, w1.heap[g]? = some (.cells (L.take off ++ news ++ L.drop (off + news.length)).toArray t (0, 0)) → w.grownBy w1 (some g) → wpList P ops Q rest (a.put o.dst undef) w1) : wpList P ops Q (o :: rest) a w := by
  have hst := run_storeCells_at (P := P) g off t news 0 L.toArray w hg (by simpa using hfit) h1
  simp only [Nat.add_zero] at hst
  have hrun : (storeVar ty ⟨g, off, none⟩ v).run P w = .ok () (w.setRow g (L.take off ++ news ++ L.drop (off + news.length)).toArray) := by
    cases hq : P.info? ty with
    | none => simp [hq] at hi
    | some i =>
      have hs : v.cells.size = i.size := by
        simp [hq] at hi
        rw [← Array.length_toList, hv]; omega
      simp [storeVar, sizeOf, typeInfo, hq, hs, hv, hst]
  refine wpList_plain hgd fun K hK => ?_
  unfold Oper.wp execOp
  simp only [ho, hx, hy, Instr.storeAt, Instr.sureAddr, Sem.run_bind, Sem.run_pure, Result.andThen_ok, hrun]
  exact hK _ _ (h _ (setRow_heap w g L.toArray _ t (0, 0) hg) (grown_setRow w g _))
/-- copy into the midst of a block that is known whole: the world behind it is told. -/
theorem ev_copy (hgd : o.guard = none) (d s : Operand) (dT sT : TypeId)
    (ho : o.op = .call { callee := .builtin .copy, args := #[d, s], argTypes := #[dT, sT] }) (elem : TypeId) (hu : P.underlying dT = some (.slice elem)) (hsz : (P.info? elem).map (·.size) = some 1)
    (dp sp : Option Addr) (dLen dCap sLen sCap : Nat) (hd : a.eval d = .slice dp dLen dCap) (hs : a.eval s = .slice sp sLen sCap)
    (g off : Nat) (cur : List Value) (t : TypeId) (hg : w.heap[g]? = some (.cells cur.toArray t (0, 0))) (cs : List Value) (hn : cs.length = Nat.min sLen dLen)
    (hpos : 0 < cs.length → dp = some ⟨g, off, none⟩ ∧ ∃ ad, sp = some ad ∧ ∀ j v, cs[j]? = some v → w.cell? (ad.add j) = some v)
    (hfit : off + cs.length ≤ cur.length) (h1 : ∀ v ∈ cs, v.oneCell' = true)
    (h : ∀ w', w'.heap[g]? = some (.cells (splice cur off cs).toArray t (0, 0)) → w.grownBy w' (some g) → wpList P ops Q rest (a.put o.dst (goInt cs.length)) w') :
    wpList P ops Q (o :: rest) a w := by
  by_cases h0 : cs.length = 0
  · obtain rfl : cs = [] := List.eq_nil_of_length_eq_zero h0
    refine wpList_copy_nothing hgd d s dT sT ho elem hu hsz dp sp dLen dCap sLen sCap hd hs (by simpa using hn.symm) ?_
    exact h w (by simpa [splice] using hg) (grown_of_below (Below.refl _ _) _)
  · obtain ⟨rfl, ad, rfl, hsrc⟩ := hpos (by omega)
    refine wpList_copy_own hgd d s dT sT ho elem hu hsz g off dLen dCap ad sLen sCap hd hs cur.toArray t hg cs hn hsrc (by simpa using hfit) h1 ?_
    exact h _ (by simpa [splice] using setRow_heap w g _ _ t _ hg) (grown_setRow w g _)
/-- make([]T, n, k), numbers: the new row has a name. -/
theorem ev_make (hgd : o.guard = none) (l c : Operand) (t e : TypeId) (kk : IntKind) (bytes : Nat) (ho : o.op = .makeSlice t l c) (ht : P.underlying t = some (.slice e))
    (hinfo : (P.info? e).map (fun i => (i.zero, i.size, i.bytes)) = some (some (.int kk 0), 1, bytes)) (n k : Nat) (kl kc : IntKind) (nl nc : Int) (hl : a.eval l = .int kl nl) (hc : a.eval c = .int kc nc) (hnl : nl = n) (hnc : nc = k)
    (hnk : n ≤ k) (hb : bytes * k ≤ 281474976710656) (h63 : k ≤ 9223372036854775807)
    (h : ∀ g, g = w.heap.size → ∀ w1, w1.heap[g]? = some (.cells (nums kk (List.replicate k 0)).toArray e (0, 0)) → Below w.heap.size w w1 → wpList P ops Q rest (a.put o.dst (.slice (some ⟨g, 0, none⟩) n k)) w1) : wpList P ops Q (o :: rest) a w := by
  obtain ⟨i, hi, hzz⟩ := Option.map_eq_some_iff.1 hinfo
  simp only [Prod.mk.injEq] at hzz
  obtain ⟨hz, hs, hby⟩ := hzz
  subst hnl hnc
  have hbi : (i.bytes : Int) * (k : Int) ≤ 281474976710656 := by rw [hby, ← Int.natCast_mul]; omega
  have hr := run_make (P := P) w t e i (.int kk 0) ht hi hz kl kc n k (by omega) (by omega) hbi (by omega)
  rw [hs, Int.toNat_natCast, Int.toNat_natCast, Nat.mul_one] at hr
  have hcells : madeCells (Value.int kk 0).cells k = (nums kk (List.replicate k 0)).toArray := by
    have hl : (madeCells #[Value.int kk 0] k).toList = nums kk (List.replicate k 0) := by
      apply List.ext_getElem
      · simp [nums, madeCells]
      · intro i h1 h2
        simp [nums, madeCells, Nat.mod_one]
    rw [show (Value.int kk 0).cells = #[Value.int kk 0] from rfl, ← hl]
  rw [hcells] at hr
  refine wpList_plain hgd fun K hK => ?_
  unfold Oper.wp execOp
  simp only [ho, hl, hc, Sem.run_bind, Sem.run_pure, Result.andThen_ok, hr]
  exact hK _ _ (h _ rfl _ (heap_alloc_new w _) ((Below.refl _ _).alloc (Nat.le_refl _) _))
end
theorem one_nums (k : IntKind) (l : List Int) : ∀ u ∈ nums k l, u.oneCell' = true := by
  intro u hu
  simp only [nums, List.mem_map] at hu
  obtain ⟨x, _, rfl⟩ := hu
  rfl
end Go.Proofs.YtgiapegacbibeaaX

end

section
/- slices.IndexFunc and ContainsFunc over numbers, asked whether one is not 0; inode.Blocks. -/
namespace Go.Proofs.YtgiapegacbibeaaX
open Go.RowKit Go.Proofs.YtgiapegacbibeaaW.PrintWords
set_option linter.unusedVariables false

theorem notZero_any (n : Int) (w : World) : Calls Try.prog 39 #[.int .u32 n] w fun e w' => e = .returned (.bool (n != 0)) ∧ w = w' := by
  go_enter Try.func39, Try.ntmps39
  go_wp2
  go_ret
  exact ⟨rfl, rfl⟩

/-- Where the first number stands that is not 0; -1. -/
def firstNZ (l : List Int) : Int := match l.findIdx? (fun x => x != 0) with
  | some i => (i : Int)
  | none => -1
theorem findIdx_none {l : List Int} (h : ∀ j, j < l.length → (l.getD j 0 != 0) = false) : l.findIdx? (fun x => x != 0) = none := by
  rw [List.findIdx?_eq_none_iff]
  intro x hx
  obtain ⟨j, hj, rfl⟩ := List.getElem_of_mem hx
  have := h j hj
  rwa [List.getD_eq_getElem?_getD, List.getElem?_eq_getElem hj] at this
theorem findIdx_some {l : List Int} {i : Nat} (hi : i < l.length) (h : ∀ j, j < i → (l.getD j 0 != 0) = false) (hx : (l.getD i 0 != 0) = true) : l.findIdx? (fun x => x != 0) = some i := by
  rw [List.findIdx?_eq_some_iff_getElem]
  refine ⟨hi, ?_, fun j hj => ?_⟩
  · rwa [List.getD_eq_getElem?_getD, List.getElem?_eq_getElem hi] at hx
  · have := h j hj
    rw [List.getD_eq_getElem?_getD, List.getElem?_eq_getElem (by omega : j < l.length)] at this
    simpa using this
set_option maxHeartbeats 1000000 in
theorem index_any (A : Option Addr) (n c : Nat) (l : List Int) (w : World) (hr : ReadsInt w .u32 A n l) :
    Calls Try.prog 48 #[.slice A n c, .func (.func 39) #[] #[]] w fun e w' => e = .returned (.int .i64 (firstNZ l)) ∧ w = w' := by
  have HR := Aside0.mk hr
  have hl : l.length = n := hr.1
  have hn : n ≤ 9223372036854775807 := hr.2.1
  clear hr
  have HL := Aside0.mk hl
  clear hl
  go_enter Try.func48, Try.ntmps48
  go_wp2
  go_loop [8] (fun i => ∃ k : Nat, k ≤ n ∧ i = .int .i64 k ∧ Aside0 (∀ j, j < k → (l.getD j 0 != 0) = false)) (fun i => n - (intOf i).toNat)
  case atStart => exact ⟨0, Nat.zero_le _, rfl, ⟨fun j hj => absurd hj (by omega)⟩⟩
  case round =>
    obtain ⟨k, hk, rfl, HK⟩ := hrel
    by_cases hlt : k < n
    · obtain ⟨ad, rfl, hc⟩ := HR.out.at_ k (by omega) (by omega)
      rw [Int.toNat_natCast] at hc
      have hx0 : rd l k = l.getD k 0 := by unfold rd; rw [Int.toNat_natCast]
      rw [hx0] at hc
      obtain ⟨x, hx⟩ : ∃ x, l.getD k 0 = x := ⟨_, rfl⟩
      rw [hx] at hc
      have HX := Aside0.mk hx
      clear hx hx0
      by_cases hz : (x != 0) = true
      · have hfin : firstNZ l = (k : Int) := by unfold firstNZ; rw [findIdx_some (by rw [HL.out]; exact hlt) HK.out (by rw [HX.out]; exact hz)]
        have HF := Aside0.mk hfin
        clear hfin
        go_wp2_with (go_at_call 39; refine (notZero_any x _).mono ?_; rintro e w' ⟨rfl, rfl⟩)
        go_ret
        exact ⟨by rw [HF.out]; rfl, rfl⟩
      · have hz' : (x != 0) = false := by simpa using hz
        clear hz
        go_wp2_with (go_at_call 39; refine (notZero_any x _).mono ?_; rintro e w' ⟨rfl, rfl⟩)
        go_round
        case rel => exact ⟨k + 1, by omega, by go_num, ⟨fun j hj => by
          rcases Nat.lt_or_ge j k with h | h
          · exact HK.out j h
          · obtain rfl : j = k := by omega
            rw [HX.out]; exact hz'⟩⟩
        case measure => simp [intOf]; omega
    · have hfin : firstNZ l = -1 := by
        unfold firstNZ; rw [findIdx_none fun j hj => HK.out j (by have := HL.out; omega)]
      have HF := Aside0.mk hfin
      clear hfin
      go_wp2
      go_ret
      exact ⟨by rw [HF.out]; rfl, rfl⟩
def anyNZ (l : List Int) : Bool := l.any (fun x => x != 0)
theorem any_first (l : List Int) : decide (0 ≤ firstNZ l) = anyNZ l := by
  unfold firstNZ anyNZ
  cases h : l.findIdx? (fun x => x != 0) with
  | none =>
    rw [List.findIdx?_eq_none_iff] at h
    have : l.any (fun x => x != 0) = false := by
      rw [List.any_eq_false]; intro x hx; rw [h x hx]; simp
    rw [this]; rfl
  | some i =>
    rw [List.findIdx?_eq_some_iff_getElem] at h
    obtain ⟨hi, hx, _⟩ := h
    have : l.any (fun x => x != 0) = true := by
      rw [List.any_eq_true]; exact ⟨l[i], List.getElem_mem hi, hx⟩
    rw [this]; simp
set_option maxHeartbeats 1000000 in
theorem contains_any (A : Option Addr) (n c : Nat) (l : List Int) (w : World) (hr : ReadsInt w .u32 A n l) :
    Calls Try.prog 38 #[.slice A n c, .func (.func 39) #[] #[]] w fun e w' => e = .returned (.bool (anyNZ l)) ∧ w = w' := by
  have HR := Aside0.mk hr
  clear hr
  obtain ⟨r, hr⟩ : ∃ r, firstNZ l = r := ⟨_, rfl⟩
  have hq := any_first l
  rw [hr] at hq
  have HQ := Aside0.mk hq
  have HE := Aside0.mk hr
  clear hq hr
  go_enter Try.func38, Try.ntmps38
  go_wp2_with (go_at_call 48; refine (index_any A n c l _ HR.out).mono ?_; rw [HE.out]; rintro e w' ⟨rfl, rfl⟩)
  go_ret
  exact ⟨by rw [← HQ.out]; rfl, rfl⟩

/-- How many blocks a size has. -/
def blk (a : Int) : Int := if a ≤ 0 then 0 else (a - 1) / 112 + 1
set_option maxHeartbeats 1000000 in
theorem blocks_any (a : Int) (w : World) (ha : a ≤ 9223372036854775807) :
    Calls Try.prog 31 #[.int .i64 a] w fun e w' => e = .returned (.int .i64 (blk a)) ∧ w = w' := by
  by_cases h : a ≤ 0
  · have hb : blk a = 0 := by unfold blk; rw [if_pos h]
    have HB := Aside0.mk hb
    clear hb
    go_enter Try.func31, Try.ntmps31
    go_wp2
    go_ret
    exact ⟨by rw [HB.out]; rfl, rfl⟩
  · have hb : blk a = (a - 1) / 112 + 1 := by unfold blk; rw [if_neg h]
    have HB := Aside0.mk hb
    have h' : 0 < a := by omega
    clear hb h
    go_enter Try.func31, Try.ntmps31
    go_wp2
    go_ret
    exact ⟨by rw [HB.out]; rfl, rfl⟩
theorem blk_bd {a : Int} (h : a ≤ 9223372036854775807) : 0 ≤ blk a ∧ blk a ≤ 82351536043346213 := by
  unfold blk
  by_cases h0 : a ≤ 0
  · rw [if_pos h0]; omega
  · rw [if_neg h0]; omega
end Go.Proofs.YtgiapegacbibeaaX

end

section
/- slices.Clone of numbers: a new row that holds the same. -/
namespace Go.Proofs.YtgiapegacbibeaaX
open Go.RowKit Go.Proofs.YtgiapegacbibeaaW.PrintWords
set_option linter.unusedVariables false
theorem infoU32 : (Try.prog.info? 24).map (fun i => (i.zero, i.size, i.bytes)) = some (some (.int .u32 0), 1, 4) := by kernel_rfl
theorem own_empty (W : World) (base : Nat) (e : TypeId) (hb : base ≤ W.heap.size) : (W.alloc (.cells #[] e)).ownsRow base e 1 (.slice (some ⟨W.heap.size, 0, none⟩) 0 0) 0 [] := by
  have h := World.ownsRow_lit (base := base) (e := e) (size := 1) W #[] 0 hb (by simp [maxLen]) (by simp)
  simpa using h
set_option maxHeartbeats 1000000 in
theorem clone_any (A : Option Addr) (n c : Nat) (l : List Int) (w : World) (hr : ReadsInt w .u32 A n l) (hn : n * 4 ≤ 140737488355328) (hnil : A = none → n = 0 ∧ c = 0) :
    Calls Try.prog 42 #[.slice A n c] w fun e w' => ∃ v, e = .returned v ∧ w'.ownsRow w.heap.size 24 1 v n (nums .u32 l) ∧ Below w.heap.size w w' := by
  have HR := Aside0.mk hr
  have hl : l.length = n := hr.1
  have HL := Aside0.mk hl
  clear hr hl
  cases A with
  | none =>
    obtain ⟨rfl, rfl⟩ := hnil rfl
    have hl : l = [] := List.eq_nil_of_length_eq_zero HL.out
    subst hl
    have e1 := fun W : World => Lib.run_eql_slice_nil (P := Try.prog) W 71 24 none 0 0 0 0 Try.underlying71
    go_enter Try.func42, Try.ntmps42
    go_wp2
    go_ret
    exact ⟨_, rfl, own_nil _ _ _ _, Below.refl _ _⟩
  | some ad =>
    have e1 := fun W : World => Lib.run_eql_slice_nil (P := Try.prog) W 71 24 (some ad) n c 0 0 Try.underlying71
    have HN := Aside0.mk hn
    clear hnil hn
    go_enter Try.func42, Try.ntmps42
    go_wp2_with (at_builtin; with_reducible refine gate_dst (N := 7) rfl ?_; refine print_append_row (w0 := w) w.heap.size rfl (.tmp 5) (.tmp 6) 71 24 .u32 4 rfl Try.underlying71 infoU32 (by omega) (.slice (some ⟨w.heap.size, 0, none⟩) 0 0) [] l (some ad) n c rfl rfl (own_empty w _ _ (Nat.le_refl _)) (HR.out.below (below_alloc (Below.refl _ _) _)) (below_alloc (Below.refl _ _) _) (by simp) (by have := HN.out; simp; omega) ?_; intro v1 w1 ho hb _ _; have HO := Aside0.mk ho; have HB := Aside0.mk hb; clear ho hb)
    go_ret
    exact ⟨_, rfl, by have := HO.out; rw [List.nil_append, HL.out] at this; exact this, HB.out⟩
end Go.Proofs.YtgiapegacbibeaaX

end
