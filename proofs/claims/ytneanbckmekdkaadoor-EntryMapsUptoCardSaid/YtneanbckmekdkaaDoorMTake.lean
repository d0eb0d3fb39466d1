import Derived.Test.YtneanbckmekdkaaDoorEChunk
import Derived.Test.YtneanbckmekdkaaDoorEPut
import Derived.Test.YtneanbckmekdkaaDoorNRefV
import Derived.Test.YtneanbckmekdkaaDoorRound
import Derived.Test.YtneanbckmekdkaaDoorPEntryFormsx7
import Derived.Deep.DeepAppendWide
import Derived.RangeFuncNested
import Derived.Laws.BitsLemmas
section
/- entry.Take: the walk. -/
namespace Go.Proofs.YtneanbckmekdkaaDoor.EN
open Go Go.RowKit Go.Shelf
open Go.Proofs.YtneanbckmekdkaaDoor.NMV (rd_drop)
open Go.Proofs.YtneanbckmekdkaaDoorX Go.Proofs.YtneanbckmekdkaaDoor.NM Go.Proofs.YtneanbckmekdkaaDoorW.PrintWords Go.Proofs.YtneanbckmekdkaaDoorW.PrintLast Go.Proofs.YtneanbckmekdkaaDoorW.PrintMore Go.Proofs.YtneanbckmekdkaaDoor.PEntryForms
set_option linter.unusedVariables false
set_option linter.unusedSimpArgs false
attribute [local go_sem] Oper.semAt_some
/-- The entry that 28 bytes say. -/
def entAt (b : List Int) (m : Nat) : S42 := ⟨256 * b.getD m 0 + b.getD (m + 1) 0, strOfNums ((b.drop (m + 3)).take (b.getD (m + 2) 0).toNat)⟩
def okPart (b : List Int) (m : Nat) : Bool := decide (m + 28 ≤ b.length) && decide (b.getD (m + 2) 0 ≤ 24)
def partsOf (b : List Int) {n : Nat} (ys : List (Ch n)) : List S42 := ys.map fun x => entAt b x.1
def allE (b : List Int) : List (Ch b.length) := chTo b.length ((b.length + 27) / 28)
/-- What Take answers: none: the form's error. -/
def takeE (b : List Int) : Option (List S42) :=
  if (allE b).all (fun x => okPart b x.1) = true then (if mayE (partsOf b (allE b)) = true ∧ putL (partsOf b (allE b)) = b then some (partsOf b (allE b)) else none) else none
theorem chTo_same {n : Nat} {k : Nat} (h : n ≤ 28 * k) : ∀ j, chTo n (k + j) = chTo n k
  | 0 => rfl
  | j + 1 => by
    rw [← Nat.add_assoc, chTo, chOne, dif_neg (by omega), List.append_nil, chTo_same h j]
theorem chTo_all {n k : Nat} (h : n ≤ 28 * k) : chTo n k = chTo n ((n + 27) / 28) := by
  have h1 : n ≤ 28 * ((n + 27) / 28) := by omega
  obtain ⟨j, hj⟩ : ∃ j, k = (n + 27) / 28 + j := ⟨k - (n + 27) / 28, by omega⟩
  rw [hj]
  exact chTo_same h1 j
theorem chTo_in {n : Nat} : ∀ {k : Nat} {x : Ch n}, x ∈ chTo n k → x ∈ chTo n ((n + 27) / 28) := by
  intro k x hx
  have : ∀ j, x ∈ chTo n (k + j) := by
    intro j
    induction j with
    | zero => exact hx
    | succ j ih => rw [← Nat.add_assoc, chTo]; exact List.mem_append_left _ ih
  have h2 := this ((n + 27) / 28)
  rwa [chTo_all (by omega)] at h2
/-- A row's cells. -/
def rowsE (l : List S42) : List Value := l.flatMap fun x => [.int .i64 x.f0, .string x.f1]
theorem rowsE_snoc (l : List S42) (x : S42) : rowsE (l ++ [x]) = rowsE l ++ [.int .i64 x.f0, .string x.f1] := by simp [rowsE]
theorem rowsE_reps : ∀ (l : List S42), Reps (fun (x : S42) c => c = [.int .i64 x.f0, .string x.f1]) 2 l (rowsE l) := by
  intro l
  have key : ∀ (n : Nat) (l : List S42), l.length = n → Reps (fun (x : S42) c => c = [.int .i64 x.f0, .string x.f1]) 2 l (rowsE l) := by
    intro n
    induction n with
    | zero => intro l hl; obtain rfl := List.eq_nil_of_length_eq_zero hl; exact Reps.none _ _
    | succ n ih =>
      intro l hl
      obtain ⟨a, x, rfl⟩ : ∃ a x, l = a ++ [x] := ⟨l.dropLast, l.getLast (by intro h; simp [h] at hl), (List.dropLast_concat_getLast _).symm⟩
      rw [rowsE_snoc]
      exact Reps.snoc (ih a (by simpa using hl)) rfl rfl
  exact key _ l rfl
theorem own_row {W : World} {base c : Nat} {A : Option Addr} {l : List S42} {n : Nat} (h : W.ownsRow base 42 2 (.slice A n c) l.length (rowsE l)) (hz : ∀ x ∈ l, x.f1.size ≤ 140737488351232) : Row W A l := by
  obtain ⟨A1, c1, e, hr⟩ := own_reads_row h (rowsE_reps l) rfl
  cases e
  refine ⟨⟨hr.1, hr.2.1, fun h0 => ?_⟩, hz⟩
  obtain ⟨ad, e, hc⟩ := hr.2.2 h0
  refine ⟨ad, e, fun j p hj => ?_⟩
  obtain ⟨c, h1, h2, h3⟩ := hc j p hj
  exact ⟨c, h1, h2 ▸ k42_mk W p, h3⟩
theorem parts_small {b : List Int} {n : Nat} {ys : List (Ch n)} (h : ys.all (fun x => okPart b x.1) = true) : ∀ x ∈ partsOf b ys, x.f1.size ≤ 24 := by
  intro x hx
  obtain ⟨y, hy, rfl⟩ := List.mem_map.1 hx
  have := List.all_eq_true.1 h y hy
  unfold okPart at this
  simp only [Bool.and_eq_true, decide_eq_true_eq] at this
  show (strOfNums _).size ≤ 24
  rw [strOfNums_size, List.length_take]
  omega
theorem own_len {W : World} {base c n m : Nat} {A : Option Addr} {e : TypeId} {size : Nat} {xs : List Value} (h : W.ownsRow base e size (.slice A n c) m xs) : n = m := by
  obtain ⟨A1, c1, e⟩ := own_slice h
  cases e; rfl
theorem C_of_int {W : World} {k : IntKind} {A : Option Addr} {n : Nat} {xs : List Int} (h : ReadsInt W k A n xs) : Kd.C (Kd.int k) W A n xs := by
  refine ⟨h.1, h.2.1, fun hn => ?_⟩
  obtain ⟨ad, e, hc⟩ := h.2.2 hn
  refine ⟨ad, e, fun j p hj => ⟨[.int k p], rfl, rfl, fun i u hu => ?_⟩⟩
  have hjl := (List.getElem?_eq_some_iff.1 hj).1
  have h1 := hc j (by have := h.1; omega)
  have hp : xs.getD j 0 = p := by rw [List.getD_eq_getElem?_getD, hj]; rfl
  rw [hp] at h1
  match i, hu with
  | 0, hu => cases hu; simpa [Kd.int, Kd.scalar] using h1
theorem equal_l (a b : List Int) (ha : a.length ≤ 9223372036854775806) (he : a.length = b.length) : ∀ (j k i : Nat), a.length ≤ i + j → i ≤ a.length → slices_Equal_byte_byte.l0 (k + 1 + j) a b a.length i = some (decide (a.drop i = b.drop i))
  | 0, k, i, h, h2 => by
    have : i = a.length := by omega
    subst this
    rw [List.drop_of_length_le (Nat.le_refl _), List.drop_of_length_le (by omega)]
    simp [slices_Equal_byte_byte.l0]
  | j + 1, k, i, h, h2 => by
    rw [show k + 1 + (j + 1) = (k + 1 + j) + 1 by omega, slices_Equal_byte_byte.l0]
    by_cases hi : i < a.length
    · rw [if_pos (by omega), if_pos (by omega), if_pos (by omega), if_pos (by omega)]
      rw [rd_drop hi, rd_drop (l := b) (i := i) (by omega)]
      have hw : wrap64 ((i : Int) + 1) = ((i + 1 : Nat) : Int) := by unfold wrap64; omega
      by_cases e : rd a (i : Int) = rd b (i : Int)
      · rw [if_pos e, hw, equal_l a b ha he j k (i + 1) (by omega) (by omega)]
        simp [e]
      · rw [if_neg e]
        simp [e]
    · rw [if_neg (by omega), List.drop_of_length_le (by omega), List.drop_of_length_le (by omega)]
      simp
theorem equal_f (a b : List Int) (ha : a.length ≤ 9223372036854775806) : ∃ k, slices_Equal_byte_byte.f k a b = some (decide (a = b)) := by
  by_cases he : a.length = b.length
  · refine ⟨0 + 1 + a.length, ?_⟩
    rw [slices_Equal_byte_byte.f, if_pos (by omega)]
    have := equal_l a b ha he a.length 0 0 (by omega) (Nat.zero_le _)
    simpa using this
  · refine ⟨0, ?_⟩
    rw [slices_Equal_byte_byte.f, if_neg (by omega)]
    have : ¬ a = b := fun h => he (by rw [h])
    simp [this]
theorem equal_call (ke : Nat) (r : Bool) (W : World) {Q b : List Int} {A : Option Addr} {c : Nat} (hk : slices_Equal_byte_byte.f ke Q b = some r) (hc : b.length ≤ c) (hb : ReadsInt W .u8 A b.length b) :
    ∀ (W1 : World) (A2 : Option Addr) (c2 : Nat), ReadsInt W1 .u8 A2 Q.length Q → Q.length ≤ c2 → Below W.heap.size W W1 →
      Calls Tryd.prog 28 #[.slice A2 Q.length c2, .slice A b.length c] W1 fun e w' => e = .returned (.bool r) ∧ Below W1.heap.size W1 w' := by
  intro W1 A2 c2 h1 h2 h3
  exact (slices_Equal_byte_byte.calls ke A2 c2 Q A c b r W1 (C_of_int h1) h2 (C_of_int (hb.below h3)) hc hk).mono fun e w' h => ⟨h.1, h.2.below⟩
theorem chunk_in (f : Nat) (a : Option Addr) (len cap : Nat) (w : World) :
    CallsIn Fence.wide f Tryd.prog 27 #[.slice a len cap, .int .i64 28] w fun e w' => e = .returned (.func (.func 39) #[] #[.pointer (some ⟨w.heap.size, 0, none⟩), .pointer (some ⟨w.heap.size + 1, 0, none⟩)]) ∧ w' = (w.alloc (.cells #[.slice a len cap] 23)).alloc (.cells #[.int .i64 28] 3) := by
  refine callsIn_of_wp Tryd.func27 rfl trivial ?_ rfl
  simp only [Tryd.ntmps27, List.size_toArray, List.length_cons, List.length_nil, Nat.reduceAdd, Nat.reduceSub, Array.replicate_succ, Array.replicate_zero, List.push_toArray, List.append_toArray, List.nil_append, List.cons_append]
  gi_wp2
  go_ret
  exact ⟨rfl, rfl⟩
theorem chunk_stops (f : Nat) (hf : 1 ≤ f) (Bs Bn n₀ B0 n : Nat) (A : Option Addr) (c : Nat) (hn : n ≤ c) (hc63 : n ≤ 140737488355328) (w : World) (h0 : n₀ ≤ w.heap.size) (hs1 : Bs < n₀) (hs2 : Bs ≠ B0) (hn1 : Bn < n₀) (hn2 : Bn ≠ B0)
    (cs : w.cell? ⟨Bs, 0, none⟩ = some (.slice A n c)) (cn : w.cell? ⟨Bn, 0, none⟩ = some (.int .i64 28)) :
    SeqStopsK Fence.wide f Tryd.prog 39 #[.pointer (some ⟨Bs, 0, none⟩), .pointer (some ⟨Bn, 0, none⟩)] (fun x : Ch n => #[chV A n x]) (KpB n₀ B0) (fun ys => ∃ k, n ≤ 28 * k ∧ ys = chTo n k) (fun pre => ∃ k, pre = chTo n k) ((n + 27) / 28) w := fun l J Jx W hW hJ _ hY h =>
  chunk1_in f hf l Bs Bn n₀ B0 n A c hn hc63 J Jx (fun s A h => hJ s A A.drew none h (grown_of_below (below_drew (Below.refl _ A)) none) (fun r e => by cases e)) hY W hs1 hs2 hn1 hn2
    ((hW.cell (p := ⟨Bs, 0, none⟩) (Nat.lt_of_lt_of_le hs1 h0)).trans cs) ((hW.cell (p := ⟨Bn, 0, none⟩) (Nat.lt_of_lt_of_le hn1 h0)).trans cn) h
theorem kpB_b {n₀ B0 m : Nat} (hm : n₀ ≤ m) (W : World) (l : Nat) (o o' : Obj) (hl : m ≤ l) (_ : W.heap[l]? = some o) (_ : o.isCells = false) (_ : o.isWalk = false) : KpB n₀ B0 W (W.putObj l o') :=
  fun k hk _ => World.putObj_heap_other (by omega)
/-- What lies behind Take. -/
def TakePost (w : World) (r : Option (List S42)) (e : Ending) (w' : World) : Prop :=
  ∃ v x, e = .returned (.tuple #[v, .int .i64 x]) ∧ (match r with | none => v = .slice none 0 0 ∧ x = 5 | some l => x = 0 ∧ w'.ownsRow w.heap.size 42 2 v l.length (rowsE l)) ∧ Below w.heap.size w w'
/-- What the rounds keep. -/
def TI (w W0 : World) (b : List Int) (n : Nat) (pre : List (Ch n)) (W : World) : Prop :=
  (∃ v, Boxed W (w.heap.size + 1 + 1) 22 v ∧ W.ownsRow W0.heap.size 42 2 v (partsOf b pre).length (rowsE (partsOf b pre)) ∧ True) ∧ Boxed W w.heap.size 22 (.slice none 0 0) ∧ Boxed W (w.heap.size + 1) 25 (.int .i64 0) ∧ (pre.all (fun x => okPart b x.1) = true) ∧ Below w.heap.size w W ∧ W0.heap.size ≤ W.heap.size
/-- What an early end leaves. -/
def TX (w : World) (b : List Int) (n : Nat) (c : Code) (pre : List (Ch n)) (W : World) : Prop :=
  c = .ret ∧ (∃ x ∈ pre, okPart b x.1 = false) ∧ Boxed W w.heap.size 22 (.slice none 0 0) ∧ Boxed W (w.heap.size + 1) 25 (.int .i64 5) ∧ Below w.heap.size w W
theorem own_const {β : Type} {B : Nat} (P : β → Prop) : OwnFrom B (fun (s : β) (_ : World) => P s) := fun _ _ _ _ h _ _ => h
theorem own_size (n m : Nat) : OwnFrom m (fun (_ : List (Ch n)) (W : World) => m ≤ W.heap.size) := fun _ _ _ _ h hg _ => Nat.le_trans h hg.size
theorem TI_own {w W0 : World} {b : List Int} {n : Nat} (h : w.heap.size ≤ W0.heap.size) : OwnFrom W0.heap.size (TI w W0 b n) :=
  OwnFrom.and (Own.from (holdsRow_own W0.heap.size (w.heap.size + 1 + 1) 22 42 2 (fun (pre : List (Ch n)) => (partsOf b pre).length) (fun (pre : List (Ch n)) => rowsE (partsOf b pre)) (fun _ _ => True)) _)
    (OwnFrom.and (Own.from (boxed_own _ _ (fun _ => Value.slice none 0 0)) _) (OwnFrom.and (Own.from (boxed_own _ _ (fun _ => Value.int .i64 0)) _) (OwnFrom.and (own_const _) (OwnFrom.and (ownFrom_below (Nat.le_refl _) h) (own_size n _)))))
theorem TX_own {w W0 : World} {b : List Int} {n : Nat} (h : w.heap.size ≤ W0.heap.size) (c : Code) : OwnFrom W0.heap.size (TX w b n c) :=
  OwnFrom.and (own_const (fun _ => c = .ret)) (OwnFrom.and (own_const _) (OwnFrom.and (Own.from (boxed_own _ _ (fun _ => Value.slice none 0 0)) _) (OwnFrom.and (Own.from (boxed_own _ _ (fun _ => Value.int .i64 5)) _) (ownFrom_below (Nat.le_refl _) h))))
theorem or_ino (y0 y1 : Int) (b0 : 0 ≤ y0 ∧ y0 < 256) (b1 : 0 ≤ y1 ∧ y1 < 256) : bits .or .i64 (IntKind.i64.wrap (IntKind.i64.wrap y0 * 256)) (IntKind.i64.wrap y1) = 256 * y0 + y1 := by
  have hk : ∀ n : Int, 0 ≤ n → n < 2 ^ 63 → IntKind.i64.wrap n = n := fun n h0 h1 => IntWalk.i64_in _ ⟨by omega, by omega⟩
  rw [hk y0 (by omega) (by omega), hk y1 (by omega) (by omega), hk (y0 * 256) (by omega) (by omega)]
  rw [bits_join .i64 63 (by decide) hk 8 (y0 * 256) y1 (by omega) (by omega) (by omega) (by omega) (by omega) (by omega)]
  omega
theorem cut3_fact (W : World) (q : Addr) (z tt : Nat) (hz : z ≤ 24) (ht : tt = 3 + z) : (Instr.slice 23 (.slice (some q) 28 28) (some (.int .i64 3)) (some (.int .u8 (tt : Int))) none).run Tryd.prog W = .ok (.slice (some ⟨q.block, q.off + 3, none⟩) z 25) W := by
  obtain ⟨i, hi, hsz⟩ := Option.map_eq_some_iff.1 sizeU8
  have hu : Tryd.prog.underlying 23 = some (.slice (Tryd.prog.elem 23)) := by rw [show Tryd.prog.elem 23 = 5 from by simp [Program.elem, Tryd.underlying23]]; exact Tryd.underlying23
  rw [run_slice_lh W 23 _ 28 28 hu .i64 .u8 3 (tt : Int) (by omega) (by omega) (by omega)]
  rw [show Tryd.prog.elem 23 = 5 from by simp [Program.elem, Tryd.underlying23]]
  have h2 : q.add 3 = ⟨q.block, q.off + 3, none⟩ := by unfold Addr.add; rw [if_neg (by decide)]
  have h3 : tt - 3 = z := by omega
  simp [sizeOf, typeInfo, hi, hsz, sliced, Result.andThen, h2, h3]
theorem old_cell {w A : World} (hS : ∀ k, k < w.heap.size → A.heap[k]? = w.heap[k]?) {p : Addr} {v : Value} (h : w.cell? p = some v) : A.cell? p = some v := (World.cell?_of_block (hS _ (World.block_lt_of_cell? w p h))).trans h
theorem s_old_alloc {w A : World} (hS : ∀ k, k < w.heap.size → A.heap[k]? = w.heap[k]?) (h : w.heap.size ≤ A.heap.size) (o : Obj) : ∀ k, k < w.heap.size → (A.alloc o).heap[k]? = w.heap[k]? := fun k hk => (Below.heap_alloc _ _ k (by omega)).trans (hS k hk)
theorem old_reads {w A : World} (hS : ∀ k, k < w.heap.size → A.heap[k]? = w.heap[k]?) {k : IntKind} {p : Option Addr} {n : Nat} {xs : List Int} (h : ReadsInt w k p n xs) : ReadsInt A k p n xs :=
  ⟨h.1, h.2.1, fun hn => by
    obtain ⟨ad, e, hc⟩ := h.2.2 hn
    exact ⟨ad, e, fun j hj => old_cell hS (hc j hj)⟩⟩
theorem infoEnt : (Tryd.prog.info? 42).map (fun i => (i.zero, i.size, i.bytes)) = some (some (.agg #[.int .i64 0, .string ⟨#[]⟩]), 2, 24) := by kernel_rfl
theorem load_ents {W : World} {g : Nat} {v : Value} (h : Boxed W g 22 v) : (loadVar 22 ⟨g, 0, none⟩).run Tryd.prog W = .ok v W := by
  have hc := h.cell
  go_simp
theorem load_err {W : World} {g : Nat} {v : Value} (h : Boxed W g 25 v) : (loadVar 25 ⟨g, 0, none⟩).run Tryd.prog W = .ok v W := by
  have hc := h.cell
  go_simp
theorem set2_a {W : World} {g : Nat} {t : TypeId} {v u : Value} (h : Boxed W g t v) (x : Value) : Boxed ((W.setCell ⟨g, 0, none⟩ u).setCell ⟨g + 1, 0, none⟩ x) g t u := (h.set u).other (by omega) x
theorem set2_b {W : World} {g : Nat} {t : TypeId} {v u : Value} (h : Boxed W (g + 1) t v) (x : Value) : Boxed ((W.setCell ⟨g, 0, none⟩ x).setCell ⟨g + 1, 0, none⟩ u) (g + 1) t u := (h.other (by omega) x).set u
theorem dfr {W W1 : World} {D g : Nat} {o : Obj} {u x : Value} (h : W.heap[D]? = some o) (hb : Below W.heap.size W W1) (hD : g + 2 ≤ D) : ((W1.setCell ⟨g, 0, none⟩ u).setCell ⟨g + 1, 0, none⟩ x).heap[D]? = some o :=
  (Below.heap_setCell _ _ _ D (by simp only; omega)).trans ((Below.heap_setCell _ _ _ D (by simp only; omega)).trans ((hb.block D (blk_lt h)).trans h))
theorem own_set2 {W : World} {g base n : Nat} {v u x y z : Value} {xs : List Value} (h : W.ownsRow base 42 2 v n xs) (h2 : Boxed W g 22 y) (h3 : Boxed W (g + 1) 25 z) {b0 : Nat} (hb : b0 ≤ base) : ((W.setCell ⟨g, 0, none⟩ u).setCell ⟨g + 1, 0, none⟩ x).ownsRow b0 42 2 v n xs :=
  own_less ((h.kept (grownBy_setCell' W g u) (.inr (h2.not_row (by decide) h).symm)).kept (grownBy_setCell' _ (g + 1) x) (.inr ((h3.other (by omega) u).not_row (by decide) (h.kept (grownBy_setCell' W g u) (.inr (h2.not_row (by decide) h).symm))).symm)) hb
theorem results_bb {P : Program} {fn : Func} {p p' : Tmp} {ty ty' : TypeId} (h : fn.results = #[.cell p ty, .cell p' ty']) (tmps : Array Value) (w : World) (g g' : Nat) (v v' : Value)
    (hp : tmps.getD p undef = .pointer (some ⟨g, 0, none⟩)) (hp' : tmps.getD p' undef = .pointer (some ⟨g', 0, none⟩)) (hl : (loadVar ty ⟨g, 0, none⟩).run P w = .ok v w) (hl' : (loadVar ty' ⟨g', 0, none⟩).run P w = .ok v' w) :
    (results fn tmps).run P w = .ok (.tuple #[v, v']) w := by
  have h1 : tmps[p]?.getD undef = .pointer (some ⟨g, 0, none⟩) := by simpa using hp
  have h2 : tmps[p']?.getD undef = .pointer (some ⟨g', 0, none⟩) := by simpa using hp'
  simp [results, h, h1, h2, asAddr, hl, hl']
theorem boxed_put {W : World} {g D : Nat} {t : TypeId} {v : Value} (h : Boxed W g t v) (hne : g ≠ D) (o : Obj) : Boxed (W.putObj D o) g t v := h.kept (grownBy_putObj' W D o) (fun e => hne (Option.some.inj e))
theorem put_end {W : World} {D : Nat} {B2 : Nat} {v : Value} {x : Int} (h2 : Boxed W B2 22 v) (h3 : Boxed W (B2 + 1) 25 (.int .i64 x)) (hD : B2 + 2 ≤ D) (o : Obj) (tmps : Array Value) (hp : tmps.getD 2 undef = .pointer (some ⟨B2, 0, none⟩)) (hp' : tmps.getD 3 undef = .pointer (some ⟨B2 + 1, 0, none⟩)) :
    (results Tryd.f12 tmps).run Tryd.prog (W.putObj D o) = .ok (.tuple #[v, .int .i64 x]) (W.putObj D o) :=
  results_bb rfl tmps _ _ _ _ _ hp hp' (load_ents (boxed_put h2 (by omega) o)) (load_err (boxed_put h3 (by omega) o))
theorem below_set2 {w W : World} {u v : Value} (h : Below w.heap.size w W) : Below w.heap.size w ((W.setCell ⟨w.heap.size, 0, none⟩ u).setCell ⟨w.heap.size + 1, 0, none⟩ v) :=
  (h.grown (grownBy_setCell' W w.heap.size u) h.size (fun k e => by cases e; exact Nat.le_refl _)).grown (grownBy_setCell' _ (w.heap.size + 1) v) (by simp; exact h.size) (fun k e => by cases e; exact Nat.le_succ _)
set_option maxRecDepth 100000 in
set_option maxHeartbeats 4000000 in
theorem take_any (A : Option Addr) (c : Nat) (b : List Int) (w : World) (hc : b.length ≤ c) (hc63 : b.length ≤ 140737488355328) (hr : ReadsInt w .u8 A b.length b) (hby : ∀ x ∈ b, 0 ≤ x ∧ x < 256) (hT : Lib.Utf8Tabs 1 2 w) :
    Calls Tryd.prog 12 #[.slice A b.length c] w (TakePost w (takeE b)) := by
  have mixed : Tryd.prog.follows .mixedOrders = true := by kernel_rfl
  have HR := Aside0.mk hr
  have HBY := Aside0.mk hby
  have HC := Aside0.mk hc
  have HC63 := Aside0.mk hc63
  have HT := Aside0.mk hT
  obtain ⟨R, hR⟩ : ∃ R, takeE b = R := ⟨_, rfl⟩
  rw [hR]
  have HRR := Aside0.mk hR
  clear hr hby hT hR hc hc63
  refine (callsIn_wide (n := 3)).1 ?_
  refine callsIn_of_wp_marks Tryd.func12 rfl trivial ?_ rfl
  simp only [Tryd.ntmps12, List.size_toArray, List.length_cons, List.length_nil, Nat.reduceAdd, Nat.reduceSub, Array.replicate_succ, Array.replicate_zero, List.push_toArray, List.append_toArray, List.nil_append, List.cons_append]
  gi_wp2_with (refine ⟨trivial, ?_⟩; gi_at_call 27; refine (chunk_in _ _ _ _ _).mono ?_; rintro e w' ⟨rfl, rfl⟩)
  have b2 := Boxed.new w 22 (.slice none 0 0)
  have b3 := Boxed.new (w.alloc (.cells #[.slice none 0 0] 22)) 25 (.int .i64 0)
  have b4 := Boxed.new ((w.alloc (.cells #[.slice none 0 0] 22)).alloc (.cells #[.int .i64 0] 25)) 22 (.slice none 0 0)
  have bS := Boxed.new (((w.alloc (.cells #[.slice none 0 0] 22)).alloc (.cells #[.int .i64 0] 25)).alloc (.cells #[.slice none 0 0] 22)) 23 (.slice A b.length c)
  have bN := Boxed.new ((((w.alloc (.cells #[.slice none 0 0] 22)).alloc (.cells #[.int .i64 0] 25)).alloc (.cells #[.slice none 0 0] 22)).alloc (.cells #[.slice A b.length c] 23)) 3 (.int .i64 28)
  simp only [World.size_alloc] at b3 b4 bS bN ⊢
  obtain ⟨W0, hW0⟩ : ∃ W0, ((((w.alloc (.cells #[.slice none 0 0] 22)).alloc (.cells #[.int .i64 0] 25)).alloc (.cells #[.slice none 0 0] 22)).alloc (.cells #[.slice A b.length c] 23)).alloc (.cells #[.int .i64 28] 3) = W0 := ⟨_, rfl⟩
  have hs0 : W0.heap.size = w.heap.size + 1 + 1 + 1 + 1 + 1 := by rw [← hW0]; simp
  have hB0 : Below w.heap.size w W0 := by rw [← hW0]; exact (((((Below.refl _ w).alloc (Nat.le_refl _) _).alloc (by simp) _).alloc (by simp; omega) _).alloc (by simp; omega) _).alloc (by simp; omega) _
  have b2' : Boxed W0 w.heap.size 22 (.slice none 0 0) := by rw [← hW0]; exact (((b2.alloc _).alloc _).alloc _).alloc _
  have b3' : Boxed W0 (w.heap.size + 1) 25 (.int .i64 0) := by rw [← hW0]; exact ((b3.alloc _).alloc _).alloc _
  have b4' : Boxed W0 (w.heap.size + 1 + 1) 22 (.slice none 0 0) := by rw [← hW0]; exact (b4.alloc _).alloc _
  have bS' : Boxed W0 (w.heap.size + 1 + 1 + 1) 23 (.slice A b.length c) := by rw [← hW0]; exact bS.alloc _
  have bN' : Boxed W0 (w.heap.size + 1 + 1 + 1 + 1) 3 (.int .i64 28) := by rw [← hW0]; exact bN
  rw [hW0]
  clear b2 b3 b4 bS bN hW0
  refine wpIn_rangeFunc_ownG rfl (by decide) (gf := 39) (lb := #[.pointer (some ⟨w.heap.size + 1 + 1 + 1, 0, none⟩), .pointer (some ⟨w.heap.size + 1 + 1 + 1 + 1, 0, none⟩)]) rfl trivial (enters_of Tryd.func39 (by kernel_rfl) rfl)
    (chunk_stops _ (by decide) (w.heap.size + 1 + 1 + 1) (w.heap.size + 1 + 1 + 1 + 1) W0.heap.size (w.heap.size + 1 + 1) b.length A c HC.out HC63.out W0 (Nat.le_refl _) (by omega) (by omega) (by omega) (by omega) bS'.cell bN'.cell) KpB.trans (fun W l o o' hl h1 h2 h3 => kpB_b (Nat.le_refl _) W l o o' hl h1 h2 h3) (Below.refl _ _) (fun _ => rfl)
    (TI w W0 b b.length) (TX w b b.length) (TI_own (by omega)) (TX_own (by omega))
    ⟨⟨_, b4', World.ownsRow_nil _ _ _ _, trivial⟩, b2', b3', rfl, hB0, Nat.le_refl _⟩
    (fun x => { tmps := #[.slice A b.length c, undef, .pointer (some ⟨w.heap.size, 0, none⟩), .pointer (some ⟨w.heap.size + 1, 0, none⟩), .pointer (some ⟨w.heap.size + 1 + 1, 0, none⟩), chV A b.length x, undef, undef, .slice A b.length c, .func (.func 39) #[] #[.pointer (some ⟨w.heap.size + 1 + 1 + 1, 0, none⟩), .pointer (some ⟨w.heap.size + 1 + 1 + 1 + 1, 0, none⟩)], chV A b.length x, undef, undef, undef, undef, undef, undef, undef, undef, undef, undef, undef, undef, undef, undef, undef, undef, undef, undef, undef, undef, undef, undef, undef, undef, undef, undef, undef, undef, undef, undef, undef, undef, undef, undef, undef, undef, undef, undef, undef, undef, undef, undef, undef, undef], defers := [] })
    ?assign ?body ?done ?stop
  case assign =>
    intro l x W K hK
    gi_wp2
    exact hK
  case body =>
    rintro l pre x W ⟨⟨v, hv, hrow, _⟩, hx2, hx3, hall, hB, hsz⟩ hlt
    obtain ⟨m, hm⟩ := x
    obtain ⟨ad, rfl, hcells⟩ := (HR.out.below hB).2.2 (by omega)
    obtain ⟨q, hq⟩ : ∃ q, ad.add m = q := ⟨_, rfl⟩
    have hx3b := hx3.other (B' := w.heap.size) (by omega) (.slice none 0 0)
    have ec2 := hx2.cell
    have ef2 := hx2.frozen
    have ec3 := hx3b.cell
    have ef3 := hx3b.frozen
    have hKX : KeepsFrom W0.heap.size W ((W.setCell ⟨w.heap.size, 0, none⟩ (.slice none 0 0)).setCell ⟨w.heap.size + 1, 0, none⟩ (.int .i64 5)) := ((KeepsOthers.setCell _ _ _).trans (KeepsOthers.setCell _ _ _)).from _
    have hTX : okPart b m = false → TX w b b.length .ret (pre ++ [⟨m, hm⟩]) ((W.setCell ⟨w.heap.size, 0, none⟩ (.slice none 0 0)).setCell ⟨w.heap.size + 1, 0, none⟩ (.int .i64 5)) := fun hbad =>
      ⟨rfl, ⟨⟨m, hm⟩, by simp, hbad⟩, (hx2.set _).other (by omega) _, hx3b.set _, below_set2 hB⟩
    by_cases hfull : m + 28 ≤ b.length
    rotate_left
    · have hcv : chV (some ad) b.length ⟨m, hm⟩ = .slice (some q) (b.length - m) (b.length - m) := by unfold chV pl; rw [if_neg hfull, ← hq]; rfl
      have hs : ((b.length - m : Nat) : Int) < 28 := by omega
      have hbad := hTX (by unfold okPart; rw [decide_eq_false hfull, Bool.false_and])
      obtain ⟨p, hp⟩ : ∃ p, b.length - m = p := ⟨_, rfl⟩
      rw [hp] at hcv hs
      simp only [hcv]
      clear hcells hTX hcv hp
      gi_wp2
      exact ⟨hKX, hbad⟩
    have hcv : chV (some ad) b.length ⟨m, hm⟩ = .slice (some q) 28 28 := by unfold chV pl; rw [if_pos hfull, ← hq]; rfl
    simp only [hcv]
    have g0 := hcells m (by omega)
    have g1 := hcells (m + 1) (by omega)
    have g2 := hcells (m + 2) (by omega)
    have hrng : ∀ j, j < b.length → 0 ≤ b.getD j 0 ∧ b.getD j 0 < 256 := fun j hj => HBY.out _ (by rw [List.getD_eq_getElem?_getD, List.getElem?_eq_getElem hj]; exact List.getElem_mem _)
    have r0 := hrng m (by omega)
    have r1 := hrng (m + 1) (by omega)
    have r2 := hrng (m + 2) (by omega)
    rw [hq] at g0
    rw [show ad.add (m + 1) = ⟨q.block, q.off + 1, none⟩ by rw [← hq]; exact add_field ad m 1 (by decide)] at g1
    rw [show ad.add (m + 2) = ⟨q.block, q.off + 2, none⟩ by rw [← hq]; exact add_field ad m 2 (by decide)] at g2
    have hok : okPart b m = decide (b.getD (m + 2) 0 ≤ 24) := by unfold okPart; rw [decide_eq_true hfull, Bool.true_and]
    obtain ⟨y0, hy0⟩ : ∃ y, b.getD m 0 = y := ⟨_, rfl⟩
    obtain ⟨y1, hy1⟩ : ∃ y, b.getD (m + 1) 0 = y := ⟨_, rfl⟩
    obtain ⟨z, hz⟩ : ∃ z : Nat, b.getD (m + 2) 0 = (z : Int) := ⟨(b.getD (m + 2) 0).toNat, by omega⟩
    rw [hy0] at g0 r0
    rw [hy1] at g1 r1
    rw [hz] at g2 r2 hok
    by_cases hz24 : z ≤ 24
    rotate_left
    · have hs : (24 : Int) < (z : Int) := by omega
      have hbad := hTX (by rw [hok]; exact decide_eq_false (by omega))
      clear hcells hTX hcv hok hrng
      gi_wp2
      exact ⟨hKX, hbad⟩
    have hokt : okPart b m = true := by rw [hok]; exact decide_eq_true (by omega)
    have hent : entAt b m = ⟨256 * y0 + y1, strOfNums ((b.drop (m + 3)).take z)⟩ := by unfold entAt; rw [hy0, hy1, hz, Int.toNat_natCast]
    have h0w := HR.out.2.2 (by omega)
    obtain ⟨ad', he, hcw⟩ := h0w
    cases he
    have k0 := hcw m (by omega)
    have k1 := hcw (m + 1) (by omega)
    have k2 := hcw (m + 2) (by omega)
    rw [hq, hy0] at k0
    rw [show ad.add (m + 1) = ⟨q.block, q.off + 1, none⟩ by rw [← hq]; exact add_field ad m 1 (by decide), hy1] at k1
    rw [show ad.add (m + 2) = ⟨q.block, q.off + 2, none⟩ by rw [← hq]; exact add_field ad m 2 (by decide), hz] at k2
    have kn : ReadsInt w .u8 (some ⟨q.block, q.off + 3, none⟩) z ((b.drop (m + 3)).take z) := by
      have h1 := (HR.out.drop_ (c := b.length) (m + 3) (by omega) (Nat.le_refl _)).take_ z (by omega)
      rw [if_neg (by omega)] at h1
      have e : (ad.add (m + 3)) = ⟨q.block, q.off + 3, none⟩ := by rw [← hq]; exact add_field ad m 3 (by decide)
      rw [← e]
      exact h1
    obtain ⟨nm, hnm⟩ : ∃ s, strOfNums ((b.drop (m + 3)).take z) = s := ⟨_, rfl⟩
    obtain ⟨NB, hNB⟩ : ∃ s, (b.drop (m + 3)).take z = s := ⟨_, rfl⟩
    rw [hnm] at hent
    rw [hNB] at hnm kn
    obtain ⟨ino, hino⟩ : ∃ x, 256 * y0 + y1 = x := ⟨_, rfl⟩
    rw [hino] at hent
    obtain ⟨tt, htt⟩ : ∃ t : Nat, t = 3 + z := ⟨_, rfl⟩
    have hwt : IntKind.u8.wrap (3 + (z : Int)) = (tt : Int) := (IntWalk.u8_in _ ⟨by omega, by omega⟩).trans (by omega)
    have hw0 : IntKind.i64.wrap y0 = y0 := IntWalk.i64_in _ ⟨by omega, by omega⟩
    have hw1 : IntKind.i64.wrap y1 = y1 := IntWalk.i64_in _ ⟨by omega, by omega⟩
    have hws : IntKind.i64.wrap (y0 * 256) = y0 * 256 := IntWalk.i64_in _ ⟨by omega, by omega⟩
    have hor : bits .or .i64 (y0 * 256) y1 = ino := by rw [← hino, ← or_ino y0 y1 r0 r1, hw0, hw1, hws]
    have hcut := fun W' => cut3_fact W' q z tt (by omega) htt
    have hpl : (partsOf b pre).length < (b.length + 27) / 28 := by unfold partsOf; rw [List.length_map]; exact hlt
    have hcap : (b.length + 27) / 28 ≤ 5100000000000 := by have := HC63.out; omega
    have hnew : ∀ (v' : Value) (W' : World), W'.ownsRow W0.heap.size 42 2 v' ((partsOf b pre).length + 1) (rowsE (partsOf b pre) ++ [.int .i64 ino, .string nm]) → W'.ownsRow W0.heap.size 42 2 v' (partsOf b (pre ++ [⟨m, hm⟩])).length (rowsE (partsOf b (pre ++ [⟨m, hm⟩]))) := by
      intro v' W' h
      have e : partsOf b (pre ++ [(⟨m, hm⟩ : Ch b.length)]) = partsOf b pre ++ [⟨ino, nm⟩] := by unfold partsOf; rw [List.map_append, List.map_cons, List.map_nil, hent]
      rw [e, rowsE_snoc, List.length_append]
      exact h
    have HNEW := Aside0.mk hnew
    have HALL := Aside0.mk (show (pre ++ [(⟨m, hm⟩ : Ch b.length)]).all (fun x => okPart b x.1) = true by rw [List.all_append, hall]; simp [hokt])
    have HPL := Aside0.mk hpl
    have hzi : (z : Int) ≤ 24 := by omega
    have HCAP := Aside0.mk hcap
    have HHS := Aside0.mk hnm
    obtain ⟨P, hP⟩ : ∃ P, partsOf b pre = P := ⟨_, rfl⟩
    rw [hP] at HNEW HPL hrow
    have K0 := Aside0.mk k0
    have K1 := Aside0.mk k1
    have K2 := Aside0.mk k2
    have KN := Aside0.mk kn
    have HLEN := Aside0.mk (show NB.length = z from kn.1)
    clear hTX hcv hok hokt hent hcells hcw k0 k1 k2 kn hrng hy0 hy1 hz hnew hpl hcap hP hnm hNB hino htt g0 g1 ec2 ef2 ec3 ef3 hx3b hKX hq
    gi_wp2
    have hSW : ∀ k, k < w.heap.size → W.drew.heap[k]? = w.heap[k]? := fun k hk => hB.block k hk
    refine wpIn_region_round (S := fun A => ∀ k, k < w.heap.size → A.heap[k]? = w.heap[k]?) mixed (noDefer_spec (by kernel_rfl)) (by rintro ⟨_, _, h⟩; exact h) hSW (fun hHeld => ?_)
    refine wpAnyH_take (i := 1) (oi := ⟨some 21, _, _, _, _, _⟩) (v := (.slice (some q) 28 28)) rfl (by kernel_rfl) (by kernel_rfl) (by kernel_rfl) (fun _ _ _ h => h) (Or.inl ⟨by rfl, fun W hS => by go_simp⟩) hHeld ?_
    (try simp only [Act.put, List.setIfInBounds_toArray, List.set_cons_zero, List.set_cons_succ])
    refine wpAnyH_take (i := 2) (oi := ⟨some 22, _, _, _, _, _⟩) (v := (.pointer (some q))) rfl (by kernel_rfl) (by kernel_rfl) (by kernel_rfl) (fun _ _ _ h => h) (Or.inl ⟨by rfl, fun W hS => by go_simp⟩) hHeld ?_
    (try simp only [Act.put, List.setIfInBounds_toArray, List.set_cons_zero, List.set_cons_succ])
    refine wpAnyH_take (i := 3) (oi := ⟨some 23, _, _, _, _, _⟩) (v := (.int .u8 y0)) rfl (by kernel_rfl) (by kernel_rfl) (by kernel_rfl) (fun _ _ _ h => h) (Or.inl ⟨by rfl, fun A hS => by have cc := old_cell hS K0.out; go_simp⟩) hHeld ?_
    (try simp only [Act.put, List.setIfInBounds_toArray, List.set_cons_zero, List.set_cons_succ])
    refine wpAnyH_take (i := 4) (oi := ⟨some 24, _, _, _, _, _⟩) (v := (.int .i64 y0)) rfl (by kernel_rfl) (by kernel_rfl) (by kernel_rfl) (fun _ _ _ h => h) (Or.inl ⟨by rfl, fun W hS => by go_simp⟩) hHeld ?_
    (try simp only [Act.put, List.setIfInBounds_toArray, List.set_cons_zero, List.set_cons_succ])
    refine wpAnyH_take (i := 5) (oi := ⟨some 25, _, _, _, _, _⟩) (v := (.int .i64 (y0 * 256))) rfl (by kernel_rfl) (by kernel_rfl) (by kernel_rfl) (fun _ _ _ h => h) (Or.inl ⟨by rfl, fun W hS => by go_simp⟩) hHeld ?_
    (try simp only [Act.put, List.setIfInBounds_toArray, List.set_cons_zero, List.set_cons_succ])
    refine wpAnyH_take (i := 6) (oi := ⟨some 26, _, _, _, _, _⟩) (v := (.slice (some q) 28 28)) rfl (by kernel_rfl) (by kernel_rfl) (by kernel_rfl) (fun _ _ _ h => h) (Or.inl ⟨by rfl, fun W hS => by go_simp⟩) hHeld ?_
    (try simp only [Act.put, List.setIfInBounds_toArray, List.set_cons_zero, List.set_cons_succ])
    refine wpAnyH_take (i := 7) (oi := ⟨some 27, _, _, _, _, _⟩) (v := (.pointer (some ⟨q.block, q.off + 1, none⟩))) rfl (by kernel_rfl) (by kernel_rfl) (by kernel_rfl) (fun _ _ _ h => h) (Or.inl ⟨by rfl, fun W hS => by go_simp⟩) hHeld ?_
    (try simp only [Act.put, List.setIfInBounds_toArray, List.set_cons_zero, List.set_cons_succ])
    refine wpAnyH_take (i := 8) (oi := ⟨some 28, _, _, _, _, _⟩) (v := (.int .u8 y1)) rfl (by kernel_rfl) (by kernel_rfl) (by kernel_rfl) (fun _ _ _ h => h) (Or.inl ⟨by rfl, fun A hS => by have cc := old_cell hS K1.out; go_simp⟩) hHeld ?_
    (try simp only [Act.put, List.setIfInBounds_toArray, List.set_cons_zero, List.set_cons_succ])
    refine wpAnyH_take (i := 9) (oi := ⟨some 29, _, _, _, _, _⟩) (v := (.int .i64 y1)) rfl (by kernel_rfl) (by kernel_rfl) (by kernel_rfl) (fun _ _ _ h => h) (Or.inl ⟨by rfl, fun W hS => by go_simp⟩) hHeld ?_
    (try simp only [Act.put, List.setIfInBounds_toArray, List.set_cons_zero, List.set_cons_succ])
    refine wpAnyH_take (i := 10) (oi := ⟨some 30, _, _, _, _, _⟩) (v := (.int .i64 ino)) rfl (by kernel_rfl) (by kernel_rfl) (by kernel_rfl) (fun _ _ _ h => h) (Or.inl ⟨by rfl, fun W hS => by go_simp⟩) hHeld ?_
    (try simp only [Act.put, List.setIfInBounds_toArray, List.set_cons_zero, List.set_cons_succ])
    refine wpAnyH_take (i := 11) (oi := ⟨some 31, _, _, _, _, _⟩) (v := (.slice (some q) 28 28)) rfl (by kernel_rfl) (by kernel_rfl) (by kernel_rfl) (fun _ _ _ h => h) (Or.inl ⟨by rfl, fun W hS => by go_simp⟩) hHeld ?_
    (try simp only [Act.put, List.setIfInBounds_toArray, List.set_cons_zero, List.set_cons_succ])
    refine wpAnyH_take (i := 12) (oi := ⟨some 32, _, _, _, _, _⟩) (v := (.slice (some q) 28 28)) rfl (by kernel_rfl) (by kernel_rfl) (by kernel_rfl) (fun _ _ _ h => h) (Or.inl ⟨by rfl, fun W hS => by go_simp⟩) hHeld ?_
    (try simp only [Act.put, List.setIfInBounds_toArray, List.set_cons_zero, List.set_cons_succ])
    refine wpAnyH_take (i := 13) (oi := ⟨some 33, _, _, _, _, _⟩) (v := (.pointer (some ⟨q.block, q.off + 2, none⟩))) rfl (by kernel_rfl) (by kernel_rfl) (by kernel_rfl) (fun _ _ _ h => h) (Or.inl ⟨by rfl, fun W hS => by go_simp⟩) hHeld ?_
    (try simp only [Act.put, List.setIfInBounds_toArray, List.set_cons_zero, List.set_cons_succ])
    refine wpAnyH_take (i := 14) (oi := ⟨some 34, _, _, _, _, _⟩) (v := (.int .u8 (z : Int))) rfl (by kernel_rfl) (by kernel_rfl) (by kernel_rfl) (fun _ _ _ h => h) (Or.inl ⟨by rfl, fun A hS => by have cc := old_cell hS K2.out; go_simp⟩) hHeld ?_
    (try simp only [Act.put, List.setIfInBounds_toArray, List.set_cons_zero, List.set_cons_succ])
    refine wpAnyH_take (i := 15) (oi := ⟨some 35, _, _, _, _, _⟩) (v := (.int .u8 (tt : Int))) rfl (by kernel_rfl) (by kernel_rfl) (by kernel_rfl) (fun _ _ _ h => h) (Or.inl ⟨by rfl, fun W hS => by go_simp⟩) hHeld ?_
    (try simp only [Act.put, List.setIfInBounds_toArray, List.set_cons_zero, List.set_cons_succ])
    refine wpAnyH_take (i := 16) (oi := ⟨some 36, _, _, _, _, _⟩) (v := (.slice (some ⟨q.block, q.off + 3, none⟩) z 25)) rfl (by kernel_rfl) (by kernel_rfl) (by kernel_rfl) (fun _ _ _ h => h) (Or.inl ⟨by rfl, fun W hS => by go_simp⟩) hHeld ?_
    (try simp only [Act.put, List.setIfInBounds_toArray, List.set_cons_zero, List.set_cons_succ])
    refine wpAnyH_take (i := 17) (oi := ⟨some 37, _, _, _, _, _⟩) (v := (.string nm)) rfl (by kernel_rfl) (by kernel_rfl) (by kernel_rfl) (fun _ _ _ h => h) (Or.inl ⟨by rfl, fun A hS => by have ss := string_of_reads (P := Tryd.prog) (src := 23) (dst := 9) Tryd.underlying23 Tryd.underlying5 Tryd.underlying9 (c := 25) (old_reads hS KN.out); rw [HHS.out] at ss; go_simp⟩) hHeld ?_
    (try simp only [Act.put, List.setIfInBounds_toArray, List.set_cons_zero, List.set_cons_succ])
    refine wpAnyH_take (i := 18) (oi := ⟨some 38, _, _, _, _, _⟩) (v := (.agg #[.int .i64 ino, .string nm])) rfl (by kernel_rfl) (by kernel_rfl) (by kernel_rfl) (fun _ _ _ h => h) (Or.inl ⟨by rfl, fun W hS => by go_simp⟩) hHeld ?_
    (try simp only [Act.put, List.setIfInBounds_toArray, List.set_cons_zero, List.set_cons_succ])
    have BV : Boxed W.drew (w.heap.size + 1 + 1) 22 v := hv
    have hrow' : W.drew.ownsRow W0.heap.size 42 2 v P.length (rowsE P) := hrow
    have X2 : Boxed W.drew w.heap.size 22 (.slice none 0 0) := hx2
    have X3 : Boxed W.drew (w.heap.size + 1) 25 (.int .i64 0) := hx3
    have KA := Aside0.mk ((KeepsOthers.drew W).from W0.heap.size)
    have KPA : Aside0 (KpB W0.heap.size (w.heap.size + 1 + 1) W W.drew) := ⟨fun _ _ _ => rfl⟩
    have hBA := Aside0.mk (below_drew hB)
    have hszA : W0.heap.size ≤ W.drew.heap.size := hsz
    have hw0 : w.heap.size + 5 = W0.heap.size := by omega
    have HS0 := Aside0.mk hw0
    clear hrow hv hx2 hx3 hsz hB hw0 g2 hs0
    have hrow := hrow'
    clear hrow'
    obtain ⟨A0, hA0⟩ : ∃ A0, W.drew = A0 := ⟨_, rfl⟩
    rw [hA0] at BV hrow X2 X3 KA KPA hBA hszA hHeld ⊢
    clear hA0
    obtain ⟨i0, hi, hz0, hz1, hz2⟩ := info_parts infoEnt
    refine wpAnyH_ready (rs := [0, 19]) (by kernel_rfl) (by simp) ?_
    refine AllReadyH.cons rfl (fun K hK => ?_) (AllReadyH.cons rfl (fun K hK => ?_) AllReadyH.nil)
    case' refine_1 =>
      (try rw [if_pos (by rfl)])
      have hvc := BV.cell
      go_simp
      refine hK.out _ _ hHeld (fun _ => ?_)
      clear hK K hvc
      (try simp only [Act.put, List.setIfInBounds_toArray, List.set_cons_zero, List.set_cons_succ])
      refine wpAnyH_ready (rs := [19]) (by kernel_rfl) (by simp) ?_
      refine AllReadyH.cons rfl (fun K hK => ?_) AllReadyH.nil
      (try rw [if_pos (by rfl)])
      go_simp
      refine hK.out _ _ (s_old_alloc hHeld (by have := HS0.out; omega) _) (fun hH3 => ?_)
      clear hK K
      (try simp only [Act.put, List.setIfInBounds_toArray, List.set_cons_zero, List.set_cons_succ])
      refine wpAnyH_ready (rs := [20]) (by kernel_rfl) (by simp) ?_
      refine AllReadyH.cons rfl (fun K hK => ?_) AllReadyH.nil
      (try rw [if_pos (by rfl)])
      refine wp_append_own_wide _ (.tmp 20) (.tmp 39) 22 rfl W0.heap.size 42 i0 (.agg #[.int .i64 0, .string ⟨#[]⟩]) 2 24 Tryd.underlying22 hi hz0 hz1 hz2 rfl (by decide) v P.length _ (by kernel_rfl) (hrow.alloc _) ⟨A0.heap.size, 0, none⟩ 1 1 [.int .i64 ino, .string nm] (by kernel_rfl) rfl (World.news_of_block (cs := #[.int .i64 ino, .string nm]) (t := 42) (fr := (0, 0)) (heap_alloc_new A0 _)) (by simp [Value.oneCell']) (by have := HPL.out; have := HCAP.out; simp [maxLen]; omega) (by have := HPL.out; have := HCAP.out; omega) (by simp; omega) ?_
      intro v' w1 hown' hgrow _
      obtain ⟨g', cap', rfl⟩ := ownsRow_succ hown'
      obtain ⟨hv1, hv2, _, hk2, hb2⟩ := Boxed.appended BV (by decide) (own_less hrow (base := w.heap.size + 1 + 1) (by have := HS0.out; omega)) (by have := HS0.out; omega) (Nat.le_refl _) (own_less hown' (by have := HS0.out; omega)) hgrow
      have hr2 := hown'.kept (grownBy_setCell' w1 (w.heap.size + 1 + 1) (.slice (some ⟨g', 0, none⟩) (P.length + 1) cap')) (.inr (hv1.not_row (by decide) hown').symm)
      have hc1 := hv1.cell
      have hf1 := hv1.frozen
      have hkp : KpB W0.heap.size (w.heap.size + 1 + 1) A0 (w1.setCell ⟨w.heap.size + 1 + 1, 0, none⟩ (.slice (some ⟨g', 0, none⟩) (P.length + 1) cap')) := fun k hk hne => (Below.heap_setCell _ _ _ k hne).trans ((hgrow.block k (by simp; omega) (fun e => by have := own_base hrow k e.symm; omega)).trans (Below.heap_alloc _ _ k (by omega)))
      have hS4 : ∀ k, k < w.heap.size → w1.heap[k]? = w.heap[k]? := fun k hk => (hgrow.block k (by have := HS0.out; simp; omega) (fun e => by have := own_base hrow k e.symm; have := HS0.out; omega)).trans (hH3 k hk)
      refine hK.out _ _ hS4 (fun hH4 => ?_)
      clear hK K
      (try simp only [Act.put, List.setIfInBounds_toArray, List.set_cons_zero, List.set_cons_succ])
      refine wpAnyH_ready (rs := [21]) (by kernel_rfl) (by simp) ?_
      refine AllReadyH.cons rfl (fun K hK => ?_) AllReadyH.nil
      (try rw [if_pos (by rfl)])
      go_simp
      refine hK.out _ _ (fun k hk => (Below.heap_setCell _ _ _ k (by simp only; omega)).trans (hS4 k hk)) (fun hH5 => ?_)
      refine wpAnyH_done (by kernel_rfl) ?_ _
      (try simp only [Exit.then, Exit.inBlock])
      refine ⟨(KA.out.trans (hk2.from _)), KPA.out.trans hkp, ⟨_, hv2, HNEW.out _ _ hr2, trivial⟩, (hb2.block w.heap.size (by omega)).trans X2, (hb2.block (w.heap.size + 1) (by omega)).trans X3, HALL.out, hBA.out.trans (hb2.mono (by omega)), by simp; have := hgrow.size; simp at this; omega⟩
    case' refine_2 =>
      (try rw [if_pos (by rfl)])
      go_simp
      refine hK.out _ _ (s_old_alloc hHeld (by have := HS0.out; omega) _) (fun hH3 => ?_)
      clear hK K
      (try simp only [Act.put, List.setIfInBounds_toArray, List.set_cons_zero, List.set_cons_succ])
      have BVa := BV.alloc (.cells #[.int .i64 ino, .string nm] 42)
      refine wpAnyH_ready (rs := [0]) (by kernel_rfl) (by simp) ?_
      refine AllReadyH.cons rfl (fun K hK => ?_) AllReadyH.nil
      (try rw [if_pos (by rfl)])
      have hvc := BVa.cell
      go_simp
      refine hK.out _ _ hH3 (fun _ => ?_)
      clear hK K hvc
      (try simp only [Act.put, List.setIfInBounds_toArray, List.set_cons_zero, List.set_cons_succ])
      refine wpAnyH_ready (rs := [20]) (by kernel_rfl) (by simp) ?_
      refine AllReadyH.cons rfl (fun K hK => ?_) AllReadyH.nil
      (try rw [if_pos (by rfl)])
      refine wp_append_own_wide _ (.tmp 20) (.tmp 39) 22 rfl W0.heap.size 42 i0 (.agg #[.int .i64 0, .string ⟨#[]⟩]) 2 24 Tryd.underlying22 hi hz0 hz1 hz2 rfl (by decide) v P.length _ (by kernel_rfl) (hrow.alloc _) ⟨A0.heap.size, 0, none⟩ 1 1 [.int .i64 ino, .string nm] (by kernel_rfl) rfl (World.news_of_block (cs := #[.int .i64 ino, .string nm]) (t := 42) (fr := (0, 0)) (heap_alloc_new A0 _)) (by simp [Value.oneCell']) (by have := HPL.out; have := HCAP.out; simp [maxLen]; omega) (by have := HPL.out; have := HCAP.out; omega) (by simp; omega) ?_
      intro v' w1 hown' hgrow _
      obtain ⟨g', cap', rfl⟩ := ownsRow_succ hown'
      obtain ⟨hv1, hv2, _, hk2, hb2⟩ := Boxed.appended BV (by decide) (own_less hrow (base := w.heap.size + 1 + 1) (by have := HS0.out; omega)) (by have := HS0.out; omega) (Nat.le_refl _) (own_less hown' (by have := HS0.out; omega)) hgrow
      have hr2 := hown'.kept (grownBy_setCell' w1 (w.heap.size + 1 + 1) (.slice (some ⟨g', 0, none⟩) (P.length + 1) cap')) (.inr (hv1.not_row (by decide) hown').symm)
      have hc1 := hv1.cell
      have hf1 := hv1.frozen
      have hkp : KpB W0.heap.size (w.heap.size + 1 + 1) A0 (w1.setCell ⟨w.heap.size + 1 + 1, 0, none⟩ (.slice (some ⟨g', 0, none⟩) (P.length + 1) cap')) := fun k hk hne => (Below.heap_setCell _ _ _ k hne).trans ((hgrow.block k (by simp; omega) (fun e => by have := own_base hrow k e.symm; omega)).trans (Below.heap_alloc _ _ k (by omega)))
      have hS4 : ∀ k, k < w.heap.size → w1.heap[k]? = w.heap[k]? := fun k hk => (hgrow.block k (by have := HS0.out; simp; omega) (fun e => by have := own_base hrow k e.symm; have := HS0.out; omega)).trans (hH3 k hk)
      refine hK.out _ _ hS4 (fun hH4 => ?_)
      clear hK K
      (try simp only [Act.put, List.setIfInBounds_toArray, List.set_cons_zero, List.set_cons_succ])
      refine wpAnyH_ready (rs := [21]) (by kernel_rfl) (by simp) ?_
      refine AllReadyH.cons rfl (fun K hK => ?_) AllReadyH.nil
      (try rw [if_pos (by rfl)])
      go_simp
      refine hK.out _ _ (fun k hk => (Below.heap_setCell _ _ _ k (by simp only; omega)).trans (hS4 k hk)) (fun hH5 => ?_)
      refine wpAnyH_done (by kernel_rfl) ?_ _
      (try simp only [Exit.then, Exit.inBlock])
      refine ⟨(KA.out.trans (hk2.from _)), KPA.out.trans hkp, ⟨_, hv2, HNEW.out _ _ hr2, trivial⟩, (hb2.block w.heap.size (by omega)).trans X2, (hb2.block (w.heap.size + 1) (by omega)).trans X3, HALL.out, hBA.out.trans (hb2.mono (by omega)), by simp; have := hgrow.size; simp at this; omega⟩
  case done =>
    rintro D ys W hD ⟨k, hk, rfl⟩ ⟨⟨v, hv, hrow, _⟩, hx2, hx3, hall, hB, hsz⟩ hK
    rw [chTo_all hk] at hrow hall
    have hPP : partsOf b (chTo b.length ((b.length + 27) / 28)) = partsOf b (allE b) := rfl
    have hsmall : ∀ x ∈ partsOf b (allE b), x.f1.size ≤ 24 := parts_small hall
    rw [hPP] at hrow
    have hR := HRR.out
    unfold takeE at hR
    rw [if_pos (show (allE b).all (fun x => okPart b x.1) = true from hall)] at hR
    obtain ⟨P, hP⟩ : ∃ P, partsOf b (allE b) = P := ⟨_, rfl⟩
    rw [hP] at hrow hsmall hR
    obtain ⟨A1, c1, rfl⟩ := own_slice hrow
    have ROW := Aside0.mk (own_row hrow (fun x hx => by have := hsmall x hx; omega))
    have TAB := Aside0.mk (Utf8Tabs_below HT.out hB)
    have HRO := Aside0.mk hrow
    have BX4 := Aside0.mk hv
    have BX2 := Aside0.mk hx2
    have BX3 := Aside0.mk hx3
    have HBW := Aside0.mk hB
    have HKD := Aside0.mk hK
    have vc := hv.cell
    have HSZ := Aside0.mk hsz
    have HLB := Aside0.mk HC63.out
    clear hrow hv hx2 hx3 hB hK hPP hP hk hall hsz
    cases hm : mayE P with
    | false =>
      rw [hm] at hR
      obtain rfl : R = none := by rw [← hR]; simp
      have HM := Aside0.mk hm
      clear hm hR
      gi_wp2_with (first | ((with_reducible refine And.intro ?hfn ?_); (case hfn => trivial); gi_at_call 10; refine (callsIn_wide.2 (put_no _ A1 c1 P ROW.out TAB.out HM.out)).mono ?_; rintro e w1 ⟨rfl, hb⟩; have HBB := Aside0.mk hb; have c4 := (BX4.out.kept (grown_of_below HBB.out none) (by simp)).cell; have c2 := (BX2.out.kept (grown_of_below HBB.out none) (by simp)).cell; have f2 := (BX2.out.kept (grown_of_below HBB.out none) (by simp)).frozen; have c3 := ((BX3.out.kept (grown_of_below HBB.out none) (by simp)).other (B' := w.heap.size) (by omega) (.slice none 0 0)).cell; have f3 := ((BX3.out.kept (grown_of_below HBB.out none) (by simp)).other (B' := w.heap.size) (by omega) (.slice none 0 0)).frozen; clear hb) | (have hz := HBB.out; clear hz; (with_reducible refine And.intro ?hfn ?_); (case hfn => trivial)))
      refine ⟨by simp, .inl ⟨_, _, rfl, run_takeDeferred (dfr HKD.out HBB.out (by omega)), ?_⟩⟩
      exact ⟨_, put_end (B2 := w.heap.size) (set2_a (BX2.out.kept (grown_of_below HBB.out none) (by simp)) _) (set2_b (BX3.out.kept (grown_of_below HBB.out none) (by simp)) _) (by omega) _ _ (by kernel_rfl) (by kernel_rfl), _, _, rfl, ⟨rfl, rfl⟩, (below_set2 (HBW.out.trans (HBB.out.mono (below_size HBW.out)))).trans (belowK_b (w := w) (Nat.le_refl _) _ D _ _ (by omega) (dfr HKD.out HBB.out (by omega)) rfl rfl)⟩
    | true =>
      rw [hm] at hR
      obtain ⟨ke, hke⟩ := equal_f (putL P) b (by rw [putL_length P hsmall]; have := ((mayE_iff P).1 hm).1; omega)
      have hpy := put_yes W A1 c1 P ROW.out TAB.out hm
      clear hm
      obtain ⟨Q, hQ⟩ : ∃ Q, putL P = Q := ⟨_, rfl⟩
      rw [hQ] at hpy hke hR
      have HPY := Aside0.mk hpy
      clear hpy hQ
      by_cases heq : Q = b
      · obtain rfl : R = some P := by rw [← hR, if_pos ⟨rfl, heq⟩]
        rw [decide_eq_true heq] at hke
        have HEQ := Aside0.mk (equal_call ke true W hke HC.out (HR.out.below HBW.out))
        clear hke hR heq
        gi_wp2_with (first | (have hz := HB1.out; clear hz; (with_reducible refine And.intro ?hfn ?_); (case hfn => trivial); gi_at_call 28; refine (callsIn_wide.2 (HEQ.out w1 A2 c2q RB.out CP.out HB1.out)).mono ?_; rintro e w2 ⟨rfl, hd⟩; have HBB := Aside0.mk (HB1.out.trans (hd.mono (below_size HB1.out))); have c4 := (BX4.out.kept (grown_of_below HBB.out none) (by simp)).cell; have c2 := (BX2.out.kept (grown_of_below HBB.out none) (by simp)).cell; have f2 := (BX2.out.kept (grown_of_below HBB.out none) (by simp)).frozen; have c3 := ((BX3.out.kept (grown_of_below HBB.out none) (by simp)).other (B' := w.heap.size) (by omega) (.slice A1 P.length c1)).cell; have f3 := ((BX3.out.kept (grown_of_below HBB.out none) (by simp)).other (B' := w.heap.size) (by omega) (.slice A1 P.length c1)).frozen; clear hd) | ((with_reducible refine And.intro ?hfn ?_); (case hfn => trivial); gi_at_call 10; refine (callsIn_wide.2 HPY.out).mono ?_; rintro e w1 ⟨v1, rfl, ho, hb⟩; obtain ⟨A2, c2q, rfl, ho2⟩ := own_reads ho; have HB1 := Aside0.mk hb; have RB := Aside0.mk ho2; have CP := Aside0.mk (own_cap ho); clear hb ho ho2))
        refine ⟨by simp, .inl ⟨_, _, rfl, run_takeDeferred (dfr HKD.out HBB.out (by omega)), ?_⟩⟩
        exact ⟨_, put_end (B2 := w.heap.size) (set2_a (BX2.out.kept (grown_of_below HBB.out none) (by simp)) _) (set2_b (BX3.out.kept (grown_of_below HBB.out none) (by simp)) _) (by omega) _ _ (by kernel_rfl) (by kernel_rfl), _, _, rfl, ⟨rfl, ownsRow_putObj (own_set2 (pw_own_below HRO.out HBB.out) (BX2.out.kept (grown_of_below HBB.out none) (by simp)) (BX3.out.kept (grown_of_below HBB.out none) (by simp)) (by omega)) _ (dfr HKD.out HBB.out (by omega)) rfl⟩, (below_set2 (HBW.out.trans (HBB.out.mono (below_size HBW.out)))).trans (belowK_b (w := w) (Nat.le_refl _) _ D _ _ (by omega) (dfr HKD.out HBB.out (by omega)) rfl rfl)⟩
      · obtain rfl : R = none := by rw [← hR, if_neg (fun h => heq h.2)]
        rw [decide_eq_false heq] at hke
        have HEQ := Aside0.mk (equal_call ke false W hke HC.out (HR.out.below HBW.out))
        clear hke hR heq
        gi_wp2_with (first | (have hz := HB1.out; clear hz; (with_reducible refine And.intro ?hfn ?_); (case hfn => trivial); gi_at_call 28; refine (callsIn_wide.2 (HEQ.out w1 A2 c2q RB.out CP.out HB1.out)).mono ?_; rintro e w2 ⟨rfl, hd⟩; have HBB := Aside0.mk (HB1.out.trans (hd.mono (below_size HB1.out))); have c4 := (BX4.out.kept (grown_of_below HBB.out none) (by simp)).cell; have c2 := (BX2.out.kept (grown_of_below HBB.out none) (by simp)).cell; have f2 := (BX2.out.kept (grown_of_below HBB.out none) (by simp)).frozen; have c3 := ((BX3.out.kept (grown_of_below HBB.out none) (by simp)).other (B' := w.heap.size) (by omega) (.slice none 0 0)).cell; have f3 := ((BX3.out.kept (grown_of_below HBB.out none) (by simp)).other (B' := w.heap.size) (by omega) (.slice none 0 0)).frozen; clear hd) | ((with_reducible refine And.intro ?hfn ?_); (case hfn => trivial); gi_at_call 10; refine (callsIn_wide.2 HPY.out).mono ?_; rintro e w1 ⟨v1, rfl, ho, hb⟩; obtain ⟨A2, c2q, rfl, ho2⟩ := own_reads ho; have HB1 := Aside0.mk hb; have RB := Aside0.mk ho2; have CP := Aside0.mk (own_cap ho); clear hb ho ho2))
        refine ⟨by simp, .inl ⟨_, _, rfl, run_takeDeferred (dfr HKD.out HBB.out (by omega)), ?_⟩⟩
        exact ⟨_, put_end (B2 := w.heap.size) (set2_a (BX2.out.kept (grown_of_below HBB.out none) (by simp)) _) (set2_b (BX3.out.kept (grown_of_below HBB.out none) (by simp)) _) (by omega) _ _ (by kernel_rfl) (by kernel_rfl), _, _, rfl, ⟨rfl, rfl⟩, (below_set2 (HBW.out.trans (HBB.out.mono (below_size HBW.out)))).trans (belowK_b (w := w) (Nat.le_refl _) _ D _ _ (by omega) (dfr HKD.out HBB.out (by omega)) rfl rfl)⟩
  case stop =>
    rintro D c pre W hD ⟨k, rfl⟩ ⟨rfl, hbad, hx2, hx3, hB⟩ hK
    have hR := HRR.out
    have hnall : ¬ (allE b).all (fun x => okPart b x.1) = true := by
      intro h
      obtain ⟨x, hx, hxb⟩ := hbad
      have := List.all_eq_true.1 h x (chTo_in hx)
      rw [hxb] at this
      cases this
    unfold takeE at hR
    rw [if_neg hnall] at hR
    subst hR
    gi_wp2
    refine ⟨by simp, .inl ⟨_, _, rfl, run_takeDeferred hK, ?_⟩⟩
    exact ⟨_, put_end hx2 hx3 (by omega) _ _ (by kernel_rfl) (by kernel_rfl), _, _, rfl, ⟨rfl, rfl⟩, hB.trans (belowK_b (w := w) (Nat.le_refl _) W D _ _ (by omega) hK rfl rfl)⟩
end Go.Proofs.YtneanbckmekdkaaDoor.EN

end

section
/- Plain: what Put lays, Take finds. -/
namespace Go.Proofs.YtneanbckmekdkaaDoor.EN
open Go Go.RowKit Go.Proofs.YtneanbckmekdkaaDoor.NM Go.Proofs.YtneanbckmekdkaaDoorW.PrintWords Go.Proofs.YtneanbckmekdkaaDoor.PEntryForms
set_option linter.unusedVariables false
set_option linter.unusedSimpArgs false
theorem str_bytes (s : ByteArray) : strOfNums (bytesOf s) = s := by
  have h : (strOfNums (bytesOf s)).data.toList = s.data.toList := by
    rw [strOfNums_data, bytesOf, List.map_map]
    conv => rhs; rw [← List.map_id s.data.toList]
    refine List.map_congr_left (fun x _ => ?_)
    simp
  have h2 : (strOfNums (bytesOf s)).data = s.data := by rw [← Array.toList_inj]; exact h
  cases s
  simpa using ByteArray.ext h2
theorem putL_append (a b : List S42) : putL (a ++ b) = putL a ++ putL b := by simp [putL]
theorem putL_drop {l : List S42} (h : ∀ x ∈ l, x.f1.size ≤ 24) {i : Nat} (hi : i < l.length) : (putL l).drop (28 * i) = encE l[i] ++ putL (l.drop (i + 1)) := by
  have h1 : putL l = putL (l.take i) ++ putL (l.drop i) := by rw [← putL_append, List.take_append_drop]
  have h2 := putL_length (l.take i) (fun x hx => h x (List.mem_of_mem_take hx))
  rw [List.length_take, Nat.min_eq_left (by omega)] at h2
  rw [h1, List.drop_append, List.drop_of_length_le (by omega), List.nil_append, h2, Nat.sub_self, List.drop_zero, List.drop_eq_getElem_cons hi, putL, List.flatMap_cons]
  rfl
theorem getD_drop (L : List Int) (m j : Nat) : L.getD (m + j) 0 = (L.drop m).getD j 0 := by
  rw [List.getD_eq_getElem?_getD, List.getD_eq_getElem?_getD, List.getElem?_drop]
theorem ent_put {l : List S42} (h : ∀ x ∈ l, x.f1.size ≤ 24) {i : Nat} (hi : i < l.length) : entAt (putL l) (28 * i) = l[i] ∧ okPart (putL l) (28 * i) = true := by
  have hd := putL_drop h hi
  have hz := h _ (List.getElem_mem hi)
  obtain ⟨x, hx⟩ : ∃ x, l[i] = x := ⟨_, rfl⟩
  rw [hx] at hd hz
  obtain ⟨rest, hrest⟩ : ∃ r, putL (l.drop (i + 1)) = r := ⟨_, rfl⟩
  rw [hrest] at hd
  have hd' : (putL l).drop (28 * i) = 0 :: x.f0 :: (x.f1.size : Int) :: (bytesOf x.f1 ++ (List.replicate (25 - x.f1.size) 0 ++ rest)) := by
    rw [hd, encE]; simp
  have g0 : (putL l).getD (28 * i) 0 = 0 := by
    have := getD_drop (putL l) (28 * i) 0
    rw [Nat.add_zero] at this
    rw [this, hd']; rfl
  have g1 : (putL l).getD (28 * i + 1) 0 = x.f0 := by rw [getD_drop, hd']; rfl
  have g2 : (putL l).getD (28 * i + 2) 0 = (x.f1.size : Int) := by rw [getD_drop, hd']; rfl
  have g3 : (putL l).drop (28 * i + 3) = bytesOf x.f1 ++ (List.replicate (25 - x.f1.size) 0 ++ rest) := by rw [← List.drop_drop, hd']; rfl
  constructor
  · unfold entAt
    rw [g0, g1, g2, g3, Int.toNat_natCast, List.take_append_of_le_length (by rw [bytesOf_length]; exact Nat.le_refl _), List.take_of_length_le (by rw [bytesOf_length]; exact Nat.le_refl _), str_bytes, hx]
    have : (256 * 0 + x.f0 : Int) = x.f0 := by omega
    rw [this]
  · unfold okPart
    rw [g2, putL_length l h]
    simp only [Bool.and_eq_true, decide_eq_true_eq]
    omega
theorem chTo_range {n : Nat} : ∀ {k : Nat}, (∀ i, i < k → 28 * i < n) → (chTo n k).map (·.1) = (List.range k).map (28 * ·)
  | 0, _ => rfl
  | k + 1, h => by
    rw [chTo_succ (h k (Nat.lt_succ_self _)), List.map_append, chTo_range (fun i hi => h i (by omega)), List.range_succ, List.map_append]
    rfl
theorem partsOf_map (b : List Int) {n : Nat} (ys : List (Ch n)) : partsOf b ys = (ys.map (·.1)).map (entAt b) := by simp [partsOf]
theorem all_range {b : List Int} {L : Nat} (hb : b.length = 28 * L) : (allE b).map (·.1) = (List.range L).map (28 * ·) := by
  unfold allE
  have : (b.length + 27) / 28 = L := by omega
  rw [this]
  exact chTo_range (fun i hi => by omega)
theorem parts_range {b : List Int} {L : Nat} (hb : b.length = 28 * L) : partsOf b (allE b) = (List.range L).map fun i => entAt b (28 * i) := by
  rw [partsOf_map, all_range hb, List.map_map]
  rfl
/-- THERE AND BACK. -/
theorem take_put {l : List S42} (h : mayE l = true) : takeE (putL l) = some l := by
  have hP := (mayE_iff l).1 h
  have hz := hP.sizes
  have hl := putL_length l hz
  have hp : partsOf (putL l) (allE (putL l)) = l := by
    rw [parts_range hl]
    apply List.ext_getElem
    · simp
    · intro i h1 h2
      rw [List.getElem_map, List.getElem_range]
      exact (ent_put hz h2).1
  have ha : (allE (putL l)).all (fun x => okPart (putL l) x.1) = true := by
    rw [List.all_eq_true]
    intro x hx
    have hm : x.1 ∈ (allE (putL l)).map (·.1) := List.mem_map.2 ⟨x, hx, rfl⟩
    rw [all_range hl] at hm
    obtain ⟨i, hi, e⟩ := List.mem_map.1 hm
    rw [← e]
    exact (ent_put hz (List.mem_range.1 hi)).2
  unfold takeE
  rw [if_pos ha, hp, if_pos ⟨h, rfl⟩]
theorem take_some {b : List Int} {l : List S42} (h : takeE b = some l) : mayE l = true ∧ putL l = b := by
  unfold takeE at h
  split at h
  · split at h
    · cases h; assumption
    · cases h
  · cases h
end Go.Proofs.YtneanbckmekdkaaDoor.EN

end
