import Derived.RangeFuncBox
import Derived.RangeFuncLeaves
import Derived.Shelf.Abstract
import Derived.Shelf.RegionOpen
import Derived.WalkKit
import Derived.OwnWalkIn
import Derived.TacticsInMore
import Derived.LoopNIn
import Derived.LoopIn
import Derived.Maps.AppendAt
import Derived.Test.YtgiapegacbibeaaMEv
import Derived.Test.YtgiapegacbibeaaProg
import Derived.RangeFuncCalls
import Derived.OrdersIn
import Derived.OrdersHeld
import Derived.TacticsIn
import Derived.Deep.DeepAppendWide
import Derived.Laws.BitsLemmas
section
/- slices.Chunk over a block, four bytes at a time: what its closure hands on. -/
namespace Go.Proofs.YtgiapegacbibeaaX
open Go.RowKit Go.Shelf Go.Proofs.YtgiapegacbibeaaW.PrintWords
set_option linter.unusedVariables false
attribute [local go_sem] Oper.semAt_some
/-- Where a part of four bytes begins in a block. -/
abbrev Ch := { m : Nat // m + 4 ≤ 112 }
def chAt (k : Nat) : Ch := if h : 4 * k + 4 ≤ 112 then ⟨4 * k, h⟩ else ⟨0, by decide⟩
def chTo (k : Nat) : List Ch := (List.range k).map chAt
theorem chTo_succ (k : Nat) : chTo (k + 1) = chTo k ++ [chAt k] := by simp [chTo, List.range_succ]
theorem chTo_length (k : Nat) : (chTo k).length = k := by simp [chTo]
/-- Whatever lay below n₀ but block B0 lies as it lay. -/
def KpB (n₀ B0 : Nat) (W W' : World) : Prop := ∀ k, k < n₀ → k ≠ B0 → W'.heap[k]? = W.heap[k]?
theorem KpB.refl (n₀ B0 : Nat) (W : World) : KpB n₀ B0 W W := fun _ _ _ => rfl
theorem KpB.trans {n₀ B0 : Nat} {A B C : World} (h : KpB n₀ B0 A B) (k : KpB n₀ B0 B C) : KpB n₀ B0 A C := fun i hi hne => (k i hi hne).trans (h i hi hne)
theorem KpB.cell {n₀ B0 : Nat} {A B : World} (h : KpB n₀ B0 A B) {p : Addr} (hp : p.block < n₀) (hne : p.block ≠ B0) : B.cell? p = A.cell? p := World.cell?_of_block (h _ hp hne)
set_option maxRecDepth 100000 in
set_option maxHeartbeats 2000000 in
theorem chunk1_in (n : Nat) (hn : 1 ≤ n) (l Bs Bn n₀ B0 : Nat) (ad : Addr) (c : Nat) (hc : 112 ≤ c) (hc63 : c ≤ 9223372036854775807) (J Jx : List Ch → World → Prop) (hJd : ∀ s W, J s W → J s W.drew)
    (hY : ∀ pre x W, J pre W → pre.length < 28 → YieldAt Fence.wide (n - 1) Try.prog l #[.slice (some (ad.add x.1)) 4 4] W fun e W' =>
      (e = .returned (.bool true) ∧ J (pre ++ [x]) W' ∧ KpB n₀ B0 W W') ∨ (e = .returned (.bool false) ∧ Jx (pre ++ [x]) W'))
    (W : World) (hs1 : Bs < n₀) (hs2 : Bs ≠ B0) (hn1 : Bn < n₀) (hn2 : Bn ≠ B0) (cs : W.cell? ⟨Bs, 0, none⟩ = some (.slice (some ad) 112 c)) (cn : W.cell? ⟨Bn, 0, none⟩ = some (.int .i64 4)) (h0 : J [] W) :
    CallsIn Fence.wide n Try.prog 49 #[.func (.yield l) #[] #[], .pointer (some ⟨Bs, 0, none⟩), .pointer (some ⟨Bn, 0, none⟩)] W fun e W' => (∃ v, e = .returned v) ∧
      ((∃ ys, ys = chTo 28 ∧ J ys W') ∨ (∃ pre, True ∧ Jx pre W')) := by
  have mixed : Try.prog.follows .mixedOrders = true := by kernel_rfl
  have CS := Aside0.mk cs
  have CN := Aside0.mk cn
  have H0 := Aside0.mk h0
  clear cs cn h0
  refine callsIn_of_wp Try.func49 rfl trivial ?_ rfl
  simp only [Try.ntmps49, List.size_toArray, List.length_cons, List.length_nil, Nat.reduceAdd, Nat.reduceSub, Array.replicate_succ, Array.replicate_zero, List.push_toArray, List.append_toArray, List.nil_append, List.cons_append]
  gi_wp2
  gi_loopw [4] (fun i wr => ∃ k m : Nat, k ≤ 28 ∧ Aside0 (m = 4 * k) ∧ i = .int .i64 m ∧ Aside0 (J (chTo k) wr) ∧ Aside0 (KpB n₀ B0 W wr))
    (fun i _ => 112 - (intOf i).toNat)
  case atStart => exact ⟨0, 0, Nat.zero_le _, ⟨rfl⟩, rfl, H0, ⟨KpB.refl _ _ _⟩⟩
  case round =>
    obtain ⟨k, m, hk, hm, rfl, hJ, hK⟩ := hrel
    have c1 := (hK.out.cell (p := ⟨Bs, 0, none⟩) hs1 hs2).trans CS.out
    have c2 := (hK.out.cell (p := ⟨Bn, 0, none⟩) hn1 hn2).trans CN.out
    by_cases hlt : m < 112
    · have hlt' : (m : Int) < 112 := by omega
      have hm0 : (0 : Int) ≤ (m : Int) := Int.natCast_nonneg _
      have hk28 : k < 28 := by have := hm.out; omega
      have hm4 : m + 4 ≤ 112 := by have := hm.out; omega
      have hx : chAt k = ⟨m, hm4⟩ := by
        have hm' := hm.out
        subst hm'
        unfold chAt
        rw [dif_pos hm4]
      have HX := Aside0.mk hx
      clear hx
      obtain ⟨fn, tmps, assign, body, hy, hR⟩ := hY _ ⟨m, hm4⟩ wr.drew (hJd _ _ hJ.out) (by rw [chTo_length]; exact hk28)
      dsimp only at hy
      have b1 : (m : Int) ≤ 112 := by omega
      have b2 : m ≤ 112 := by omega
      have b3 : m ≤ c := by omega
      have b4 : (m : Int) ≤ (c : Int) := by omega
      gi_wp2
      gi_big_region_o
      gi_wp2
      refine hR.mono ?_
      rintro e W3 (⟨rfl, hJ3, hk3⟩ | ⟨rfl, hJx3⟩)
      · have hk4 : KpB n₀ B0 wr W3 := hk3
        have J4 : Aside0 (J (chTo (k + 1)) W3) := ⟨by rw [chTo_succ, HX.out]; exact hJ3⟩
        have K4 := Aside0.mk (hK.out.trans hk4)
        have c3 := (K4.out.cell (p := ⟨Bn, 0, none⟩) hn1 hn2).trans CN.out
        gi_wp2
        go_roundw
        case rel => exact ⟨k + 1, m + 4, by omega, ⟨by have := hm.out; omega⟩, by go_num, J4, K4⟩
        case measure => simp [intOf]; omega
      · gi_wp2
        refine bodyPost_ret (results_none rfl _ _ _) rfl ?_
        exact ⟨⟨_, rfl⟩, .inr ⟨_, trivial, hJx3⟩⟩
    · obtain rfl : m = 112 := by have := hm.out; omega
      obtain rfl : k = 28 := by have := hm.out; omega
      gi_wp2
      go_end0
      exact ⟨⟨_, rfl⟩, .inl hJ.out⟩
end Go.Proofs.YtgiapegacbibeaaX

end

section
/- A region that draws, in a round of a loop over an iterator: by the walk of all orders that holds S. -/
namespace Go.Proofs.YtgiapegacbibeaaX
open Go.RowKit
set_option linter.unusedVariables false
section
variable {l n : Nat} {P : Program} {o : Oper} {a : Act} {w : World} {K : Act → World → Prop} {Q : Exit → Act → World → Prop} {ops : Array Oper} {md : Region.Mode}
theorem rowsIn_round {row : String} {args : Array Value} {R : Value → World → Prop} (h : Rows P row args w R) : RowsIn (Fence.wide.inRound l) n P row args w R := by
  intro c cs hr
  obtain ⟨v, w', r, s⟩ := h c cs
  exact ⟨v, w', r, stepsIn_wide.2 s⟩
theorem wpIn_of_wp (hd : ∀ c, o.op ≠ .defer c) (h : o.wp P a w K Q) : o.wpIn (Fence.wide.inRound l) n P a w K Q := by
  refine ⟨fun _ _ => trivial, ?_⟩
  have e : o.semAt (Fence.wide.inRound l).round a.eval = execOp a.eval o := Oper.semAt_some l _ _ hd
  rw [e]
  unfold Oper.wp at h
  generalize (execOp a.eval o).run P w = r at h ⊢
  cases r with
  | ok x w' =>
    cases x with
    | value v => exact h
    | skip => exact h
    | defer d => exact h
    | enter f args => exact ⟨fun hc => by simp [Fence.wide] at hc, CallsIn.inRound l (callsIn_wide.2 h)⟩
    | row row args => exact ⟨fun hc => by simp [Fence.wide] at hc, rowsIn_round h⟩
    | _ => exact h.elim
  | halt x w' =>
    cases x <;> first | exact h | exact h.elim
theorem wpOpIn_of_wpOp {i : Nat} (hd : ∀ o : Oper, ops[i]? = some o → ∀ c, o.op ≠ .defer c) (hL : ¬ LetsOut Q) (h : wpOp P ops Q i K a w) : wpOpIn (Fence.wide.inRound l) n P ops Q i K a w := by
  unfold wpOp at h
  unfold wpOpIn
  cases ho : ops[i]? with
  | none => rw [ho] at h; exact h
  | some o =>
    rw [ho] at h
    simp only at h ⊢
    split at h
    · rename_i hw
      rw [if_pos hw]
      rcases h with h | ⟨_, h⟩
      · exact wpIn_of_wp (hd o ho) h
      · exact absurd h hL
    · rename_i hw
      rw [if_neg hw]
      exact ⟨fun _ _ => trivial, h⟩
theorem wpAnyIn_of_wpAny (hd : ∀ (i : Nat) (o : Oper), ops[i]? = some o → ∀ c, o.op ≠ .defer c) (hL : ¬ LetsOut Q) : ∀ (fuel : Nat) (listed : Array Bool) (a : Act) (w : World), wpAny P md ops Q fuel listed a w → wpAnyIn (Fence.wide.inRound l) n P md ops Q fuel listed a w
  | 0, _, _, _, h => h
  | fuel + 1, listed, a, w, h => ⟨h.1, fun i hi => wpOpIn_of_wpOp (hd i) hL (wpOp_mono (fun a' w' h' => wpAnyIn_of_wpAny hd hL fuel _ a' w' h') (h.2 i hi))⟩
def noDefer (ops : Array Oper) : Bool := ops.all fun o => match o.op with | .defer _ => false | _ => true
theorem noDefer_spec {ops : Array Oper} (h : noDefer ops = true) : ∀ (i : Nat) (o : Oper), ops[i]? = some o → ∀ c, o.op ≠ .defer c := by
  intro i o ho c hc
  have := Array.all_eq_true'.1 h o (Array.mem_of_getElem? ho)
  rw [hc] at this
  cases this
theorem wpIn_region_round {id : Nat} {S : World → Prop} (hm : P.follows .mixedOrders = true) (hd : ∀ (i : Nat) (o : Oper), ops[i]? = some o → ∀ c, o.op ≠ .defer c) (hL : ¬ LetsOut Q) (hS : S w.drew)
    (h : S w.drew → wpAnyH P .any ops Q S ops.size (Array.replicate ops.size false) a w.drew) : (Code.region id ops true).wpIn (Fence.wide.inRound l) n P Q a w :=
  wpIn_region_any hm (wpAnyIn_of_wpAny hd hL _ _ _ _ (wpAny_of_held _ _ _ _ (h hS)))
end
end Go.Proofs.YtgiapegacbibeaaX

end

section
/- points.Take: bytes as numbers. -/
namespace Go.Proofs.YtgiapegacbibeaaX
open Go.RowKit Go.Shelf Go.Proofs.YtgiapegacbibeaaW.PrintWords
set_option linter.unusedVariables false
set_option linter.unusedSimpArgs false
attribute [local go_sem] Oper.semAt_some
theorem chunk_in (n : Nat) (a : Option Addr) (len cap : Nat) (w : World) :
    CallsIn Fence.wide n Try.prog 45 #[.slice a len cap, .int .i64 4] w fun e w' => e = .returned (.func (.func 49) #[] #[.pointer (some ⟨w.heap.size, 0, none⟩), .pointer (some ⟨w.heap.size + 1, 0, none⟩)]) ∧ w' = (w.alloc (.cells #[.slice a len cap] 58)).alloc (.cells #[.int .i64 4] 3) := by
  refine callsIn_of_wp Try.func45 rfl trivial ?_ rfl
  simp only [Try.ntmps45, List.size_toArray, List.length_cons, List.length_nil, Nat.reduceAdd, Nat.reduceSub, Array.replicate_succ, Array.replicate_zero, List.push_toArray, List.append_toArray, List.nil_append, List.cons_append]
  gi_wp2
  go_ret
  exact ⟨rfl, rfl⟩
theorem chunk_stops (n : Nat) (hn : 1 ≤ n) (Bs Bn n₀ B0 : Nat) (ad : Addr) (c : Nat) (hc : 112 ≤ c) (hc63 : c ≤ 9223372036854775807) (w : World) (h0 : n₀ ≤ w.heap.size) (hs1 : Bs < n₀) (hs2 : Bs ≠ B0) (hn1 : Bn < n₀) (hn2 : Bn ≠ B0)
    (cs : w.cell? ⟨Bs, 0, none⟩ = some (.slice (some ad) 112 c)) (cn : w.cell? ⟨Bn, 0, none⟩ = some (.int .i64 4)) :
    SeqStopsK Fence.wide n Try.prog 49 #[.pointer (some ⟨Bs, 0, none⟩), .pointer (some ⟨Bn, 0, none⟩)] (fun x : Ch => #[.slice (some (ad.add x.1)) 4 4]) (KpB n₀ B0) (fun ys => ys = chTo 28) (fun _ => True) 28 w := fun l J Jx W hW hJ _ hY h =>
  chunk1_in n hn l Bs Bn n₀ B0 ad c hc hc63 J Jx (fun s A h => hJ s A A.drew none h (grown_of_below (below_drew (Below.refl _ A)) none) (fun r e => by cases e)) hY W hs1 hs2 hn1 hn2
    ((hW.cell (p := ⟨Bs, 0, none⟩) (Nat.lt_of_lt_of_le hs1 h0)).trans cs) ((hW.cell (p := ⟨Bn, 0, none⟩) (Nat.lt_of_lt_of_le hn1 h0)).trans cn) h
def be4 (a b c d : Int) : Int := a * 16777216 + b * 65536 + c * 256 + d
def wordAt (L : List Int) (m : Nat) : Int := be4 (L.getD m 0) (L.getD (m + 1) 0) (L.getD (m + 2) 0) (L.getD (m + 3) 0)
theorem kpB_t {n₀ B0 : Nat} {A B C : World} (h : KpB n₀ B0 A B) (k : KpB n₀ B0 B C) : KpB n₀ B0 A C := h.trans k
theorem kpB_b {n₀ B0 m : Nat} (hm : n₀ ≤ m) (W : World) (l : Nat) (o o' : Obj) (hl : m ≤ l) (_ : W.heap[l]? = some o) (_ : o.isCells = false) (_ : o.isWalk = false) : KpB n₀ B0 W (W.putObj l o') :=
  fun k hk _ => World.putObj_heap_other (by omega)
theorem own_size (n : Nat) : OwnFrom n (fun (_ : List Ch) (W : World) => n ≤ W.heap.size) := fun _ _ _ _ h hg _ => Nat.le_trans h hg.size
theorem be4_or (y0 y1 y2 y3 : Int) (b0 : 0 ≤ y0 ∧ y0 < 256) (b1 : 0 ≤ y1 ∧ y1 < 256) (b2 : 0 ≤ y2 ∧ y2 < 256) (b3 : 0 ≤ y3 ∧ y3 < 256) :
    bits .or .u32 (bits .or .u32 (bits .or .u32 (IntKind.u32.wrap (IntKind.u32.wrap y0 * 16777216)) (IntKind.u32.wrap (IntKind.u32.wrap y1 * 65536))) (IntKind.u32.wrap (IntKind.u32.wrap y2 * 256))) (IntKind.u32.wrap y3) = be4 y0 y1 y2 y3 := by
  have hk : ∀ n : Int, 0 ≤ n → n < 2 ^ 32 → IntKind.u32.wrap n = n := fun n h0 h1 => by rw [IntKind.wrap_u32]; omega
  rw [hk y0 (by omega) (by omega), hk y1 (by omega) (by omega), hk y2 (by omega) (by omega), hk y3 (by omega) (by omega), hk (y0 * 16777216) (by omega) (by omega), hk (y1 * 65536) (by omega) (by omega), hk (y2 * 256) (by omega) (by omega)]
  rw [bits_join .u32 32 (by decide) hk 24 (y0 * 16777216) (y1 * 65536) (by omega) (by omega) (by omega) (by omega) (by omega) (by omega)]
  rw [bits_join .u32 32 (by decide) hk 16 (y0 * 16777216 + y1 * 65536) (y2 * 256) (by omega) (by omega) (by omega) (by omega) (by omega) (by omega)]
  rw [bits_join .u32 32 (by decide) hk 8 (y0 * 16777216 + y1 * 65536 + y2 * 256) y3 (by omega) (by omega) (by omega) (by omega) (by omega) (by omega)]
  rfl
theorem s_below {A B : World} {q : Addr} {y0 y1 y2 y3 : Int} (h : A.cell? q = some (.int .u8 y0) ∧ A.cell? ⟨q.block, q.off + 1, none⟩ = some (.int .u8 y1) ∧ A.cell? ⟨q.block, q.off + 2, none⟩ = some (.int .u8 y2) ∧ A.cell? ⟨q.block, q.off + 3, none⟩ = some (.int .u8 y3)) (hb : ∀ k, k = q.block → k < A.heap.size → B.heap[k]? = A.heap[k]?) :
    B.cell? q = some (.int .u8 y0) ∧ B.cell? ⟨q.block, q.off + 1, none⟩ = some (.int .u8 y1) ∧ B.cell? ⟨q.block, q.off + 2, none⟩ = some (.int .u8 y2) ∧ B.cell? ⟨q.block, q.off + 3, none⟩ = some (.int .u8 y3) := by
  have hlt := World.block_lt_of_cell? A q h.1
  have he := hb q.block rfl hlt
  exact ⟨(World.cell?_of_block he).trans h.1, (World.cell?_of_block (a := ⟨q.block, q.off + 1, none⟩) he).trans h.2.1, (World.cell?_of_block (a := ⟨q.block, q.off + 2, none⟩) he).trans h.2.2.1, (World.cell?_of_block (a := ⟨q.block, q.off + 3, none⟩) he).trans h.2.2.2⟩
set_option maxRecDepth 100000 in
set_option maxHeartbeats 4000000 in
theorem take_yes (ad : Addr) (c : Nat) (L : List Int) (w : World) (hc : 112 ≤ c) (hc63 : c ≤ 9223372036854775807) (hr : ReadsInt w .u8 (some ad) 112 L) (hby : ∀ x ∈ L, 0 ≤ x ∧ x < 256) :
    Calls Try.prog 30 #[.slice (some ad) 112 c] w fun e w' => ∃ v, e = .returned (.tuple #[v, .int .i64 0]) ∧ w'.ownsRow w.heap.size 24 1 v 28 (nums .u32 ((chTo 28).map fun x => wordAt L x.1)) ∧ Below w.heap.size w w' := by
  have mixed : Try.prog.follows .mixedOrders = true := by kernel_rfl
  have HR := Aside0.mk hr
  have HBY := Aside0.mk hby
  have HC := Aside0.mk hc
  have HC63 := Aside0.mk hc63
  clear hr hby
  refine (callsIn_wide (n := 3)).1 ?_
  refine callsIn_of_wp_marks Try.func30 rfl trivial ?_ rfl
  simp only [Try.ntmps30, List.size_toArray, List.length_cons, List.length_nil, Nat.reduceAdd, Nat.reduceSub, Array.replicate_succ, Array.replicate_zero, List.push_toArray, List.append_toArray, List.nil_append, List.cons_append]
  gi_wp2_with (refine ⟨trivial, ?_⟩; gi_at_call 45; refine (chunk_in _ _ _ _ _).mono ?_; rintro e w' ⟨rfl, rfl⟩)
  have bO := Boxed.new w 71 (.slice none 0 0)
  have bS := Boxed.new (w.alloc (.cells #[.slice none 0 0] 71)) 58 (.slice (some ad) 112 c)
  have bN := Boxed.new ((w.alloc (.cells #[.slice none 0 0] 71)).alloc (.cells #[.slice (some ad) 112 c] 58)) 3 (.int .i64 4)
  simp only [World.size_alloc] at bS bN ⊢
  obtain ⟨W0, hW0⟩ : ∃ W0, ((w.alloc (.cells #[.slice none 0 0] 71)).alloc (.cells #[.slice (some ad) 112 c] 58)).alloc (.cells #[.int .i64 4] 3) = W0 := ⟨_, rfl⟩
  have hs0 : W0.heap.size = w.heap.size + 1 + 1 + 1 := by rw [← hW0]; simp
  have hB0 : Below w.heap.size w W0 := by rw [← hW0]; exact (((Below.refl _ w).alloc (Nat.le_refl _) _).alloc (by simp) _).alloc (by simp; omega) _
  have bO' : Boxed W0 w.heap.size 71 (.slice none 0 0) := by rw [← hW0]; exact (bO.alloc _).alloc _
  have bS' : Boxed W0 (w.heap.size + 1) 58 (.slice (some ad) 112 c) := by rw [← hW0]; exact bS.alloc _
  have bN' : Boxed W0 (w.heap.size + 1 + 1) 3 (.int .i64 4) := by rw [← hW0]; exact bN
  rw [hW0]
  clear bO bS bN hW0
  refine wpIn_rangeFunc_ownG rfl (by decide) (gf := 49) (lb := #[.pointer (some ⟨w.heap.size + 1, 0, none⟩), .pointer (some ⟨w.heap.size + 1 + 1, 0, none⟩)]) rfl trivial (enters_of Try.func49 (by kernel_rfl) rfl)
    (chunk_stops _ (by decide) (w.heap.size + 1) (w.heap.size + 1 + 1) W0.heap.size w.heap.size ad c HC.out HC63.out W0 (Nat.le_refl _) (by omega) (by omega) (by omega) (by omega) bS'.cell bN'.cell) kpB_t (fun W l o o' hl h1 h2 h3 => kpB_b (Nat.le_refl _) W l o o' hl h1 h2 h3) (Below.refl _ _) (fun _ => rfl)
    (fun pre W => (∃ v, Boxed W w.heap.size 71 v ∧ W.ownsRow W0.heap.size 24 1 v pre.length (nums .u32 (pre.map fun x => wordAt L x.1)) ∧ True) ∧ Below w.heap.size w W ∧ W0.heap.size ≤ W.heap.size)
    (fun _ _ _ => False)
    (OwnFrom.and (Own.from (holdsRow_own W0.heap.size w.heap.size 71 24 1 (fun (pre : List Ch) => pre.length) (fun (pre : List Ch) => nums .u32 (pre.map fun x => wordAt L x.1)) (fun _ _ => True)) _) (OwnFrom.and (ownFrom_below (Nat.le_refl _) (by omega)) (own_size _)))
    (fun _ _ _ _ _ hs _ _ => hs)
    ⟨⟨_, bO', World.ownsRow_nil _ _ _ _, trivial⟩, hB0, Nat.le_refl _⟩
    (fun x => { tmps := #[.slice (some ad) 112 c, undef, .slice none 0 0, .int .i64 0, .pointer (some ⟨w.heap.size, 0, none⟩), .slice (some (ad.add x.1)) 4 4, .bool false, .slice (some ad) 112 c, .int .i64 112, .bool false, .bool false, .slice (some ad) 112 c, .int .i64 112, .bool false, .slice (some ad) 112 c, .func (.func 49) #[] #[.pointer (some ⟨w.heap.size + 1, 0, none⟩), .pointer (some ⟨w.heap.size + 1 + 1, 0, none⟩)], .slice (some (ad.add x.1)) 4 4, undef, undef, undef, undef, undef, undef, undef, undef, undef, undef, undef, undef, undef, undef, undef, undef, undef, undef, undef, undef, undef, undef, undef, undef, undef, undef], defers := [] }) ?assign ?body ?done ?stop
  case assign =>
    intro l x W K hK
    gi_wp2
    exact hK
  case body =>
    rintro l pre x W ⟨⟨v, hv, hrow, _⟩, hB, hsz⟩ hlt
    obtain ⟨m, hm⟩ := x
    have hcs := ((HR.out.below hB).2.2 (by decide))
    obtain ⟨ad', he, hcells⟩ := hcs
    cases he
    obtain ⟨y0, hy0⟩ : ∃ y, L.getD m 0 = y := ⟨_, rfl⟩
    obtain ⟨y1, hy1⟩ : ∃ y, L.getD (m + 1) 0 = y := ⟨_, rfl⟩
    obtain ⟨y2, hy2⟩ : ∃ y, L.getD (m + 2) 0 = y := ⟨_, rfl⟩
    obtain ⟨y3, hy3⟩ : ∃ y, L.getD (m + 3) 0 = y := ⟨_, rfl⟩
    have hr : ∀ j, j < 112 → 0 ≤ L.getD j 0 ∧ L.getD j 0 < 256 := fun j hj => HBY.out _ (by have := HR.out.1; rw [List.getD_eq_getElem?_getD, List.getElem?_eq_getElem (by omega)]; exact List.getElem_mem _)
    have b0 := hr m (by omega)
    have b1 := hr (m + 1) (by omega)
    have b2 := hr (m + 2) (by omega)
    have b3 := hr (m + 3) (by omega)
    have g0 := hcells m (by omega)
    have g1 := hcells (m + 1) (by omega)
    have g2 := hcells (m + 2) (by omega)
    have g3 := hcells (m + 3) (by omega)
    have hw : wordAt L m = be4 y0 y1 y2 y3 := by unfold wordAt; rw [hy0, hy1, hy2, hy3]
    have HWD := Aside0.mk hw
    rw [hy0] at b0 g0
    rw [hy1] at b1 g1
    rw [hy2] at b2 g2
    rw [hy3] at b3 g3
    rw [← Addr.add_add] at g1 g2 g3
    obtain ⟨q, hq⟩ : ∃ q, ad.add m = q := ⟨_, rfl⟩
    simp only [hq] at g0 g1 g2 g3 ⊢
    have QB := Aside0.mk (show q.block < w.heap.size from by have h1 := World.block_lt_of_cell? w ad (by have := HR.out.2.2 (by decide); obtain ⟨a2, e2, h2⟩ := this; cases e2; exact (h2 0 (by decide))); have h2 : (ad.add m).block = ad.block := (by unfold Addr.add; split <;> rfl); rw [← hq, h2]; exact h1)
    clear hy0 hy1 hy2 hy3 hr hcells hw hq
    refine wpIn_block ?_
    refine wpIn_region_round (S := fun A => A.cell? q = some (.int .u8 y0) ∧ A.cell? ⟨q.block, q.off + 1, none⟩ = some (.int .u8 y1) ∧ A.cell? ⟨q.block, q.off + 2, none⟩ = some (.int .u8 y2) ∧ A.cell? ⟨q.block, q.off + 3, none⟩ = some (.int .u8 y3)) mixed (noDefer_spec (by kernel_rfl)) (fun ⟨_, _, h⟩ => h) ⟨g0, g1, g2, g3⟩ (fun hH => ?_)
    refine wpAnyH_take (i := 1) (oi := ⟨some 18, _, _, _, _, _⟩) rfl (by kernel_rfl) (by kernel_rfl) (by kernel_rfl) (fun _ _ _ h => h) (Or.inl ⟨by rfl, fun A hS => by obtain ⟨c0, c1, c2, c3⟩ := hS; go_simp; rfl⟩) hH ?_
    simp only [Act.put, List.setIfInBounds_toArray, List.set_cons_zero, List.set_cons_succ]
    refine wpAnyH_take (i := 2) (oi := ⟨some 19, _, _, _, _, _⟩) rfl (by kernel_rfl) (by kernel_rfl) (by kernel_rfl) (fun _ _ _ h => h) (Or.inl ⟨by rfl, fun A hS => by obtain ⟨c0, c1, c2, c3⟩ := hS; go_simp; rfl⟩) hH ?_
    simp only [Act.put, List.setIfInBounds_toArray, List.set_cons_zero, List.set_cons_succ]
    refine wpAnyH_take (i := 3) (oi := ⟨some 20, _, _, _, _, _⟩) rfl (by kernel_rfl) (by kernel_rfl) (by kernel_rfl) (fun _ _ _ h => h) (Or.inl ⟨by rfl, fun A hS => by obtain ⟨c0, c1, c2, c3⟩ := hS; go_simp; rfl⟩) hH ?_
    simp only [Act.put, List.setIfInBounds_toArray, List.set_cons_zero, List.set_cons_succ]
    refine wpAnyH_take (i := 4) (oi := ⟨some 21, _, _, _, _, _⟩) rfl (by kernel_rfl) (by kernel_rfl) (by kernel_rfl) (fun _ _ _ h => h) (Or.inl ⟨by rfl, fun A hS => by obtain ⟨c0, c1, c2, c3⟩ := hS; go_simp; rfl⟩) hH ?_
    simp only [Act.put, List.setIfInBounds_toArray, List.set_cons_zero, List.set_cons_succ]
    refine wpAnyH_take (i := 5) (oi := ⟨some 22, _, _, _, _, _⟩) rfl (by kernel_rfl) (by kernel_rfl) (by kernel_rfl) (fun _ _ _ h => h) (Or.inl ⟨by rfl, fun A hS => by obtain ⟨c0, c1, c2, c3⟩ := hS; go_simp; rfl⟩) hH ?_
    simp only [Act.put, List.setIfInBounds_toArray, List.set_cons_zero, List.set_cons_succ]
    refine wpAnyH_take (i := 6) (oi := ⟨some 23, _, _, _, _, _⟩) rfl (by kernel_rfl) (by kernel_rfl) (by kernel_rfl) (fun _ _ _ h => h) (Or.inl ⟨by rfl, fun A hS => by obtain ⟨c0, c1, c2, c3⟩ := hS; go_simp; rfl⟩) hH ?_
    simp only [Act.put, List.setIfInBounds_toArray, List.set_cons_zero, List.set_cons_succ]
    refine wpAnyH_take (i := 7) (oi := ⟨some 24, _, _, _, _, _⟩) rfl (by kernel_rfl) (by kernel_rfl) (by kernel_rfl) (fun _ _ _ h => h) (Or.inl ⟨by rfl, fun A hS => by obtain ⟨c0, c1, c2, c3⟩ := hS; go_simp; rfl⟩) hH ?_
    simp only [Act.put, List.setIfInBounds_toArray, List.set_cons_zero, List.set_cons_succ]
    refine wpAnyH_take (i := 8) (oi := ⟨some 25, _, _, _, _, _⟩) rfl (by kernel_rfl) (by kernel_rfl) (by kernel_rfl) (fun _ _ _ h => h) (Or.inl ⟨by rfl, fun A hS => by obtain ⟨c0, c1, c2, c3⟩ := hS; go_simp; rfl⟩) hH ?_
    simp only [Act.put, List.setIfInBounds_toArray, List.set_cons_zero, List.set_cons_succ]
    refine wpAnyH_take (i := 9) (oi := ⟨some 26, _, _, _, _, _⟩) rfl (by kernel_rfl) (by kernel_rfl) (by kernel_rfl) (fun _ _ _ h => h) (Or.inl ⟨by rfl, fun A hS => by obtain ⟨c0, c1, c2, c3⟩ := hS; go_simp; rfl⟩) hH ?_
    simp only [Act.put, List.setIfInBounds_toArray, List.set_cons_zero, List.set_cons_succ]
    refine wpAnyH_take (i := 10) (oi := ⟨some 27, _, _, _, _, _⟩) rfl (by kernel_rfl) (by kernel_rfl) (by kernel_rfl) (fun _ _ _ h => h) (Or.inl ⟨by rfl, fun A hS => by obtain ⟨c0, c1, c2, c3⟩ := hS; go_simp; rfl⟩) hH ?_
    simp only [Act.put, List.setIfInBounds_toArray, List.set_cons_zero, List.set_cons_succ]
    refine wpAnyH_take (i := 11) (oi := ⟨some 28, _, _, _, _, _⟩) rfl (by kernel_rfl) (by kernel_rfl) (by kernel_rfl) (fun _ _ _ h => h) (Or.inl ⟨by rfl, fun A hS => by obtain ⟨c0, c1, c2, c3⟩ := hS; go_simp; rfl⟩) hH ?_
    simp only [Act.put, List.setIfInBounds_toArray, List.set_cons_zero, List.set_cons_succ]
    refine wpAnyH_take (i := 12) (oi := ⟨some 29, _, _, _, _, _⟩) rfl (by kernel_rfl) (by kernel_rfl) (by kernel_rfl) (fun _ _ _ h => h) (Or.inl ⟨by rfl, fun A hS => by obtain ⟨c0, c1, c2, c3⟩ := hS; go_simp; rfl⟩) hH ?_
    simp only [Act.put, List.setIfInBounds_toArray, List.set_cons_zero, List.set_cons_succ]
    refine wpAnyH_take (i := 13) (oi := ⟨some 30, _, _, _, _, _⟩) rfl (by kernel_rfl) (by kernel_rfl) (by kernel_rfl) (fun _ _ _ h => h) (Or.inl ⟨by rfl, fun A hS => by obtain ⟨c0, c1, c2, c3⟩ := hS; go_simp; rfl⟩) hH ?_
    simp only [Act.put, List.setIfInBounds_toArray, List.set_cons_zero, List.set_cons_succ]
    refine wpAnyH_take (i := 14) (oi := ⟨some 31, _, _, _, _, _⟩) rfl (by kernel_rfl) (by kernel_rfl) (by kernel_rfl) (fun _ _ _ h => h) (Or.inl ⟨by rfl, fun A hS => by obtain ⟨c0, c1, c2, c3⟩ := hS; go_simp; rfl⟩) hH ?_
    simp only [Act.put, List.setIfInBounds_toArray, List.set_cons_zero, List.set_cons_succ]
    refine wpAnyH_take (i := 15) (oi := ⟨some 32, _, _, _, _, _⟩) rfl (by kernel_rfl) (by kernel_rfl) (by kernel_rfl) (fun _ _ _ h => h) (Or.inl ⟨by rfl, fun A hS => by obtain ⟨c0, c1, c2, c3⟩ := hS; go_simp; rfl⟩) hH ?_
    simp only [Act.put, List.setIfInBounds_toArray, List.set_cons_zero, List.set_cons_succ]
    refine wpAnyH_take (i := 16) (oi := ⟨some 33, _, _, _, _, _⟩) rfl (by kernel_rfl) (by kernel_rfl) (by kernel_rfl) (fun _ _ _ h => h) (Or.inl ⟨by rfl, fun A hS => by obtain ⟨c0, c1, c2, c3⟩ := hS; go_simp; rfl⟩) hH ?_
    simp only [Act.put, List.setIfInBounds_toArray, List.set_cons_zero, List.set_cons_succ]
    refine wpAnyH_take (i := 17) (oi := ⟨some 34, _, _, _, _, _⟩) rfl (by kernel_rfl) (by kernel_rfl) (by kernel_rfl) (fun _ _ _ h => h) (Or.inl ⟨by rfl, fun A hS => by obtain ⟨c0, c1, c2, c3⟩ := hS; go_simp; rfl⟩) hH ?_
    simp only [Act.put, List.setIfInBounds_toArray, List.set_cons_zero, List.set_cons_succ]
    refine wpAnyH_take (i := 18) (oi := ⟨some 35, _, _, _, _, _⟩) rfl (by kernel_rfl) (by kernel_rfl) (by kernel_rfl) (fun _ _ _ h => h) (Or.inl ⟨by rfl, fun A hS => by obtain ⟨c0, c1, c2, c3⟩ := hS; go_simp; rfl⟩) hH ?_
    simp only [Act.put, List.setIfInBounds_toArray, List.set_cons_zero, List.set_cons_succ]
    refine wpAnyH_take (i := 19) (oi := ⟨some 36, _, _, _, _, _⟩) rfl (by kernel_rfl) (by kernel_rfl) (by kernel_rfl) (fun _ _ _ h => h) (Or.inl ⟨by rfl, fun A hS => by obtain ⟨c0, c1, c2, c3⟩ := hS; go_simp; rfl⟩) hH ?_
    simp only [Act.put, List.setIfInBounds_toArray, List.set_cons_zero, List.set_cons_succ]
    refine wpAnyH_take (i := 20) (oi := ⟨some 37, _, _, _, _, _⟩) rfl (by kernel_rfl) (by kernel_rfl) (by kernel_rfl) (fun _ _ _ h => h) (Or.inl ⟨by rfl, fun A hS => by obtain ⟨c0, c1, c2, c3⟩ := hS; go_simp; rfl⟩) hH ?_
    simp only [Act.put, List.setIfInBounds_toArray, List.set_cons_zero, List.set_cons_succ]
    refine wpAnyH_take (i := 21) (oi := ⟨some 38, _, _, _, _, _⟩) rfl (by kernel_rfl) (by kernel_rfl) (by kernel_rfl) (fun _ _ _ h => h) (Or.inl ⟨by rfl, fun A hS => by obtain ⟨c0, c1, c2, c3⟩ := hS; go_simp; rfl⟩) hH ?_
    simp only [Act.put, List.setIfInBounds_toArray, List.set_cons_zero, List.set_cons_succ]
    refine wpAnyH_take (i := 22) (oi := ⟨some 39, _, _, _, _, _⟩) rfl (by kernel_rfl) (by kernel_rfl) (by kernel_rfl) (fun _ _ _ h => h) (Or.inl ⟨by rfl, fun A hS => by obtain ⟨c0, c1, c2, c3⟩ := hS; go_simp; rfl⟩) hH ?_
    simp only [Act.put, List.setIfInBounds_toArray, List.set_cons_zero, List.set_cons_succ]
    have HQ : Aside0 (q.block < w.heap.size ∧ w.heap.size ≤ W0.heap.size) := ⟨QB.out, by omega⟩
    have BV : Boxed W.drew w.heap.size 71 v := hv
    have hrow' : W.drew.ownsRow W0.heap.size 24 1 v pre.length (nums .u32 (pre.map fun x => wordAt L x.1)) := hrow
    have KA := Aside0.mk ((KeepsOthers.drew W).from W0.heap.size)
    have KPA : Aside0 (KpB W0.heap.size w.heap.size W W.drew) := ⟨fun _ _ _ => rfl⟩
    have hBA := Aside0.mk (below_drew hB)
    have hszA : W0.heap.size ≤ W.drew.heap.size := hsz
    have hwlt : w.heap.size < W.drew.heap.size := BV.lt
    have hor := be4_or y0 y1 y2 y3 b0 b1 b2 b3
    simp only [hor]
    clear hv hrow hsz hB hor g0 g1 g2 g3
    have hrow := hrow'
    clear hrow'
    obtain ⟨A0, hA0⟩ : ∃ A0, W.drew = A0 := ⟨_, rfl⟩
    rw [hA0] at BV hrow KA KPA hBA hszA hwlt hH ⊢
    clear hA0
    obtain ⟨i0, hi, hz0, hz1, hz2⟩ := info_parts infoU32
    refine wpAnyH_ready (rs := [0, 23]) (by kernel_rfl) (by simp) ?_
    refine AllReadyH.cons rfl (fun K hK => ?_) (AllReadyH.cons rfl (fun K hK => ?_) AllReadyH.nil)
    · rw [if_pos (by rfl)]
      have hvc := BV.cell
      go_simp
      refine hK.out _ _ hH (fun _ => ?_)
      clear hK K hvc
      (try simp only [Act.put, List.setIfInBounds_toArray, List.set_cons_zero, List.set_cons_succ])
      refine wpAnyH_ready (rs := [23]) (by kernel_rfl) (by simp) ?_
      refine AllReadyH.cons rfl (fun K hK => ?_) AllReadyH.nil
      rw [if_pos (by rfl)]
      go_simp
      refine hK.out _ _ (s_below hH (fun k _ hk => Below.heap_alloc _ _ k hk)) (fun hH3 => ?_)
      clear hK K
      (try simp only [Act.put, List.setIfInBounds_toArray, List.set_cons_zero, List.set_cons_succ])
      refine wpAnyH_ready (rs := [24]) (by kernel_rfl) (by simp) ?_
      refine AllReadyH.cons rfl (fun K hK => ?_) AllReadyH.nil
      rw [if_pos (by rfl)]
      refine wp_append_own_wide _ (.tmp 17) (.tmp 40) 71 rfl W0.heap.size 24 i0 (.int .u32 0) 1 4 Try.underlying71 hi hz0 hz1 hz2 rfl (by decide) v pre.length _ (by kernel_rfl) (hrow.alloc _) ⟨A0.heap.size, 0, none⟩ 1 1 [.int .u32 (be4 y0 y1 y2 y3)] (by kernel_rfl) rfl (cell_one_new _ _ _) (by simp [Value.oneCell']) (by simp [maxLen]; omega) (by omega) (by simp; omega) ?_
      intro v' w1 hown' hgrow _
      obtain ⟨g', cap', rfl⟩ := ownsRow_succ hown'
      obtain ⟨hv1, hv2, _, hk2, hb2⟩ := Boxed.appended BV (by decide) (own_less hrow (by omega)) (by omega) (Nat.le_refl _) (own_less hown' (by omega)) hgrow
      have hr2 := hown'.kept (grownBy_setCell' w1 w.heap.size (.slice (some ⟨g', 0, none⟩) (pre.length + 1) cap')) (.inr (hv1.not_row (by decide) hown').symm)
      have hc1 := hv1.cell
      have hf1 := hv1.frozen
      have hkp : KpB W0.heap.size w.heap.size A0 (w1.setCell ⟨w.heap.size, 0, none⟩ (.slice (some ⟨g', 0, none⟩) (pre.length + 1) cap')) := fun k hk hne => (Below.heap_setCell _ _ _ k hne).trans ((hgrow.block k (by simp; omega) (fun e => by have := own_base hrow k e.symm; omega)).trans (Below.heap_alloc _ _ k (by omega)))
      refine hK.out _ _ (s_below hH3 (fun k he hk => hgrow.block k hk (fun e => by have h1 := own_base hrow k e.symm; have h2 := HQ.out; omega))) (fun hH4 => ?_)
      clear hK K
      (try simp only [Act.put, List.setIfInBounds_toArray, List.set_cons_zero, List.set_cons_succ])
      refine wpAnyH_ready (rs := [25]) (by kernel_rfl) (by simp) ?_
      refine AllReadyH.cons rfl (fun K hK => ?_) AllReadyH.nil
      rw [if_pos (by rfl)]
      go_simp
      refine hK.out _ _ (s_below hH4 (fun k he hk => Below.heap_setCell _ _ _ k (by have h2 := HQ.out; simp only; omega))) (fun hH5 => ?_)
      refine wpAnyH_done (by kernel_rfl) ?_ _
      refine ⟨(KA.out.trans (hk2.from _)), KPA.out.trans hkp, ⟨_, hv2, ?_, trivial⟩, hBA.out.trans hb2, by simp; have := hgrow.size; simp at this; omega⟩
      have := hr2
      simpa [nums, HWD.out] using this
    · rw [if_pos (by rfl)]
      go_simp
      refine hK.out _ _ (s_below hH (fun k _ hk => Below.heap_alloc _ _ k hk)) (fun hH3 => ?_)
      clear hK K
      (try simp only [Act.put, List.setIfInBounds_toArray, List.set_cons_zero, List.set_cons_succ])
      have BVa := BV.alloc (.cells #[.int .u32 (be4 y0 y1 y2 y3)] 24)
      refine wpAnyH_ready (rs := [0]) (by kernel_rfl) (by simp) ?_
      refine AllReadyH.cons rfl (fun K hK => ?_) AllReadyH.nil
      rw [if_pos (by rfl)]
      have hvc := BVa.cell
      go_simp
      refine hK.out _ _ hH3 (fun _ => ?_)
      clear hK K hvc
      (try simp only [Act.put, List.setIfInBounds_toArray, List.set_cons_zero, List.set_cons_succ])
      refine wpAnyH_ready (rs := [24]) (by kernel_rfl) (by simp) ?_
      refine AllReadyH.cons rfl (fun K hK => ?_) AllReadyH.nil
      rw [if_pos (by rfl)]
      refine wp_append_own_wide _ (.tmp 17) (.tmp 40) 71 rfl W0.heap.size 24 i0 (.int .u32 0) 1 4 Try.underlying71 hi hz0 hz1 hz2 rfl (by decide) v pre.length _ (by kernel_rfl) (hrow.alloc _) ⟨A0.heap.size, 0, none⟩ 1 1 [.int .u32 (be4 y0 y1 y2 y3)] (by kernel_rfl) rfl (cell_one_new _ _ _) (by simp [Value.oneCell']) (by simp [maxLen]; omega) (by omega) (by simp; omega) ?_
      intro v' w1 hown' hgrow _
      obtain ⟨g', cap', rfl⟩ := ownsRow_succ hown'
      obtain ⟨hv1, hv2, _, hk2, hb2⟩ := Boxed.appended BV (by decide) (own_less hrow (by omega)) (by omega) (Nat.le_refl _) (own_less hown' (by omega)) hgrow
      have hr2 := hown'.kept (grownBy_setCell' w1 w.heap.size (.slice (some ⟨g', 0, none⟩) (pre.length + 1) cap')) (.inr (hv1.not_row (by decide) hown').symm)
      have hc1 := hv1.cell
      have hf1 := hv1.frozen
      have hkp : KpB W0.heap.size w.heap.size A0 (w1.setCell ⟨w.heap.size, 0, none⟩ (.slice (some ⟨g', 0, none⟩) (pre.length + 1) cap')) := fun k hk hne => (Below.heap_setCell _ _ _ k hne).trans ((hgrow.block k (by simp; omega) (fun e => by have := own_base hrow k e.symm; omega)).trans (Below.heap_alloc _ _ k (by omega)))
      refine hK.out _ _ (s_below hH3 (fun k he hk => hgrow.block k hk (fun e => by have h1 := own_base hrow k e.symm; have h2 := HQ.out; omega))) (fun hH4 => ?_)
      clear hK K
      (try simp only [Act.put, List.setIfInBounds_toArray, List.set_cons_zero, List.set_cons_succ])
      refine wpAnyH_ready (rs := [25]) (by kernel_rfl) (by simp) ?_
      refine AllReadyH.cons rfl (fun K hK => ?_) AllReadyH.nil
      rw [if_pos (by rfl)]
      go_simp
      refine hK.out _ _ (s_below hH4 (fun k he hk => Below.heap_setCell _ _ _ k (by have h2 := HQ.out; simp only; omega))) (fun hH5 => ?_)
      refine wpAnyH_done (by kernel_rfl) ?_ _
      refine ⟨(KA.out.trans (hk2.from _)), KPA.out.trans hkp, ⟨_, hv2, ?_, trivial⟩, hBA.out.trans hb2, by simp; have := hgrow.size; simp at this; omega⟩
      have := hr2
      simpa [nums, HWD.out] using this
  case done =>
    rintro D ys W hD rfl ⟨⟨v, hv, hrow, _⟩, hB, hsz⟩ hK
    have hc := hv.cell
    gi_wp2
    refine ⟨by simp, .inl ⟨_, _, rfl, run_takeDeferred hK, ?_⟩⟩
    refine ⟨_, results_tmp2 rfl _ _ _, v, rfl, ?_, hB.trans (belowK_b (w := w) (Nat.le_refl _) W D _ _ (by omega) hK rfl rfl)⟩
    have hr := ownsRow_putObj hrow (.deferred none) hK rfl
    rw [chTo_length] at hr
    exact own_less hr (by omega)
  case stop =>
    rintro D c pre W _ _ h _
    exact h.elim
end Go.Proofs.YtgiapegacbibeaaX

end
