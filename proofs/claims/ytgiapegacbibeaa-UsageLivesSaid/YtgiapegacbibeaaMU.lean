import Derived.Test.YtgiapegacbibeaaIRTake
import Derived.Test.YtgiapegacbibeaaMTake
import Derived.Test.YtgiapegacbibeaaUPr
import Derived.Maps.OwnOps
import Derived.Maps.Views
import Derived.Deep.MidRow
import Derived.BigGuard
import Derived.Test.YtgiapegacbibeaaPtr
section
/- usage: what is met, in plain words. -/
namespace Go.Proofs.Ytgiapegacbibeaa.UM
open Go.RowKit Go.Proofs.YtgiapegacbibeaaX
set_option linter.unusedVariables false
/-- An address is met: what is met, and how many live in each slot. -/
def meetN (K S a : Int) (l v : List Int) : Option (List Int × List Int) :=
  if (1 ≤ a ∧ a ≤ 4 * K * S) ∧ (4 * K + 14) / 15 ≤ (a - 1) % (4 * K) ∧ a ∉ l then some (a :: l, v.set ((a - 1) / (4 * K)).toNat (v.getD ((a - 1) / (4 * K)).toNat 0 + 1)) else none
def allN (K S : Int) : List Int → List Int → List Int → Option (List Int × List Int)
  | [], l, v => some (l, v)
  | a :: r, l, v => if a = 0 then allN K S r l v else match meetN K S a l v with
    | none => none
    | some (l', v') => allN K S r l' v'
/-- What is kept: the counts are small, one for each that is met. -/
def Inv (n : Nat) (l v : List Int) : Prop := v.length = n ∧ ∀ i, 0 ≤ v.getD i 0 ∧ v.getD i 0 ≤ (l.length : Int)
theorem meet_inv {K S a : Int} {n : Nat} {l v l' v' : List Int} (h : Inv n l v) (hm : meetN K S a l v = some (l', v')) : Inv n l' v' ∧ l'.length = l.length + 1 := by
  unfold meetN at hm
  split at hm
  · cases hm
    refine ⟨⟨by rw [List.length_set]; exact h.1, fun i => ?_⟩, rfl⟩
    have h0 := h.2 i
    have h1 := h.2 ((a - 1) / (4 * K)).toNat
    rw [List.length_cons, List.getD_eq_getElem?_getD, List.getElem?_set]
    split
    · split
      · simp only [Option.getD_some]; omega
      · simp only [Option.getD_none]; omega
    · rw [← List.getD_eq_getElem?_getD]; omega
  · cases hm
theorem all_inv {K S : Int} {n : Nat} : ∀ (r : List Int) {l v l' v' : List Int}, Inv n l v → allN K S r l v = some (l', v') → Inv n l' v' ∧ l'.length ≤ l.length + r.length
  | [], _, _, _, _, h, hm => by cases hm; exact ⟨h, Nat.le_add_right _ _⟩
  | a :: r, l, v, l', v', h, hm => by
    unfold allN at hm
    split at hm
    · obtain ⟨h1, h2⟩ := all_inv r h hm
      exact ⟨h1, by rw [List.length_cons]; omega⟩
    · split at hm
      · cases hm
      · rename_i l1 v1 hq
        obtain ⟨h1, h2⟩ := meet_inv h hq
        obtain ⟨h3, h4⟩ := all_inv r h1 hm
        exact ⟨h3, by rw [List.length_cons]; omega⟩
end Go.Proofs.Ytgiapegacbibeaa.UM

end

section
/- usage.look.meet: an address is met. -/
namespace Go.Proofs.Ytgiapegacbibeaa.UM
open Go.RowKit Go.Proofs.YtgiapegacbibeaaX Go.Proofs.YtgiapegacbibeaaW.PrintWords
set_option linter.unusedVariables false
abbrev lookCells (K N S : Int) (rv : Value) (gm gv n : Nat) : Array Value := #[.int .i64 K, .int .i64 N, .int .i64 S, rv, .map (some gm), .slice (some ⟨gv, 0, none⟩) n n]
theorem sizeGeo : (Try.prog.info? 23).map (·.size) = some 3 := by kernel_rfl
theorem sizeInt : (Try.prog.info? 3).map (·.size) = some 1 := by kernel_rfl
theorem zeroB (w : World) : (zeroValue 4).run Try.prog w = .ok (.bool false) w := by kernel_rfl
theorem wf_u32 {a : Int} (ha : 0 ≤ a ∧ a < 4294967296) : (Lit.int .u32 a).wf = true := by
  have h : (0 : Int) ≤ a ∧ a ≤ 4294967295 := ⟨ha.1, by omega⟩
  have h2 : IntKind.u32.min ≤ a ∧ a ≤ IntKind.u32.max := h
  simpa [Lit.wf] using h2
theorem key_u32 (a : Int) (ha : 0 ≤ a ∧ a < 4294967296) : keyOf Try.prog 24 (.int .u32 a) = some (.int .u32 a) := by
  have h := Try.underlying24
  simp only [keyOf, mapKey, h, wf_u32 ha, and_self, if_true]
theorem pe_bool_inv {P : Program} {e : TypeId} (he : P.underlying e = some .bool) {v : Value} {z : DataW Unit × List MemPlace} (h : plainElem P e v = some z) : ∃ b, v = .bool b ∧ z = (.lit (.bool b), []) := by
  unfold plainElem at h
  rw [he] at h
  cases v <;> simp at h
  exact ⟨_, rfl, h.symm⟩
theorem nums_set (k : IntKind) (v : List Int) (s : Nat) (x : Int) (h : s < v.length) : (nums k v).take s ++ nums k [x] ++ (nums k v).drop (s + (nums k [x]).length) = nums k (v.set s x) := by
  rw [nums_length, List.length_singleton]
  unfold nums
  rw [List.map_set, List.set_eq_take_append_cons_drop, if_pos (by rw [List.length_map]; exact h)]
  simp
/-- What a call keeps: all but the blocks of S and what is new since. -/
structure Kp (w W : World) (S : Nat → Prop) : Prop where
  os : W.os = w.os
  tape : W.tape = w.tape
  output : W.output = w.output
  size : w.heap.size ≤ W.heap.size
  block : ∀ i, i < w.heap.size → ¬ S i → W.heap[i]? = w.heap[i]?
theorem Kp.k {w W : World} {S : Nat → Prop} (h : Kp w W S) : Kept w W S := ⟨h.size, h.block⟩
theorem Kp.refl (w : World) (S : Nat → Prop) : Kp w w S := ⟨rfl, rfl, rfl, Nat.le_refl _, fun _ _ _ => rfl⟩
theorem Kp.of_below {w W : World} (h : Below w.heap.size w W) (S : Nat → Prop) : Kp w W S := ⟨h.os, h.tape, h.output, h.size, fun i hi _ => h.block i hi⟩
theorem Kp.then_ {w W W2 : World} {S S2 : Nat → Prop} (h : Kp w W S) (k : Kp W W2 S2) (hs : ∀ k, S2 k → S k ∨ w.heap.size ≤ k) : Kp w W2 S :=
  ⟨k.os.trans h.os, k.tape.trans h.tape, k.output.trans h.output, Nat.le_trans h.size k.size, fun i hi hn => (k.block i (Nat.lt_of_lt_of_le hi h.size) (fun h2 => (hs i h2).elim hn (fun h3 => by omega))).trans (h.block i hi hn)⟩
theorem Kp.of_grown {w W W2 : World} {S : Nat → Prop} {row : Option Nat} (hg : W.grownBy W2 row) (h : Kp w W S) (hr : ∀ k, row = some k → S k ∨ w.heap.size ≤ k) : Kp w W2 S :=
  h.then_ (S2 := fun k => row = some k) ⟨hg.os, hg.tape, hg.output, hg.size, fun i hi hn => hg.block i hi (fun he => hn he.symm)⟩ hr
theorem Kp.below {w W W2 : World} {S : Nat → Prop} (h : Kp w W S) (hb : Below W.heap.size W W2) : Kp w W2 S := h.then_ (Kp.of_below hb (fun _ => False)) (fun _ hk => hk.elim)
/-- Where all that is written is new since, nothing elder has turned. -/
theorem Kp.to_below {w W W2 : World} {S : Nat → Prop} (hb : Below w.heap.size w W) (h : Kp W W2 S) (hs : ∀ k, S k → w.heap.size ≤ k) : Below w.heap.size w W2 :=
  ⟨h.os.trans hb.os, h.tape.trans hb.tape, h.output.trans hb.output, Nat.le_trans hb.size h.size, fun i hi => (h.block i (Nat.lt_of_lt_of_le hi hb.size) (fun h2 => by have := hs i h2; omega)).trans (hb.block i hi)⟩
/-- What a look is in memory. -/
structure LK (W : World) (gl gm gv n : Nat) (K N S : Int) (rv : Value) (l v : List Int) : Prop where
  blk : W.heap[gl]? = some (.cells (lookCells K N S rv gm gv n) 66 (0, 0))
  map : ∃ D : DataW Unit, W.ownsMap Try.prog 24 (plainElem Try.prog 4) gm l.length D ∧ Maps.IsMap D ∧ ∀ a : Int, D.atKey (.int .u32 a) (.lit (.bool false)) = .lit (.bool (decide (a ∈ l)))
  vec : W.heap[gv]? = some (.cells (nums .i64 v).toArray 3 (0, 0))
  ne1 : gl ≠ gm
  ne2 : gl ≠ gv
  ne3 : gm ≠ gv
theorem LK.move {W W1 : World} {gl gm gv n : Nat} {K N S : Int} {rv : Value} {l v : List Int} (h : LK W gl gm gv n K N S rv l v) (h1 : W1.heap[gl]? = W.heap[gl]?) (h2 : W1.heap[gm]? = W.heap[gm]?) (h3 : W1.heap[gv]? = W.heap[gv]?) : LK W1 gl gm gv n K N S rv l v := by
  obtain ⟨D, ⟨es, clock, hb, F, hs, hD⟩, h5⟩ := h.map
  exact ⟨h1.trans h.blk, ⟨D, ⟨es, clock, h2.trans hb, F, hs, hD⟩, h5⟩, h3.trans h.vec, h.ne1, h.ne2, h.ne3⟩
theorem LK.lts {W : World} {gl gm gv n : Nat} {K N S : Int} {rv : Value} {l v : List Int} (h : LK W gl gm gv n K N S rv l v) : gl < W.heap.size ∧ gm < W.heap.size ∧ gv < W.heap.size := by
  obtain ⟨D, hm, _⟩ := h.map
  exact ⟨blk_lt h.blk, hm.lt, blk_lt h.vec⟩
theorem LK.below {W W1 : World} {gl gm gv n : Nat} {K N S : Int} {rv : Value} {l v : List Int} (h : LK W gl gm gv n K N S rv l v) (hb : Below W.heap.size W W1) : LK W1 gl gm gv n K N S rv l v :=
  h.move (hb.block _ h.lts.1) (hb.block _ h.lts.2.1) (hb.block _ h.lts.2.2)
theorem LK.look {W : World} {gl gm gv n : Nat} {K N S : Int} {rv : Value} {l v : List Int} (h : LK W gl gm gv n K N S rv l v) (a : Int) (ha : 0 ≤ a ∧ a < 4294967296) :
    (Instr.lookup 64 (.map (some gm)) (.int .u32 a) false).run Try.prog W = .ok (.bool (decide (a ∈ l))) W := by
  obtain ⟨D, hm, _, hD⟩ := h.map
  obtain ⟨x, ps, hrun, hv⟩ := hm.lookup (Maps.int_keyed Try.underlying24) Try.underlying64 (zeroB W) (plainElem_bool Try.underlying4 false) (key := .int .u32 a) (kl := .int .u32 a) (key_u32 a ha)
  rw [hD a] at hv
  rw [hrun]
  obtain ⟨y, rfl, hy⟩ := pe_bool_inv Try.underlying4 hv
  simp only [Prod.mk.injEq, DataW.lit.injEq, Lit.bool.injEq] at hy
  rw [hy.1]
theorem LK.range {W : World} {gl gm gv n : Nat} {K N S : Int} {rv : Value} {l v : List Int} (h : LK W gl gm gv n K N S rv l v) : W.rangeAt gl 0 [.int .i64 K, .int .i64 N, .int .i64 S] :=
  World.rangeAt_of_block h.blk 0 3
theorem LK.c4 {W : World} {gl gm gv n : Nat} {K N S : Int} {rv : Value} {l v : List Int} (h : LK W gl gm gv n K N S rv l v) : W.cell? ⟨gl, 4, none⟩ = some (.map (some gm)) := blk_cell h.blk 4
theorem LK.c5 {W : World} {gl gm gv n : Nat} {K N S : Int} {rv : Value} {l v : List Int} (h : LK W gl gm gv n K N S rv l v) : W.cell? ⟨gl, 5, none⟩ = some (.slice (some ⟨gv, 0, none⟩) n n) := blk_cell h.blk 5
theorem LK.c3 {W : World} {gl gm gv n : Nat} {K N S : Int} {rv : Value} {l v : List Int} (h : LK W gl gm gv n K N S rv l v) : W.cell? ⟨gl, 3, none⟩ = some rv := blk_cell h.blk 3
/-! ### blocks, Place: plain -/
theorem blocks_f (K N S : Int) (hK : 1 ≤ K ∧ K ≤ 255) (hS : 1 ≤ S ∧ S ≤ 128) : Go.Proofs.Ytgiapegacbibeaa.PUsageLives.usage_blocks.f K N S = some (4 * K) := by
  unfold Go.Proofs.Ytgiapegacbibeaa.PUsageLives.usage_blocks.f
  rw [if_neg (by omega), if_neg (by omega), if_neg (by omega), if_neg (by omega), IntWalk.wrap64_in _ (by omega)]
theorem area (K S : Int) (hK : 1 ≤ K ∧ K ≤ 255) (hS : 1 ≤ S ∧ S ≤ 128) : 4 ≤ 4 * K * S ∧ 4 * K * S ≤ 130560 := by
  have h1 : 4 * K * 1 ≤ 4 * K * S := Int.mul_le_mul_of_nonneg_left (by omega) (by omega)
  have h2 : 4 * K * S ≤ 4 * K * 128 := Int.mul_le_mul_of_nonneg_left (by omega) (by omega)
  omega
theorem place_no (K N S a : Int) (hK : 1 ≤ K ∧ K ≤ 255) (hS : 1 ≤ S ∧ S ≤ 128) (ha : 0 ≤ a ∧ a < 4294967296) (h : ¬ (1 ≤ a ∧ a ≤ 4 * K * S)) : Go.Proofs.Ytgiapegacbibeaa.PUsageLives.usage_Place.f K N S a = some (0, 0, 5) := by
  have hA := area K S hK hS
  unfold Go.Proofs.Ytgiapegacbibeaa.PUsageLives.usage_Place.f
  rw [blocks_f K N S hK hS, Option.bind_some, if_neg (by omega)]
  by_cases h0 : a = 0
  · rw [if_pos h0]
  · rw [if_neg h0, IntWalk.wrap64_in (4 * K * S) (by omega), IntWalk.u64_in _ (by omega), IntWalk.u64_in _ (by omega), if_pos (by omega)]
theorem place_yes (K N S a : Int) (hK : 1 ≤ K ∧ K ≤ 255) (hS : 1 ≤ S ∧ S ≤ 128) (h : 1 ≤ a ∧ a ≤ 4 * K * S) : Go.Proofs.Ytgiapegacbibeaa.PUsageLives.usage_Place.f K N S a = some ((a - 1) / (4 * K), (a - 1) % (4 * K), 0) := by
  have hA := area K S hK hS
  have hq : (a - 1) / (4 * K) ≤ a - 1 := Int.ediv_le_self _ (by omega)
  have hq0 : 0 ≤ (a - 1) / (4 * K) := Int.ediv_nonneg (by omega) (by omega)
  unfold Go.Proofs.Ytgiapegacbibeaa.PUsageLives.usage_Place.f
  rw [blocks_f K N S hK hS, Option.bind_some, if_neg (by omega), if_neg (by omega), IntWalk.wrap64_in (4 * K * S) (by omega), IntWalk.u64_in a (by omega), IntWalk.u64_in _ (by omega), if_neg (by omega),
    IntWalk.wrap64_in a (by omega), IntWalk.wrap64_in (a - 1) (by omega), Int.tdiv_eq_ediv_of_nonneg (by omega), Int.tmod_eq_emod_of_nonneg (by omega), IntWalk.wrap64_in _ (by omega)]
theorem place_in {K S a : Int} (hK : 1 ≤ K ∧ K ≤ 255) (hS : 1 ≤ S ∧ S ≤ 128) (h : 1 ≤ a ∧ a ≤ 4 * K * S) : 0 ≤ (a - 1) / (4 * K) ∧ (a - 1) / (4 * K) < S ∧ 0 ≤ (a - 1) % (4 * K) ∧ (a - 1) % (4 * K) < 4 * K := by
  refine ⟨Int.ediv_nonneg (by omega) (by omega), ?_, Int.emod_nonneg _ (by omega), Int.emod_lt_of_pos _ (by omega)⟩
  refine Int.ediv_lt_of_lt_mul (by omega) ?_
  rw [Int.mul_comm S]
  omega
set_option maxHeartbeats 2000000 in
set_option maxRecDepth 100000 in
theorem meet_bad (w : World) (gl gm gv n : Nat) (K N S : Int) (rv : Value) (l v : List Int) (a : Int) (hL : LK w gl gm gv n K N S rv l v) (hK : 1 ≤ K ∧ K ≤ 255) (hS : 1 ≤ S ∧ S ≤ 128) (ha : 0 ≤ a ∧ a < 4294967296) (h : ¬ (1 ≤ a ∧ a ≤ 4 * K * S)) :
    Calls Try.prog 26 #[.pointer (some ⟨gl, 0, none⟩), .int .u32 a] w fun e w' => e = .returned (.int .i64 5) ∧ Below w.heap.size w w' := by
  have hu23 := Aside0.mk Try.underlying23
  have HL0 := Aside0.mk hL
  have HP := Aside0.mk (place_no K N S a hK hS ha h)
  clear h hL ha
  go_enter Try.func26, Try.ntmps26
  go_wp2_with (first
    | ((with_reducible refine gate_dst (N := 12) rfl ?_); refine wpList_load_mid rfl 23 (.tmp 11) (by kernel_rfl) gl 0 (by kernel_rfl) [.int .i64 K, .int .i64 N, .int .i64 S] _ (HL0.out.range) hu23.out rfl sizeGeo ?_)
    | (go_at_call 9; refine (Go.Proofs.Ytgiapegacbibeaa.PUsageLives.usage_Place.calls K N S a 0 0 5 _ HP.out).mono ?_; rintro e w1 ⟨rfl, hb⟩; have HB1 := Aside0.mk (hb); have HL1 := Aside0.mk (HL0.out.below hb); clear hb))
  go_ret
  exact ⟨rfl, HB1.out⟩
set_option maxHeartbeats 2000000 in
set_option maxRecDepth 100000 in
theorem meet_sum (w : World) (gl gm gv n : Nat) (K N S : Int) (rv : Value) (l v : List Int) (a : Int) (hL : LK w gl gm gv n K N S rv l v) (hK : 1 ≤ K ∧ K ≤ 255) (hS : 1 ≤ S ∧ S ≤ 128) (ha : 0 ≤ a ∧ a < 4294967296) (h : 1 ≤ a ∧ a ≤ 4 * K * S) (hq : (a - 1) % (4 * K) < (4 * K + 14) / 15) :
    Calls Try.prog 26 #[.pointer (some ⟨gl, 0, none⟩), .int .u32 a] w fun e w' => e = .returned (.int .i64 5) ∧ Below w.heap.size w w' := by
  have hu23 := Aside0.mk Try.underlying23
  have HL0 := Aside0.mk hL
  have HP := Aside0.mk (place_yes K N S a hK hS h)
  obtain ⟨p1, p2, p3, p4⟩ := place_in hK hS h
  have HBF := Aside0.mk (blocks_f K N S hK hS)
  obtain ⟨B, hB⟩ : ∃ B : Int, 4 * K = B := ⟨_, rfl⟩
  rw [hB] at HP HBF p1 p2 p3 p4 hq
  obtain ⟨s, hs⟩ : ∃ s : Nat, (a - 1) / B = (s : Int) := ⟨((a - 1) / B).toNat, by omega⟩
  obtain ⟨b, hb⟩ : ∃ b : Int, (a - 1) % B = b := ⟨_, rfl⟩
  rw [hs, hb] at HP
  rw [hb] at p3 p4 hq
  rw [hs] at p1 p2
  have b1 : 4 ≤ B := by omega
  have b2 : B ≤ 1020 := by omega
  have q1 : b < (B + 15 - 1) / 15 := by omega
  clear h hL ha hs hb hB hK hS
  go_enter Try.func26, Try.ntmps26
  go_wp2_with (first
    | ((with_reducible refine gate_dst (N := 12) rfl ?_); refine wpList_load_mid rfl 23 (.tmp 11) (by kernel_rfl) gl 0 (by kernel_rfl) [.int .i64 K, .int .i64 N, .int .i64 S] _ (HL0.out.range) hu23.out rfl sizeGeo ?_)
    | (go_at_call 9; refine (Go.Proofs.Ytgiapegacbibeaa.PUsageLives.usage_Place.calls K N S a (s : Int) b 0 _ HP.out).mono ?_; rintro e w1 ⟨rfl, hb⟩; have HB1 := Aside0.mk (hb); have HL1 := Aside0.mk (HL0.out.below hb); clear hb)
    | ((with_reducible refine gate_dst (N := 25) rfl ?_); refine BigFrame.wpList_want (by kernel_rfl) (fun K' hK' => ?_); refine wp_load_mid 23 (.tmp 24) rfl gl 0 (by kernel_rfl) [.int .i64 K, .int .i64 N, .int .i64 S] _ (HL1.out.range) hu23.out rfl sizeGeo ?_; refine hK' _ _ ?_; clear hK')
    | (have hz := HB1.out; clear hz; go_at_call 18; refine (Go.Proofs.Ytgiapegacbibeaa.PUsageLives.usage_blocks.calls K N S B _ HBF.out).mono ?_; rintro e w2 ⟨rfl, hb⟩; have HB2 := Aside0.mk (below_step HB1.out hb); have HL2 := Aside0.mk (HL1.out.below hb); clear hb))
  go_ret
  exact ⟨rfl, HB2.out⟩
set_option maxHeartbeats 2000000 in
set_option maxRecDepth 100000 in
theorem meet_seen (w : World) (gl gm gv n : Nat) (K N S : Int) (rv : Value) (l v : List Int) (a : Int) (hL : LK w gl gm gv n K N S rv l v) (hK : 1 ≤ K ∧ K ≤ 255) (hS : 1 ≤ S ∧ S ≤ 128) (ha : 0 ≤ a ∧ a < 4294967296) (h : 1 ≤ a ∧ a ≤ 4 * K * S) (hq : (4 * K + 14) / 15 ≤ (a - 1) % (4 * K)) (hm : a ∈ l) :
    Calls Try.prog 26 #[.pointer (some ⟨gl, 0, none⟩), .int .u32 a] w fun e w' => e = .returned (.int .i64 5) ∧ Below w.heap.size w w' := by
  have hu23 := Aside0.mk Try.underlying23
  have HL0 := Aside0.mk hL
  have HP := Aside0.mk (place_yes K N S a hK hS h)
  obtain ⟨p1, p2, p3, p4⟩ := place_in hK hS h
  have HBF := Aside0.mk (blocks_f K N S hK hS)
  obtain ⟨B, hB⟩ : ∃ B : Int, 4 * K = B := ⟨_, rfl⟩
  rw [hB] at HP HBF p1 p2 p3 p4 hq
  obtain ⟨s, hs⟩ : ∃ s : Nat, (a - 1) / B = (s : Int) := ⟨((a - 1) / B).toNat, by omega⟩
  obtain ⟨b, hb⟩ : ∃ b : Int, (a - 1) % B = b := ⟨_, rfl⟩
  rw [hs, hb] at HP
  rw [hb] at p3 p4 hq
  rw [hs] at p1 p2
  have b1 : 4 ≤ B := by omega
  have b2 : B ≤ 1020 := by omega
  have q1 : ¬ b < (B + 15 - 1) / 15 := by omega
  have HA := Aside0.mk ha
  have HM := Aside0.mk (decide_eq_true hm)
  clear h hL ha hs hb hB hK hS hm hq
  go_enter Try.func26, Try.ntmps26
  go_wp2_with (first
    | ((with_reducible refine gate_dst (N := 12) rfl ?_); refine wpList_load_mid rfl 23 (.tmp 11) (by kernel_rfl) gl 0 (by kernel_rfl) [.int .i64 K, .int .i64 N, .int .i64 S] _ (HL0.out.range) hu23.out rfl sizeGeo ?_)
    | (go_at_call 9; refine (Go.Proofs.Ytgiapegacbibeaa.PUsageLives.usage_Place.calls K N S a (s : Int) b 0 _ HP.out).mono ?_; rintro e w1 ⟨rfl, hb⟩; have HB1 := Aside0.mk (hb); have HL1 := Aside0.mk (HL0.out.below hb); clear hb)
    | ((with_reducible refine gate_dst (N := 25) rfl ?_); refine BigFrame.wpList_want (by kernel_rfl) (fun K' hK' => ?_); refine wp_load_mid 23 (.tmp 24) rfl gl 0 (by kernel_rfl) [.int .i64 K, .int .i64 N, .int .i64 S] _ (HL1.out.range) hu23.out rfl sizeGeo ?_; refine hK' _ _ ?_; clear hK')
    | (have hz := HB1.out; clear hz; go_at_call 18; refine (Go.Proofs.Ytgiapegacbibeaa.PUsageLives.usage_blocks.calls K N S B _ HBF.out).mono ?_; rintro e w2 ⟨rfl, hb⟩; have HB2 := Aside0.mk (below_step HB1.out hb); have HL2 := Aside0.mk (HL1.out.below hb); clear hb; have hlook := HL2.out.look a HA.out; have c4 := HL2.out.c4; rw [HM.out] at hlook))
  go_ret
  exact ⟨rfl, HB2.out⟩
set_option maxHeartbeats 2000000 in
set_option maxRecDepth 100000 in
theorem meet_ok (w : World) (gl gm gv n : Nat) (K N S : Int) (rv : Value) (l v : List Int) (a : Int) (hL : LK w gl gm gv n K N S rv l v) (hK : 1 ≤ K ∧ K ≤ 255) (hS : 1 ≤ S ∧ S ≤ 128) (ha : 0 ≤ a ∧ a < 4294967296) (h : 1 ≤ a ∧ a ≤ 4 * K * S) (hq : (4 * K + 14) / 15 ≤ (a - 1) % (4 * K)) (hm : a ∉ l) (hn : (n : Int) = S) (hi : Inv n l v) (hl : l.length ≤ 4611686018427387904) :
    Calls Try.prog 26 #[.pointer (some ⟨gl, 0, none⟩), .int .u32 a] w fun e w' => e = .returned (.int .i64 0) ∧ LK w' gl gm gv n K N S rv (a :: l) (v.set ((a - 1) / (4 * K)).toNat (v.getD ((a - 1) / (4 * K)).toNat 0 + 1)) ∧ Kp w w' (fun k => k = gm ∨ k = gv) := by
  have hu23 := Aside0.mk Try.underlying23
  have HL0 := Aside0.mk hL
  have HP := Aside0.mk (place_yes K N S a hK hS h)
  obtain ⟨p1, p2, p3, p4⟩ := place_in hK hS h
  have HBF := Aside0.mk (blocks_f K N S hK hS)
  obtain ⟨B, hB⟩ : ∃ B : Int, 4 * K = B := ⟨_, rfl⟩
  rw [hB] at HP HBF p1 p2 p3 p4 hq
  obtain ⟨s, hs⟩ : ∃ s : Nat, (a - 1) / B = (s : Int) := ⟨((a - 1) / B).toNat, by omega⟩
  obtain ⟨b, hb⟩ : ∃ b : Int, (a - 1) % B = b := ⟨_, rfl⟩
  rw [hs, hb] at HP
  rw [hb] at p3 p4 hq
  rw [hs] at p1 p2
  have b1 : 4 ≤ B := by omega
  have b2 : B ≤ 1020 := by omega
  have q1 : ¬ b < (B + 15 - 1) / 15 := by omega
  have HA := Aside0.mk ha
  have HM := Aside0.mk (decide_eq_false hm)
  have hsn : s < v.length := by rw [hi.1]; omega
  have q2 : (s : Int) < (n : Int) := by omega
  have q3 : (0 : Int) ≤ (s : Int) := Int.natCast_nonneg _
  have hst : ((a - 1) / (4 * K)).toNat = s := by rw [hB, hs, Int.toNat_natCast]
  rw [hst]
  have hv := hi.2 s
  obtain ⟨y, hy⟩ : ∃ y, v.getD s 0 = y := ⟨_, rfl⟩
  rw [hy] at hv ⊢
  have y0 : 0 ≤ y := hv.1
  have y1 : y ≤ 4611686018427387904 := by omega
  have HY := Aside0.mk (show (nums .i64 v).toArray[s]? = some (.int .i64 y) by rw [← hy, List.getD_eq_getElem?_getD]; simp [nums, hsn])
  have HVS := Aside0.mk (show s + 1 ≤ v.length from hsn)
  have HVL := Aside0.mk hsn
  have HLL := Aside0.mk hl
  clear h hL ha hs hb hB hK hS hm hq hn hi hl hst hv hy hsn
  go_enter Try.func26, Try.ntmps26
  go_wp2_with (first
    | ((with_reducible refine gate_dst (N := 12) rfl ?_); refine wpList_load_mid rfl 23 (.tmp 11) (by kernel_rfl) gl 0 (by kernel_rfl) [.int .i64 K, .int .i64 N, .int .i64 S] _ (HL0.out.range) hu23.out rfl sizeGeo ?_)
    | (go_at_call 9; refine (Go.Proofs.Ytgiapegacbibeaa.PUsageLives.usage_Place.calls K N S a (s : Int) b 0 _ HP.out).mono ?_; rintro e w1 ⟨rfl, hb⟩; have HB1 := Aside0.mk (hb); have HL1 := Aside0.mk (HL0.out.below hb); clear hb)
    | ((with_reducible refine gate_dst (N := 25) rfl ?_); refine BigFrame.wpList_want (by kernel_rfl) (fun K' hK' => ?_); refine wp_load_mid 23 (.tmp 24) rfl gl 0 (by kernel_rfl) [.int .i64 K, .int .i64 N, .int .i64 S] _ (HL1.out.range) hu23.out rfl sizeGeo ?_; refine hK' _ _ ?_; clear hK')
    | (have hz := HB1.out; clear hz; go_at_call 18; refine (Go.Proofs.Ytgiapegacbibeaa.PUsageLives.usage_blocks.calls K N S B _ HBF.out).mono ?_; rintro e w2 ⟨rfl, hb⟩; have HB2 := Aside0.mk (below_step HB1.out hb); have HL2 := Aside0.mk (HL1.out.below hb); clear hb; have hlook := HL2.out.look a HA.out; have c4 := HL2.out.c4; rw [HM.out] at hlook; obtain ⟨D, hown, hD1, hD2⟩ := HL2.out.map; have HO := Aside0.mk hown; have HD1 := Aside0.mk hD1; have HD2 := Aside0.mk hD2; clear hown hD1 hD2)
    | (at_mapUpdate; refine wpList_mapUpdate_own _ rfl _ _ _ 64 rfl 24 4 (Maps.int_keyed Try.underlying24) Try.underlying64 (plainElem Try.prog 4) gm l.length D rfl HO.out (by have := HLL.out; unfold maxLen; omega) _ _ (.int .u32 a) rfl rfl (key_u32 a HA.out) (.lit (.bool true)) [] (plainElem_bool Try.underlying4 true) ?_; intro w3 hown hg; have HO3 := Aside0.mk (hown); have HB3 := Aside0.mk ((Kp.of_below HB2.out (fun k => k = gm ∨ k = gv)).then_ (Kp.of_grown hg (Kp.refl _ (fun k => k = gm ∨ k = gv)) (fun k e => .inl (.inl (Option.some.inj e).symm))) (fun k hk => .inl hk)); have BL3 := Aside0.mk ((hg.block gl HL2.out.lts.1 (fun e => HL2.out.ne1 (Option.some.inj e))).trans HL2.out.blk); have BV3 := Aside0.mk ((hg.block gv HL2.out.lts.2.2 (fun e => HL2.out.ne3 (Option.some.inj e).symm)).trans HL2.out.vec); clear hown hg hlook c4; have c5 : w3.cell? ⟨gl, 5, none⟩ = some (.slice (some ⟨gv, 0, none⟩) n n) := blk_cell BL3.out 5; have cv : w3.cell? ⟨gv, s, none⟩ = some (.int .i64 y) := by have h1 := blk_cell BV3.out s; rw [h1]; exact HY.out)
    | ((with_reducible refine gate_store (t := 3) (p := 53) (v := .tmp 52) rfl ?_); refine ev_store (by rfl) 3 (.tmp 53) (.tmp 52) (by rfl) gv s (nums .i64 v) (nums .i64 [y + 1]) (.int .i64 (y + 1)) (by kernel_rfl) (by rfl) (by rfl) 3 BV3.out sizeInt (by rw [nums_length, nums_length]; exact HVS.out) (one_nums _ _) ?_; intro w4 hbox hg; rw [nums_set _ _ _ _ HVL.out] at hbox; have BV4 := Aside0.mk (hbox); have BL4 := Aside0.mk ((hg.block gl (blk_lt BL3.out) (fun e => HL2.out.ne2 (Option.some.inj e))).trans BL3.out); have HO4 := Aside0.mk (HO3.out.kept hg (fun e => HL2.out.ne3 (Option.some.inj e))); have HB4 := Aside0.mk (Kp.of_grown hg HB3.out (fun k e => .inl (.inr (Option.some.inj e).symm))); clear hbox hg c5 cv))
  go_ret
  refine ⟨rfl, ⟨BL4.out, ⟨_, HO4.out, HD1.out.put _ _, fun a' => ?_⟩, BV4.out, HL2.out.ne1, HL2.out.ne2, HL2.out.ne3⟩, HB4.out⟩
  by_cases e : a' = a
  · subst e
    rw [Maps.atKey_put_same HD1.out (by trivial)]
    simp
  · rw [Maps.atKey_put_other (by intro h; cases h; exact e rfl), HD2.out a']
    simp [e]
end Go.Proofs.Ytgiapegacbibeaa.UM

end

section
/- usage.look.all: addresses are met. -/
namespace Go.Proofs.Ytgiapegacbibeaa.UM
open Go.RowKit Go.Proofs.YtgiapegacbibeaaX Go.Proofs.YtgiapegacbibeaaW.PrintWords
set_option linter.unusedVariables false
/-- What a step of a look answers: none: the form's error; else what is met. -/
def MP (gl gm gv n : Nat) (K N S : Int) (rv : Value) (w : World) : Option (List Int × List Int) → Ending → World → Prop
  | none, e, w' => e = .returned (.int .i64 5) ∧ Kp w w' (fun k => k = gm ∨ k = gv)
  | some (l', v'), e, w' => e = .returned (.int .i64 0) ∧ LK w' gl gm gv n K N S rv l' v' ∧ Kp w w' (fun k => k = gm ∨ k = gv)
theorem meet_any (w : World) (gl gm gv n : Nat) (K N S : Int) (rv : Value) (l v : List Int) (a : Int) (hL : LK w gl gm gv n K N S rv l v) (hK : 1 ≤ K ∧ K ≤ 255) (hS : 1 ≤ S ∧ S ≤ 128) (ha : 0 ≤ a ∧ a < 4294967296)
    (hn : (n : Int) = S) (hi : Inv n l v) (hl : l.length ≤ 4611686018427387904) :
    Calls Try.prog 26 #[.pointer (some ⟨gl, 0, none⟩), .int .u32 a] w (MP gl gm gv n K N S rv w (meetN K S a l v)) := by
  unfold meetN
  by_cases h1 : 1 ≤ a ∧ a ≤ 4 * K * S
  · by_cases h2 : (4 * K + 14) / 15 ≤ (a - 1) % (4 * K)
    · by_cases h3 : a ∈ l
      · rw [if_neg (fun h => h.2.2 h3)]
        exact (meet_seen w gl gm gv n K N S rv l v a hL hK hS ha h1 h2 h3).mono fun e w' h => ⟨h.1, Kp.of_below h.2 _⟩
      · rw [if_pos ⟨h1, h2, h3⟩]
        exact (meet_ok w gl gm gv n K N S rv l v a hL hK hS ha h1 h2 h3 hn hi hl).mono fun e w' h => h
    · rw [if_neg (fun h => h2 h.2.1)]
      exact (meet_sum w gl gm gv n K N S rv l v a hL hK hS ha h1 (by omega)).mono fun e w' h => ⟨h.1, Kp.of_below h.2 _⟩
  · rw [if_neg (fun h => h1 h.1)]
    exact (meet_bad w gl gm gv n K N S rv l v a hL hK hS ha h1).mono fun e w' h => ⟨h.1, Kp.of_below h.2 _⟩
theorem all_step {K S : Int} {r l v : List Int} {j : Nat} (h : j < r.length) : allN K S (r.drop j) l v = if r.getD j 0 = 0 then allN K S (r.drop (j + 1)) l v else match meetN K S (r.getD j 0) l v with
    | none => none
    | some (l', v') => allN K S (r.drop (j + 1)) l' v' := by
  rw [List.drop_eq_getElem_cons h, show r.getD j 0 = r[j] by rw [List.getD_eq_getElem?_getD, List.getElem?_eq_getElem h]; rfl]
  rfl
theorem reads_ne {W : World} {gl gm gv n m : Nat} {K N S : Int} {rv : Value} {l v r : List Int} {ad : Addr} (hL : LK W gl gm gv n K N S rv l v) (hr : ReadsInt W .u32 (some ad) m r) (hm : 0 < m) : ad.block ≠ gm ∧ ad.block ≠ gv := by
  obtain ⟨ad', he, hc⟩ := hr.2.2 hm
  cases he
  have h0 := hc 0 hm
  have hab : (ad.add 0).block = ad.block := by unfold Addr.add; split <;> rfl
  constructor
  · intro e
    obtain ⟨D, ⟨es, clock, hb, _⟩, _⟩ := hL.map
    rw [← e, ← hab] at hb
    simp [World.cell?, hb] at h0
  · intro e
    have hb := hL.vec
    rw [← e, ← hab] at hb
    simp [World.cell?, hb, nums] at h0
set_option maxHeartbeats 2000000 in
set_option maxRecDepth 100000 in
theorem all_any (w : World) (gl gm gv n : Nat) (K N S : Int) (rv : Value) (l v : List Int) (A : Option Addr) (m c : Nat) (r : List Int) (hL : LK w gl gm gv n K N S rv l v) (hK : 1 ≤ K ∧ K ≤ 255) (hS : 1 ≤ S ∧ S ≤ 128)
    (hn : (n : Int) = S) (hi : Inv n l v) (hr : ReadsInt w .u32 A m r) (hre : ∀ x ∈ r, 0 ≤ x ∧ x < 4294967296) (hl : l.length + r.length ≤ 4611686018427387904) :
    Calls Try.prog 28 #[.pointer (some ⟨gl, 0, none⟩), .slice A m c] w (MP gl gm gv n K N S rv w (allN K S r l v)) := by
  obtain ⟨R, hR⟩ : ∃ R, allN K S r l v = R := ⟨_, rfl⟩
  rw [hR]
  obtain rfl : r.length = m := hr.1
  have HR := Aside0.mk hr
  have HRE := Aside0.mk hre
  have HNE := Aside0.mk (show ∀ ad, A = some ad → 0 < r.length → ad.block ≠ gm ∧ ad.block ≠ gv from fun ad he h0 => reads_ne hL (he ▸ hr) h0)
  have HL := Aside0.mk hL
  have HK := Aside0.mk hK
  have HS := Aside0.mk hS
  have HN := Aside0.mk hn
  have HI := Aside0.mk hi
  have HLL := Aside0.mk hl
  have HQ := Aside0.mk hR
  have hm := hr.2.1
  clear hr hre hL hK hS hn hi hl hR
  go_enter Try.func28, Try.ntmps28
  go_wp2
  go_loopw [10] (fun i wr => ∃ j : Nat, j ≤ r.length ∧ i = .int .i64 j ∧ ∃ l1 v1, Aside0 (LK wr gl gm gv n K N S rv l1 v1) ∧ Aside0 (Kp w wr (fun k => k = gm ∨ k = gv)) ∧ Aside0 (allN K S (r.drop j) l1 v1 = R) ∧ Aside0 (Inv n l1 v1 ∧ l1.length ≤ l.length + j)) (fun i _ => r.length - (intOf i).toNat)
  case atStart => exact ⟨0, Nat.zero_le _, rfl, l, v, HL, ⟨Kp.refl _ _⟩, HQ, ⟨HI.out, Nat.le_add_right _ _⟩⟩
  case round =>
    obtain ⟨j, hj, rfl, l1, v1, H1, H2, H3, H4⟩ := hrel
    by_cases hlt : j < r.length
    · have hlt' : (j : Int) < (r.length : Int) := by omega
      have hj0 : (0 : Int) ≤ (j : Int) := Int.natCast_nonneg _
      obtain ⟨ad, rfl, hc⟩ := HR.out.2.2 (by omega)
      have hne := HNE.out ad rfl (Nat.zero_lt_of_lt hlt)
      have hab : (ad.add j).block = ad.block := by unfold Addr.add; split <;> rfl
      have c0 := Go.Proofs.YtgiapegacbibeaaW.PrintWords.cell_kept (hc j hlt) H2.out.k (fun h => h.elim (fun e => hne.1 (hab.symm.trans e)) (fun e => hne.2 (hab.symm.trans e)))
      have hst := all_step (K := K) (S := S) (l := l1) (v := v1) hlt
      have hra : 0 ≤ r.getD j 0 ∧ r.getD j 0 < 4294967296 := by rw [List.getD_eq_getElem?_getD, List.getElem?_eq_getElem hlt]; exact HRE.out _ (List.getElem_mem _)
      obtain ⟨a, ha⟩ : ∃ a, r.getD j 0 = a := ⟨_, rfl⟩
      rw [ha] at c0 hst hra
      rw [H3.out] at hst
      clear hc hne ha hab
      by_cases h0 : a = 0
      · subst h0
        rw [if_pos rfl] at hst
        have HST := Aside0.mk hst.symm
        clear hst hra
        go_wp2
        go_roundw
        case rel => exact ⟨j + 1, by omega, by go_num, l1, v1, H1, H2, HST, ⟨H4.out.1, by have := H4.out.2; omega⟩⟩
        case measure => simp [intOf]; omega
      · have h0b : (a == 0) = false := beq_eq_false_iff_ne.2 h0
        rw [if_neg h0] at hst
        have HRA := Aside0.mk hra
        clear hra h0
        have hcl := meet_any wr gl gm gv n K N S rv l1 v1 a H1.out HK.out HS.out HRA.out HN.out H4.out.1 (by have h4 := H4.out.2; have h5 := HLL.out; omega)
        cases hm1 : meetN K S a l1 v1 with
        | none =>
          rw [hm1] at hst hcl
          obtain rfl : R = none := hst
          have HCL := Aside0.mk hcl
          clear hm1 hcl
          go_wp2_with (first | (go_at_call 26; refine HCL.out.mono ?_; rintro e w1 ⟨rfl, hk⟩; have HK1 := Aside0.mk (H2.out.then_ hk (fun _ h => .inl h)); clear hk))
          go_ret
          exact ⟨rfl, HK1.out⟩
        | some p =>
          obtain ⟨l2, v2⟩ := p
          rw [hm1] at hst hcl
          have HCL := Aside0.mk hcl
          have HST := Aside0.mk hst.symm
          have HI2 := Aside0.mk (meet_inv H4.out.1 hm1)
          clear hst hm1 hcl
          go_wp2_with (first | (go_at_call 26; refine HCL.out.mono ?_; rintro e w1 ⟨rfl, hl1, hk⟩; have HK1 := Aside0.mk (H2.out.then_ hk (fun _ h => .inl h)); have HL1 := Aside0.mk hl1; clear hk hl1))
          go_roundw
          case rel => exact ⟨j + 1, by omega, by go_num, l2, v2, HL1, HK1, HST, ⟨HI2.out.1, by have h1 := HI2.out.2; have h2 := H4.out.2; omega⟩⟩
          case measure => simp [intOf]; omega
    · obtain rfl : j = r.length := by omega
      have h3 := H3.out
      rw [List.drop_of_length_le (Nat.le_refl _)] at h3
      obtain rfl : R = some (l1, v1) := h3.symm
      clear hlt hj h3
      go_wp2
      go_ret
      exact ⟨rfl, H1.out, H2.out⟩
end Go.Proofs.Ytgiapegacbibeaa.UM

end

section
/- hayricklaw15.reader.read: a block that stands at an address. -/
namespace Go.Proofs.Ytgiapegacbibeaa.UM
open Go.RowKit Go.Proofs.YtgiapegacbibeaaX Go.Proofs.YtgiapegacbibeaaW.PrintWords Go.Proofs.Ytgiapegacbibeaa.PUsageLives
set_option linter.unusedVariables false
/-- What is read at an address. -/
def rdN (bl : List (List Int)) (a : Int) : List Int × Int :=
  if 1 ≤ a ∧ a ≤ (bl.length : Int) ∧ (bl.getD (a - 1).toNat []).length ≠ 0 then (bl.getD (a - 1).toNat [], 0) else ([], 20)
theorem read_f (bl : List (List Int)) (a : Int) (ha : 0 ≤ a ∧ a < 4294967296) (hl : bl.length ≤ 9223372036854775807) : hayrickref15_Read.f bl a = some (rdN bl a) := by
  unfold hayrickref15_Read.f rdN
  by_cases h1 : a < 1
  · rw [if_pos h1, if_neg (by omega)]
  · rw [if_neg h1, IntWalk.wrap64_in a (by omega)]
    by_cases h2 : a > (bl.length : Int)
    · rw [if_pos h2, if_neg (by omega)]
    · have e : (a - 1) % 4294967296 = a - 1 := by omega
      have er : rd_L2 bl (a - 1) = bl.getD (a - 1).toNat [] := rfl
      rw [if_neg h2, e, if_pos (by omega), if_pos (by omega), er]
      by_cases h3 : (bl.getD (a - 1).toNat []).length = 0
      · rw [if_pos (by omega), if_neg (fun h => h.2.2 h3)]
      · rw [if_neg (by omega), if_pos ⟨by omega, by omega, h3⟩]
theorem rd_mem {bl : List (List Int)} {a : Int} {P : List Int → Prop} (h0 : P []) (h : ∀ b ∈ bl, P b) : P (rdN bl a).1 := by
  unfold rdN
  split
  · rename_i hh
    have hlt : (a - 1).toNat < bl.length := by omega
    show P (bl.getD (a - 1).toNat [])
    rw [List.getD_eq_getElem?_getD, List.getElem?_eq_getElem hlt]
    exact h _ (List.getElem_mem _)
  · exact h0
/-- The blocks in memory: what they lead to is elder than B. -/
def BS (W : World) (B : Nat) (SA : Option Addr) (cs : Nat) (bl : List (List Int)) : Prop := Kd.V (Kd.slice 5 (Kd.int .u8)) 58 W 0 (fun k => k < B) (.slice SA bl.length cs) bl
theorem BS.kept {W W1 : World} {B : Nat} {SA : Option Addr} {cs : Nat} {bl : List (List Int)} {S : Nat → Prop} (h : BS W B SA cs bl) (hk : Kp W W1 S) (hs : ∀ k, S k → B ≤ k) : BS W1 B SA cs bl := Kd.V_kept h hk.k (fun k hk1 hk2 => by have := hs k hk2; omega)
theorem BS.below {W W1 : World} {B : Nat} {SA : Option Addr} {cs : Nat} {bl : List (List Int)} (h : BS W B SA cs bl) (hb : Below W.heap.size W W1) : BS W1 B SA cs bl := Kd.V_below h hb
theorem infoU8r : (Try.prog.info? 5).map (fun i => (i.zero, i.size, i.bytes)) = some (some (.int .u8 0), 1, 1) := by kernel_rfl
theorem cap63 {W : World} {base n c : Nat} {e : TypeId} {size : Nat} {A : Option Addr} {xs : List Value} (h : W.ownsRow base e size (.slice A n c) n xs) : c ≤ 9223372036854775807 := by
  rcases h.2 with ⟨he, _⟩ | ⟨g2, c2, cur, he, _, _, _, hm, _⟩
  · cases he; decide
  · cases he; simpa [maxLen] using hm
/-- What read answers: bytes of its own. -/
def RP (w : World) (b : List Int) (x : Int) (e : Ending) (w' : World) : Prop :=
  ∃ A c, e = .returned (.tuple #[.slice A b.length c, .int .i64 x]) ∧ ReadsInt w' .u8 A b.length b ∧ b.length ≤ c ∧ c ≤ 9223372036854775807 ∧ Below w.heap.size w w'
set_option maxHeartbeats 2000000 in
set_option maxRecDepth 100000 in
theorem read_any (w : World) (B : Nat) (SA : Option Addr) (cs : Nat) (bl : List (List Int)) (a : Int) (hB : BS w B SA cs bl) (ha : 0 ≤ a ∧ a < 4294967296) (hl : bl.length ≤ 9223372036854775807) (hz : ∀ b ∈ bl, b.length ≤ 140737488355328) :
    Calls Try.prog 14 #[.agg #[.slice SA bl.length cs], .int .u32 a] w (RP w (rdN bl a).1 (rdN bl a).2) := by
  have hf := read_f bl a ha hl
  have hzz := rd_mem (bl := bl) (a := a) (P := fun b => b.length ≤ 140737488355328) (Nat.zero_le _) hz
  obtain ⟨b, x, hbx⟩ : ∃ b x, rdN bl a = (b, x) := ⟨_, _, rfl⟩
  rw [hbx] at hf hzz ⊢
  have HF := Aside0.mk hf
  have HB := Aside0.mk hB
  have HZ := Aside0.mk (show b.length ≤ 140737488355328 from hzz)
  have NIL : Aside0 (∀ (W : World), W.ownsRow w.heap.size 5 1 (.slice none 0 0) ([] : List Int).length (nums .u8 [])) := ⟨fun W => own_nil _ _ _ _⟩
  clear hf hbx hB ha hl hz hzz
  go_enter Try.func14, Try.ntmps14
  go_wp2_with (first
    | ((with_reducible refine gate_dst (N := 2) rfl ?_); refine box_event ?hg (N := 2) ?hd (cs := #[.slice SA bl.length cs]) (t := 45) ?hr ?_; (case hd => rfl); (case hg => rfl); (case hr => first | (go_simp; done) | (go_simp; rfl) | kernel_rfl); intro gb hg w1 hbox hb; have HB1 := Aside0.mk hb; have HV1 := Aside0.mk (HB.out.below hb); have c0 : w1.cell? ⟨gb, 0, none⟩ = some (.slice SA bl.length cs) := blk_cell hbox 0; clear hb hbox hg)
    | (go_at_call 22; refine (hayrickref15_Read.calls (fun k => k < B) SA cs bl a b x w1 (show Kd.V (Kd.slice 5 (Kd.int .u8)) 58 w1 w1.heap.size (fun k => k < B) (.slice SA bl.length cs) bl from HV1.out) HF.out).mono ?_; rintro e w2 ⟨v2, rfl, hv, hb⟩; have HB2 := Aside0.mk (below_step HB1.out hb); obtain ⟨A2, c2, rfl⟩ := Kd.V_slice hv; have hC := (Kd.V_reads' hv).2.2; have R2 := Aside0.mk (Kd.reads_of_C (enc := Value.int .u8) (d := (0 : Int)) (h1 := fun _ => rfl) hC); clear hb hv hC c0)
    | (at_builtin; (with_reducible refine gate_dst (N := 16) rfl ?_); refine print_append_row (w0 := w) w.heap.size rfl (.const (.slice none 0 0)) (.tmp 15) 58 5 .u8 1 rfl Try.underlying58 infoU8r (by omega) (.slice none 0 0) [] b A2 b.length c2 (by kernel_rfl) (by kernel_rfl) (NIL.out _) R2.out HB2.out HB2.out.size (by have := HZ.out; simp; omega) ?_; intro v3 w3 ho hb _ _; rw [List.nil_append] at ho; have HO3 := Aside0.mk ho; have HB3 := Aside0.mk hb; clear ho hb))
  obtain ⟨A3, c3, rfl, hr3⟩ := own_reads HO3.out
  go_ret2
  exact ⟨A3, c3, rfl, hr3, own_le HO3.out, cap63 HO3.out, HB3.out⟩
end Go.Proofs.Ytgiapegacbibeaa.UM

end

section
/- usage.look.inode: an inode's block stands at an address: in plain words, and its parts. -/
namespace Go.Proofs.Ytgiapegacbibeaa.UM
open Go.RowKit Go.Proofs.YtgiapegacbibeaaX Go.Proofs.YtgiapegacbibeaaW.PrintWords
set_option linter.unusedVariables false
/-- The words of a block of pointers. -/
def words (L : List Int) : List Int := (chTo 28).map fun x => wordAt L x.1
theorem words_length (L : List Int) : (words L).length = 28 := by simp [words, chTo_length]
/-- A block as an inode: its number, its size, its pointers, its block of pointers. -/
def tk (L : List Int) : Option (Int × Int × List Int × Int) :=
  if (takeR L).2 = 0 then some (accN L 2, accN (L.drop 4) 2, filt [(accN (L.drop 6) 4 % 4294967296), (accN (L.drop 10) 4 % 4294967296), (accN (L.drop 14) 4 % 4294967296), (accN (L.drop 18) 4 % 4294967296), (accN (L.drop 22) 4 % 4294967296), (accN (L.drop 26) 4 % 4294967296), (accN (L.drop 30) 4 % 4294967296)], accN (L.drop 30) 4 % 4294967296) else none
/-- An inode's block at an address: the error, what is met. -/
def inoN (K S : Int) (bl : List (List Int)) (ino a : Int) (l v : List Int) : Int × List Int × List Int :=
  match meetN K S a l v with
  | none => (5, l, v)
  | some (l1, v1) =>
    if (rdN bl a).2 ≠ 0 then ((rdN bl a).2, l, v) else
    match tk (rdN bl a).1 with
    | none => (5, l, v)
    | some (i, s, ds, p) =>
      if i ≠ ino then (5, l, v) else
      match allN K S ds l1 v1 with
      | none => (5, l, v)
      | some (l2, v2) =>
        if p = 0 then (0, l2, v2) else
        if (rdN bl p).2 ≠ 0 then ((rdN bl p).2, l, v) else
        if (rdN bl p).1.length ≠ 112 then (5, l, v) else
        match allN K S ((words (rdN bl p).1).take (blk s - 6).toNat) l2 v2 with
        | none => (5, l, v)
        | some (l3, v3) => (0, l3, v3)
theorem takeR_yes {L : List Int} (h : (takeR L).2 = 0) : takeR L = (inoCells (accN L 2) (accN (L.drop 2) 1) (accN (L.drop 4) 2) (accN (L.drop 3) 1) (accN (L.drop 6) 4 % 4294967296) (accN (L.drop 10) 4 % 4294967296) (accN (L.drop 14) 4 % 4294967296) (accN (L.drop 18) 4 % 4294967296) (accN (L.drop 22) 4 % 4294967296) (accN (L.drop 26) 4 % 4294967296) (accN (L.drop 30) 4 % 4294967296), 0)
    ∧ mayB (accN L 2) (accN (L.drop 2) 1) (accN (L.drop 4) 2) (accN (L.drop 3) 1) [(accN (L.drop 6) 4 % 4294967296), (accN (L.drop 10) 4 % 4294967296), (accN (L.drop 14) 4 % 4294967296), (accN (L.drop 18) 4 % 4294967296), (accN (L.drop 22) 4 % 4294967296), (accN (L.drop 26) 4 % 4294967296)] (accN (L.drop 30) 4 % 4294967296) = true := by
  unfold takeR at h ⊢
  split at h
  · cases h
  · split at h
    · cases h
    · split at h
      · rename_i h1 h2 h3
        rw [if_neg h1, if_neg h2, if_pos h3]
        rw [Bool.and_eq_true] at h3
        exact ⟨rfl, h3.1⟩
      · cases h
theorem takeR_no {L : List Int} (h : (takeR L).2 ≠ 0) : ∃ e, e ≠ 0 ∧ takeR L = (inoCells 0 0 0 0 0 0 0 0 0 0 0, e) := by
  unfold takeR at h ⊢
  split
  · exact ⟨4, by decide, rfl⟩
  · rename_i h1
    rw [if_neg h1] at h
    split
    · exact ⟨3, by decide, rfl⟩
    · rename_i h2
      rw [if_neg h2] at h
      split
      · rename_i h3
        rw [if_pos h3] at h
        exact absurd rfl h
      · exact ⟨5, by decide, rfl⟩
/-- The points of an inode that may be: a block of them only behind six blocks. -/
theorem may_points {a k s l p : Int} {ds : List Int} (h : mayB a k s l ds p = true) (hp : p ≠ 0) : 6 < blk s ∧ blk s ≤ 34 := by
  have hr : RangeOk a k s l := by
    by_cases h1 : RangeOk a k s l
    · exact h1
    · rw [may_no h1] at h; cases h
  have h8 : maxSize k ≤ 3808 := by unfold maxSize; split <;> omega
  have hs : s ≤ 3808 := Int.le_trans hr.2.2.2.1 h8
  have h34 : blk s ≤ 34 := by unfold blk; split <;> omega
  refine ⟨?_, h34⟩
  unfold mayB at h
  simp only [Bool.and_eq_true, Bool.or_eq_true, decide_eq_true_eq, beq_iff_eq] at h
  rcases h.2.2 with h1 | h1
  · exact h1
  · exact absurd h1 hp
theorem take_short (A : Option Addr) (n c : Nat) (w : World) (hn : n < 112) : Calls Try.prog 30 #[.slice A n c] w fun e w' => e = .returned (.tuple #[.slice none 0 0, .int .i64 4]) ∧ Below w.heap.size w w' := by
  go_enter Try.func30, Try.ntmps30
  go_wp2
  go_ret2
  exact ⟨rfl, Below.refl _ _⟩
theorem take_long (A : Option Addr) (n c : Nat) (w : World) (hn : 112 < n) (hm : n ≤ 9223372036854775807) : Calls Try.prog 30 #[.slice A n c] w fun e w' => e = .returned (.tuple #[.slice none 0 0, .int .i64 3]) ∧ Below w.heap.size w w' := by
  have h1 : ¬ n < 112 := by omega
  go_enter Try.func30, Try.ntmps30
  go_wp2
  go_ret2
  exact ⟨rfl, Below.refl _ _⟩
theorem take_no (A : Option Addr) (n c : Nat) (w : World) (hn : n ≠ 112) (hm : n ≤ 9223372036854775807) : Calls Try.prog 30 #[.slice A n c] w fun e w' => ∃ x, x ≠ 0 ∧ e = .returned (.tuple #[.slice none 0 0, .int .i64 x]) ∧ Below w.heap.size w w' := by
  by_cases h : n < 112
  · exact (take_short A n c w h).mono fun e w' h => ⟨4, by decide, h.1, h.2⟩
  · exact (take_long A n c w (by omega) hm).mono fun e w' h => ⟨3, by decide, h.1, h.2⟩
end Go.Proofs.Ytgiapegacbibeaa.UM

end
