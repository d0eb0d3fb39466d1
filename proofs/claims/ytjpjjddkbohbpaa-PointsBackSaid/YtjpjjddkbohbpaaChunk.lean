/- slices.Chunk over a block, four bytes at a time: what its closure hands on. -/
import Derived.RangeFuncBox
import Derived.RangeFuncLeaves
import Derived.Shelf.Abstract
import Derived.Shelf.RegionOpen
import Derived.WalkKit
import Derived.OwnWalkIn
import Derived.TacticsInMore
import Derived.LoopNIn
import Derived.LoopIn
import Derived.Maps.AppendAt
import Derived.Test.YtjpjjddkbohbpaaEv
import Derived.Test.YtjpjjddkbohbpaaProg
namespace Go.Proofs.YtjpjjddkbohbpaaX
open Go.RowKit Go.Shelf Go.Proofs.YtjpjjddkbohbpaaW.PrintWords
set_option linter.unusedVariables false
attribute [local go_sem] Oper.semAt_some
/-- Where a part of four bytes begins in a block. -/
abbrev Ch := { m : Nat // m + 4 ≤ 112 }
def chAt (k : Nat) : Ch := if h : 4 * k + 4 ≤ 112 then ⟨4 * k, h⟩ else ⟨0, by decide⟩
def chTo (k : Nat) : List Ch := (List.range k).map chAt
theorem chTo_succ (k : Nat) : chTo (k + 1) = chTo k ++ [chAt k] := by simp [chTo, List.range_succ]
theorem chTo_length (k : Nat) : (chTo k).length = k := by simp [chTo]
/-- Whatever lay below n₀ but block B0 lies as it lay. -/
def KpB (n₀ B0 : Nat) (W W' : World) : Prop := ∀ k, k < n₀ → k ≠ B0 → W'.heap[k]? = W.heap[k]?
theorem KpB.refl (n₀ B0 : Nat) (W : World) : KpB n₀ B0 W W := fun _ _ _ => rfl
theorem KpB.trans {n₀ B0 : Nat} {A B C : World} (h : KpB n₀ B0 A B) (k : KpB n₀ B0 B C) : KpB n₀ B0 A C := fun i hi hne => (k i hi hne).trans (h i hi hne)
theorem KpB.cell {n₀ B0 : Nat} {A B : World} (h : KpB n₀ B0 A B) {p : Addr} (hp : p.block < n₀) (hne : p.block ≠ B0) : B.cell? p = A.cell? p := World.cell?_of_block (h _ hp hne)
set_option maxRecDepth 100000 in
set_option maxHeartbeats 2000000 in
theorem chunk1_in (n : Nat) (hn : 1 ≤ n) (l Bs Bn n₀ B0 : Nat) (ad : Addr) (c : Nat) (hc : 112 ≤ c) (hc63 : c ≤ 9223372036854775807) (J Jx : List Ch → World → Prop) (hJd : ∀ s W, J s W → J s W.drew)
    (hY : ∀ pre x W, J pre W → pre.length < 28 → YieldAt Fence.wide (n - 1) Try.prog l #[.slice (some (ad.add x.1)) 4 4] W fun e W' =>
      (e = .returned (.bool true) ∧ J (pre ++ [x]) W' ∧ KpB n₀ B0 W W') ∨ (e = .returned (.bool false) ∧ Jx (pre ++ [x]) W'))
    (W : World) (hs1 : Bs < n₀) (hs2 : Bs ≠ B0) (hn1 : Bn < n₀) (hn2 : Bn ≠ B0) (cs : W.cell? ⟨Bs, 0, none⟩ = some (.slice (some ad) 112 c)) (cn : W.cell? ⟨Bn, 0, none⟩ = some (.int .i64 4)) (h0 : J [] W) :
    CallsIn Fence.wide n Try.prog 32 #[.func (.yield l) #[] #[], .pointer (some ⟨Bs, 0, none⟩), .pointer (some ⟨Bn, 0, none⟩)] W fun e W' => (∃ v, e = .returned v) ∧
      ((∃ ys, ys = chTo 28 ∧ J ys W') ∨ (∃ pre, True ∧ Jx pre W')) := by
  have mixed : Try.prog.follows .mixedOrders = true := by kernel_rfl
  have CS := Aside0.mk cs
  have CN := Aside0.mk cn
  have H0 := Aside0.mk h0
  clear cs cn h0
  refine callsIn_of_wp Try.func32 rfl trivial ?_ rfl
  simp only [Try.ntmps32, List.size_toArray, List.length_cons, List.length_nil, Nat.reduceAdd, Nat.reduceSub, Array.replicate_succ, Array.replicate_zero, List.push_toArray, List.append_toArray, List.nil_append, List.cons_append]
  gi_wp2
  gi_loopw [4] (fun i wr => ∃ k m : Nat, k ≤ 28 ∧ Aside0 (m = 4 * k) ∧ i = .int .i64 m ∧ Aside0 (J (chTo k) wr) ∧ Aside0 (KpB n₀ B0 W wr))
    (fun i _ => 112 - (intOf i).toNat)
  case atStart => exact ⟨0, 0, Nat.zero_le _, ⟨rfl⟩, rfl, H0, ⟨KpB.refl _ _ _⟩⟩
  case round =>
    obtain ⟨k, m, hk, hm, rfl, hJ, hK⟩ := hrel
    have c1 := (hK.out.cell (p := ⟨Bs, 0, none⟩) hs1 hs2).trans CS.out
    have c2 := (hK.out.cell (p := ⟨Bn, 0, none⟩) hn1 hn2).trans CN.out
    by_cases hlt : m < 112
    · have hlt' : (m : Int) < 112 := by omega
      have hm0 : (0 : Int) ≤ (m : Int) := Int.natCast_nonneg _
      have hk28 : k < 28 := by have := hm.out; omega
      have hm4 : m + 4 ≤ 112 := by have := hm.out; omega
      have hx : chAt k = ⟨m, hm4⟩ := by
        have hm' := hm.out
        subst hm'
        unfold chAt
        rw [dif_pos hm4]
      have HX := Aside0.mk hx
      clear hx
      obtain ⟨fn, tmps, assign, body, hy, hR⟩ := hY _ ⟨m, hm4⟩ wr.drew (hJd _ _ hJ.out) (by rw [chTo_length]; exact hk28)
      dsimp only at hy
      have b1 : (m : Int) ≤ 112 := by omega
      have b2 : m ≤ 112 := by omega
      have b3 : m ≤ c := by omega
      have b4 : (m : Int) ≤ (c : Int) := by omega
      gi_wp2
      gi_big_region_o
      gi_wp2
      refine hR.mono ?_
      rintro e W3 (⟨rfl, hJ3, hk3⟩ | ⟨rfl, hJx3⟩)
      · have hk4 : KpB n₀ B0 wr W3 := hk3
        have J4 : Aside0 (J (chTo (k + 1)) W3) := ⟨by rw [chTo_succ, HX.out]; exact hJ3⟩
        have K4 := Aside0.mk (hK.out.trans hk4)
        have c3 := (K4.out.cell (p := ⟨Bn, 0, none⟩) hn1 hn2).trans CN.out
        gi_wp2
        go_roundw
        case rel => exact ⟨k + 1, m + 4, by omega, ⟨by have := hm.out; omega⟩, by go_num, J4, K4⟩
        case measure => simp [intOf]; omega
      · gi_wp2
        refine bodyPost_ret (results_none rfl _ _ _) rfl ?_
        exact ⟨⟨_, rfl⟩, .inr ⟨_, trivial, hJx3⟩⟩
    · obtain rfl : m = 112 := by have := hm.out; omega
      obtain rfl : k = 28 := by have := hm.out; omega
      gi_wp2
      go_end0
      exact ⟨⟨_, rfl⟩, .inl hJ.out⟩
end Go.Proofs.YtjpjjddkbohbpaaX
