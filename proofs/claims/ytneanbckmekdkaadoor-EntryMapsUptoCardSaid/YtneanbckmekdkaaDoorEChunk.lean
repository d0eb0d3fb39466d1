/- slices.Chunk over any bytes, 28 at a time: what its closure hands on. -/
import Derived.RangeFuncBox
import Derived.RangeFuncLeaves
import Derived.Shelf.Abstract
import Derived.Shelf.RegionOpen
import Derived.WalkKit
import Derived.OwnWalkIn
import Derived.TacticsInMore
import Derived.LoopNIn
import Derived.LoopIn
import Derived.Maps.AppendAt
import Derived.Test.YtneanbckmekdkaaDoorEv
import Derived.Test.YtneanbckmekdkaaDoorProg
namespace Go.Proofs.YtneanbckmekdkaaDoor.EN
open Go Go.RowKit Go.Shelf Go.Proofs.YtneanbckmekdkaaDoorW.PrintWords
set_option linter.unusedVariables false
set_option linter.unusedSimpArgs false
attribute [local go_sem] Oper.semAt_some
/-- Where a part begins in n bytes. -/
abbrev Ch (n : Nat) := { m : Nat // m < n }
def chOne (n k : Nat) : List (Ch n) := if h : 28 * k < n then [⟨28 * k, h⟩] else []
def chTo (n : Nat) : Nat → List (Ch n)
  | 0 => []
  | k + 1 => chTo n k ++ chOne n k
theorem chTo_succ {n k : Nat} (h : 28 * k < n) : chTo n (k + 1) = chTo n k ++ [⟨28 * k, h⟩] := by rw [chTo, chOne, dif_pos h]
theorem chTo_len (n : Nat) : ∀ k, (chTo n k).length ≤ k
  | 0 => Nat.le_refl _
  | k + 1 => by
    rw [chTo, List.length_append]
    have := chTo_len n k
    have : (chOne n k).length ≤ 1 := by unfold chOne; split <;> simp
    omega
theorem chTo_at {n : Nat} : ∀ {k : Nat} {x : Ch n}, x ∈ chTo n k → ∃ i, i < k ∧ x.1 = 28 * i
  | k + 1, x, h => by
    rw [chTo, List.mem_append] at h
    rcases h with h | h
    · obtain ⟨i, hi, e⟩ := chTo_at h
      exact ⟨i, by omega, e⟩
    · unfold chOne at h
      split at h
      · simp at h; exact ⟨k, by omega, by rw [h]⟩
      · cases h
/-- A part's length. -/
def pl (n m : Nat) : Nat := if m + 28 ≤ n then 28 else n - m
/-- Whatever lay below n₀ but block B0 lies as it lay. -/
def KpB (n₀ B0 : Nat) (W W' : World) : Prop := ∀ k, k < n₀ → k ≠ B0 → W'.heap[k]? = W.heap[k]?
theorem KpB.refl (n₀ B0 : Nat) (W : World) : KpB n₀ B0 W W := fun _ _ _ => rfl
theorem KpB.trans {n₀ B0 : Nat} {A B C : World} (h : KpB n₀ B0 A B) (k : KpB n₀ B0 B C) : KpB n₀ B0 A C := fun i hi hne => (k i hi hne).trans (h i hi hne)
theorem KpB.cell {n₀ B0 : Nat} {A B : World} (h : KpB n₀ B0 A B) {p : Addr} (hp : p.block < n₀) (hne : p.block ≠ B0) : B.cell? p = A.cell? p := World.cell?_of_block (h _ hp hne)
def chV (A : Option Addr) (n : Nat) (x : Ch n) : Value := .slice (A.map (·.add x.1)) (pl n x.1) (pl n x.1)
set_option maxRecDepth 100000 in
set_option maxHeartbeats 2000000 in
theorem chunk1_in (f : Nat) (hf : 1 ≤ f) (l Bs Bn n₀ B0 n : Nat) (A : Option Addr) (c : Nat) (hn : n ≤ c) (hc63 : n ≤ 140737488355328) (J Jx : List (Ch n) → World → Prop) (hJd : ∀ s W, J s W → J s W.drew)
    (hY : ∀ pre x W, J pre W → pre.length < (n + 27) / 28 → YieldAt Fence.wide (f - 1) Tryd.prog l #[chV A n x] W fun e W' =>
      (e = .returned (.bool true) ∧ J (pre ++ [x]) W' ∧ KpB n₀ B0 W W') ∨ (e = .returned (.bool false) ∧ Jx (pre ++ [x]) W'))
    (W : World) (hs1 : Bs < n₀) (hs2 : Bs ≠ B0) (hn1 : Bn < n₀) (hn2 : Bn ≠ B0) (cs : W.cell? ⟨Bs, 0, none⟩ = some (.slice A n c)) (cn : W.cell? ⟨Bn, 0, none⟩ = some (.int .i64 28)) (h0 : J [] W) :
    CallsIn Fence.wide f Tryd.prog 39 #[.func (.yield l) #[] #[], .pointer (some ⟨Bs, 0, none⟩), .pointer (some ⟨Bn, 0, none⟩)] W fun e W' => (∃ v, e = .returned v) ∧
      ((∃ ys, (∃ k, n ≤ 28 * k ∧ ys = chTo n k) ∧ J ys W') ∨ (∃ pre, (∃ k, pre = chTo n k) ∧ Jx pre W')) := by
  have mixed : Tryd.prog.follows .mixedOrders = true := by kernel_rfl
  have CS := Aside0.mk cs
  have CN := Aside0.mk cn
  have H0 := Aside0.mk h0
  clear cs cn h0
  refine callsIn_of_wp Tryd.func39 rfl trivial ?_ rfl
  simp only [Tryd.ntmps39, List.size_toArray, List.length_cons, List.length_nil, Nat.reduceAdd, Nat.reduceSub, Array.replicate_succ, Array.replicate_zero, List.push_toArray, List.append_toArray, List.nil_append, List.cons_append]
  gi_wp2
  gi_loopw [4] (fun i wr => ∃ k m : Nat, m ≤ n + 28 ∧ Aside0 (m = 28 * k) ∧ i = .int .i64 m ∧ Aside0 (J (chTo n k) wr) ∧ Aside0 (KpB n₀ B0 W wr))
    (fun i _ => n - (intOf i).toNat)
  case atStart => exact ⟨0, 0, Nat.zero_le _, ⟨rfl⟩, rfl, H0, ⟨KpB.refl _ _ _⟩⟩
  case round =>
    obtain ⟨k, m, hk, hm, rfl, hJ, hK⟩ := hrel
    have c1 := (hK.out.cell (p := ⟨Bs, 0, none⟩) hs1 hs2).trans CS.out
    have c2 := (hK.out.cell (p := ⟨Bn, 0, none⟩) hn1 hn2).trans CN.out
    by_cases hlt : m < n
    · have hlt' : (m : Int) < (n : Int) := by omega
      have hm0 : (0 : Int) ≤ (m : Int) := Int.natCast_nonneg _
      have hlk : (chTo n k).length < (n + 27) / 28 := by have := hm.out; have := chTo_len n k; omega
      obtain ⟨p, hp⟩ : ∃ p, pl n m = p := ⟨_, rfl⟩
      obtain ⟨fn, tmps, assign, body, hy, hR⟩ := hY _ ⟨m, hlt⟩ wr.drew (hJd _ _ hJ.out) hlk
      unfold chV at hy
      dsimp only at hy
      rw [hp] at hy
      have HX := Aside0.mk (show chTo n (k + 1) = chTo n k ++ [⟨m, hlt⟩] from by
        have hm' := hm.out
        subst hm'
        exact chTo_succ hlt)
      have hw2 : IntKind.wrap .i64 ((m : Int) + 28) = ((m + 28 : Nat) : Int) := (IntWalk.i64_in _ ⟨by omega, by omega⟩).trans (by omega)
      obtain ⟨i1, hi1, hz1⟩ := Option.map_eq_some_iff.1 (show (Tryd.prog.info? 5).map (·.size) = some 1 by kernel_rfl)
      obtain ⟨A1, hcut1, _⟩ := print_cut (P := Tryd.prog) 23 5 .i64 Tryd.underlying23 hi1 hz1 A n c m (by omega)
      obtain ⟨r, hr⟩ : ∃ r, n - m = r := ⟨_, rfl⟩
      rw [hr] at hcut1
      clear hi1 hz1
      have b1 : (m : Int) ≤ (n : Int) := by omega
      have b2 : m ≤ n := by omega
      have b4 : (n : Int) ≤ (c : Int) := by omega
      by_cases hfull : m + 28 ≤ n
      · obtain rfl : p = 28 := by rw [← hp]; unfold pl; rw [if_pos hfull]
        have ht : ((m : Int) + 28).toNat - m = 28 := by omega
        have h1 : (28 : Int) ≤ (r : Int) := by omega
        have h2 : 28 ≤ r := by omega
        have h3 : (m : Int) + 28 ≤ (c : Int) := by omega
        have h4 : ¬ r < 28 := by omega
        clear hp
        gi_wp2
        gi_big_region_o
        gi_wp2
        refine hR.mono ?_
        rintro e W3 (⟨rfl, hJ3, hk3⟩ | ⟨rfl, hJx3⟩)
        · have hk4 : KpB n₀ B0 wr W3 := hk3
          have J4 : Aside0 (J (chTo n (k + 1)) W3) := ⟨by rw [HX.out]; exact hJ3⟩
          have K4 := Aside0.mk (hK.out.trans hk4)
          have c3 := (K4.out.cell (p := ⟨Bn, 0, none⟩) hn1 hn2).trans CN.out
          gi_wp2
          go_roundw
          case rel => exact ⟨k + 1, m + 28, by omega, ⟨by have := hm.out; omega⟩, by go_num, J4, K4⟩
          case measure => simp [intOf]; omega
        · gi_wp2
          refine bodyPost_ret (results_none rfl _ _ _) rfl ?_
          exact ⟨⟨_, rfl⟩, .inr ⟨_, ⟨k + 1, HX.out.symm⟩, hJx3⟩⟩
      · obtain rfl : p = r := by rw [← hp, ← hr]; unfold pl; rw [if_neg hfull]
        have ht : ((m : Int) + (p : Int)).toNat - m = p := by omega
        have h1 : ¬ (28 : Int) ≤ (p : Int) := by omega
        have h2 : ¬ 28 ≤ p := by omega
        have h4 : p < 28 := by omega
        have h5 : (p : Int) < 28 := by omega
        have h3 : (m : Int) + (p : Int) ≤ (c : Int) := by omega
        clear hp
        gi_wp2
        gi_big_region_o
        gi_wp2
        refine hR.mono ?_
        rintro e W3 (⟨rfl, hJ3, hk3⟩ | ⟨rfl, hJx3⟩)
        · have hk4 : KpB n₀ B0 wr W3 := hk3
          have J4 : Aside0 (J (chTo n (k + 1)) W3) := ⟨by rw [HX.out]; exact hJ3⟩
          have K4 := Aside0.mk (hK.out.trans hk4)
          have c3 := (K4.out.cell (p := ⟨Bn, 0, none⟩) hn1 hn2).trans CN.out
          gi_wp2
          go_roundw
          case rel => exact ⟨k + 1, m + 28, by omega, ⟨by have := hm.out; omega⟩, by go_num, J4, K4⟩
          case measure => simp [intOf]; omega
        · gi_wp2
          refine bodyPost_ret (results_none rfl _ _ _) rfl ?_
          exact ⟨⟨_, rfl⟩, .inr ⟨_, ⟨k + 1, HX.out.symm⟩, hJx3⟩⟩
    · have HK := Aside0.mk (show n ≤ 28 * k from by have := hm.out; omega)
      have hlt' : (n : Int) ≤ (m : Int) := by omega
      gi_wp2
      go_end0
      exact ⟨⟨_, rfl⟩, .inl ⟨_, ⟨k, HK.out, rfl⟩, hJ.out⟩⟩
end Go.Proofs.YtneanbckmekdkaaDoor.EN
