/- inode.Take's closure: the next bytes as a number. -/
import Derived.Test.YtgiapegacbibeaaMEv
import Derived.RangeFuncBox
import Derived.Laws.BitsLemmas
namespace Go.Proofs.YtgiapegacbibeaaX
open Go.RowKit Go.Proofs.YtgiapegacbibeaaW.PrintWords
set_option linter.unusedVariables false
/-- The first j bytes as a number. -/
def accN (L : List Int) : Nat → Int
  | 0 => 0
  | j + 1 => accN L j * 256 + L.getD j 0
theorem accN_bound {L : List Int} (h : ∀ j, 0 ≤ L.getD j 0 ∧ L.getD j 0 < 256) : ∀ j : Nat, 0 ≤ accN L j ∧ accN L j < 256 ^ j
  | 0 => ⟨Int.le_refl _, (by decide : (0 : Int) < 256 ^ 0)⟩
  | j + 1 => by
    have h1 := accN_bound h j
    have h2 := h j
    simp only [accN]
    have e : (256 : Int) ^ (j + 1) = 256 ^ j * 256 := Int.pow_succ _ _
    rw [e]
    omega
theorem acc_or {x y : Int} (hx0 : 0 ≤ x) (hx : x < 4294967296) (hy0 : 0 ≤ y) (hy : y < 256) : bits .or .i64 (wrap64 (x * 256)) (wrap64 y) = x * 256 + y := by
  have hk : ∀ n : Int, 0 ≤ n → n < 2 ^ 62 → IntKind.i64.wrap n = n := fun n h0 h1 => IntWalk.i64_in n (by omega)
  rw [IntWalk.wrap64_in (x * 256) (by omega), IntWalk.wrap64_in y (by omega), bits_join .i64 62 (by decide) hk 8 (x * 256) y (by omega) (by omega) (by omega) (by omega) (by omega) (by omega)]
set_option maxHeartbeats 1000000 in
set_option maxRecDepth 100000 in
theorem take1 (g : Nat) (q : Addr) (n c z : Nat) (L : List Int) (w : World) (hz : z ≤ n) (hz4 : z ≤ 4) (hz0 : 0 < z) (hnc : n ≤ c) (hzc : z < c) (hc63 : c ≤ 9223372036854775807)
    (hb : w.heap[g]? = some (.cells #[.slice (some q) n c] 58 (0, 0))) (hr : ReadsInt w .u8 (some q) n L) (hby : ∀ j, 0 ≤ L.getD j 0 ∧ L.getD j 0 < 256) :
    Calls Try.prog 40 #[.int .i64 z, .pointer (some ⟨g, 0, none⟩)] w fun e w' => e = .returned (.int .i64 (accN L z)) ∧ w' = w.setCell ⟨g, 0, none⟩ (.slice (some (q.add z)) (n - z) (c - z)) := by
  have BX : Boxed w g 58 (.slice (some q) n c) := hb
  have cb := BX.cell
  have fb := BX.frozen
  have HR := Aside0.mk hr
  have HBY := Aside0.mk hby
  clear hb hr hby BX
  have b1 : (z : Int) ≤ (n : Int) := by omega
  have b2 : (z : Int) ≤ (c : Int) := by omega
  have b3 : (n : Int) ≤ (c : Int) := by omega
  have b4 : ¬ c - z = 0 := by omega
  have b5 : ¬ c = z := by omega
  have b6 : z ≤ c := by omega
  have b7 : (0 : Int) ≤ (z : Int) := by omega
  go_enter Try.func40, Try.ntmps40
  go_wp2
  go_loopw [4, 11] (fun v i wr => ∃ j : Nat, j ≤ z ∧ i = .int .i64 j ∧ v = .int .i64 (accN L j) ∧ wr = w) (fun _ i _ => z - (intOf i).toNat)
  case atStart => exact ⟨0, Nat.zero_le _, rfl, rfl, rfl⟩
  case round =>
    obtain ⟨j, hj, rfl, rfl, rfl⟩ := hrel
    by_cases hlt : j < z
    · have hlt' : (j : Int) < (z : Int) := by omega
      have hj0 : (0 : Int) ≤ (j : Int) := Int.natCast_nonneg _
      obtain ⟨q', he, hcell⟩ := HR.out.2.2 (by omega)
      cases he
      have c0 := hcell j (by omega)
      have hj4 := (accN_bound HBY.out j)
      have hp : (256 : Int) ^ j ≤ 16777216 := by
        have : j = 0 ∨ j = 1 ∨ j = 2 ∨ j = 3 := by omega
        rcases this with rfl | rfl | rfl | rfl <;> decide
      have hby := HBY.out j
      have HOR := Aside0.mk (acc_or (x := accN L j) (y := L.getD j 0) hj4.1 (by omega) hby.1 hby.2)
      have hst : accN L (j + 1) = accN L j * 256 + L.getD j 0 := rfl
      rw [← hst] at HOR
      obtain ⟨y, hy⟩ : ∃ y, L.getD j 0 = y := ⟨_, rfl⟩
      rw [hy] at c0
      rw [hy] at HOR
      obtain ⟨A, hA⟩ : ∃ A, accN L j = A := ⟨_, rfl⟩
      obtain ⟨B, hB⟩ : ∃ B, accN L (j + 1) = B := ⟨_, rfl⟩
      rw [hA, hB] at HOR
      simp only [hA]
      have HBB := Aside0.mk hB
      clear hcell hst hj4 hp hby hy hA hB
      go_wp2
      go_roundw
      case rel => exact ⟨j + 1, by omega, by go_num, congrArg (Value.int .i64) (HOR.out.trans HBB.out.symm), (by first | rfl | trivial)⟩
      case measure => simp [intOf]; omega
    · obtain rfl : j = z := by omega
      clear hlt hj
      go_wp2
      go_ret
      exact ⟨rfl, rfl⟩
end Go.Proofs.YtgiapegacbibeaaX
