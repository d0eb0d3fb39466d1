/- points.Cut: its pieces, one by one. -/
import Derived.Test.YtjpjjddkbohbpaaCutLaw
namespace Go.Proofs.YtjpjjddkbohbpaaX
open Go.RowKit Go.Proofs.YtjpjjddkbohbpaaW.PrintWords Go.Proofs.Ytjpjjddkbohbpaa.PPointsCut Go.Proofs.YtjpjjddkbohbpaaW.PrintLast Go.Proofs.YtjpjjddkbohbpaaW.PrintMore
set_option linter.unusedVariables false
def cnt (off n : Int) : Nat := if n = 0 then 0 else ((off + n - 1) / 112 - off / 112 + 1).toNat
/-- Where piece j begins. -/
def startAt (off n : Int) (j : Nat) : Int := if j = cnt off n then n else if j = 0 then 0 else (off / 112 + j) * 112 - off
def fromOf (off : Int) (j : Nat) : Int := if j = 0 then off % 112 else 0
def toOf (off n : Int) (j : Nat) : Int := if j + 1 = cnt off n then (off + n - 1) % 112 + 1 else 112
def piece (off n : Int) (j : Nat) : S31 := ⟨off / 112 + j, fromOf off j, toOf off n j, startAt off n j⟩
def pieces (off n : Int) (m : Nat) : List S31 := (List.range m).map (piece off n)
theorem pieces_length (off n : Int) (m : Nat) : (pieces off n m).length = m := by simp [pieces]
theorem rd_pieces (off n : Int) (m j : Nat) (h : j < m) : rd_T31 (pieces off n m) j = piece off n j := by
  unfold rd_T31 pieces
  simp [List.getD_eq_getElem?_getD, h]
theorem start_lt {off n : Int} {j : Nat} (ho : 0 ≤ off) (hn : 0 ≤ n) (hj : j < cnt off n) :
    0 ≤ startAt off n j ∧ startAt off n j < n ∧ (off + startAt off n j) / 112 = off / 112 + j ∧ (off + startAt off n j) % 112 = fromOf off j ∧ startAt off n (j + 1) = startAt off n j + (toOf off n j - fromOf off j) ∧
      toOf off n j = (if fromOf off j + n - startAt off n j < 112 then fromOf off j + n - startAt off n j else 112) := by
  unfold startAt fromOf toOf
  unfold cnt at hj ⊢
  by_cases h0 : n = 0
  · rw [if_pos h0] at hj; omega
  · rw [if_neg h0] at hj ⊢
    rw [if_neg (by omega)]
    by_cases h1 : j = 0
    · subst h1
      rw [if_pos rfl, if_pos rfl]
      by_cases h2 : 0 + 1 = ((off + n - 1) / 112 - off / 112 + 1).toNat
      · rw [if_pos h2, if_pos h2]
        refine ⟨by omega, by omega, by simp, by simp, by omega, ?_⟩
        split <;> omega
      · rw [if_neg h2, if_neg h2, if_neg (by omega)]
        refine ⟨by omega, by omega, by simp, by simp, by omega, ?_⟩
        split <;> omega
    · rw [if_neg h1, if_neg h1]
      by_cases h2 : j + 1 = ((off + n - 1) / 112 - off / 112 + 1).toNat
      · rw [if_pos h2, if_pos h2]
        refine ⟨by omega, by omega, by omega, by omega, by omega, ?_⟩
        split <;> omega
      · rw [if_neg h2, if_neg h2, if_neg (by omega)]
        refine ⟨by omega, by omega, by omega, by omega, by omega, ?_⟩
        split <;> omega
theorem cnt_le {off n : Int} (ho : 0 ≤ off) (hn : 0 ≤ n) (hs : off + n ≤ 3808) : cnt off n ≤ 34 := by
  unfold cnt
  split <;> omega
theorem pieces_run (off n : Int) (ho : 0 ≤ off) (hn : 0 ≤ n) (hs : off + n ≤ 3808) :
    ∀ (d j : Nat), j + d = cnt off n → ∃ k, points_Cut.l0 k off n (pieces off n j) (startAt off n j) = some (pieces off n (cnt off n), 0)
  | 0, j, h => by
    refine ⟨1, ?_⟩
    have hj : j = cnt off n := h
    have e : startAt off n j = n := by unfold startAt; rw [if_pos hj]
    rw [e, points_Cut.l0, if_neg (by omega), hj]
  | d + 1, j, h => by
    obtain ⟨h1, h2, h3, h4, h5, h6⟩ := start_lt ho hn (j := j) (by omega)
    obtain ⟨k, hk⟩ := pieces_run off n ho hn hs d (j + 1) (by omega)
    have hc := cnt_le ho hn hs
    refine ⟨k + 1, ?_⟩
    rw [cut_step k off n (startAt off n j) (pieces off n j) _ _ _ ho h1 h2 hs (by rw [pieces_length]; omega) h3 h4 h6, ← h5]
    have e : pieces off n j ++ [(⟨off / 112 + j, fromOf off j, toOf off n j, startAt off n j⟩ : S31)] = pieces off n (j + 1) := by
      unfold pieces
      rw [List.range_succ, List.map_append]
      rfl
    rw [e]
    exact hk
theorem cut_pieces (off n : Int) (ho : 0 ≤ off) (hn : 0 ≤ n) (hs : off + n ≤ 3808) : ∃ k, points_Cut.f k off n = some (pieces off n (cnt off n), 0) := by
  obtain ⟨k, hk⟩ := pieces_run off n ho hn hs (cnt off n) 0 (by omega)
  have e : startAt off n 0 = 0 := by
    unfold startAt cnt
    by_cases h : n = 0
    · rw [if_pos h, if_pos rfl]; exact h
    · rw [if_neg h, if_neg (by omega), if_pos rfl]
  rw [e] at hk
  refine ⟨k + 1, ?_⟩
  rw [points_Cut.f, if_neg (by omega), decide_eq_false (by omega), points_Cut.j0, if_neg (by simp), if_neg (by omega), cw64 (by omega), if_neg (by omega)]
  exact hk
end Go.Proofs.YtjpjjddkbohbpaaX
