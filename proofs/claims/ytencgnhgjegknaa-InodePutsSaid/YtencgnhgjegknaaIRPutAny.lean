/- InodePuts: the document's Put in one contract. -/
import Derived.Test.YtencgnhgjegknaaIRPut
namespace Go.Proofs.YtencgnhgjegknaaX
open Go.RowKit Go.Proofs.YtencgnhgjegknaaW.PrintWords
set_option linter.unusedVariables false
theorem num_1' (L : List Int) (o : Nat) (oi x : Int) (ho : oi = o) (h : L.length = 112) (hz : o + 1 ≤ 112) (x0 : 0 ≤ x) (x1 : x < 18446744073709551616) : Ytencgnhgjegknaa.PInodePuts.hayrickref11_num.f 5 L oi 1 x = some (L.set o (x / 1 % 256)) := by
  rw [Int.ediv_one]; exact num_1 L o oi x ho h hz x0 x1
theorem num_2' (L : List Int) (o : Nat) (oi x : Int) (ho : oi = o) (h : L.length = 112) (hz : o + 2 ≤ 112) (x0 : 0 ≤ x) (x1 : x < 18446744073709551616) : Ytencgnhgjegknaa.PInodePuts.hayrickref11_num.f 5 L oi 2 x = some ((L.set (o + 1) (x / 1 % 256)).set o (x / 256 % 256)) := by
  rw [Int.ediv_one]; exact num_2 L o oi x ho h hz x0 x1
theorem num_4' (L : List Int) (o : Nat) (oi x : Int) (ho : oi = o) (h : L.length = 112) (hz : o + 4 ≤ 112) (x0 : 0 ≤ x) (x1 : x < 18446744073709551616) :
    Ytencgnhgjegknaa.PInodePuts.hayrickref11_num.f 5 L oi 4 x = some ((((L.set (o + 3) (x / 1 % 256)).set (o + 2) (x / 256 % 256)).set (o + 1) (x / 65536 % 256)).set o (x / 16777216 % 256)) := by
  rw [Int.ediv_one]; exact num_4 L o oi x ho h hz x0 x1
theorem enc_small (a k s l d0 d1 d2 d3 d4 d5 p : Int) (ha : 0 ≤ a ∧ a < 4294967296) (hk : 0 ≤ k ∧ k < 4294967296) (hs : 0 ≤ s ∧ s < 4294967296) (hl : 0 ≤ l ∧ l < 4294967296) :
    encI a k s l d0 d1 d2 d3 d4 d5 p = bufN [(a, 2), (k, 1), (l, 1), (s, 2), (d0, 4), (d1, 4), (d2, 4), (d3, 4), (d4, 4), (d5, 4), (p, 4)] 11 := by
  unfold encI numsOf
  rw [show a % 4294967296 = a from by omega, show k % 4294967296 = k from by omega, show l % 4294967296 = l from by omega, show s % 4294967296 = s from by omega]
set_option maxRecDepth 100000 in
theorem enc_sets (a k s l d0 d1 d2 d3 d4 d5 p : Int) : (((((((((((((((((((((((((((((((((((List.replicate 112 (0 : Int)).set 1 (a / 1 % 256)).set 0 (a / 256 % 256)).set 2 (k / 1 % 256)).set 3 (l / 1 % 256)).set 5 (s / 1 % 256)).set 4 (s / 256 % 256)).set 9 (d0 / 1 % 256)).set 8 (d0 / 256 % 256)).set 7 (d0 / 65536 % 256)).set 6 (d0 / 16777216 % 256)).set 13 (d1 / 1 % 256)).set 12 (d1 / 256 % 256)).set 11 (d1 / 65536 % 256)).set 10 (d1 / 16777216 % 256)).set 17 (d2 / 1 % 256)).set 16 (d2 / 256 % 256)).set 15 (d2 / 65536 % 256)).set 14 (d2 / 16777216 % 256)).set 21 (d3 / 1 % 256)).set 20 (d3 / 256 % 256)).set 19 (d3 / 65536 % 256)).set 18 (d3 / 16777216 % 256)).set 25 (d4 / 1 % 256)).set 24 (d4 / 256 % 256)).set 23 (d4 / 65536 % 256)).set 22 (d4 / 16777216 % 256)).set 29 (d5 / 1 % 256)).set 28 (d5 / 256 % 256)).set 27 (d5 / 65536 % 256)).set 26 (d5 / 16777216 % 256)).set 33 (p / 1 % 256)).set 32 (p / 256 % 256)).set 31 (p / 65536 % 256)).set 30 (p / 16777216 % 256)) = bufN [(a, 2), (k, 1), (l, 1), (s, 2), (d0, 4), (d1, 4), (d2, 4), (d3, 4), (d4, 4), (d5, 4), (p, 4)] 11 := by kernel_rfl
set_option maxRecDepth 100000 in
theorem rput_yes (a k s l d0 d1 d2 d3 d4 d5 p : Int) (w : World) (hm : mayB a k s l [d0, d1, d2, d3, d4, d5] p = true) (hx : (0 ≤ d0 ∧ d0 < 4294967296) ∧ (0 ≤ d1 ∧ d1 < 4294967296) ∧ (0 ≤ d2 ∧ d2 < 4294967296) ∧ (0 ≤ d3 ∧ d3 < 4294967296) ∧ (0 ≤ d4 ∧ d4 < 4294967296) ∧ (0 ≤ d5 ∧ d5 < 4294967296) ∧ (0 ≤ p ∧ p < 4294967296)) :
    Calls Try.prog 9 #[.agg (inoCells a k s l d0 d1 d2 d3 d4 d5 p)] w fun e w' => ∃ ad c, e = .returned (.tuple #[.slice (some ad) 112 c, .int .i64 0]) ∧ ReadsInt w' .u8 (some ad) 112 (encI a k s l d0 d1 d2 d3 d4 d5 p) ∧ 112 ≤ c ∧ Below w.heap.size w w' := by
  obtain ⟨⟨x0, y0⟩, ⟨x1, y1⟩, ⟨x2, y2⟩, ⟨x3, y3⟩, ⟨x4, y4⟩, ⟨x5, y5⟩, p0, p1⟩ := hx
  have hr : RangeOk a k s l := by
    by_cases h : RangeOk a k s l
    · exact h
    · rw [may_no h] at hm; cases hm
  obtain ⟨r1, r2, r3, r4, r5, r6, r7⟩ := hr
  have r8 : maxSize k ≤ 3808 := by unfold maxSize; split <;> omega
  have r9 : maxLinks k ≤ 64 := by unfold maxLinks; split <;> omega
  have r10 : 1 ≤ k ∧ k ≤ 2 := by rcases r7 with rfl | ⟨rfl, _⟩ <;> decide
  rw [enc_small a k s l d0 d1 d2 d3 d4 d5 p ⟨by omega, by omega⟩ ⟨by omega, by omega⟩ ⟨by omega, by omega⟩ ⟨by omega, by omega⟩, ← enc_sets]
  refine (rput_walk a k s l d0 d1 d2 d3 d4 d5 p w _ _ _ _ _ _ _ _ _ _ _ hm (by omega) (by omega) (by omega) (by omega) (by omega) (by omega) (by omega) (by omega) x0 y0 x1 y1 x2 y2 x3 y3 x4 y4 x5 y5 p0 p1
    (num_2' _ 0 _ _ (by rfl) (by simp) (by decide) (by omega) (by omega)) (num_1' _ 2 _ _ (by rfl) (by simp) (by decide) (by omega) (by omega)) (num_1' _ 3 _ _ (by rfl) (by simp) (by decide) (by omega) (by omega)) (num_2' _ 4 _ _ (by rfl) (by simp) (by decide) (by omega) (by omega)) (num_4' _ 6 _ _ (by rfl) (by simp) (by decide) (by omega) (by omega)) (num_4' _ 10 _ _ (by rfl) (by simp) (by decide) (by omega) (by omega)) (num_4' _ 14 _ _ (by rfl) (by simp) (by decide) (by omega) (by omega)) (num_4' _ 18 _ _ (by rfl) (by simp) (by decide) (by omega) (by omega)) (num_4' _ 22 _ _ (by rfl) (by simp) (by decide) (by omega) (by omega)) (num_4' _ 26 _ _ (by rfl) (by simp) (by decide) (by omega) (by omega)) (num_4' _ 30 _ _ (by rfl) (by simp) (by decide) (by omega) (by omega))).mono ?_
  rintro e w' ⟨A, c, rfl, hr, hb⟩
  obtain ⟨hl, hc, hC⟩ := Kd.R_reads' hr
  rw [← hl] at hC
  have hrd := reads_of_C8 hC hl.symm (by decide)
  obtain ⟨ad, rfl, _⟩ := hrd.2.2 (by decide)
  exact ⟨ad, c, rfl, hrd, hc, hb⟩
end Go.Proofs.YtencgnhgjegknaaX
