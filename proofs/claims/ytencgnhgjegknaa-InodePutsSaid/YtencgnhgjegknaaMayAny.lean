/- inode.May: whether an inode may be: one contract. -/
import Derived.Test.YtencgnhgjegknaaMayb
namespace Go.Proofs.YtencgnhgjegknaaX
open Go.RowKit Go.Proofs.YtencgnhgjegknaaW.PrintWords
theorem ofB {f : FuncId} {args : Array Value} {w : World} {b b' : Bool} (h : Calls Try.prog f args w fun e w' => e = .returned (.bool b) ∧ Below w.heap.size w w') (e : b = b') :
    Calls Try.prog f args w fun e w' => e = .returned (.bool b') ∧ Below w.heap.size w w' := e ▸ h
theorem may_any (a k s l d0 d1 d2 d3 d4 d5 p : Int) (w : World) (hs : s ≤ 9223372036854775807) :
    Calls Try.prog 12 #[.agg #[.int .i64 a, .int .i64 k, .int .i64 s, .int .i64 l, .int .u32 d0, .int .u32 d1, .int .u32 d2, .int .u32 d3, .int .u32 d4, .int .u32 d5, .int .u32 p]] w
      fun e w' => e = .returned (.bool (mayB a k s l [d0, d1, d2, d3, d4, d5] p)) ∧ Below w.heap.size w w' := by
  by_cases hr : RangeOk a k s l
  · obtain ⟨h0, h1, h2, h3, h4, h5, hk⟩ := id hr
    have hn := blk_bd hs
    have hb : blk s ≤ 34 := by
      unfold maxSize at h3
      have : s ≤ 3808 := by
        by_cases h : k = 1
        · rw [if_pos h] at h3; exact h3
        · rw [if_neg h] at h3; omega
      unfold blk
      by_cases h : s ≤ 0
      · rw [if_pos h]; omega
      · rw [if_neg h]; omega
    rcases (show blk s = 0 ∨ blk s = 1 ∨ blk s = 2 ∨ blk s = 3 ∨ blk s = 4 ∨ blk s = 5 ∨ blk s = 6 ∨ 6 < blk s from by omega) with h | h | h | h | h | h | h | h
    · rcases hk with rfl | ⟨rfl, hm⟩
      · refine ofB (may_in10 a s l d0 d1 d2 d3 d4 d5 p w _ h0 h1 h2 (by unfold maxSize at h3; rw [if_pos rfl] at h3; exact h3) h4 (by unfold maxLinks at h5; rw [if_pos rfl] at h5; exact h5) h rfl) (by cases hq : anyNZ ([d0, d1, d2, d3, d4, d5].drop 0) with
          | true => rw [may_any_no h hq]; rfl
          | false => rw [may_yes hr h hq]; simp)
      · refine ofB (may_in20 a s l d0 d1 d2 d3 d4 d5 p w _ h0 h1 h2 (by unfold maxSize at h3; rw [if_neg (by omega)] at h3; exact h3) h4 (by unfold maxLinks at h5; rw [if_neg (by omega)] at h5; exact h5) (bne_eq_false_iff_eq.2 hm) h rfl) (by cases hq : anyNZ ([d0, d1, d2, d3, d4, d5].drop 0) with
          | true => rw [may_any_no h hq]; rfl
          | false => rw [may_yes hr h hq]; simp)
    · rcases hk with rfl | ⟨rfl, hm⟩
      · refine ofB (may_in11 a s l d0 d1 d2 d3 d4 d5 p w _ h0 h1 h2 (by unfold maxSize at h3; rw [if_pos rfl] at h3; exact h3) h4 (by unfold maxLinks at h5; rw [if_pos rfl] at h5; exact h5) h rfl) (by cases hq : anyNZ ([d0, d1, d2, d3, d4, d5].drop 1) with
          | true => rw [may_any_no h hq]; rfl
          | false => rw [may_yes hr h hq]; simp)
      · refine ofB (may_in21 a s l d0 d1 d2 d3 d4 d5 p w _ h0 h1 h2 (by unfold maxSize at h3; rw [if_neg (by omega)] at h3; exact h3) h4 (by unfold maxLinks at h5; rw [if_neg (by omega)] at h5; exact h5) (bne_eq_false_iff_eq.2 hm) h rfl) (by cases hq : anyNZ ([d0, d1, d2, d3, d4, d5].drop 1) with
          | true => rw [may_any_no h hq]; rfl
          | false => rw [may_yes hr h hq]; simp)
    · rcases hk with rfl | ⟨rfl, hm⟩
      · refine ofB (may_in12 a s l d0 d1 d2 d3 d4 d5 p w _ h0 h1 h2 (by unfold maxSize at h3; rw [if_pos rfl] at h3; exact h3) h4 (by unfold maxLinks at h5; rw [if_pos rfl] at h5; exact h5) h rfl) (by cases hq : anyNZ ([d0, d1, d2, d3, d4, d5].drop 2) with
          | true => rw [may_any_no h hq]; rfl
          | false => rw [may_yes hr h hq]; simp)
      · refine ofB (may_in22 a s l d0 d1 d2 d3 d4 d5 p w _ h0 h1 h2 (by unfold maxSize at h3; rw [if_neg (by omega)] at h3; exact h3) h4 (by unfold maxLinks at h5; rw [if_neg (by omega)] at h5; exact h5) (bne_eq_false_iff_eq.2 hm) h rfl) (by cases hq : anyNZ ([d0, d1, d2, d3, d4, d5].drop 2) with
          | true => rw [may_any_no h hq]; rfl
          | false => rw [may_yes hr h hq]; simp)
    · rcases hk with rfl | ⟨rfl, hm⟩
      · refine ofB (may_in13 a s l d0 d1 d2 d3 d4 d5 p w _ h0 h1 h2 (by unfold maxSize at h3; rw [if_pos rfl] at h3; exact h3) h4 (by unfold maxLinks at h5; rw [if_pos rfl] at h5; exact h5) h rfl) (by cases hq : anyNZ ([d0, d1, d2, d3, d4, d5].drop 3) with
          | true => rw [may_any_no h hq]; rfl
          | false => rw [may_yes hr h hq]; simp)
      · refine ofB (may_in23 a s l d0 d1 d2 d3 d4 d5 p w _ h0 h1 h2 (by unfold maxSize at h3; rw [if_neg (by omega)] at h3; exact h3) h4 (by unfold maxLinks at h5; rw [if_neg (by omega)] at h5; exact h5) (bne_eq_false_iff_eq.2 hm) h rfl) (by cases hq : anyNZ ([d0, d1, d2, d3, d4, d5].drop 3) with
          | true => rw [may_any_no h hq]; rfl
          | false => rw [may_yes hr h hq]; simp)
    · rcases hk with rfl | ⟨rfl, hm⟩
      · refine ofB (may_in14 a s l d0 d1 d2 d3 d4 d5 p w _ h0 h1 h2 (by unfold maxSize at h3; rw [if_pos rfl] at h3; exact h3) h4 (by unfold maxLinks at h5; rw [if_pos rfl] at h5; exact h5) h rfl) (by cases hq : anyNZ ([d0, d1, d2, d3, d4, d5].drop 4) with
          | true => rw [may_any_no h hq]; rfl
          | false => rw [may_yes hr h hq]; simp)
      · refine ofB (may_in24 a s l d0 d1 d2 d3 d4 d5 p w _ h0 h1 h2 (by unfold maxSize at h3; rw [if_neg (by omega)] at h3; exact h3) h4 (by unfold maxLinks at h5; rw [if_neg (by omega)] at h5; exact h5) (bne_eq_false_iff_eq.2 hm) h rfl) (by cases hq : anyNZ ([d0, d1, d2, d3, d4, d5].drop 4) with
          | true => rw [may_any_no h hq]; rfl
          | false => rw [may_yes hr h hq]; simp)
    · rcases hk with rfl | ⟨rfl, hm⟩
      · refine ofB (may_in15 a s l d0 d1 d2 d3 d4 d5 p w _ h0 h1 h2 (by unfold maxSize at h3; rw [if_pos rfl] at h3; exact h3) h4 (by unfold maxLinks at h5; rw [if_pos rfl] at h5; exact h5) h rfl) (by cases hq : anyNZ ([d0, d1, d2, d3, d4, d5].drop 5) with
          | true => rw [may_any_no h hq]; rfl
          | false => rw [may_yes hr h hq]; simp)
      · refine ofB (may_in25 a s l d0 d1 d2 d3 d4 d5 p w _ h0 h1 h2 (by unfold maxSize at h3; rw [if_neg (by omega)] at h3; exact h3) h4 (by unfold maxLinks at h5; rw [if_neg (by omega)] at h5; exact h5) (bne_eq_false_iff_eq.2 hm) h rfl) (by cases hq : anyNZ ([d0, d1, d2, d3, d4, d5].drop 5) with
          | true => rw [may_any_no h hq]; rfl
          | false => rw [may_yes hr h hq]; simp)
    · rcases hk with rfl | ⟨rfl, hm⟩
      · refine ofB (may_in16 a s l d0 d1 d2 d3 d4 d5 p w _ h0 h1 h2 (by unfold maxSize at h3; rw [if_pos rfl] at h3; exact h3) h4 (by unfold maxLinks at h5; rw [if_pos rfl] at h5; exact h5) h rfl) (by cases hq : anyNZ ([d0, d1, d2, d3, d4, d5].drop 6) with
          | true => rw [may_any_no h hq]; rfl
          | false => rw [may_yes hr h hq]; simp)
      · refine ofB (may_in26 a s l d0 d1 d2 d3 d4 d5 p w _ h0 h1 h2 (by unfold maxSize at h3; rw [if_neg (by omega)] at h3; exact h3) h4 (by unfold maxLinks at h5; rw [if_neg (by omega)] at h5; exact h5) (bne_eq_false_iff_eq.2 hm) h rfl) (by cases hq : anyNZ ([d0, d1, d2, d3, d4, d5].drop 6) with
          | true => rw [may_any_no h hq]; rfl
          | false => rw [may_yes hr h hq]; simp)
    · rcases hk with rfl | ⟨rfl, hm⟩
      · refine ofB (may_in1n a s l d0 d1 d2 d3 d4 d5 p w _ h0 h1 h2 (by unfold maxSize at h3; rw [if_pos rfl] at h3; exact h3) h4 (by unfold maxLinks at h5; rw [if_pos rfl] at h5; exact h5) _ h hb rfl rfl) (by cases hq : anyNZ ([d0, d1, d2, d3, d4, d5].drop (min (blk s).toNat 6)) with
          | true => rw [may_any_no rfl hq, ← show min (blk s).toNat 6 = 6 from by omega, hq]; rfl
          | false => rw [may_yes hr rfl hq, ← show min (blk s).toNat 6 = 6 from by omega, hq, decide_eq_true h]; rfl)
      · refine ofB (may_in2n a s l d0 d1 d2 d3 d4 d5 p w _ h0 h1 h2 (by unfold maxSize at h3; rw [if_neg (by omega)] at h3; exact h3) h4 (by unfold maxLinks at h5; rw [if_neg (by omega)] at h5; exact h5) (bne_eq_false_iff_eq.2 hm) _ h hb rfl rfl) (by cases hq : anyNZ ([d0, d1, d2, d3, d4, d5].drop (min (blk s).toNat 6)) with
          | true => rw [may_any_no rfl hq, ← show min (blk s).toNat 6 = 6 from by omega, hq]; rfl
          | false => rw [may_yes hr rfl hq, ← show min (blk s).toNat 6 = 6 from by omega, hq, decide_eq_true h]; rfl)
  · rw [may_no hr]
    by_cases k1 : k = 1
    · subst k1
      by_cases q0 : a < 1
      · exact may_out10 a s l d0 d1 d2 d3 d4 d5 p w q0
      by_cases q1 : 64 < a
      · exact may_out11 a s l d0 d1 d2 d3 d4 d5 p w (by omega) q1
      by_cases q2 : s < 0
      · exact may_out12 a s l d0 d1 d2 d3 d4 d5 p w (by omega) (by omega) q2
      by_cases q3 : 3808 < s
      · exact may_out13 a s l d0 d1 d2 d3 d4 d5 p w (by omega) (by omega) (by omega) q3
      by_cases q4 : l < 1
      · exact may_out14 a s l d0 d1 d2 d3 d4 d5 p w (by omega) (by omega) (by omega) (by omega) q4
      by_cases q5 : 64 < l
      · exact may_out15 a s l d0 d1 d2 d3 d4 d5 p w (by omega) (by omega) (by omega) (by omega) (by omega) q5
      exact absurd ⟨by omega, by omega, by omega, by unfold maxSize; rw [if_pos rfl]; omega, by omega, by unfold maxLinks; rw [if_pos rfl]; omega, .inl rfl⟩ hr
    · by_cases k2 : k = 2
      · subst k2
        by_cases q0 : a < 1
        · exact may_out20 a s l d0 d1 d2 d3 d4 d5 p w q0
        by_cases q1 : 64 < a
        · exact may_out21 a s l d0 d1 d2 d3 d4 d5 p w (by omega) q1
        by_cases q2 : s < 0
        · exact may_out22 a s l d0 d1 d2 d3 d4 d5 p w (by omega) (by omega) q2
        by_cases qm : s % 28 = 0
        · have hm : (s % 28 != 0) = false := bne_eq_false_iff_eq.2 qm
          by_cases q3 : 1792 < s
          · exact may_out23 a s l d0 d1 d2 d3 d4 d5 p w (by omega) (by omega) (by omega) q3 hm
          by_cases q4 : l < 1
          · exact may_out24 a s l d0 d1 d2 d3 d4 d5 p w (by omega) (by omega) (by omega) (by omega) q4 hm
          by_cases q5 : 1 < l
          · exact may_out25 a s l d0 d1 d2 d3 d4 d5 p w (by omega) (by omega) (by omega) (by omega) (by omega) q5 hm
          exact absurd ⟨by omega, by omega, by omega, by unfold maxSize; rw [if_neg (by omega)]; omega, by omega, by unfold maxLinks; rw [if_neg (by omega)]; omega, .inr ⟨rfl, qm⟩⟩ hr
        · exact may_mod a s l d0 d1 d2 d3 d4 d5 p w (by omega) (bne_iff_ne.2 qm)
      · exact may_kind a k s l d0 d1 d2 d3 d4 d5 p w (beq_eq_false_iff_ne.2 k1) (beq_eq_false_iff_ne.2 k2)
end Go.Proofs.YtencgnhgjegknaaX
