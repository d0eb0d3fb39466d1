/- inode.Pointers. -/
import Derived.Test.YtgiapegacbibeaaDel
import Derived.Test.YtgiapegacbibeaaNums
import Derived.Deep.RegionHeld3
import Derived.Deep.DeepAppendWide
import Derived.Maps.AppendAt
import Derived.RangeFuncBox
namespace Go.Proofs.YtgiapegacbibeaaX
open Go.RowKit Go.Proofs.YtgiapegacbibeaaW.PrintWords
set_option linter.unusedVariables false
set_option linter.unusedSimpArgs false
theorem blk_yields {W : World} {gb : Nat} {a k s l d0 d1 d2 d3 d4 d5 p : Int} (h : W.heap[gb]? = some (.cells (inoCells a k s l d0 d1 d2 d3 d4 d5 p) 57 (0, 0))) : W.cell? ⟨gb, 10, none⟩ = some (.int .u32 p) := blk_cell h 10
theorem dir_reads {W : World} {gb : Nat} {a k s l d0 d1 d2 d3 d4 d5 p : Int} (h : W.heap[gb]? = some (.cells (inoCells a k s l d0 d1 d2 d3 d4 d5 p) 57 (0, 0))) : ReadsInt W .u32 (some ⟨gb, 4, none⟩) 6 [d0, d1, d2, d3, d4, d5] := by
  refine ⟨rfl, by decide, fun _ => ⟨_, rfl, fun j hj => ?_⟩⟩
  rw [Addr.add_mid, blk_cell h]
  match j, hj with
  | 0, _ => rfl
  | 1, _ => rfl
  | 2, _ => rfl
  | 3, _ => rfl
  | 4, _ => rfl
  | 5, _ => rfl
set_option maxHeartbeats 2000000 in
set_option maxRecDepth 100000 in
theorem pointers_any (a k s l d0 d1 d2 d3 d4 d5 p : Int) (w : World) :
    Calls Try.prog 29 #[.agg (inoCells a k s l d0 d1 d2 d3 d4 d5 p)] w fun e w' => ∃ A c, e = .returned (.slice A (filt [d0, d1, d2, d3, d4, d5, p]).length c) ∧ ReadsInt w' .u32 A (filt [d0, d1, d2, d3, d4, d5, p]).length (filt [d0, d1, d2, d3, d4, d5, p]) ∧ (filt [d0, d1, d2, d3, d4, d5, p]).length ≤ c ∧ Below w.heap.size w w' := by
  obtain ⟨i0, hi, hz0, hz1, hz2⟩ := info_parts infoU32
  have HI0 := Aside0.mk hi
  clear hi
  go_enter Try.func29, Try.ntmps29
  go_wp2_with (first | ((with_reducible refine gate_dst (N := 1) rfl ?_); refine box_event ?hg (N := 1) ?hd (cs := inoCells a k s l d0 d1 d2 d3 d4 d5 p) (t := 57) ?hr ?_; (case hd => rfl); (case hg => rfl); (case hr => first | (go_simp; done) | (go_simp; rfl)); intro gb hg w1 hbox hb; have HB1 := Aside0.mk hb; have BK1 := Aside0.mk hbox; clear hb hbox hg))
  refine wp_region_held_drew (S := fun W => Below w.heap.size w W ∧ W.heap[gb]? = some (.cells (inoCells a k s l d0 d1 d2 d3 d4 d5 p) 57 (0, 0))) (by kernel_rfl) ⟨below_drew HB1.out, BK1.out⟩ (fun hHeld => ?_)
  refine wpAnyH_take (i := 0) (oi := ⟨some 4, _, _, _, _, _⟩) (v := .pointer (some ⟨gb, 4, none⟩)) rfl (by kernel_rfl) (by kernel_rfl) (by kernel_rfl) (fun _ _ _ h => h) (Or.inl ⟨by rfl, fun W hS => by go_simp⟩) hHeld ?_
  simp only [Act.put, List.setIfInBounds_toArray, List.set_cons_zero, List.set_cons_succ]
  refine wpAnyH_take (i := 1) (oi := ⟨some 5, _, _, _, _, _⟩) (v := .slice (some ⟨gb, 4, none⟩) 6 6) rfl (by kernel_rfl) (by kernel_rfl) (by kernel_rfl) (fun _ _ _ h => h) (Or.inl ⟨by rfl, fun W hS => by go_simp⟩) hHeld ?_
  simp only [Act.put, List.setIfInBounds_toArray, List.set_cons_zero, List.set_cons_succ]
  refine wpAnyH_take (i := 3) (oi := ⟨some 7, _, _, _, _, _⟩) (v := .pointer (some ⟨gb, 10, none⟩)) rfl (by kernel_rfl) (by kernel_rfl) (by kernel_rfl) (fun _ _ _ h => h) (Or.inl ⟨by rfl, fun W hS => by go_simp⟩) hHeld ?_
  simp only [Act.put, List.setIfInBounds_toArray, List.set_cons_zero, List.set_cons_succ]
  refine wpAnyH_take (i := 4) (oi := ⟨some 8, _, _, _, _, _⟩) (v := .int .u32 p) rfl (by kernel_rfl) (by kernel_rfl) (by kernel_rfl) (fun _ _ _ h => h) (Or.inl ⟨by rfl, fun W hS => by have h10 := blk_yields hS.2; go_simp⟩) hHeld ?_
  simp only [Act.put, List.setIfInBounds_toArray, List.set_cons_zero, List.set_cons_succ]
  obtain ⟨W0, hW0⟩ : ∃ W0, w1.drew = W0 := ⟨_, rfl⟩
  rw [hW0] at hHeld ⊢
  clear hW0
  refine wpAnyH_ready (rs := [2, 5]) (by kernel_rfl) (by simp) ?_
  refine AllReadyH.cons rfl (fun K hK => ?_) (AllReadyH.cons rfl (fun K hK => ?_) AllReadyH.nil)
  · go_simp
    refine (clone_any _ _ _ [d0, d1, d2, d3, d4, d5] _ (dir_reads hHeld.2) (by decide) (fun h => by cases h)).mono ?_
    rintro e w2 ⟨v, rfl, ho, hb2⟩
    dsimp only
    refine hK.out _ _ ⟨below_step hHeld.1 hb2, blk_below hHeld.2 hb2⟩ (fun hH2 => ?_)
    clear hK K
    have HO := own_less ho hHeld.1.size
    (try simp only [Act.put, List.setIfInBounds_toArray, List.set_cons_zero, List.set_cons_succ])
    refine wpAnyH_ready (rs := [5]) (by kernel_rfl) (by simp) ?_
    refine AllReadyH.cons rfl (fun K hK => ?_) AllReadyH.nil
    rw [if_pos (by rfl)]
    go_simp
    refine hK.out _ _ ⟨below_alloc hH2.1 _, blk_alloc hH2.2 _⟩ (fun hH3 => ?_)
    clear hK K
    (try simp only [Act.put, List.setIfInBounds_toArray, List.set_cons_zero, List.set_cons_succ])
    refine wpAnyH_ready (rs := [6]) (by kernel_rfl) (by simp) ?_
    refine AllReadyH.cons rfl (fun K hK => ?_) AllReadyH.nil
    rw [if_pos (by rfl)]
    refine wp_append_own_wide _ (.tmp 6) (.tmp 9) 71 rfl w.heap.size 24 i0 (.int .u32 0) 1 4 Try.underlying71 HI0.out hz0 hz1 hz2 rfl (by decide) v 6 _ (by kernel_rfl) (HO.alloc _) ⟨w2.heap.size, 0, none⟩ 1 1 [.int .u32 p] (by kernel_rfl) rfl (cell_one_new _ _ _) (by simp [Value.oneCell']) (by simp [maxLen]) (by omega) hH3.1.size ?_
    intro v' w3 hown' hgrow _
    obtain ⟨g', cap', rfl⟩ := ownsRow_succ hown'
    have hcap : cap' ≤ 9223372036854775807 := by
      rcases hown'.2 with ⟨he, _⟩ | ⟨g2, c2, cur, he, _, _, _, hm, _⟩
      · cases he
      · cases he; simpa [maxLen] using hm
    have hnb : some gb ≠ v.ownBlock := own_ne HO hH2.2 (by decide)
    refine hK.out _ _ ⟨pw_below_grown hH3.1 _ hH3.1.size hgrow (fun q e => own_base HO q e), blk_grown hH3.2 hgrow hnb⟩ (fun hH4 => ?_)
    clear hK K
    (try simp only [Act.put, List.setIfInBounds_toArray, List.set_cons_zero, List.set_cons_succ])
    refine wpAnyH_take (i := 7) (oi := ⟨some 3, _, _, _, _, _⟩) (v := .slice (some ⟨g', 0, none⟩) 7 cap') rfl (by kernel_rfl) (by kernel_rfl) (by kernel_rfl) (fun _ _ _ h => h) (Or.inl ⟨by rfl, fun W hS => by go_simp⟩) hH4 ?_
    (try simp only [Act.put, List.setIfInBounds_toArray, List.set_cons_zero, List.set_cons_succ])
    refine wpAnyH_done (by kernel_rfl) ?_ _
    go_wp2_with (first | (go_at_call 43; refine (del_any g' 7 cap' [d0, d1, d2, d3, d4, d5, p] w3 w hH4.1 hcap hown').mono ?_; rintro e w4 ⟨rfl, hr, hc, hb⟩))
    go_ret
    exact ⟨_, _, rfl, hr, hc, hb⟩
  · rw [if_pos (by rfl)]
    go_simp
    refine hK.out _ _ ⟨below_alloc hHeld.1 _, blk_alloc hHeld.2 _⟩ (fun hH2 => ?_)
    clear hK K
    (try simp only [Act.put, List.setIfInBounds_toArray, List.set_cons_zero, List.set_cons_succ])
    refine wpAnyH_ready (rs := [2]) (by kernel_rfl) (by simp) ?_
    refine AllReadyH.cons rfl (fun K hK => ?_) AllReadyH.nil
    have hcn := cell_one_new W0 (.int .u32 p) 24
    generalize hW1 : W0.alloc (.cells #[.int .u32 p] 24) = W1 at hH2 hcn ⊢
    go_simp
    refine (clone_any _ _ _ [d0, d1, d2, d3, d4, d5] _ (dir_reads hH2.2) (by decide) (fun h => by cases h)).mono ?_
    rintro e w2 ⟨v, rfl, ho, hb2⟩
    dsimp only
    refine hK.out _ _ ⟨below_step hH2.1 hb2, blk_below hH2.2 hb2⟩ (fun hH3 => ?_)
    clear hK K
    have HO := own_less ho hH2.1.size
    (try simp only [Act.put, List.setIfInBounds_toArray, List.set_cons_zero, List.set_cons_succ])
    refine wpAnyH_ready (rs := [6]) (by kernel_rfl) (by simp) ?_
    refine AllReadyH.cons rfl (fun K hK => ?_) AllReadyH.nil
    rw [if_pos (by rfl)]
    refine wp_append_own_wide _ (.tmp 6) (.tmp 9) 71 rfl w.heap.size 24 i0 (.int .u32 0) 1 4 Try.underlying71 HI0.out hz0 hz1 hz2 rfl (by decide) v 6 _ (by kernel_rfl) HO ⟨W0.heap.size, 0, none⟩ 1 1 [.int .u32 p] (by kernel_rfl) rfl (fun j u hu => pw_cell_below hb2 (hcn j u hu)) (by simp [Value.oneCell']) (by simp [maxLen]) (by omega) hH3.1.size ?_
    intro v' w3 hown' hgrow _
    obtain ⟨g', cap', rfl⟩ := ownsRow_succ hown'
    have hcap : cap' ≤ 9223372036854775807 := by
      rcases hown'.2 with ⟨he, _⟩ | ⟨g2, c2, cur, he, _, _, _, hm, _⟩
      · cases he
      · cases he; simpa [maxLen] using hm
    have hnb : some gb ≠ v.ownBlock := own_ne HO hH3.2 (by decide)
    refine hK.out _ _ ⟨pw_below_grown hH3.1 _ hH3.1.size hgrow (fun q e => own_base HO q e), blk_grown hH3.2 hgrow hnb⟩ (fun hH4 => ?_)
    clear hK K
    (try simp only [Act.put, List.setIfInBounds_toArray, List.set_cons_zero, List.set_cons_succ])
    refine wpAnyH_take (i := 7) (oi := ⟨some 3, _, _, _, _, _⟩) (v := .slice (some ⟨g', 0, none⟩) 7 cap') rfl (by kernel_rfl) (by kernel_rfl) (by kernel_rfl) (fun _ _ _ h => h) (Or.inl ⟨by rfl, fun W hS => by go_simp⟩) hH4 ?_
    (try simp only [Act.put, List.setIfInBounds_toArray, List.set_cons_zero, List.set_cons_succ])
    refine wpAnyH_done (by kernel_rfl) ?_ _
    go_wp2_with (first | (go_at_call 43; refine (del_any g' 7 cap' [d0, d1, d2, d3, d4, d5, p] w3 w hH4.1 hcap hown').mono ?_; rintro e w4 ⟨rfl, hr, hc, hb⟩))
    go_ret
    exact ⟨_, _, rfl, hr, hc, hb⟩
end Go.Proofs.YtgiapegacbibeaaX
