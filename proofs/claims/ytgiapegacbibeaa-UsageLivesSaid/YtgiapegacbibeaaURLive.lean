/- The document's Live. -/
import Derived.Test.YtgiapegacbibeaaUROne
import Derived.Test.YtgiapegacbibeaaULive
namespace Go.Proofs.Ytgiapegacbibeaa.UM
open Go.RowKit Go.Proofs.YtgiapegacbibeaaX Go.Proofs.YtgiapegacbibeaaW.PrintWords
set_option linter.unusedVariables false
theorem BS.mono' {W : World} {B B' : Nat} {SA : Option Addr} {cs : Nat} {bl : List (List Int)} (h : BS W B SA cs bl) (hB : B ≤ B') : BS W B' SA cs bl := Kd.V_mono h (fun k hk => Nat.lt_of_lt_of_le hk hB)
set_option maxHeartbeats 2000000 in
set_option maxRecDepth 100000 in
theorem rlive_no (K N S : Int) (mm : List Int) (A : Option Addr) (m c : Nat) (w : World) (h : ¬ ((1 ≤ K ∧ K ≤ 255) ∧ 1 ≤ S ∧ S ≤ 128)) :
    Calls Try.prog 15 #[.agg #[.int .i64 K, .int .i64 N, .int .i64 S], .agg (nums .u32 mm).toArray, .slice A m c] w fun e w' => e = .returned (.tuple #[.slice none 0 0, .int .i64 1]) ∧ Below w.heap.size w w' := by
  have hu23 := Aside0.mk Try.underlying23
  have HM := Aside0.mk (may_f K N S)
  have HD := Aside0.mk (decide_eq_false h)
  clear h
  go_enter Try.func15, Try.ntmps15
  go_wp2_with (first
    | ((with_reducible refine gate_dst (N := 3) rfl ?_); refine box_event ?hg (N := 3) ?hd (cs := #[.int .i64 K, .int .i64 N, .int .i64 S]) (t := 23) ?hr ?_; (case hd => rfl); (case hg => rfl); (case hr => first | (go_simp; done) | (go_simp; rfl) | kernel_rfl); intro gg hg w1 hbox hb; have Gg := Aside0.mk (Nat.le_of_eq hg.symm); have HB1 := Aside0.mk (hb); have Bg1 := Aside0.mk (hbox); clear hb hbox hg)
    | ((with_reducible refine gate_dst (N := 4) rfl ?_); refine box_event ?hg (N := 4) ?hd (cs := (nums .u32 mm).toArray) (t := 36) ?hr ?_; (case hd => rfl); (case hg => rfl); (case hr => first | (go_simp; done) | (go_simp; rfl) | kernel_rfl); intro ga hg w2 hbox hb; have Ga := Aside0.mk (show w.heap.size ≤ ga from by have := HB1.out.size; omega); have HB2 := Aside0.mk (below_step HB1.out hb); have Nag := Aside0.mk (show ga ≠ gg from fun e => by have h1 := blk_lt Bg1.out; omega); have Bg2 := Aside0.mk (blk_below Bg1.out hb); have Ba2 := Aside0.mk (hbox); clear hb hbox hg)
    | ((with_reducible refine gate_dst (N := 11) rfl ?_); refine wpList_load_row rfl 23 (.tmp 3) (by kernel_rfl) gg (by kernel_rfl) _ _ _ _ Bg2.out hu23.out rfl sizeGeo ?_)
    | (have hz := HB2.out; clear hz; go_at_call 19; refine (Go.Proofs.Ytgiapegacbibeaa.PUsageLives.hayrickref15_May.calls K N S false _ (HM.out.trans (congrArg some HD.out))).mono ?_; rintro e w3 ⟨rfl, hb⟩; have HB3 := Aside0.mk (below_step HB2.out hb); clear hb))
  go_ret2
  exact ⟨rfl, HB3.out⟩
theorem rl_new {W1 W2 : World} {gl gv n D : Nat} {K N S : Int} {v : List Int} (hv : W1.heap[gv]? = some (.cells (nums .i64 v).toArray 3 (0, 0))) (hb : Below W1.heap.size W1 W2) (hg : W1.heap.size = gl)
    (h3 : W2.heap[gl]? = some (.cells (rlookCells K N S (.slice none 0 0) gv n) 73 (0, 0))) (hD : D ≤ W2.heap.size) : RL W2 gl gv n D K N S (.slice none 0 0) [] v := by
  have e2 := blk_lt hv
  exact ⟨h3, own_nil _ _ _ _, blk_below hv hb, by omega, hD⟩
set_option maxHeartbeats 4000000 in
set_option maxRecDepth 100000 in
theorem rlive_yes (K N : Int) (n : Nat) (mm : List Int) (w : World) (SA : Option Addr) (cs : Nat) (bl : List (List Int)) (R : Int × List Int × List Int) (hB : BS w w.heap.size SA cs bl) (hK : 1 ≤ K ∧ K ≤ 255) (hS : 1 ≤ (n : Int) ∧ (n : Int) ≤ 128) (hml : mm.length = 64) (hmr : ∀ x ∈ mm, 0 ≤ x ∧ x < 4294967296)
    (hlb : bl.length ≤ 9223372036854775807) (hz : ∀ b ∈ bl, b.length ≤ 140737488355328) (hy : ∀ b ∈ bl, ∀ x ∈ b, 0 ≤ x ∧ x < 256)
    (hR : liveN K n bl mm 0 [] (List.replicate n 0) = R) :
    Calls Try.prog 15 #[.agg #[.int .i64 K, .int .i64 N, .int .i64 (n : Int)], .agg (nums .u32 mm).toArray, .slice SA bl.length cs] w (LivePost w R) := by
  have hu23 := Aside0.mk Try.underlying23
  have HM := Aside0.mk (may_f K N n)
  have HD := Aside0.mk (decide_eq_true (show (1 ≤ K ∧ K ≤ 255) ∧ 1 ≤ (n : Int) ∧ (n : Int) ≤ 128 from ⟨hK, hS⟩))
  have HR := Aside0.mk hR
  have HML := Aside0.mk hml
  have HMR := Aside0.mk hmr
  have HK := Aside0.mk hK
  have HN := Aside0.mk hS
  have HBS := Aside0.mk hB
  have HZ := Aside0.mk (And.intro hlb (And.intro hz hy))
  have HMK := Aside0.mk (print_make (P := Try.prog) 40 3 .i64 8 Try.underlying40 infoI64 (by decide) n (by omega))
  clear hR hml hmr hK hS hB hlb hz hy
  go_enter Try.func15, Try.ntmps15
  go_wp2_with (first
    | ((with_reducible refine gate_dst (N := 3) rfl ?_); refine box_event ?hg (N := 3) ?hd (cs := #[.int .i64 K, .int .i64 N, .int .i64 (n : Int)]) (t := 23) ?hr ?_; (case hd => rfl); (case hg => rfl); (case hr => first | (go_simp; done) | (go_simp; rfl) | kernel_rfl); intro gg hg w1 hbox hb; have Gg := Aside0.mk (Nat.le_of_eq hg.symm); have HB1 := Aside0.mk (hb); have Bg1 := Aside0.mk (hbox); clear hb hbox hg)
    | ((with_reducible refine gate_dst (N := 4) rfl ?_); refine box_event ?hg (N := 4) ?hd (cs := (nums .u32 mm).toArray) (t := 36) ?hr ?_; (case hd => rfl); (case hg => rfl); (case hr => first | (go_simp; done) | (go_simp; rfl) | kernel_rfl); intro ga hg w2 hbox hb; have Ga := Aside0.mk (show w.heap.size ≤ ga from by have := HB1.out.size; omega); have HB2 := Aside0.mk (below_step HB1.out hb); have Nag := Aside0.mk (show ga ≠ gg from fun e => by have h1 := blk_lt Bg1.out; omega); have Bg2 := Aside0.mk (blk_below Bg1.out hb); have Ba2 := Aside0.mk (hbox); clear hb hbox hg)
    | ((with_reducible refine gate_dst (N := 11) rfl ?_); refine wpList_load_row rfl 23 (.tmp 3) (by kernel_rfl) gg (by kernel_rfl) _ _ _ _ Bg2.out hu23.out rfl sizeGeo ?_)
    | (have hz := HB2.out; clear hz; go_at_call 19; refine (Go.Proofs.Ytgiapegacbibeaa.PUsageLives.hayrickref15_May.calls K N n true _ (HM.out.trans (congrArg some HD.out))).mono ?_; rintro e w3 ⟨rfl, hb⟩; have HB3 := Aside0.mk (below_step HB2.out hb); have Bg3 := Aside0.mk (blk_below Bg2.out hb); have Ba3 := Aside0.mk (blk_below Ba2.out hb); clear hb))
  refine wp_region_held_drew (S := fun W => Below w3.heap.size w3 W) (by kernel_rfl) (below_drew (Below.refl w3.heap.size w3)) (fun hHeld => ?_)
  refine wpAnyH_take (i := 0) (oi := ⟨some 14, _, _, _, _, _⟩) rfl (by kernel_rfl) (by kernel_rfl) (by kernel_rfl) (fun _ _ _ h => h) (yieldsIf_load_mid (by rfl) 23 (.tmp 3) rfl gg 0 rfl [.int .i64 K, .int .i64 N, .int .i64 (n : Int)] _ (fun W hS => World.rangeAt_of_block (blk_below Bg3.out hS) 0 3) hu23.out rfl sizeGeo) hHeld ?_
  (try simp only [Act.put, List.setIfInBounds_toArray, List.set_cons_zero, List.set_cons_succ])
  refine wpAnyH_take (i := 1) (oi := ⟨some 15, _, _, _, _, _⟩) (v := (.pointer (some ⟨gg, 2, none⟩))) rfl (by kernel_rfl) (by kernel_rfl) (by kernel_rfl) (fun _ _ _ h => h) (Or.inl ⟨by rfl, fun W hS => by go_simp⟩) hHeld ?_
  (try simp only [Act.put, List.setIfInBounds_toArray, List.set_cons_zero, List.set_cons_succ])
  refine wpAnyH_take (i := 2) (oi := ⟨some 16, _, _, _, _, _⟩) (v := (.int .i64 (n : Int))) rfl (by kernel_rfl) (by kernel_rfl) (by kernel_rfl) (fun _ _ _ h => h) (Or.inl ⟨by rfl, fun W hS => by have c2 : W.cell? ⟨gg, 2, none⟩ = some (.int .i64 (n : Int)) := blk_cell (blk_below Bg3.out hS) 2; go_simp⟩) hHeld ?_
  (try simp only [Act.put, List.setIfInBounds_toArray, List.set_cons_zero, List.set_cons_succ])
  obtain ⟨W0, hW0⟩ : ∃ W0, w3.drew = W0 := ⟨_, rfl⟩
  rw [hW0] at hHeld ⊢
  clear hW0
  have hmk := HMK.out
  refine wpAnyH_ready (rs := [3]) (by kernel_rfl) (by simp) ?_
  refine AllReadyH.cons rfl (fun K' hK' => ?_) AllReadyH.nil
  go_simp
  refine hK'.out _ _ (below_alloc hHeld _) (fun hH1 => ?_)
  have k2 := heap_alloc_new W0 (.cells (madeCells #[.int .i64 0] n) 3)
  have z0 := hHeld.size
  obtain ⟨gv, hgv⟩ : ∃ g, W0.heap.size = g := ⟨_, rfl⟩
  obtain ⟨W1, hW1⟩ : ∃ W1, W0.alloc (.cells (madeCells #[.int .i64 0] n) 3) = W1 := ⟨_, rfl⟩
  rw [hW1] at hH1 k2 ⊢
  rw [hgv] at k2 z0 ⊢
  have FV := Aside0.mk (made_nums .i64 n ▸ k2)
  have ZV := Aside0.mk z0
  clear hK' K' hHeld k2 z0 hgv hW1 hmk
  (try simp only [Act.put, List.setIfInBounds_toArray, List.set_cons_zero, List.set_cons_succ])
  refine wpAnyH_take (i := 4) (oi := ⟨some 18, _, _, _, _, _⟩) (v := (.agg (rlookCells K N n (.slice none 0 0) gv n))) rfl (by kernel_rfl) (by kernel_rfl) (by kernel_rfl) (fun _ _ _ h => h) (Or.inl ⟨by rfl, fun W hS => by go_simp⟩) hH1 ?_
  (try simp only [Act.put, List.setIfInBounds_toArray, List.set_cons_zero, List.set_cons_succ])
  refine wpAnyH_ready (rs := [5]) (by kernel_rfl) (by simp) ?_
  refine AllReadyH.cons rfl (fun K' hK' => ?_) AllReadyH.nil
  go_simp
  refine hK'.out _ _ (below_alloc hH1 _) (fun hH2 => ?_)
  have k3 := heap_alloc_new W1 (.cells (rlookCells K N n (.slice none 0 0) gv n) 73)
  have b3 := below_alloc (Below.refl W1.heap.size W1) (.cells (rlookCells K N n (.slice none 0 0) gv n) 73)
  have z1 := hH1.size
  obtain ⟨gl, hgl⟩ : ∃ g, W1.heap.size = g := ⟨_, rfl⟩
  obtain ⟨W2, hW2⟩ : ∃ W2, W1.alloc (.cells (rlookCells K N n (.slice none 0 0) gv n) 73) = W2 := ⟨_, rfl⟩
  rw [hW2] at hH2 k3 b3 ⊢
  rw [hgl] at k3 z1 ⊢
  have HL2 := Aside0.mk (rl_new (v := List.replicate n 0) (n := n) (D := w3.heap.size) FV.out b3 hgl k3 hH2.size)
  have ZL := Aside0.mk z1
  clear hK' K' hH1 k3 b3 hgl hW2 z1
  (try simp only [Act.put, List.setIfInBounds_toArray, List.set_cons_zero, List.set_cons_succ])
  refine wpAnyH_take (i := 6) (oi := ⟨some 8, _, _, _, _, _⟩) (v := (.pointer (some ⟨gl, 0, none⟩))) rfl (by kernel_rfl) (by kernel_rfl) (by kernel_rfl) (fun _ _ _ h => h) (Or.inl ⟨by rfl, fun W hS => by go_simp⟩) hH2 ?_
  (try simp only [Act.put, List.setIfInBounds_toArray, List.set_cons_zero, List.set_cons_succ])
  refine wpAnyH_done (by kernel_rfl) ?_ _
  have H2 := Aside0.mk hH2
  clear hH2
  (try simp only [Exit.then])
  have HB3S := Aside0.mk ((HBS.out.below HB3.out).mono' HB3.out.size)
  go_wp2
  go_loopw [9] (fun i wr => ∃ j : Nat, j ≤ 64 ∧ i = .int .i64 j ∧ ∃ l v sv, Aside0 (RL wr gl gv n w3.heap.size K N n sv l.reverse v) ∧ Aside0 (Below w3.heap.size w3 wr) ∧ Aside0 (liveN K n bl (mm.drop j) (j : Int) l v = R) ∧ Aside0 (Inv n l v ∧ l.length ≤ 36 * j)) (fun i _ => 64 - (intOf i).toNat)
  case atStart => exact ⟨0, Nat.zero_le _, rfl, [], List.replicate n 0, _, HL2, H2, ⟨HR.out⟩, ⟨inv_zero n, Nat.zero_le _⟩⟩
  case round =>
    obtain ⟨j, hj, rfl, l, v, sv, Q1, Q2, Q3, Q4⟩ := hrel
    clear HL2 H2
    by_cases hlt : j < 64
    · have hjm : j < mm.length := by rw [HML.out]; exact hlt
      have hst := live_step (K := K) (S := n) (bl := bl) (l := l) (v := v) hjm
      have hra : 0 ≤ mm.getD j 0 ∧ mm.getD j 0 < 4294967296 := by rw [List.getD_eq_getElem?_getD, List.getElem?_eq_getElem hjm]; exact HMR.out _ (List.getElem_mem _)
      have ca : wr.cell? ⟨ga, j, none⟩ = some (.int .u32 (mm.getD j 0)) := (blk_cell (blk_below Ba3.out Q2.out) j).trans (by rw [List.getD_eq_getElem?_getD]; simp [nums, hjm])
      obtain ⟨a, ha⟩ : ∃ a, mm.getD j 0 = a := ⟨_, rfl⟩
      rw [ha] at hst hra ca
      rw [Q3.out] at hst
      have hj1 : (j : Int) < 64 := by omega
      have hj0 : (0 : Int) ≤ (j : Int) := Int.natCast_nonneg _
      clear ha hjm hlt
      by_cases h0 : a = 0
      · subst h0
        rw [if_pos rfl] at hst
        have HST := Aside0.mk hst.symm
        clear hst hra
        go_wp2
        go_roundw
        case rel => exact ⟨j + 1, by omega, by go_num, l, v, sv, Q1, Q2, ⟨by rw [Int.natCast_add]; exact HST.out⟩, ⟨Q4.out.1, by have := Q4.out.2; omega⟩⟩
        case measure => simp [intOf]; omega
      · have h0b : (a != 0) = true := bne_iff_ne.2 h0
        rw [if_neg h0] at hst
        have hcl := one_any wr gl gv n w3.heap.size K N n sv l v SA cs bl ((j : Int) + 1) a ⟨Q1.out, HB3S.out.below Q2.out, ZL.out, ZV.out, HK.out, HN.out, rfl, Q4.out.1, hra, HZ.out.1, HZ.out.2.1, HZ.out.2.2, by have := Q4.out.2; omega⟩
        obtain ⟨x, l', v', hio⟩ : ∃ x l' v', inoN K n bl ((j : Int) + 1) a l v = (x, l', v') := ⟨_, _, _, rfl⟩
        rw [hio] at hst hcl
        have HCL := Aside0.mk hcl
        by_cases hx : x = 0
        · subst hx
          have HST := Aside0.mk (show liveN K n bl (mm.drop (j + 1)) ((j : Int) + 1) l' v' = R from by rw [hst]; simp)
          have HI := Aside0.mk (ino_inv Q4.out.1 hio)
          clear hst hcl hio hra h0
          go_wp2_with (first | (go_at_call 23; refine HCL.out.mono ?_; rintro e w1 ⟨rfl, hl, hk⟩; obtain ⟨sv', hl', _⟩ := hl rfl; have HL1 := Aside0.mk hl'; have HB1' := Aside0.mk (Kp.to_below Q2.out hk (Q1.out.low ZL.out ZV.out)); clear hl hl' hk))
          go_roundw
          case rel => exact ⟨j + 1, by omega, by go_num, l', v', sv', HL1, HB1', ⟨by rw [Int.natCast_add]; exact HST.out⟩, ⟨HI.out.1, by have h1 := HI.out.2; have h2 := Q4.out.2; omega⟩⟩
          case measure => simp [intOf]; omega
        · have hxb : (x != 0) = true := bne_iff_ne.2 hx
          have hR : R = (x, l', v') := by rw [hst, if_pos hx]
          subst hR
          have hr0 : (if x = 0 then v' else []) = ([] : List Int) := if_neg hx
          have HR0 := Aside0.mk hr0
          clear hst hcl hio hra h0 hr0 hx
          go_wp2_with (first | (go_at_call 23; refine HCL.out.mono ?_; rintro e w1 ⟨rfl, hl, hk⟩; have HB1' := Aside0.mk (Kp.to_below Q2.out hk (Q1.out.low ZL.out ZV.out)); clear hl hk))
          go_ret2
          exact live_end rfl (by rw [HR0.out]; exact ⟨none, 0, 0, rfl, ⟨rfl, by decide, fun h => absurd h (by decide)⟩, Nat.le_refl _, below_step HB3.out HB1'.out⟩)
    · obtain rfl : j = 64 := by omega
      have h3 := Q3.out
      rw [List.drop_of_length_le (by rw [HML.out]; exact Nat.le_refl _)] at h3
      obtain rfl : R = (0, l, v) := h3.symm
      have k4 := Q1.out.c4
      clear hlt hj h3
      go_wp2
      go_ret2
      exact live_end rfl ⟨some ⟨gv, 0, none⟩, n, n, rfl, reads_vec Q1.out.vec Q4.out.1.1 (by have := HN.out; omega), Nat.le_refl _, below_step HB3.out Q2.out⟩
end Go.Proofs.Ytgiapegacbibeaa.UM
