/- usage.Live: what lives. -/
import Derived.Test.YtgiapegacbibeaaUInoAny
import Derived.Carry
namespace Go.Proofs.Ytgiapegacbibeaa.UM
open Go.RowKit Go.Proofs.YtgiapegacbibeaaX Go.Proofs.YtgiapegacbibeaaW.PrintWords
set_option linter.unusedVariables false
/-- What lives of a map: the error, what is met. -/
def liveN (K S : Int) (bl : List (List Int)) : List Int → Int → List Int → List Int → Int × List Int × List Int
  | [], _, l, v => (0, l, v)
  | a :: r, i, l, v => if a = 0 then liveN K S bl r (i + 1) l v else
    if (inoN K S bl (i + 1) a l v).1 ≠ 0 then inoN K S bl (i + 1) a l v else liveN K S bl r (i + 1) (inoN K S bl (i + 1) a l v).2.1 (inoN K S bl (i + 1) a l v).2.2
theorem live_step {K S : Int} {bl : List (List Int)} {m l v : List Int} {j : Nat} (h : j < m.length) : liveN K S bl (m.drop j) (j : Int) l v = if m.getD j 0 = 0 then liveN K S bl (m.drop (j + 1)) ((j : Int) + 1) l v else
    if (inoN K S bl ((j : Int) + 1) (m.getD j 0) l v).1 ≠ 0 then inoN K S bl ((j : Int) + 1) (m.getD j 0) l v else liveN K S bl (m.drop (j + 1)) ((j : Int) + 1) (inoN K S bl ((j : Int) + 1) (m.getD j 0) l v).2.1 (inoN K S bl ((j : Int) + 1) (m.getD j 0) l v).2.2 := by
  rw [List.drop_eq_getElem_cons h, show m.getD j 0 = m[j] by rw [List.getD_eq_getElem?_getD, List.getElem?_eq_getElem h]; rfl]
  rfl
theorem made_nums (k : IntKind) (n : Nat) : madeCells #[Value.int k 0] n = (nums k (List.replicate n 0)).toArray := by
  have hl : (madeCells #[Value.int k 0] n).toList = nums k (List.replicate n 0) := by
    apply List.ext_getElem
    · simp [nums, madeCells]
    · intro i h1 h2
      simp [nums, madeCells, Nat.mod_one]
  rw [← hl]
theorem infoI64 : (Try.prog.info? 3).map (fun i => (i.zero, i.size, i.bytes)) = some (some (.int .i64 0), 1, 8) := by kernel_rfl
theorem sizeArr : (Try.prog.info? 36).map (·.size) = some 64 := by kernel_rfl
theorem sizeU32r (W : World) : (sizeOf 24).run Try.prog W = .ok 1 W := by kernel_rfl
theorem idx64 (cells : Array Value) (j : Nat) (x : Int) (hj : j < 64) (hx : cells[j]? = some (.int .u32 x)) (W : World) : (Instr.index 36 (.agg cells) (.int .i64 (j : Int))).run Try.prog W = .ok (.int .u32 x) W := by
  have hp : Try.prog.plainKey 24 = true := by kernel_rfl
  have p1 := run_part_plain (P := Try.prog) W hp hx
  have hj' : (0 : Int) ≤ (j : Int) ∧ (j : Int) < ((64 : Nat) : Int) := ⟨Int.natCast_nonneg _, by omega⟩
  have hu := run_underlying (P := Try.prog) (w := W) Try.underlying36
  simp only [Instr.index, asIntOf, Sem.run_bind, Sem.run_pure, Result.andThen_ok, hu, sizeU32r, if_pos hj', Int.toNat_natCast, Nat.mul_one, p1]
theorem blocks_no (K N S : Int) (h : ¬ ((1 ≤ K ∧ K ≤ 255) ∧ 1 ≤ S ∧ S ≤ 128)) : Go.Proofs.Ytgiapegacbibeaa.PUsageLives.usage_blocks.f K N S = some 0 := by
  unfold Go.Proofs.Ytgiapegacbibeaa.PUsageLives.usage_blocks.f
  repeat' split
  all_goals first | rfl | omega
set_option maxHeartbeats 2000000 in
set_option maxRecDepth 100000 in
theorem live_no (K N S : Int) (mm : List Int) (rv : Value) (w : World) (h : ¬ ((1 ≤ K ∧ K ≤ 255) ∧ 1 ≤ S ∧ S ≤ 128)) :
    Calls Try.prog 13 #[.agg #[.int .i64 K, .int .i64 N, .int .i64 S], .agg (nums .u32 mm).toArray, rv] w fun e w' => e = .returned (.tuple #[.slice none 0 0, .int .i64 1]) ∧ Below w.heap.size w w' := by
  have hu23 := Aside0.mk Try.underlying23
  have HB0 := Aside0.mk (blocks_no K N S h)
  clear h
  go_enter Try.func13, Try.ntmps13
  go_wp2_with (first
    | ((with_reducible refine gate_dst (N := 3) rfl ?_); refine box_event ?hg (N := 3) ?hd (cs := #[.int .i64 K, .int .i64 N, .int .i64 S]) (t := 23) ?hr ?_; (case hd => rfl); (case hg => rfl); (case hr => first | (go_simp; done) | (go_simp; rfl) | kernel_rfl); intro gg hg w1 hbox hb; have Gg := Aside0.mk (Nat.le_of_eq hg.symm); have HB1 := Aside0.mk (hb); have Bg1 := Aside0.mk (hbox); clear hb hbox hg)
    | ((with_reducible refine gate_dst (N := 4) rfl ?_); refine box_event ?hg (N := 4) ?hd (cs := (nums .u32 mm).toArray) (t := 36) ?hr ?_; (case hd => rfl); (case hg => rfl); (case hr => first | (go_simp; done) | (go_simp; rfl) | kernel_rfl); intro ga hg w2 hbox hb; have Ga := Aside0.mk (show w.heap.size ≤ ga from by have := HB1.out.size; omega); have HB2 := Aside0.mk (below_step HB1.out hb); have Nag := Aside0.mk (show ga ≠ gg from fun e => by have h1 := blk_lt Bg1.out; omega); have Bg2 := Aside0.mk (blk_below Bg1.out hb); have Ba2 := Aside0.mk (hbox); clear hb hbox hg)
    | ((with_reducible refine gate_dst (N := 12) rfl ?_); refine wpList_load_row rfl 23 (.tmp 3) (by kernel_rfl) gg (by kernel_rfl) _ _ _ _ Bg2.out hu23.out rfl sizeGeo ?_)
    | (have hz := HB2.out; clear hz; go_at_call 18; refine (Go.Proofs.Ytgiapegacbibeaa.PUsageLives.usage_blocks.calls K N S 0 _ HB0.out).mono ?_; rintro e w3 ⟨rfl, hb⟩; have HB3 := Aside0.mk (below_step HB2.out hb); clear hb))
  go_ret2
  exact ⟨rfl, HB3.out⟩
def LivePost (w : World) (R : Int × List Int × List Int) (e : Ending) (w' : World) : Prop :=
  ∃ A m c, e = .returned (.tuple #[.slice A m c, .int .i64 R.1]) ∧ ReadsInt w' .i64 A m (if R.1 = 0 then R.2.2 else []) ∧ m ≤ c ∧ Below w.heap.size w w'
theorem live_end {w w' : World} {R : Int × List Int × List Int} {e : Ending} {V : List Int} (hV : (if R.1 = 0 then R.2.2 else []) = V) (h : ∃ A m c, e = .returned (.tuple #[.slice A m c, .int .i64 R.1]) ∧ ReadsInt w' .i64 A m V ∧ m ≤ c ∧ Below w.heap.size w w') : LivePost w R e w' := by subst hV; exact h
theorem reads_vec {w : World} {g t n : Nat} {k : IntKind} {xs : List Int} (h : w.heap[g]? = some (.cells (nums k xs).toArray t (0, 0))) (hn : xs.length = n) (hb : n ≤ 9223372036854775807) : ReadsInt w k (some ⟨g, 0, none⟩) n xs := by
  refine ⟨hn, hb, fun _ => ⟨_, rfl, fun j hj => ?_⟩⟩
  have hadd : (⟨g, 0, none⟩ : Addr).add j = ⟨g, j, none⟩ := by unfold Addr.add; split <;> simp_all
  rw [hadd, blk_cell h]
  have hj' : j < xs.length := by omega
  simp [nums, List.getD_eq_getElem?_getD, hj']
theorem List.getD_replicate_zero (n i : Nat) : (List.replicate n (0 : Int)).getD i 0 = 0 := by
  rw [List.getD_eq_getElem?_getD, List.getElem?_replicate]
  split <;> rfl
theorem inv_zero (n : Nat) : Inv n [] (List.replicate n 0) := ⟨List.length_replicate, fun i => by rw [UM.List.getD_replicate_zero]; exact ⟨Int.le_refl _, Int.le_refl _⟩⟩
theorem owns_empty {W : World} {b : Nat} (hb : W.heap[b]? = some (.map #[] 0)) : W.ownsMap Try.prog 24 (plainElem (H := Unit) Try.prog 4) b 0 (.map []) := by
  obtain ⟨es, clock, h1, F, h2, h3⟩ := World.ownsMap_made W Try.prog 24 (plainElem (H := Unit) Try.prog 4)
  rw [heap_alloc_new W (.map #[] 0)] at h1
  cases h1
  exact ⟨#[], 0, hb, F, h2, h3⟩
theorem lk_new {W2 W3 : World} {gl gk gv n : Nat} {K N S : Int} {rv : Value} {v : List Int} (h1 : gk ≠ gv) (hk : W2.heap[gk]? = some (.map #[] 0)) (hv : W2.heap[gv]? = some (.cells (nums .i64 v).toArray 3 (0, 0))) (hb : Below W2.heap.size W2 W3) (hg : W2.heap.size = gl)
    (h3 : W3.heap[gl]? = some (.cells (lookCells K N S rv gk gv n) 66 (0, 0))) : LK W3 gl gk gv n K N S rv [] v := by
  have e1 : gk < W2.heap.size := by
    rcases Nat.lt_or_ge gk W2.heap.size with h | h
    · exact h
    · rw [Array.getElem?_eq_none h] at hk; cases hk
  have e2 : gv < W2.heap.size := blk_lt hv
  refine ⟨h3, ⟨.map [], owns_empty ((hb.block gk e1).trans hk), ⟨[], rfl⟩, fun a => ?_⟩, (hb.block gv e2).trans hv, by omega, by omega, h1⟩
  rw [decide_eq_false (by simp)]
  rfl
set_option maxHeartbeats 4000000 in
set_option maxRecDepth 100000 in
theorem live_func (K N : Int) (n : Nat) (mm : List Int) (f1 : Fn) (f2 f3 : Array Value) (w : World) (R : Int × List Int × List Int) (bl : List (List Int)) (hK : 1 ≤ K ∧ K ≤ 255) (hS : 1 ≤ (n : Int) ∧ (n : Int) ≤ 128) (hml : mm.length = 64) (hmr : ∀ x ∈ mm, 0 ≤ x ∧ x < 4294967296)
    (hR : liveN K n bl mm 0 [] (List.replicate n 0) = R)
    (hC : ∀ (W : World) (gl gm gv : Nat) (l v : List Int) (ino a : Int), Below w.heap.size w W → LK W gl gm gv n K N n (.func f1 f2 f3) l v → w.heap.size ≤ gm → w.heap.size ≤ gv → Inv n l v → 0 ≤ a ∧ a < 4294967296 → l.length ≤ 1000000 → a ∈ mm → a ≠ 0 →
      Calls Try.prog 21 #[.pointer (some ⟨gl, 0, none⟩), .int .i64 ino, .int .u32 a] W (IPost gl gm gv n K N n (.func f1 f2 f3) W (inoN K n bl ino a l v))) :
    Calls Try.prog 13 #[.agg #[.int .i64 K, .int .i64 N, .int .i64 (n : Int)], .agg (nums .u32 mm).toArray, (.func f1 f2 f3)] w (LivePost w R) := by
  have hu23 := Aside0.mk Try.underlying23
  have hu36 := Aside0.mk Try.underlying36
  have HB0 := Aside0.mk (blocks_f K N n hK hS)
  have hk4 : 4 * K ≠ 0 := by omega
  have hk4b : (4 * K == 0) = false := beq_eq_false_iff_ne.2 hk4
  have HC := Aside0.mk hC
  have HR := Aside0.mk hR
  have HML := Aside0.mk hml
  have HAS := Aside0.mk (show (Try.prog.info? 36).map (·.size) = some (nums .u32 mm).toArray.size from by rw [sizeArr]; simp [nums, hml])
  have HMR := Aside0.mk hmr
  have HN := Aside0.mk hS
  have HMK := Aside0.mk (print_make (P := Try.prog) 40 3 .i64 8 Try.underlying40 infoI64 (by decide) n (by omega))
  clear hC hR hml hmr hK hS hk4
  go_enter Try.func13, Try.ntmps13
  go_wp2_with (first
    | ((with_reducible refine gate_dst (N := 3) rfl ?_); refine box_event ?hg (N := 3) ?hd (cs := #[.int .i64 K, .int .i64 N, .int .i64 (n : Int)]) (t := 23) ?hr ?_; (case hd => rfl); (case hg => rfl); (case hr => first | (go_simp; done) | (go_simp; rfl) | kernel_rfl); intro gg hg w1 hbox hb; have Gg := Aside0.mk (Nat.le_of_eq hg.symm); have HB1 := Aside0.mk (hb); have Bg1 := Aside0.mk (hbox); clear hb hbox hg)
    | ((with_reducible refine gate_dst (N := 4) rfl ?_); refine box_event ?hg (N := 4) ?hd (cs := (nums .u32 mm).toArray) (t := 36) ?hr ?_; (case hd => rfl); (case hg => rfl); (case hr => first | (go_simp; done) | (go_simp; rfl) | kernel_rfl); intro ga hg w2 hbox hb; have Ga := Aside0.mk (show w.heap.size ≤ ga from by have := HB1.out.size; omega); have HB2 := Aside0.mk (below_step HB1.out hb); have Nag := Aside0.mk (show ga ≠ gg from fun e => by have h1 := blk_lt Bg1.out; omega); have Bg2 := Aside0.mk (blk_below Bg1.out hb); have Ba2 := Aside0.mk (hbox); clear hb hbox hg)
    | ((with_reducible refine gate_dst (N := 12) rfl ?_); refine wpList_load_row rfl 23 (.tmp 3) (by kernel_rfl) gg (by kernel_rfl) _ _ _ _ Bg2.out hu23.out rfl sizeGeo ?_)
    | (have hz := HB2.out; clear hz; go_at_call 18; refine (Go.Proofs.Ytgiapegacbibeaa.PUsageLives.usage_blocks.calls K N n (4 * K) _ HB0.out).mono ?_; rintro e w3 ⟨rfl, hb⟩; have HB3 := Aside0.mk (below_step HB2.out hb); have Bg3 := Aside0.mk (blk_below Bg2.out hb); have Ba3 := Aside0.mk (blk_below Ba2.out hb); clear hb))
  refine wp_region_held_drew (S := fun W => Below w3.heap.size w3 W) (by kernel_rfl) (below_drew (Below.refl w3.heap.size w3)) (fun hHeld => ?_)
  refine wpAnyH_take (i := 0) (oi := ⟨some 15, _, _, _, _, _⟩) rfl (by kernel_rfl) (by kernel_rfl) (by kernel_rfl) (fun _ _ _ h => h) (yieldsIf_load_mid (by rfl) 23 (.tmp 3) rfl gg 0 rfl [.int .i64 K, .int .i64 N, .int .i64 (n : Int)] _ (fun W hS => World.rangeAt_of_block (blk_below Bg3.out hS) 0 3) hu23.out rfl sizeGeo) hHeld ?_
  (try simp only [Act.put, List.setIfInBounds_toArray, List.set_cons_zero, List.set_cons_succ])
  refine wpAnyH_take (i := 1) (oi := ⟨some 16, _, _, _, _, _⟩) (v := (.func f1 f2 f3)) rfl (by kernel_rfl) (by kernel_rfl) (by kernel_rfl) (fun _ _ _ h => h) (Or.inl ⟨by rfl, fun W hS => by go_simp⟩) hHeld ?_
  (try simp only [Act.put, List.setIfInBounds_toArray, List.set_cons_zero, List.set_cons_succ])
  refine wpAnyH_take (i := 3) (oi := ⟨some 18, _, _, _, _, _⟩) (v := (.pointer (some ⟨gg, 2, none⟩))) rfl (by kernel_rfl) (by kernel_rfl) (by kernel_rfl) (fun _ _ _ h => h) (Or.inl ⟨by rfl, fun W hS => by go_simp⟩) hHeld ?_
  (try simp only [Act.put, List.setIfInBounds_toArray, List.set_cons_zero, List.set_cons_succ])
  refine wpAnyH_take (i := 4) (oi := ⟨some 19, _, _, _, _, _⟩) (v := (.int .i64 (n : Int))) rfl (by kernel_rfl) (by kernel_rfl) (by kernel_rfl) (fun _ _ _ h => h) (Or.inl ⟨by rfl, fun W hS => by have c2 : W.cell? ⟨gg, 2, none⟩ = some (.int .i64 (n : Int)) := blk_cell (blk_below Bg3.out hS) 2; go_simp⟩) hHeld ?_
  (try simp only [Act.put, List.setIfInBounds_toArray, List.set_cons_zero, List.set_cons_succ])
  obtain ⟨W0, hW0⟩ : ∃ W0, w3.drew = W0 := ⟨_, rfl⟩
  rw [hW0] at hHeld ⊢
  clear hW0
  have hmm := @run_makeMap Try.prog
  have hmk := HMK.out
  refine wpAnyH_ready (rs := [2, 5]) (by kernel_rfl) (by simp) ?_
  refine AllReadyH.cons rfl (fun K' hK' => ?_) (AllReadyH.cons rfl (fun K' hK' => ?_) AllReadyH.nil)
  case' refine_1 =>
    go_simp
    refine hK'.out _ _ (below_alloc hHeld _) (fun hH1 => ?_)
    have k1 := heap_alloc_new W0 (.map #[] 0)
    have z1 : (W0.alloc (.map #[] 0)).heap.size = W0.heap.size + 1 := by simp
    obtain ⟨gk, hgk⟩ : ∃ g, W0.heap.size = g := ⟨_, rfl⟩
    obtain ⟨W1, hW1⟩ : ∃ W1, W0.alloc (.map #[] 0) = W1 := ⟨_, rfl⟩
    rw [hW1] at hH1 k1 z1 ⊢
    rw [hgk] at k1 z1 ⊢
    have Z1 := Aside0.mk z1
    have K1 := Aside0.mk k1
    clear hK' K' z1 k1
    (try simp only [Act.put, List.setIfInBounds_toArray, List.set_cons_zero, List.set_cons_succ])
    refine wpAnyH_ready (rs := [5]) (by kernel_rfl) (by simp) ?_
    refine AllReadyH.cons rfl (fun K' hK' => ?_) AllReadyH.nil
    go_simp
    refine hK'.out _ _ (below_alloc hH1 _) (fun hH2 => ?_)
    have k2 := heap_alloc_new W1 (.cells (madeCells #[.int .i64 0] n) 3)
    have e2 := (below_alloc (Below.refl W1.heap.size W1) (.cells (madeCells #[.int .i64 0] n) 3)).block gk (by have := Z1.out; omega)
    obtain ⟨gv, hgv⟩ : ∃ g, W1.heap.size = g := ⟨_, rfl⟩
    obtain ⟨W2, hW2⟩ : ∃ W2, W1.alloc (.cells (madeCells #[.int .i64 0] n) 3) = W2 := ⟨_, rfl⟩
    rw [hW2] at hH2 k2 e2 ⊢
    have z1 := Z1.out
    rw [hgv] at k2 z1 ⊢
    have FK := Aside0.mk (e2.trans K1.out)
    have FV := Aside0.mk (made_nums .i64 n ▸ k2)
    have FN := Aside0.mk (show gk ≠ gv ∧ w3.heap.size ≤ gk ∧ w3.heap.size ≤ gv from ⟨by omega, by have := hHeld.size; omega, by have := hHeld.size; omega⟩)
    have F2 := Aside0.mk hH2
    clear hK' K' hHeld hH1 hH2 z1 hgk hW1 k2 e2 hgv hW2 hmm hmk
    (try simp only [Act.put, List.setIfInBounds_toArray, List.set_cons_zero, List.set_cons_succ])
  case' refine_2 =>
    go_simp
    refine hK'.out _ _ (below_alloc hHeld _) (fun hH1 => ?_)
    have k2 := heap_alloc_new W0 (.cells (madeCells #[.int .i64 0] n) 3)
    have z1 : (W0.alloc (.cells (madeCells #[.int .i64 0] n) 3)).heap.size = W0.heap.size + 1 := by simp
    obtain ⟨gv, hgv⟩ : ∃ g, W0.heap.size = g := ⟨_, rfl⟩
    obtain ⟨W1, hW1⟩ : ∃ W1, W0.alloc (.cells (madeCells #[.int .i64 0] n) 3) = W1 := ⟨_, rfl⟩
    rw [hW1] at hH1 k2 z1 ⊢
    rw [hgv] at k2 z1 ⊢
    have Z1 := Aside0.mk z1
    have K2 := Aside0.mk k2
    clear hK' K' z1 k2
    (try simp only [Act.put, List.setIfInBounds_toArray, List.set_cons_zero, List.set_cons_succ])
    refine wpAnyH_ready (rs := [2]) (by kernel_rfl) (by simp) ?_
    refine AllReadyH.cons rfl (fun K' hK' => ?_) AllReadyH.nil
    go_simp
    refine hK'.out _ _ (below_alloc hH1 _) (fun hH2 => ?_)
    have k1 := heap_alloc_new W1 (.map #[] 0)
    have e2 := (below_alloc (Below.refl W1.heap.size W1) (.map #[] 0)).block gv (by have := Z1.out; omega)
    obtain ⟨gk, hgk⟩ : ∃ g, W1.heap.size = g := ⟨_, rfl⟩
    obtain ⟨W2, hW2⟩ : ∃ W2, W1.alloc (.map #[] 0) = W2 := ⟨_, rfl⟩
    rw [hW2] at hH2 k1 e2 ⊢
    have z1 := Z1.out
    rw [hgk] at k1 z1 ⊢
    have FK := Aside0.mk k1
    have FV := Aside0.mk (made_nums .i64 n ▸ (e2.trans K2.out))
    have FN := Aside0.mk (show gk ≠ gv ∧ w3.heap.size ≤ gk ∧ w3.heap.size ≤ gv from ⟨by omega, by have := hHeld.size; omega, by have := hHeld.size; omega⟩)
    have F2 := Aside0.mk hH2
    clear hK' K' hHeld hH1 hH2 k1 z1 hgv hW1 e2 hgk hW2 hmm hmk
    (try simp only [Act.put, List.setIfInBounds_toArray, List.set_cons_zero, List.set_cons_succ])
  all_goals
    have hHeld := F2.out
    refine wpAnyH_take (i := 6) (oi := ⟨some 21, _, _, _, _, _⟩) (v := .agg (lookCells K N n (.func f1 f2 f3) gk gv n)) rfl (by kernel_rfl) (by kernel_rfl) (by kernel_rfl) (fun _ _ _ h => h) (Or.inl ⟨by rfl, fun W hS => by go_simp⟩) hHeld ?_
    (try simp only [Act.put, List.setIfInBounds_toArray, List.set_cons_zero, List.set_cons_succ])
    refine wpAnyH_ready (rs := [7]) (by kernel_rfl) (by simp) ?_
    refine AllReadyH.cons rfl (fun K' hK' => ?_) AllReadyH.nil
    go_simp
    refine hK'.out _ _ (below_alloc hHeld _) (fun hH3 => ?_)
    have k3 := heap_alloc_new W2 (.cells (lookCells K N n (.func f1 f2 f3) gk gv n) 66)
    have b3 := below_alloc (Below.refl W2.heap.size W2) (.cells (lookCells K N n (.func f1 f2 f3) gk gv n) 66)
    obtain ⟨gl, hgl⟩ : ∃ g, W2.heap.size = g := ⟨_, rfl⟩
    obtain ⟨W3, hW3⟩ : ∃ W3, W2.alloc (.cells (lookCells K N n (.func f1 f2 f3) gk gv n) 66) = W3 := ⟨_, rfl⟩
    rw [hW3] at hH3 k3 b3 ⊢
    rw [hgl] at k3 ⊢
    have hlk := lk_new (v := List.replicate n 0) (n := n) FN.out.1 FK.out FV.out b3 hgl k3
    have HL3 := Aside0.mk hlk
    have H3 := Aside0.mk (below_step HB3.out hH3)
    have Ba4 := Aside0.mk (blk_below Ba3.out hH3)
    have GK := Aside0.mk (show w.heap.size ≤ gk ∧ w.heap.size ≤ gv from ⟨Nat.le_trans HB3.out.size FN.out.2.1, Nat.le_trans HB3.out.size FN.out.2.2⟩)
    clear hK' K' hHeld k3 b3 hgl hW3 hlk
    (try simp only [Act.put, List.setIfInBounds_toArray, List.set_cons_zero, List.set_cons_succ])
    refine wpAnyH_take (i := 8) (oi := ⟨some 8, _, _, _, _, _⟩) (v := .pointer (some ⟨gl, 0, none⟩)) rfl (by kernel_rfl) (by kernel_rfl) (by kernel_rfl) (fun _ _ _ h => h) (Or.inl ⟨by rfl, fun W hS => by go_simp⟩) hH3 ?_
    (try simp only [Act.put, List.setIfInBounds_toArray, List.set_cons_zero, List.set_cons_succ])
    refine wpAnyH_done (by kernel_rfl) ?_ _
    clear hH3
    (try simp only [Exit.then])
    go_wp2_with (first | ((with_reducible refine gate_dst (N := 23) rfl ?_); refine wpList_load_row rfl 36 (.tmp 4) (by kernel_rfl) ga (by kernel_rfl) _ _ _ _ Ba4.out hu36.out rfl HAS.out ?_))
    go_loopw [24] (fun i wr => ∃ j : Nat, j ≤ 64 ∧ i = .int .i64 j ∧ ∃ l v, Aside0 (LK wr gl gk gv n K N n (.func f1 f2 f3) l v) ∧ Aside0 (Below w.heap.size w wr) ∧ Aside0 (liveN K n bl (mm.drop j) (j : Int) l v = R) ∧ Aside0 (Inv n l v ∧ l.length ≤ 36 * j)) (fun i _ => 64 - (intOf i).toNat)
    case atStart => exact ⟨0, Nat.zero_le _, rfl, [], List.replicate n 0, HL3, H3, ⟨HR.out⟩, ⟨inv_zero n, Nat.zero_le _⟩⟩
    case round =>
      obtain ⟨j, hj, rfl, l, v, Q1, Q2, Q3, Q4⟩ := hrel
      clear HL3 H3 Ba4
      by_cases hlt : j < 64
      · have hjm : j < mm.length := by rw [HML.out]; exact hlt
        have hst := live_step (K := K) (S := n) (bl := bl) (l := l) (v := v) hjm
        have hra : 0 ≤ mm.getD j 0 ∧ mm.getD j 0 < 4294967296 := by rw [List.getD_eq_getElem?_getD, List.getElem?_eq_getElem hjm]; exact HMR.out _ (List.getElem_mem _)
        have hmem : mm.getD j 0 ∈ mm := by rw [List.getD_eq_getElem?_getD, List.getElem?_eq_getElem hjm]; exact List.getElem_mem _
        have hix : ∀ W, _ := idx64 (nums .u32 mm).toArray j (mm.getD j 0) hlt (by rw [List.getD_eq_getElem?_getD]; simp [nums, hjm])
        obtain ⟨a, ha⟩ : ∃ a, mm.getD j 0 = a := ⟨_, rfl⟩
        rw [ha] at hst hra hix hmem
        rw [Q3.out] at hst
        have hj1 : (j : Int) < 64 := by omega
        have hj0 : (0 : Int) ≤ (j : Int) := Int.natCast_nonneg _
        clear ha hjm hlt
        by_cases h0 : a = 0
        · subst h0
          rw [if_pos rfl] at hst
          have HST := Aside0.mk hst.symm
          clear hst hra hmem
          go_wp2
          go_roundw
          case rel => exact ⟨j + 1, by omega, by go_num, l, v, Q1, Q2, ⟨by rw [Int.natCast_add]; exact HST.out⟩, ⟨Q4.out.1, by have := Q4.out.2; omega⟩⟩
          case measure => simp [intOf]; omega
        · have h0b : (a == 0) = false := beq_eq_false_iff_ne.2 h0
          rw [if_neg h0] at hst
          have hcl := HC.out wr gl gk gv l v ((j : Int) + 1) a Q2.out Q1.out GK.out.1 GK.out.2 Q4.out.1 hra (by have := Q4.out.2; omega) hmem h0
          obtain ⟨x, l', v', hio⟩ : ∃ x l' v', inoN K n bl ((j : Int) + 1) a l v = (x, l', v') := ⟨_, _, _, rfl⟩
          rw [hio] at hst hcl
          have HCL := Aside0.mk hcl
          by_cases hx : x = 0
          · subst hx
            have HST := Aside0.mk (show liveN K n bl (mm.drop (j + 1)) ((j : Int) + 1) l' v' = R from by rw [hst]; simp)
            have HI := Aside0.mk (ino_inv Q4.out.1 hio)
            clear hst hcl hio hra hmem h0
            go_wp2_with (first | (go_at_call 21; refine HCL.out.mono ?_; rintro e w1 ⟨rfl, hl, hk⟩; have HL1 := Aside0.mk (hl rfl); have HB1' := Aside0.mk (Kp.to_below Q2.out hk (fun k h => h.elim (fun e => e ▸ GK.out.1) (fun e => e ▸ GK.out.2))); clear hl hk))
            go_roundw
            case rel => exact ⟨j + 1, by omega, by go_num, l', v', HL1, HB1', ⟨by rw [Int.natCast_add]; exact HST.out⟩, ⟨HI.out.1, by have h1 := HI.out.2; have h2 := Q4.out.2; omega⟩⟩
            case measure => simp [intOf]; omega
          · have hxb : (x != 0) = true := bne_iff_ne.2 hx
            have hR : R = (x, l', v') := by rw [hst, if_pos hx]
            subst hR
            have hr0 : (if x = 0 then v' else []) = ([] : List Int) := if_neg hx
            have HR0 := Aside0.mk hr0
            clear hst hcl hio hra hmem h0 hr0 hx
            go_wp2_with (first | (go_at_call 21; refine HCL.out.mono ?_; rintro e w1 ⟨rfl, hl, hk⟩; have HB1' := Aside0.mk (Kp.to_below Q2.out hk (fun k h => h.elim (fun e => e ▸ GK.out.1) (fun e => e ▸ GK.out.2))); clear hl hk))
            go_ret2
            exact live_end rfl (by rw [HR0.out]; exact ⟨none, 0, 0, rfl, ⟨rfl, by decide, fun h => absurd h (by decide)⟩, Nat.le_refl _, HB1'.out⟩)
      · obtain rfl : j = 64 := by omega
        have h3 := Q3.out
        rw [List.drop_of_length_le (by rw [HML.out]; exact Nat.le_refl _)] at h3
        obtain rfl : R = (0, l, v) := h3.symm
        have c5 := Q1.out.c5
        clear hlt hj h3
        go_wp2
        go_ret2
        exact live_end rfl ⟨some ⟨gv, 0, none⟩, n, n, rfl, reads_vec Q1.out.vec Q4.out.1.1 (by have := HN.out; omega), Nat.le_refl _, Q2.out⟩
set_option maxHeartbeats 4000000 in
set_option maxRecDepth 100000 in
theorem live_nil (K N : Int) (n : Nat) (mm : List Int) (w : World) (R : Int × List Int × List Int) (bl : List (List Int)) (hK : 1 ≤ K ∧ K ≤ 255) (hS : 1 ≤ (n : Int) ∧ (n : Int) ≤ 128) (hml : mm.length = 64) (hmr : ∀ x ∈ mm, 0 ≤ x ∧ x < 4294967296)
    (hR : liveN K n bl mm 0 [] (List.replicate n 0) = R)
    (hC : ∀ (W : World) (gl gm gv : Nat) (l v : List Int) (ino a : Int), Below w.heap.size w W → LK W gl gm gv n K N n .nilFunc l v → w.heap.size ≤ gm → w.heap.size ≤ gv → Inv n l v → 0 ≤ a ∧ a < 4294967296 → l.length ≤ 1000000 → a ∈ mm → a ≠ 0 →
      Calls Try.prog 21 #[.pointer (some ⟨gl, 0, none⟩), .int .i64 ino, .int .u32 a] W (IPost gl gm gv n K N n .nilFunc W (inoN K n bl ino a l v))) :
    Calls Try.prog 13 #[.agg #[.int .i64 K, .int .i64 N, .int .i64 (n : Int)], .agg (nums .u32 mm).toArray, .nilFunc] w (LivePost w R) := by
  have hu23 := Aside0.mk Try.underlying23
  have hu36 := Aside0.mk Try.underlying36
  have HB0 := Aside0.mk (blocks_f K N n hK hS)
  have hk4 : 4 * K ≠ 0 := by omega
  have hk4b : (4 * K == 0) = false := beq_eq_false_iff_ne.2 hk4
  have HC := Aside0.mk hC
  have HR := Aside0.mk hR
  have HML := Aside0.mk hml
  have HAS := Aside0.mk (show (Try.prog.info? 36).map (·.size) = some (nums .u32 mm).toArray.size from by rw [sizeArr]; simp [nums, hml])
  have HMR := Aside0.mk hmr
  have HN := Aside0.mk hS
  have HMK := Aside0.mk (print_make (P := Try.prog) 40 3 .i64 8 Try.underlying40 infoI64 (by decide) n (by omega))
  clear hC hR hml hmr hK hS hk4
  go_enter Try.func13, Try.ntmps13
  go_wp2_with (first
    | ((with_reducible refine gate_dst (N := 3) rfl ?_); refine box_event ?hg (N := 3) ?hd (cs := #[.int .i64 K, .int .i64 N, .int .i64 (n : Int)]) (t := 23) ?hr ?_; (case hd => rfl); (case hg => rfl); (case hr => first | (go_simp; done) | (go_simp; rfl) | kernel_rfl); intro gg hg w1 hbox hb; have Gg := Aside0.mk (Nat.le_of_eq hg.symm); have HB1 := Aside0.mk (hb); have Bg1 := Aside0.mk (hbox); clear hb hbox hg)
    | ((with_reducible refine gate_dst (N := 4) rfl ?_); refine box_event ?hg (N := 4) ?hd (cs := (nums .u32 mm).toArray) (t := 36) ?hr ?_; (case hd => rfl); (case hg => rfl); (case hr => first | (go_simp; done) | (go_simp; rfl) | kernel_rfl); intro ga hg w2 hbox hb; have Ga := Aside0.mk (show w.heap.size ≤ ga from by have := HB1.out.size; omega); have HB2 := Aside0.mk (below_step HB1.out hb); have Nag := Aside0.mk (show ga ≠ gg from fun e => by have h1 := blk_lt Bg1.out; omega); have Bg2 := Aside0.mk (blk_below Bg1.out hb); have Ba2 := Aside0.mk (hbox); clear hb hbox hg)
    | ((with_reducible refine gate_dst (N := 12) rfl ?_); refine wpList_load_row rfl 23 (.tmp 3) (by kernel_rfl) gg (by kernel_rfl) _ _ _ _ Bg2.out hu23.out rfl sizeGeo ?_)
    | (have hz := HB2.out; clear hz; go_at_call 18; refine (Go.Proofs.Ytgiapegacbibeaa.PUsageLives.usage_blocks.calls K N n (4 * K) _ HB0.out).mono ?_; rintro e w3 ⟨rfl, hb⟩; have HB3 := Aside0.mk (below_step HB2.out hb); have Bg3 := Aside0.mk (blk_below Bg2.out hb); have Ba3 := Aside0.mk (blk_below Ba2.out hb); clear hb))
  refine wp_region_held_drew (S := fun W => Below w3.heap.size w3 W) (by kernel_rfl) (below_drew (Below.refl w3.heap.size w3)) (fun hHeld => ?_)
  refine wpAnyH_take (i := 0) (oi := ⟨some 15, _, _, _, _, _⟩) rfl (by kernel_rfl) (by kernel_rfl) (by kernel_rfl) (fun _ _ _ h => h) (yieldsIf_load_mid (by rfl) 23 (.tmp 3) rfl gg 0 rfl [.int .i64 K, .int .i64 N, .int .i64 (n : Int)] _ (fun W hS => World.rangeAt_of_block (blk_below Bg3.out hS) 0 3) hu23.out rfl sizeGeo) hHeld ?_
  (try simp only [Act.put, List.setIfInBounds_toArray, List.set_cons_zero, List.set_cons_succ])
  refine wpAnyH_take (i := 1) (oi := ⟨some 16, _, _, _, _, _⟩) (v := .nilFunc) rfl (by kernel_rfl) (by kernel_rfl) (by kernel_rfl) (fun _ _ _ h => h) (Or.inl ⟨by rfl, fun W hS => by go_simp⟩) hHeld ?_
  (try simp only [Act.put, List.setIfInBounds_toArray, List.set_cons_zero, List.set_cons_succ])
  refine wpAnyH_take (i := 3) (oi := ⟨some 18, _, _, _, _, _⟩) (v := (.pointer (some ⟨gg, 2, none⟩))) rfl (by kernel_rfl) (by kernel_rfl) (by kernel_rfl) (fun _ _ _ h => h) (Or.inl ⟨by rfl, fun W hS => by go_simp⟩) hHeld ?_
  (try simp only [Act.put, List.setIfInBounds_toArray, List.set_cons_zero, List.set_cons_succ])
  refine wpAnyH_take (i := 4) (oi := ⟨some 19, _, _, _, _, _⟩) (v := (.int .i64 (n : Int))) rfl (by kernel_rfl) (by kernel_rfl) (by kernel_rfl) (fun _ _ _ h => h) (Or.inl ⟨by rfl, fun W hS => by have c2 : W.cell? ⟨gg, 2, none⟩ = some (.int .i64 (n : Int)) := blk_cell (blk_below Bg3.out hS) 2; go_simp⟩) hHeld ?_
  (try simp only [Act.put, List.setIfInBounds_toArray, List.set_cons_zero, List.set_cons_succ])
  obtain ⟨W0, hW0⟩ : ∃ W0, w3.drew = W0 := ⟨_, rfl⟩
  rw [hW0] at hHeld ⊢
  clear hW0
  have hmm := @run_makeMap Try.prog
  have hmk := HMK.out
  refine wpAnyH_ready (rs := [2, 5]) (by kernel_rfl) (by simp) ?_
  refine AllReadyH.cons rfl (fun K' hK' => ?_) (AllReadyH.cons rfl (fun K' hK' => ?_) AllReadyH.nil)
  case' refine_1 =>
    go_simp
    refine hK'.out _ _ (below_alloc hHeld _) (fun hH1 => ?_)
    have k1 := heap_alloc_new W0 (.map #[] 0)
    have z1 : (W0.alloc (.map #[] 0)).heap.size = W0.heap.size + 1 := by simp
    obtain ⟨gk, hgk⟩ : ∃ g, W0.heap.size = g := ⟨_, rfl⟩
    obtain ⟨W1, hW1⟩ : ∃ W1, W0.alloc (.map #[] 0) = W1 := ⟨_, rfl⟩
    rw [hW1] at hH1 k1 z1 ⊢
    rw [hgk] at k1 z1 ⊢
    have Z1 := Aside0.mk z1
    have K1 := Aside0.mk k1
    clear hK' K' z1 k1
    (try simp only [Act.put, List.setIfInBounds_toArray, List.set_cons_zero, List.set_cons_succ])
    refine wpAnyH_ready (rs := [5]) (by kernel_rfl) (by simp) ?_
    refine AllReadyH.cons rfl (fun K' hK' => ?_) AllReadyH.nil
    go_simp
    refine hK'.out _ _ (below_alloc hH1 _) (fun hH2 => ?_)
    have k2 := heap_alloc_new W1 (.cells (madeCells #[.int .i64 0] n) 3)
    have e2 := (below_alloc (Below.refl W1.heap.size W1) (.cells (madeCells #[.int .i64 0] n) 3)).block gk (by have := Z1.out; omega)
    obtain ⟨gv, hgv⟩ : ∃ g, W1.heap.size = g := ⟨_, rfl⟩
    obtain ⟨W2, hW2⟩ : ∃ W2, W1.alloc (.cells (madeCells #[.int .i64 0] n) 3) = W2 := ⟨_, rfl⟩
    rw [hW2] at hH2 k2 e2 ⊢
    have z1 := Z1.out
    rw [hgv] at k2 z1 ⊢
    have FK := Aside0.mk (e2.trans K1.out)
    have FV := Aside0.mk (made_nums .i64 n ▸ k2)
    have FN := Aside0.mk (show gk ≠ gv ∧ w3.heap.size ≤ gk ∧ w3.heap.size ≤ gv from ⟨by omega, by have := hHeld.size; omega, by have := hHeld.size; omega⟩)
    have F2 := Aside0.mk hH2
    clear hK' K' hHeld hH1 hH2 z1 hgk hW1 k2 e2 hgv hW2 hmm hmk
    (try simp only [Act.put, List.setIfInBounds_toArray, List.set_cons_zero, List.set_cons_succ])
  case' refine_2 =>
    go_simp
    refine hK'.out _ _ (below_alloc hHeld _) (fun hH1 => ?_)
    have k2 := heap_alloc_new W0 (.cells (madeCells #[.int .i64 0] n) 3)
    have z1 : (W0.alloc (.cells (madeCells #[.int .i64 0] n) 3)).heap.size = W0.heap.size + 1 := by simp
    obtain ⟨gv, hgv⟩ : ∃ g, W0.heap.size = g := ⟨_, rfl⟩
    obtain ⟨W1, hW1⟩ : ∃ W1, W0.alloc (.cells (madeCells #[.int .i64 0] n) 3) = W1 := ⟨_, rfl⟩
    rw [hW1] at hH1 k2 z1 ⊢
    rw [hgv] at k2 z1 ⊢
    have Z1 := Aside0.mk z1
    have K2 := Aside0.mk k2
    clear hK' K' z1 k2
    (try simp only [Act.put, List.setIfInBounds_toArray, List.set_cons_zero, List.set_cons_succ])
    refine wpAnyH_ready (rs := [2]) (by kernel_rfl) (by simp) ?_
    refine AllReadyH.cons rfl (fun K' hK' => ?_) AllReadyH.nil
    go_simp
    refine hK'.out _ _ (below_alloc hH1 _) (fun hH2 => ?_)
    have k1 := heap_alloc_new W1 (.map #[] 0)
    have e2 := (below_alloc (Below.refl W1.heap.size W1) (.map #[] 0)).block gv (by have := Z1.out; omega)
    obtain ⟨gk, hgk⟩ : ∃ g, W1.heap.size = g := ⟨_, rfl⟩
    obtain ⟨W2, hW2⟩ : ∃ W2, W1.alloc (.map #[] 0) = W2 := ⟨_, rfl⟩
    rw [hW2] at hH2 k1 e2 ⊢
    have z1 := Z1.out
    rw [hgk] at k1 z1 ⊢
    have FK := Aside0.mk k1
    have FV := Aside0.mk (made_nums .i64 n ▸ (e2.trans K2.out))
    have FN := Aside0.mk (show gk ≠ gv ∧ w3.heap.size ≤ gk ∧ w3.heap.size ≤ gv from ⟨by omega, by have := hHeld.size; omega, by have := hHeld.size; omega⟩)
    have F2 := Aside0.mk hH2
    clear hK' K' hHeld hH1 hH2 k1 z1 hgv hW1 e2 hgk hW2 hmm hmk
    (try simp only [Act.put, List.setIfInBounds_toArray, List.set_cons_zero, List.set_cons_succ])
  all_goals
    have hHeld := F2.out
    refine wpAnyH_take (i := 6) (oi := ⟨some 21, _, _, _, _, _⟩) (v := .agg (lookCells K N n .nilFunc gk gv n)) rfl (by kernel_rfl) (by kernel_rfl) (by kernel_rfl) (fun _ _ _ h => h) (Or.inl ⟨by rfl, fun W hS => by go_simp⟩) hHeld ?_
    (try simp only [Act.put, List.setIfInBounds_toArray, List.set_cons_zero, List.set_cons_succ])
    refine wpAnyH_ready (rs := [7]) (by kernel_rfl) (by simp) ?_
    refine AllReadyH.cons rfl (fun K' hK' => ?_) AllReadyH.nil
    go_simp
    refine hK'.out _ _ (below_alloc hHeld _) (fun hH3 => ?_)
    have k3 := heap_alloc_new W2 (.cells (lookCells K N n .nilFunc gk gv n) 66)
    have b3 := below_alloc (Below.refl W2.heap.size W2) (.cells (lookCells K N n .nilFunc gk gv n) 66)
    obtain ⟨gl, hgl⟩ : ∃ g, W2.heap.size = g := ⟨_, rfl⟩
    obtain ⟨W3, hW3⟩ : ∃ W3, W2.alloc (.cells (lookCells K N n .nilFunc gk gv n) 66) = W3 := ⟨_, rfl⟩
    rw [hW3] at hH3 k3 b3 ⊢
    rw [hgl] at k3 ⊢
    have hlk := lk_new (v := List.replicate n 0) (n := n) FN.out.1 FK.out FV.out b3 hgl k3
    have HL3 := Aside0.mk hlk
    have H3 := Aside0.mk (below_step HB3.out hH3)
    have Ba4 := Aside0.mk (blk_below Ba3.out hH3)
    have GK := Aside0.mk (show w.heap.size ≤ gk ∧ w.heap.size ≤ gv from ⟨Nat.le_trans HB3.out.size FN.out.2.1, Nat.le_trans HB3.out.size FN.out.2.2⟩)
    clear hK' K' hHeld k3 b3 hgl hW3 hlk
    (try simp only [Act.put, List.setIfInBounds_toArray, List.set_cons_zero, List.set_cons_succ])
    refine wpAnyH_take (i := 8) (oi := ⟨some 8, _, _, _, _, _⟩) (v := .pointer (some ⟨gl, 0, none⟩)) rfl (by kernel_rfl) (by kernel_rfl) (by kernel_rfl) (fun _ _ _ h => h) (Or.inl ⟨by rfl, fun W hS => by go_simp⟩) hH3 ?_
    (try simp only [Act.put, List.setIfInBounds_toArray, List.set_cons_zero, List.set_cons_succ])
    refine wpAnyH_done (by kernel_rfl) ?_ _
    clear hH3
    (try simp only [Exit.then])
    go_wp2_with (first | ((with_reducible refine gate_dst (N := 23) rfl ?_); refine wpList_load_row rfl 36 (.tmp 4) (by kernel_rfl) ga (by kernel_rfl) _ _ _ _ Ba4.out hu36.out rfl HAS.out ?_))
    go_loopw [24] (fun i wr => ∃ j : Nat, j ≤ 64 ∧ i = .int .i64 j ∧ ∃ l v, Aside0 (LK wr gl gk gv n K N n .nilFunc l v) ∧ Aside0 (Below w.heap.size w wr) ∧ Aside0 (liveN K n bl (mm.drop j) (j : Int) l v = R) ∧ Aside0 (Inv n l v ∧ l.length ≤ 36 * j)) (fun i _ => 64 - (intOf i).toNat)
    case atStart => exact ⟨0, Nat.zero_le _, rfl, [], List.replicate n 0, HL3, H3, ⟨HR.out⟩, ⟨inv_zero n, Nat.zero_le _⟩⟩
    case round =>
      obtain ⟨j, hj, rfl, l, v, Q1, Q2, Q3, Q4⟩ := hrel
      clear HL3 H3 Ba4
      by_cases hlt : j < 64
      · have hjm : j < mm.length := by rw [HML.out]; exact hlt
        have hst := live_step (K := K) (S := n) (bl := bl) (l := l) (v := v) hjm
        have hra : 0 ≤ mm.getD j 0 ∧ mm.getD j 0 < 4294967296 := by rw [List.getD_eq_getElem?_getD, List.getElem?_eq_getElem hjm]; exact HMR.out _ (List.getElem_mem _)
        have hmem : mm.getD j 0 ∈ mm := by rw [List.getD_eq_getElem?_getD, List.getElem?_eq_getElem hjm]; exact List.getElem_mem _
        have hix : ∀ W, _ := idx64 (nums .u32 mm).toArray j (mm.getD j 0) hlt (by rw [List.getD_eq_getElem?_getD]; simp [nums, hjm])
        obtain ⟨a, ha⟩ : ∃ a, mm.getD j 0 = a := ⟨_, rfl⟩
        rw [ha] at hst hra hix hmem
        rw [Q3.out] at hst
        have hj1 : (j : Int) < 64 := by omega
        have hj0 : (0 : Int) ≤ (j : Int) := Int.natCast_nonneg _
        clear ha hjm hlt
        by_cases h0 : a = 0
        · subst h0
          rw [if_pos rfl] at hst
          have HST := Aside0.mk hst.symm
          clear hst hra hmem
          go_wp2
          go_roundw
          case rel => exact ⟨j + 1, by omega, by go_num, l, v, Q1, Q2, ⟨by rw [Int.natCast_add]; exact HST.out⟩, ⟨Q4.out.1, by have := Q4.out.2; omega⟩⟩
          case measure => simp [intOf]; omega
        · have h0b : (a == 0) = false := beq_eq_false_iff_ne.2 h0
          rw [if_neg h0] at hst
          have hcl := HC.out wr gl gk gv l v ((j : Int) + 1) a Q2.out Q1.out GK.out.1 GK.out.2 Q4.out.1 hra (by have := Q4.out.2; omega) hmem h0
          obtain ⟨x, l', v', hio⟩ : ∃ x l' v', inoN K n bl ((j : Int) + 1) a l v = (x, l', v') := ⟨_, _, _, rfl⟩
          rw [hio] at hst hcl
          have HCL := Aside0.mk hcl
          by_cases hx : x = 0
          · subst hx
            have HST := Aside0.mk (show liveN K n bl (mm.drop (j + 1)) ((j : Int) + 1) l' v' = R from by rw [hst]; simp)
            have HI := Aside0.mk (ino_inv Q4.out.1 hio)
            clear hst hcl hio hra hmem h0
            go_wp2_with (first | (go_at_call 21; refine HCL.out.mono ?_; rintro e w1 ⟨rfl, hl, hk⟩; have HL1 := Aside0.mk (hl rfl); have HB1' := Aside0.mk (Kp.to_below Q2.out hk (fun k h => h.elim (fun e => e ▸ GK.out.1) (fun e => e ▸ GK.out.2))); clear hl hk))
            go_roundw
            case rel => exact ⟨j + 1, by omega, by go_num, l', v', HL1, HB1', ⟨by rw [Int.natCast_add]; exact HST.out⟩, ⟨HI.out.1, by have h1 := HI.out.2; have h2 := Q4.out.2; omega⟩⟩
            case measure => simp [intOf]; omega
          · have hxb : (x != 0) = true := bne_iff_ne.2 hx
            have hR : R = (x, l', v') := by rw [hst, if_pos hx]
            subst hR
            have hr0 : (if x = 0 then v' else []) = ([] : List Int) := if_neg hx
            have HR0 := Aside0.mk hr0
            clear hst hcl hio hra hmem h0 hr0 hx
            go_wp2_with (first | (go_at_call 21; refine HCL.out.mono ?_; rintro e w1 ⟨rfl, hl, hk⟩; have HB1' := Aside0.mk (Kp.to_below Q2.out hk (fun k h => h.elim (fun e => e ▸ GK.out.1) (fun e => e ▸ GK.out.2))); clear hl hk))
            go_ret2
            exact live_end rfl (by rw [HR0.out]; exact ⟨none, 0, 0, rfl, ⟨rfl, by decide, fun h => absurd h (by decide)⟩, Nat.le_refl _, HB1'.out⟩)
      · obtain rfl : j = 64 := by omega
        have h3 := Q3.out
        rw [List.drop_of_length_le (by rw [HML.out]; exact Nat.le_refl _)] at h3
        obtain rfl : R = (0, l, v) := h3.symm
        have c5 := Q1.out.c5
        clear hlt hj h3
        go_wp2
        go_ret2
        exact live_end rfl ⟨some ⟨gv, 0, none⟩, n, n, rfl, reads_vec Q1.out.vec Q4.out.1.1 (by have := HN.out; omega), Nat.le_refl _, Q2.out⟩
end Go.Proofs.Ytgiapegacbibeaa.UM
