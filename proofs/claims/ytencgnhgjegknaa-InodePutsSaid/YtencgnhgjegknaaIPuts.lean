/- InodePuts: the law's own walk. -/
import Derived.Test.YtencgnhgjegknaaIRPutAny
import Derived.BigQuiet
import Derived.Deep.QuietTactic
namespace Go.Proofs.YtencgnhgjegknaaX
open Go.RowKit Go.Proofs.YtencgnhgjegknaaW.PrintWords
set_option linter.unusedVariables false
theorem rangeAt_blk {w : World} {b t : Nat} {cs : List Value} (h : w.heap[b]? = some (.cells cs.toArray t (0, 0))) : w.rangeAt b 0 cs := fun j v hv => by
  simpa [World.cell?, h] using hv
/-- What Put answers: the block, the error. -/
def putR (a k s l d0 d1 d2 d3 d4 d5 p : Int) : List Int × Int := if mayB a k s l [d0, d1, d2, d3, d4, d5] p = true then (encI a k s l d0 d1 d2 d3 d4 d5 p, 0) else ([], 1)
theorem reads_none (w : World) (k : IntKind) : ReadsInt w k none 0 [] := ⟨rfl, by decide, fun h => absurd h (by decide)⟩
theorem iput_u (a k s l d0 d1 d2 d3 d4 d5 p : Int) (w : World) (E : List Int) (x : Int) (he : putR a k s l d0 d1 d2 d3 d4 d5 p = (E, x)) (hs : s ≤ 9223372036854775807) (hx : (0 ≤ d0 ∧ d0 < 4294967296) ∧ (0 ≤ d1 ∧ d1 < 4294967296) ∧ (0 ≤ d2 ∧ d2 < 4294967296) ∧ (0 ≤ d3 ∧ d3 < 4294967296) ∧ (0 ≤ d4 ∧ d4 < 4294967296) ∧ (0 ≤ d5 ∧ d5 < 4294967296) ∧ (0 ≤ p ∧ p < 4294967296)) :
    Calls Try.prog 8 #[.agg (inoCells a k s l d0 d1 d2 d3 d4 d5 p)] w fun e w' => ∃ A c, e = .returned (.tuple #[.slice A E.length c, .int .i64 x]) ∧ ReadsInt w' .u8 A E.length E ∧ Below w.heap.size w w' := by
  unfold putR at he
  cases hm : mayB a k s l [d0, d1, d2, d3, d4, d5] p with
  | true =>
    rw [hm, if_pos rfl] at he
    cases he
    refine (iput_rd a k s l d0 d1 d2 d3 d4 d5 p w hs hm hx _ rfl).mono ?_
    rintro e w' ⟨ad, c, rfl, hr, _, _, hb⟩
    exact ⟨some ad, c, by rw [encI_length], by rw [encI_length]; exact hr, hb⟩
  | false =>
    rw [hm] at he
    cases he
    refine (put_no a k s l d0 d1 d2 d3 d4 d5 p w hs hm).mono ?_
    rintro e w' ⟨rfl, hb⟩
    exact ⟨none, 0, rfl, reads_none _ _, hb⟩
theorem rput_u (a k s l d0 d1 d2 d3 d4 d5 p : Int) (w : World) (E : List Int) (x : Int) (he : putR a k s l d0 d1 d2 d3 d4 d5 p = (E, x)) (hx : (0 ≤ d0 ∧ d0 < 4294967296) ∧ (0 ≤ d1 ∧ d1 < 4294967296) ∧ (0 ≤ d2 ∧ d2 < 4294967296) ∧ (0 ≤ d3 ∧ d3 < 4294967296) ∧ (0 ≤ d4 ∧ d4 < 4294967296) ∧ (0 ≤ d5 ∧ d5 < 4294967296) ∧ (0 ≤ p ∧ p < 4294967296)) :
    Calls Try.prog 9 #[.agg (inoCells a k s l d0 d1 d2 d3 d4 d5 p)] w fun e w' => ∃ A c, e = .returned (.tuple #[.slice A E.length c, .int .i64 x]) ∧ ReadsInt w' .u8 A E.length E ∧ Below w.heap.size w w' := by
  unfold putR at he
  cases hm : mayB a k s l [d0, d1, d2, d3, d4, d5] p with
  | true =>
    rw [hm, if_pos rfl] at he
    cases he
    refine (rput_yes a k s l d0 d1 d2 d3 d4 d5 p w hm hx).mono ?_
    rintro e w' ⟨ad, c, rfl, hr, _, hb⟩
    exact ⟨some ad, c, by rw [encI_length], by rw [encI_length]; exact hr, hb⟩
  | false =>
    rw [hm] at he
    cases he
    refine (rput_no a k s l d0 d1 d2 d3 d4 d5 p w hm).mono ?_
    rintro e w' ⟨rfl, hb⟩
    exact ⟨none, 0, rfl, reads_none _ _, hb⟩
set_option maxHeartbeats 4000000 in
set_option maxRecDepth 100000 in
theorem iputs_walk (a k s l d0 d1 d2 d3 d4 d5 p size n : Int) (w : World) (E F : List Int) (x : Int) (mb : Bool) (he : putR a k s l d0 d1 d2 d3 d4 d5 p = (E, x)) (hm : mayB a k s l [d0, d1, d2, d3, d4, d5] p = mb) (hf : filt [d0, d1, d2, d3, d4, d5, p] = F) (hF : F.length ≤ 7) (hn : blk size = n) (hs : s ≤ 9223372036854775807) (hz : size ≤ 9223372036854775807) (hx : (0 ≤ d0 ∧ d0 < 4294967296) ∧ (0 ≤ d1 ∧ d1 < 4294967296) ∧ (0 ≤ d2 ∧ d2 < 4294967296) ∧ (0 ≤ d3 ∧ d3 < 4294967296) ∧ (0 ≤ d4 ∧ d4 < 4294967296) ∧ (0 ≤ d5 ∧ d5 < 4294967296) ∧ (0 ≤ p ∧ p < 4294967296)) :
    Calls Try.prog 3 #[.agg (inoCells a k s l d0 d1 d2 d3 d4 d5 p), .int .i64 size] w fun e w' => e = .returned (.bool true) ∧ Below w.heap.size w w' := by
  have hu25 := Aside0.mk Try.underlying25
  have HE := Aside0.mk he
  have HM := Aside0.mk hm
  have HF := Aside0.mk hf
  have HN := Aside0.mk hn
  have HS := Aside0.mk hs
  have HZ := Aside0.mk hz
  have HX := Aside0.mk hx
  clear he hm hf hn hs hz hx
  go_enter Try.func3, Try.ntmps3
  go_wp2_with (first
    | ((with_reducible refine gate_dst (N := 2) rfl ?_); refine box_event ?hg (N := 2) ?hd (cs := inoCells a k s l d0 d1 d2 d3 d4 d5 p) (t := 25) ?hr ?_; (case hd => rfl); (case hg => rfl); (case hr => first | (go_simp; done) | (go_simp; rfl) | kernel_rfl); intro gb hg w1 hbox hb; have Gb := Aside0.mk (Nat.le_of_eq hg.symm); have HB1 := Aside0.mk (hb); have Bb1 := Aside0.mk (hbox); clear hb hbox hg)
    | ((with_reducible refine gate_dst (N := 13) rfl ?_); refine wpList_load_row rfl 25 (.tmp 2) (by kernel_rfl) gb (by kernel_rfl) _ _ _ _ Bb1.out hu25.out rfl sizeInode ?_)
    | (have hz := HB1.out; clear hz; go_at_call 8; refine (iput_u a k s l d0 d1 d2 d3 d4 d5 p _ E x HE.out HS.out HX.out).mono ?_; rintro e w2 ⟨A2, c2, rfl, hr, hb⟩; have HB2 := Aside0.mk (below_step HB1.out hb); have Bb2 := Aside0.mk (blk_below Bb1.out hb); have R2 := Aside0.mk (hr); clear hr; clear hb)
    | ((with_reducible refine gate_dst (N := 18) rfl ?_); refine wpList_load_row rfl 25 (.tmp 2) (by kernel_rfl) gb (by kernel_rfl) _ _ _ _ Bb2.out hu25.out rfl sizeInode ?_)
    | (have hz := HB2.out; clear hz; go_at_call 9; refine (rput_u a k s l d0 d1 d2 d3 d4 d5 p _ E x HE.out HX.out).mono ?_; rintro e w3 ⟨A3, c3, rfl, hr, hb⟩; have HB3 := Aside0.mk (below_step HB2.out hb); have Bb3 := Aside0.mk (blk_below Bb2.out hb); have R3 := Aside0.mk (hr); have R2b := Aside0.mk (R2.out.below hb); clear hr; clear hb))
  refine wp_region_held_drew (S := fun W => Below w3.heap.size w3 W) (by kernel_rfl) (below_drew (Below.refl w3.heap.size w3)) (fun hHeld => ?_)
  refine wpAnyH_take (i := 0) (oi := ⟨some 22, _, _, _, _, _⟩) rfl (by kernel_rfl) (by kernel_rfl) (by kernel_rfl) (fun _ _ _ h => h) (yieldsIf_load_mid (by rfl) 25 (.tmp 2) rfl gb 0 rfl [.int .i64 a, .int .i64 k, .int .i64 s, .int .i64 l, .int .u32 d0, .int .u32 d1, .int .u32 d2, .int .u32 d3, .int .u32 d4, .int .u32 d5, .int .u32 p] _ (fun W hS => rangeAt_blk (blk_below Bb3.out hS)) hu25.out rfl sizeInode) hHeld ?_
  (try simp only [Act.put, List.setIfInBounds_toArray, List.set_cons_zero, List.set_cons_succ])
  refine wpAnyH_take (i := 2) (oi := ⟨some 24, _, _, _, _, _⟩) rfl (by kernel_rfl) (by kernel_rfl) (by kernel_rfl) (fun _ _ _ h => h) (yieldsIf_load_mid (by rfl) 25 (.tmp 2) rfl gb 0 rfl [.int .i64 a, .int .i64 k, .int .i64 s, .int .i64 l, .int .u32 d0, .int .u32 d1, .int .u32 d2, .int .u32 d3, .int .u32 d4, .int .u32 d5, .int .u32 p] _ (fun W hS => rangeAt_blk (blk_below Bb3.out hS)) hu25.out rfl sizeInode) hHeld ?_
  (try simp only [Act.put, List.setIfInBounds_toArray, List.set_cons_zero, List.set_cons_succ])
  obtain ⟨W0, hW0⟩ : ∃ W0, w3.drew = W0 := ⟨_, rfl⟩
  rw [hW0] at hHeld ⊢
  clear hW0
  refine wpAnyH_ready (rs := [1]) (by kernel_rfl) (by simp) ?_
  refine AllReadyH.cons rfl (fun K hK => ?_) AllReadyH.nil
  go_simp
  refine (pointers_any a k s l d0 d1 d2 d3 d4 d5 p _).mono ?_
  rw [HF.out]
  rintro e v5 ⟨P0, q0, rfl, hr, hc, hb⟩
  dsimp only
  refine hK.out _ _ (below_step hHeld hb) (fun hH5 => ?_)
  have RP0 := Aside0.mk hr
  have TP5 := Aside0.mk hb
  clear hK K hr hc hHeld
  have hHeld := hH5
  clear hH5 hb
  (try simp only [Act.put, List.setIfInBounds_toArray, List.set_cons_zero, List.set_cons_succ])
  refine wpAnyH_ready (rs := [3]) (by kernel_rfl) (by simp) ?_
  refine AllReadyH.cons rfl (fun K hK => ?_) AllReadyH.nil
  go_simp
  refine (rptr_any a k s l d0 d1 d2 d3 d4 d5 p _).mono ?_
  rw [HF.out]
  rintro e v6 ⟨P1, q1, rfl, hr, hc, hb⟩
  dsimp only
  refine hK.out _ _ (below_step hHeld hb) (fun hH6 => ?_)
  have RP1 := Aside0.mk hr
  have TP6 := Aside0.mk hb
  clear hK K hr hc hHeld
  have hHeld := hH6
  clear hH6 hb
  (try simp only [Act.put, List.setIfInBounds_toArray, List.set_cons_zero, List.set_cons_succ])
  refine wpAnyH_take (i := 4) (oi := ⟨some 9, _, _, _, _, _⟩) (v := (.slice P0 F.length q0)) rfl (by kernel_rfl) (by kernel_rfl) (by kernel_rfl) (fun _ _ _ h => h) (Or.inl ⟨by rfl, fun W hS => by go_simp⟩) hHeld ?_
  (try simp only [Act.put, List.setIfInBounds_toArray, List.set_cons_zero, List.set_cons_succ])
  refine wpAnyH_take (i := 5) (oi := ⟨some 10, _, _, _, _, _⟩) (v := (.slice P1 F.length q1)) rfl (by kernel_rfl) (by kernel_rfl) (by kernel_rfl) (fun _ _ _ h => h) (Or.inl ⟨by rfl, fun W hS => by go_simp⟩) hHeld ?_
  (try simp only [Act.put, List.setIfInBounds_toArray, List.set_cons_zero, List.set_cons_succ])
  have RPf := Aside0.mk (RP0.out.below TP6.out)
  clear RP0
  have RP0 := RPf
  clear RPf TP5 TP6
  obtain ⟨w6, hw6⟩ : ∃ w6, v6 = w6 := ⟨_, rfl⟩
  rw [hw6] at hHeld RP0 RP1 ⊢
  clear hw6
  refine wpAnyH_done (by kernel_rfl) ?_ _
  have H6 := Aside0.mk hHeld
  clear hHeld
  go_wp2
  refine wp_region_held_drew (S := fun W => Below w6.heap.size w6 W) (by kernel_rfl) (below_drew (Below.refl w6.heap.size w6)) (fun hHeld => ?_)
  refine wpAnyH_take (i := 0) (oi := ⟨some 26, _, _, _, _, _⟩) (v := (.slice A2 E.length c2)) rfl (by kernel_rfl) (by kernel_rfl) (by kernel_rfl) (fun _ _ _ h => h) (Or.inl ⟨by rfl, fun W hS => by go_simp⟩) hHeld ?_
  (try simp only [Act.put, List.setIfInBounds_toArray, List.set_cons_zero, List.set_cons_succ])
  refine wpAnyH_take (i := 1) (oi := ⟨some 27, _, _, _, _, _⟩) (v := (.string (strOfNums E))) rfl (by kernel_rfl) (by kernel_rfl) (by kernel_rfl) (fun _ _ _ h => h) (Or.inl ⟨by rfl, fun W hS => by have s1 := string_of_reads (P := Try.prog) (src := 26) (dst := 9) Try.underlying26 Try.underlying5 Try.underlying9 (c := c2) (R2b.out.below (below_step H6.out hS)); go_simp⟩) hHeld ?_
  (try simp only [Act.put, List.setIfInBounds_toArray, List.set_cons_zero, List.set_cons_succ])
  refine wpAnyH_take (i := 2) (oi := ⟨some 28, _, _, _, _, _⟩) (v := (.slice A3 E.length c3)) rfl (by kernel_rfl) (by kernel_rfl) (by kernel_rfl) (fun _ _ _ h => h) (Or.inl ⟨by rfl, fun W hS => by go_simp⟩) hHeld ?_
  (try simp only [Act.put, List.setIfInBounds_toArray, List.set_cons_zero, List.set_cons_succ])
  refine wpAnyH_take (i := 3) (oi := ⟨some 29, _, _, _, _, _⟩) (v := (.string (strOfNums E))) rfl (by kernel_rfl) (by kernel_rfl) (by kernel_rfl) (fun _ _ _ h => h) (Or.inl ⟨by rfl, fun W hS => by have s2 := string_of_reads (P := Try.prog) (src := 26) (dst := 9) Try.underlying26 Try.underlying5 Try.underlying9 (c := c3) (R3.out.below (below_step H6.out hS)); go_simp⟩) hHeld ?_
  (try simp only [Act.put, List.setIfInBounds_toArray, List.set_cons_zero, List.set_cons_succ])
  refine wpAnyH_take (i := 4) (oi := ⟨some 30, _, _, _, _, _⟩) (v := (.bool false)) rfl (by kernel_rfl) (by kernel_rfl) (by kernel_rfl) (fun _ _ _ h => h) (Or.inl ⟨by rfl, fun W hS => by go_simp⟩) hHeld ?_
  (try simp only [Act.put, List.setIfInBounds_toArray, List.set_cons_zero, List.set_cons_succ])
  refine wpAnyH_take (i := 5) (oi := ⟨some 31, _, _, _, _, _⟩) (v := (.bool false)) rfl (by kernel_rfl) (by kernel_rfl) (by kernel_rfl) (fun _ _ _ h => h) (Or.inl ⟨by rfl, fun W hS => by go_simp⟩) hHeld ?_
  (try simp only [Act.put, List.setIfInBounds_toArray, List.set_cons_zero, List.set_cons_succ])
  refine wpAnyH_take (i := 6) (oi := ⟨some 32, _, _, _, _, _⟩) (v := (.int .i64 x)) rfl (by kernel_rfl) (by kernel_rfl) (by kernel_rfl) (fun _ _ _ h => h) (Or.inl ⟨by rfl, fun W hS => by go_simp⟩) hHeld ?_
  (try simp only [Act.put, List.setIfInBounds_toArray, List.set_cons_zero, List.set_cons_succ])
  refine wpAnyH_take (i := 7) (oi := ⟨some 33, _, _, _, _, _⟩) (v := (.int .i64 x)) rfl (by kernel_rfl) (by kernel_rfl) (by kernel_rfl) (fun _ _ _ h => h) (Or.inl ⟨by rfl, fun W hS => by go_simp⟩) hHeld ?_
  (try simp only [Act.put, List.setIfInBounds_toArray, List.set_cons_zero, List.set_cons_succ])
  refine wpAnyH_take (i := 8) (oi := ⟨some 34, _, _, _, _, _⟩) (v := (.bool false)) rfl (by kernel_rfl) (by kernel_rfl) (by kernel_rfl) (fun _ _ _ h => h) (Or.inl ⟨by rfl, fun W hS => by go_simp⟩) hHeld ?_
  (try simp only [Act.put, List.setIfInBounds_toArray, List.set_cons_zero, List.set_cons_succ])
  refine wpAnyH_take (i := 9) (oi := ⟨some 35, _, _, _, _, _⟩) (v := (.bool false)) rfl (by kernel_rfl) (by kernel_rfl) (by kernel_rfl) (fun _ _ _ h => h) (Or.inl ⟨by rfl, fun W hS => by go_simp⟩) hHeld ?_
  (try simp only [Act.put, List.setIfInBounds_toArray, List.set_cons_zero, List.set_cons_succ])
  refine wpAnyH_take (i := 10) (oi := ⟨some 36, _, _, _, _, _⟩) (v := (.bool false)) rfl (by kernel_rfl) (by kernel_rfl) (by kernel_rfl) (fun _ _ _ h => h) (Or.inl ⟨by rfl, fun W hS => by go_simp⟩) hHeld ?_
  (try simp only [Act.put, List.setIfInBounds_toArray, List.set_cons_zero, List.set_cons_succ])
  refine wpAnyH_take (i := 11) (oi := ⟨some 37, _, _, _, _, _⟩) rfl (by kernel_rfl) (by kernel_rfl) (by kernel_rfl) (fun _ _ _ h => h) (yieldsIf_load_mid (by rfl) 25 (.tmp 2) rfl gb 0 rfl [.int .i64 a, .int .i64 k, .int .i64 s, .int .i64 l, .int .u32 d0, .int .u32 d1, .int .u32 d2, .int .u32 d3, .int .u32 d4, .int .u32 d5, .int .u32 p] _ (fun W hS => rangeAt_blk (blk_below Bb3.out (below_step H6.out hS))) hu25.out rfl sizeInode) hHeld ?_
  (try simp only [Act.put, List.setIfInBounds_toArray, List.set_cons_zero, List.set_cons_succ])
  refine wpAnyH_take (i := 13) (oi := ⟨some 39, _, _, _, _, _⟩) rfl (by kernel_rfl) (by kernel_rfl) (by kernel_rfl) (fun _ _ _ h => h) (yieldsIf_load_mid (by rfl) 25 (.tmp 2) rfl gb 0 rfl [.int .i64 a, .int .i64 k, .int .i64 s, .int .i64 l, .int .u32 d0, .int .u32 d1, .int .u32 d2, .int .u32 d3, .int .u32 d4, .int .u32 d5, .int .u32 p] _ (fun W hS => rangeAt_blk (blk_below Bb3.out (below_step H6.out hS))) hu25.out rfl sizeInode) hHeld ?_
  (try simp only [Act.put, List.setIfInBounds_toArray, List.set_cons_zero, List.set_cons_succ])
  obtain ⟨W1, hW1⟩ : ∃ W1, w6.drew = W1 := ⟨_, rfl⟩
  rw [hW1] at hHeld ⊢
  clear hW1
  refine wpAnyH_ready (rs := [12]) (by kernel_rfl) (by simp) ?_
  refine AllReadyH.cons rfl (fun K hK => ?_) AllReadyH.nil
  rw [if_pos (by rfl)]
  go_simp
  refine (may_any a k s l d0 d1 d2 d3 d4 d5 p _ HS.out).mono ?_
  rw [HM.out]
  rintro e v8 ⟨rfl, hb⟩
  dsimp only
  refine hK.out _ _ (below_step hHeld hb) (fun hH8 => ?_)
  clear hK K hHeld
  have hHeld := hH8
  clear hH8 hb
  (try simp only [Act.put, List.setIfInBounds_toArray, List.set_cons_zero, List.set_cons_succ])
  refine wpAnyH_ready (rs := [14]) (by kernel_rfl) (by simp) ?_
  refine AllReadyH.cons rfl (fun K hK => ?_) AllReadyH.nil
  rw [if_pos (by rfl)]
  go_simp
  refine (refMay_any a k s l d0 d1 d2 d3 d4 d5 p _).mono ?_
  rw [HM.out]
  rintro e v9 ⟨rfl, hb⟩
  dsimp only
  refine hK.out _ _ (below_step hHeld hb) (fun hH9 => ?_)
  clear hK K hHeld
  have hHeld := hH9
  clear hH9 hb
  (try simp only [Act.put, List.setIfInBounds_toArray, List.set_cons_zero, List.set_cons_succ])
  refine wpAnyH_take (i := 15) (oi := ⟨some 41, _, _, _, _, _⟩) (v := (.bool false)) rfl (by kernel_rfl) (by kernel_rfl) (by kernel_rfl) (fun _ _ _ h => h) (Or.inl ⟨by rfl, fun W hS => by cases mb <;> go_simp⟩) hHeld ?_
  (try simp only [Act.put, List.setIfInBounds_toArray, List.set_cons_zero, List.set_cons_succ])
  refine wpAnyH_take (i := 16) (oi := ⟨some 42, _, _, _, _, _⟩) (v := (.bool false)) rfl (by kernel_rfl) (by kernel_rfl) (by kernel_rfl) (fun _ _ _ h => h) (Or.inl ⟨by rfl, fun W hS => by go_simp⟩) hHeld ?_
  (try simp only [Act.put, List.setIfInBounds_toArray, List.set_cons_zero, List.set_cons_succ])
  refine wpAnyH_take (i := 17) (oi := ⟨some 43, _, _, _, _, _⟩) (v := (.bool false)) rfl (by kernel_rfl) (by kernel_rfl) (by kernel_rfl) (fun _ _ _ h => h) (Or.inl ⟨by rfl, fun W hS => by go_simp⟩) hHeld ?_
  (try simp only [Act.put, List.setIfInBounds_toArray, List.set_cons_zero, List.set_cons_succ])
  refine wpAnyH_take (i := 18) (oi := ⟨some 44, _, _, _, _, _⟩) (v := (.slice P0 F.length q0)) rfl (by kernel_rfl) (by kernel_rfl) (by kernel_rfl) (fun _ _ _ h => h) (Or.inl ⟨by rfl, fun W hS => by go_simp⟩) hHeld ?_
  (try simp only [Act.put, List.setIfInBounds_toArray, List.set_cons_zero, List.set_cons_succ])
  refine wpAnyH_take (i := 19) (oi := ⟨some 45, _, _, _, _, _⟩) (v := (.int .i64 (F.length : Int))) rfl (by kernel_rfl) (by kernel_rfl) (by kernel_rfl) (fun _ _ _ h => h) (Or.inl ⟨by rfl, fun W hS => by go_simp⟩) hHeld ?_
  (try simp only [Act.put, List.setIfInBounds_toArray, List.set_cons_zero, List.set_cons_succ])
  refine wpAnyH_take (i := 20) (oi := ⟨some 46, _, _, _, _, _⟩) (v := (.slice P1 F.length q1)) rfl (by kernel_rfl) (by kernel_rfl) (by kernel_rfl) (fun _ _ _ h => h) (Or.inl ⟨by rfl, fun W hS => by go_simp⟩) hHeld ?_
  (try simp only [Act.put, List.setIfInBounds_toArray, List.set_cons_zero, List.set_cons_succ])
  refine wpAnyH_take (i := 21) (oi := ⟨some 47, _, _, _, _, _⟩) (v := (.int .i64 (F.length : Int))) rfl (by kernel_rfl) (by kernel_rfl) (by kernel_rfl) (fun _ _ _ h => h) (Or.inl ⟨by rfl, fun W hS => by go_simp⟩) hHeld ?_
  (try simp only [Act.put, List.setIfInBounds_toArray, List.set_cons_zero, List.set_cons_succ])
  refine wpAnyH_take (i := 22) (oi := ⟨some 48, _, _, _, _, _⟩) (v := (.bool false)) rfl (by kernel_rfl) (by kernel_rfl) (by kernel_rfl) (fun _ _ _ h => h) (Or.inl ⟨by rfl, fun W hS => by go_simp⟩) hHeld ?_
  (try simp only [Act.put, List.setIfInBounds_toArray, List.set_cons_zero, List.set_cons_succ])
  refine wpAnyH_take (i := 23) (oi := ⟨some 49, _, _, _, _, _⟩) (v := (.bool false)) rfl (by kernel_rfl) (by kernel_rfl) (by kernel_rfl) (fun _ _ _ h => h) (Or.inl ⟨by rfl, fun W hS => by go_simp⟩) hHeld ?_
  (try simp only [Act.put, List.setIfInBounds_toArray, List.set_cons_zero, List.set_cons_succ])
  obtain ⟨w7, hw7⟩ : ∃ w7, v9 = w7 := ⟨_, rfl⟩
  rw [hw7] at hHeld ⊢
  clear hw7
  refine wpAnyH_done (by kernel_rfl) ?_ _
  have H7 := Aside0.mk hHeld
  have Q0 := Aside0.mk (RP0.out.below hHeld)
  have Q1 := Aside0.mk (RP1.out.below hHeld)
  clear hHeld RP0 RP1
  (try simp only [Exit.then])
  go_wp2
  go_loopw [11] (fun i wr => ∃ j : Nat, j ≤ F.length ∧ i = .int .i64 j ∧ Aside0 (Drawn0 w7 wr)) (fun i _ => F.length - (intOf i).toNat)
  case atStart => exact ⟨0, Nat.zero_le _, rfl, ⟨Drawn0.refl _⟩⟩
  case round =>
    obtain ⟨j, hj, rfl, HD⟩ := hrel
    have H8 := Aside0.mk HD.out.below
    by_cases hlt : j < F.length
    · have hj0 : (0 : Int) ≤ (j : Int) := Int.natCast_nonneg _
      have hj1 : (j : Int) < (F.length : Int) := by omega
      have hj2 : (j : Int) < 7 := by omega
      obtain ⟨ad0, rfl, hc0⟩ := (Q0.out.below H8.out).at_ (j : Int) hj0 hj1
      obtain ⟨ad1, rfl, hc1⟩ := (Q1.out.below H8.out).at_ (j : Int) hj0 hj1
      rw [Int.toNat_natCast] at hc0 hc1
      obtain ⟨y, hy⟩ : ∃ y, rd F (j : Int) = y := ⟨_, rfl⟩
      rw [hy] at hc0 hc1
      have hyy : (y != y) = false := by simp
      clear hy
      go_wp2
      repeat (go_quiet (fail); try go_wp2)
      go_roundw
      case rel => exact ⟨j + 1, by omega, by go_num, ⟨by repeat (first | exact HD.out | apply Drawn0.step)⟩⟩
      case measure => simp [intOf]; omega
    · obtain rfl : j = F.length := by omega
      clear hlt hj
      have HB8 := Aside0.mk (below_step HB3.out (below_step H6.out (below_step H7.out H8.out)))
      go_wp2_with (first
        | (go_at_call 14; refine (blocks_any size _ HZ.out).mono ?_; rw [HN.out]; rintro e w' ⟨rfl, rfl⟩)
        | (go_at_call 15; refine (refBlocks_any size _ HZ.out).mono ?_; rw [HN.out]; rintro e w9 ⟨rfl, hd⟩; have HB9 := Aside0.mk (below_step HB8.out hd.below); clear hd)
        | (go_at_call 16; refine (wakes_true _).mono ?_; rintro e w10 ⟨rfl, hb⟩; have HB10 := Aside0.mk (below_step HB9.out hb); clear hb))
      go_ret
      exact ⟨rfl, HB10.out⟩
theorem iputs_law (a k s l d0 d1 d2 d3 d4 d5 p size : Int) (w : World) (hs : s ≤ 9223372036854775807) (hz : size ≤ 9223372036854775807) (hx : (0 ≤ d0 ∧ d0 < 4294967296) ∧ (0 ≤ d1 ∧ d1 < 4294967296) ∧ (0 ≤ d2 ∧ d2 < 4294967296) ∧ (0 ≤ d3 ∧ d3 < 4294967296) ∧ (0 ≤ d4 ∧ d4 < 4294967296) ∧ (0 ≤ d5 ∧ d5 < 4294967296) ∧ (0 ≤ p ∧ p < 4294967296)) :
    Calls Try.prog 3 #[.agg (inoCells a k s l d0 d1 d2 d3 d4 d5 p), .int .i64 size] w fun e w' => e = .returned (.bool true) ∧ Below w.heap.size w w' :=
  iputs_walk a k s l d0 d1 d2 d3 d4 d5 p size (blk size) w (putR a k s l d0 d1 d2 d3 d4 d5 p).1 (filt [d0, d1, d2, d3, d4, d5, p]) (putR a k s l d0 d1 d2 d3 d4 d5 p).2 (mayB a k s l [d0, d1, d2, d3, d4, d5] p) rfl rfl rfl (List.length_filter_le _ _) rfl hs hz hx
end Go.Proofs.YtencgnhgjegknaaX
