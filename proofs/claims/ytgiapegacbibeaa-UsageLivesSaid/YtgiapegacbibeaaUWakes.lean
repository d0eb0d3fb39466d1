/- hayricklaw15.wakes: its walk. -/
import Derived.Test.YtgiapegacbibeaaUWk0
import Derived.Outline
namespace Go.Proofs.Ytgiapegacbibeaa.UM
open Go.RowKit Go.Proofs.YtgiapegacbibeaaX Go.Proofs.YtgiapegacbibeaaW.PrintWords Go.Proofs.Ytgiapegacbibeaa.PUsageLives
set_option linter.unusedVariables false
set_option linter.unusedSimpArgs false
theorem rangeAt_blk {w : World} {b t : Nat} {cs : List Value} (h : w.heap[b]? = some (.cells cs.toArray t (0, 0))) : w.rangeAt b 0 cs := fun j v hv => by
  simpa [World.cell?, h] using hv
theorem sizeArr64 : (Try.prog.info? 36).map (·.size) = some (nums .u32 mW).length := by kernel_rfl
theorem own_base3 {W : World} {base n g : Nat} {e : TypeId} {size : Nat} {v : Value} {xs : List Value} (h : W.ownsRow base e size v n xs) (hg : g < base) : v.ownBlock = none ∨ v.ownBlock ≠ some g :=
  .inr (fun e => by have := own_base h _ e; omega)
set_option maxHeartbeats 2000000 in
set_option maxRecDepth 100000 in
theorem wakes_true (w : World) : Calls Try.prog 11 #[] w fun e w' => e = .returned (.bool true) ∧ Below w.heap.size w w' := by
  have hu23 := Aside0.mk Try.underlying23
  have hu25 := Aside0.mk Try.underlying57
  have hu36 := Aside0.mk Try.underlying36
  go_enter Try.func11, Try.ntmps11
  go_wp2_with (first
    | ((with_reducible refine gate_dst (N := 1) rfl ?_); refine box_event ?hg (N := 1) ?hd (cs := #[.int .i64 0, .int .i64 0, .int .i64 0]) (t := 23) ?hr ?_; (case hd => rfl); (case hg => rfl); (case hr => first | (go_simp; done) | (go_simp; rfl) | kernel_rfl); intro gg hg w1 hbox hb; have Gg := Aside0.mk (Nat.le_of_eq hg.symm); have HB1 := Aside0.mk (hb); have Bg1 := Aside0.mk (hbox); clear hb hbox hg)
    | ((with_reducible refine gate_store (t := 23) (p := 1) (v := .tmp 18) rfl ?_); refine ev_store_row (by rfl) 23 (.tmp 1) (.tmp 18) (by rfl) gg (#[.int .i64 2, .int .i64 3, .int .i64 16]) (by kernel_rfl) (by kernel_rfl) 23 _ Bg1.out sizeGeo (by rfl) (by simp [Value.oneCell']) ?_; intro w2 hbox hg; have HB2 := Aside0.mk (pw_below_grown HB1.out _ HB1.out.size hg (fun q e => by cases e; exact Gg.out)); have Bg2 := Aside0.mk (hbox); clear hbox hg)
    | ((with_reducible refine gate_dst (N := 2) rfl ?_); refine box_event ?hg (N := 2) ?hd (cs := inoCells 0 0 0 0 0 0 0 0 0 0 0) (t := 57) ?hr ?_; (case hd => rfl); (case hg => rfl); (case hr => first | (go_simp; done) | (go_simp; rfl) | kernel_rfl); intro gi hg w3 hbox hb; have Gi := Aside0.mk (show w.heap.size ≤ gi from by have := HB2.out.size; omega); have HB3 := Aside0.mk (below_step HB2.out hb); have Nig := Aside0.mk (show gi ≠ gg from fun e => by have h1 := blk_lt Bg2.out; omega); have Bg3 := Aside0.mk (blk_below Bg2.out hb); have Bi3 := Aside0.mk (hbox); clear hb hbox hg)
    | ((with_reducible refine gate_store (t := 57) (p := 2) (v := .tmp 19) rfl ?_); refine ev_store_row (by rfl) 57 (.tmp 2) (.tmp 19) (by rfl) gi (inoCells 1 1 200 1 0 0 0 0 0 0 0) (by kernel_rfl) (by kernel_rfl) 57 _ Bi3.out sizeInode (by rfl) (ino_all _ _ _ _ _ _ _ _ _ _ _) ?_; intro w4 hbox hg; have HB4 := Aside0.mk (pw_below_grown HB3.out _ HB3.out.size hg (fun q e => by cases e; exact Gi.out)); have Bg4 := Aside0.mk (blk_grown Bg3.out hg (fun e => by cases e; first | exact Nig.out rfl | exact Ngi.out rfl)); have Bi4 := Aside0.mk (hbox); clear hbox hg)
    | ((with_reducible refine gate_store (t := 24) (p := 21) (v := .const (.int .u32 12)) rfl ?_); refine ev_store (by rfl) 24 (.tmp 21) (.const (.int .u32 12)) (by rfl) gi 4 (inoCells 1 1 200 1 0 0 0 0 0 0 0).toList (nums .u32 [12]) (.int .u32 12) (by kernel_rfl) (by kernel_rfl) (by rfl) 57 Bi4.out sizeU32 (show 4 + 1 ≤ 11 from by decide) (one_nums _ _) ?_; intro w5 hbox hg; have HB5 := Aside0.mk (pw_below_grown HB4.out _ HB4.out.size hg (fun q e => by cases e; exact Gi.out)); have Bg5 := Aside0.mk (blk_grown Bg4.out hg (fun e => by cases e; first | exact Nig.out rfl | exact Ngi.out rfl)); have Bi5 := Aside0.mk (show w5.heap[gi]? = some (.cells (inoCells 1 1 200 1 12 0 0 0 0 0 0) 57 (0, 0)) from hbox); clear hbox hg)
    | ((with_reducible refine gate_store (t := 24) (p := 23) (v := .const (.int .u32 21)) rfl ?_); refine ev_store (by rfl) 24 (.tmp 23) (.const (.int .u32 21)) (by rfl) gi 5 (inoCells 1 1 200 1 12 0 0 0 0 0 0).toList (nums .u32 [21]) (.int .u32 21) (by kernel_rfl) (by kernel_rfl) (by rfl) 57 Bi5.out sizeU32 (show 5 + 1 ≤ 11 from by decide) (one_nums _ _) ?_; intro w6 hbox hg; have HB6 := Aside0.mk (pw_below_grown HB5.out _ HB5.out.size hg (fun q e => by cases e; exact Gi.out)); have Bg6 := Aside0.mk (blk_grown Bg5.out hg (fun e => by cases e; first | exact Nig.out rfl | exact Ngi.out rfl)); have Bi6 := Aside0.mk (show w6.heap[gi]? = some (.cells (inoCells 1 1 200 1 12 21 0 0 0 0 0) 57 (0, 0)) from hbox); clear hbox hg)
    | ((with_reducible refine gate_dst (N := 25) rfl ?_); refine wpList_load_row rfl 57 (.tmp 2) (by kernel_rfl) gi (by kernel_rfl) _ _ _ _ Bi6.out hu25.out rfl sizeInode ?_)
    | ((with_reducible refine gate_store (t := 24) (p := 30) (v := .const (.int .u32 9)) rfl ?_); refine ev_store (by rfl) 24 (.tmp 30) (.const (.int .u32 9)) (by rfl) gi 5 (inoCells 1 1 200 1 12 21 0 0 0 0 0).toList (nums .u32 [9]) (.int .u32 9) (by kernel_rfl) (by kernel_rfl) (by rfl) 57 Bi7.out sizeU32 (show 5 + 1 ≤ 11 from by decide) (one_nums _ _) ?_; intro w8 hbox hg; have HB8 := Aside0.mk (pw_below_grown HB7.out _ HB7.out.size hg (fun q e => by cases e; exact Gi.out)); have Bg8 := Aside0.mk (blk_grown Bg7.out hg (fun e => by cases e; first | exact Nig.out rfl | exact Ngi.out rfl)); have Bi8 := Aside0.mk (show w8.heap[gi]? = some (.cells (inoCells 1 1 200 1 12 9 0 0 0 0 0) 57 (0, 0)) from hbox); have HO8 := Aside0.mk (own_other HO7.out hg HQ7.out); clear hbox hg)
    | ((with_reducible refine gate_dst (N := 32) rfl ?_); refine wpList_load_row rfl 57 (.tmp 2) (by kernel_rfl) gi (by kernel_rfl) _ _ _ _ Bi8.out hu25.out rfl sizeInode ?_)
    | ((with_reducible refine gate_dst (N := 7) rfl ?_); refine box_event ?hg (N := 7) ?hd (cs := (nums .u32 (List.replicate 64 0)).toArray) (t := 36) ?hr ?_; (case hd => rfl); (case hg => rfl); (case hr => first | (go_simp; done) | (go_simp; rfl) | kernel_rfl); intro gm hg w10 hbox hb; have Gm := Aside0.mk (show w.heap.size ≤ gm from by have := HB9.out.size; omega); have HB10 := Aside0.mk (below_step HB9.out hb); have Nmg := Aside0.mk (show gm ≠ gg from fun e => by have h1 := blk_lt Bg9.out; omega); have Nmi := Aside0.mk (show gm ≠ gi from fun e => by have h1 := blk_lt Bi9.out; omega); have Bg10 := Aside0.mk (blk_below Bg9.out hb); have Bi10 := Aside0.mk (blk_below Bi9.out hb); have Bm10 := Aside0.mk (hbox); have K10 := Aside0.mk hb; have GM9 := Aside0.mk (Nat.le_of_eq hg.symm); clear hb hbox hg)
    | ((with_reducible refine gate_store (t := 24) (p := 36) (v := .const (.int .u32 11)) rfl ?_); refine ev_store (by rfl) 24 (.tmp 36) (.const (.int .u32 11)) (by rfl) gm 0 ((nums .u32 (List.replicate 64 0)).toArray).toList (nums .u32 [11]) (.int .u32 11) (by kernel_rfl) (by kernel_rfl) (by rfl) 36 Bm10.out sizeU32 (show 0 + 1 ≤ 64 from by decide) (one_nums _ _) ?_; intro w11 hbox hg; have HB11 := Aside0.mk (pw_below_grown HB10.out _ HB10.out.size hg (fun q e => by cases e; exact Gm.out)); have Bg11 := Aside0.mk (blk_grown Bg10.out hg (fun e => by cases e; first | exact Nmg.out rfl | exact Ngm.out rfl)); have Bi11 := Aside0.mk (blk_grown Bi10.out hg (fun e => by cases e; first | exact Nmi.out rfl | exact Nim.out rfl)); have Bm11 := Aside0.mk (show w11.heap[gm]? = some (.cells ((nums .u32 mW).toArray) 36 (0, 0)) from hbox); have K9 := Aside0.mk (pw_below_grown K10.out _ K10.out.size hg (fun q e => by cases e; exact GM9.out)); clear hbox hg)
    | (have hz := HB8.out; clear hz; go_at_call 20; refine (iput_rd 1 1 200 1 12 9 0 0 0 0 0 _ (by decide) (by decide +kernel) (by decide) wC rfl).mono ?_; rintro e w9 ⟨ad5, c5, rfl, hr, hc, _, hb⟩; obtain ⟨A5, hA5⟩ : ∃ A5, some ad5 = A5 := ⟨_, rfl⟩; rw [hA5] at hr ⊢; clear hA5; have HB9 := Aside0.mk (below_step HB8.out hb); have Bg9 := Aside0.mk (blk_below Bg8.out hb); have Bi9 := Aside0.mk (blk_below Bi8.out hb); have RA5 := Aside0.mk (hr); have CA5 := Aside0.mk (hc); have K89 := Aside0.mk (hb); clear hr hc; clear hb)
    | (have hz := HB6.out; clear hz; go_at_call 20; refine (iput_yes 1 1 200 1 12 21 0 0 0 0 0 _ (by decide) (by decide +kernel) (by decide)).mono ?_; rintro e w7 ⟨v3, rfl, ho, hb⟩; have HB7 := Aside0.mk (below_step HB6.out hb); have Bg7 := Aside0.mk (blk_below Bg6.out hb); have Bi7 := Aside0.mk (blk_below Bi6.out hb); have HO7 := Aside0.mk (ho); have HQ7 := Aside0.mk (own_base3 ho (blk_lt Bi6.out)); clear ho; clear hb))
  have ho3 := pw_own_below HO8.out (K89.out.trans (K9.out.mono K89.out.size))
  obtain ⟨A3, c3, rfl, hr3⟩ := own_reads ho3
  have RA3 := Aside0.mk (show ReadsInt w11 .u8 A3 112 wB from hr3)
  have CA3 := Aside0.mk (own_le ho3)
  have RA5b := Aside0.mk (RA5.out.below K9.out)
  clear ho3 hr3 RA5
  have RA5 := RA5b
  clear RA5b
  (try simp only [Act.put, List.setIfInBounds_toArray, List.set_cons_zero, List.set_cons_succ])
  refine wp_region_held_drew (S := fun W => Below w11.heap.size w11 W) (by kernel_rfl) (below_drew (Below.refl w11.heap.size w11)) (fun hHeld => ?_)
  refine wpAnyH_take (i := 0) (oi := ⟨some 38, _, _, _, _, _⟩) rfl (by kernel_rfl) (by kernel_rfl) (by kernel_rfl) (fun _ _ _ h => h) (yieldsIf_load_mid (by rfl) 23 (.tmp 1) rfl gg 0 rfl [.int .i64 2, .int .i64 3, .int .i64 16] _ (fun W hS => World.rangeAt_of_block (blk_below Bg11.out hS) 0 3) hu23.out rfl sizeGeo) hHeld ?_
  (try simp only [Act.put, List.setIfInBounds_toArray, List.set_cons_zero, List.set_cons_succ])
  refine wpAnyH_take (i := 1) (oi := ⟨some 39, _, _, _, _, _⟩) rfl (by kernel_rfl) (by kernel_rfl) (by kernel_rfl) (fun _ _ _ h => h) (yieldsIf_load_mid (by rfl) 36 (.tmp 7) rfl gm 0 rfl (nums .u32 mW) _ (fun W hS => rangeAt_blk (blk_below Bm11.out hS)) hu36.out rfl sizeArr64) hHeld ?_
  (try simp only [Act.put, List.setIfInBounds_toArray, List.set_cons_zero, List.set_cons_succ])
  refine wpAnyH_take (i := 2) (oi := ⟨some 40, _, _, _, _, _⟩) (v := (.slice A3 112 c3)) rfl (by kernel_rfl) (by kernel_rfl) (by kernel_rfl) (fun _ _ _ h => h) (Or.inl ⟨by rfl, fun W hS => by go_simp⟩) hHeld ?_
  (try simp only [Act.put, List.setIfInBounds_toArray, List.set_cons_zero, List.set_cons_succ])
  refine wpAnyH_take (i := 3) (oi := ⟨some 41, _, _, _, _, _⟩) (v := (.agg #[.int .u32 11, .slice A3 112 c3])) rfl (by kernel_rfl) (by kernel_rfl) (by kernel_rfl) (fun _ _ _ h => h) (Or.inl ⟨by rfl, fun W hS => by go_simp⟩) hHeld ?_
  (try simp only [Act.put, List.setIfInBounds_toArray, List.set_cons_zero, List.set_cons_succ])
  obtain ⟨W0, hW0⟩ : ∃ W0, w11.drew = W0 := ⟨_, rfl⟩
  rw [hW0] at hHeld ⊢
  clear hW0
  refine wpAnyH_ready (rs := [4]) (by kernel_rfl) (by simp) ?_
  refine AllReadyH.cons rfl (fun K' hK' => ?_) AllReadyH.nil
  go_simp
  refine hK'.out _ _ (below_alloc hHeld _) (fun hH1 => ?_)
  have k1 := heap_alloc_new W0 (.cells #[.int .u32 11, .slice A3 112 c3] 62)
  have hrb := (RA3.out.below (show Below w11.heap.size w11 (W0.alloc (.cells #[.int .u32 11, .slice A3 112 c3] 62)) from hH1))
  have kv := one_at _ _ 11 A3 c3 wB k1 (by rw [show (wB : List Int).length = 112 from rfl]; exact CA3.out) (by rw [show (wB : List Int).length = 112 from rfl]; exact hrb)
  obtain ⟨gx, hgx⟩ : ∃ g, W0.heap.size = g := ⟨_, rfl⟩
  obtain ⟨W1, hW1⟩ : ∃ W1, W0.alloc (.cells #[.int .u32 11, .slice A3 112 c3] 62) = W1 := ⟨_, rfl⟩
  rw [hW1] at hH1 kv ⊢
  rw [hgx] at kv ⊢
  have KV := Aside0.mk kv
  clear hK' K' hHeld k1 hrb kv hgx hW1
  (try simp only [Act.put, List.setIfInBounds_toArray, List.set_cons_zero, List.set_cons_succ])
  refine wpAnyH_ready (rs := [5]) (by kernel_rfl) (by simp) ?_
  refine AllReadyH.cons rfl (fun K' hK' => ?_) AllReadyH.nil
  go_simp
  refine (hayricklaw15_shelf.calls 20 _ (some ⟨gx, 0, none⟩) 1 [⟨11, wB⟩] (shelfOf wB) W1 KV.out shelf_B).mono ?_
  rintro e W2 ⟨vs, rfl, hn, hb⟩
  dsimp only
  have hv := Kd.V_bound (Kd.N_V (base' := 0) hn)
  obtain ⟨SA, cs, rfl⟩ := Kd.V_slice hv
  refine hK'.out _ _ (below_step hH1 hb) (fun hH2 => ?_)
  have hbs : BS W2 W2.heap.size SA cs (shelfOf wB) := Kd.V_mono hv (fun k hk => hk.2)
  have HBS := Aside0.mk hbs
  clear hK' K' hH1 hn hv hb hbs KV
  (try simp only [Act.put, List.setIfInBounds_toArray, List.set_cons_zero, List.set_cons_succ])
  refine wpAnyH_take (i := 6) (oi := ⟨some 44, _, _, _, _, _⟩) (v := (.agg #[.slice SA (shelfOf wB).length cs])) rfl (by kernel_rfl) (by kernel_rfl) (by kernel_rfl) (fun _ _ _ h => h) (Or.inl ⟨by rfl, fun W hS => by go_simp⟩) hH2 ?_
  (try simp only [Act.put, List.setIfInBounds_toArray, List.set_cons_zero, List.set_cons_succ])
  refine wpAnyH_take (i := 7) (oi := ⟨some 45, _, _, _, _, _⟩) (v := (.func (.func 14) #[(.agg #[.slice SA (shelfOf wB).length cs])] #[])) rfl (by kernel_rfl) (by kernel_rfl) (by kernel_rfl) (fun _ _ _ h => h) (Or.inl ⟨by rfl, fun W hS => by go_simp⟩) hH2 ?_
  (try simp only [Act.put, List.setIfInBounds_toArray, List.set_cons_zero, List.set_cons_succ])
  refine wpAnyH_ready (rs := [8]) (by kernel_rfl) (by simp) ?_
  refine AllReadyH.cons rfl (fun K' hK' => ?_) AllReadyH.nil
  go_simp
  refine (live_Bw W2 SA cs HBS.out).mono ?_
  rintro e W3 ⟨A8, m8, c8, rfl, hr, hc, hb⟩
  dsimp only
  refine hK'.out _ _ (below_step hH2 hb) (fun hH3 => ?_)
  have RA8 := Aside0.mk hr
  have CA8 := Aside0.mk hc
  have RW8 := Aside0.mk hH3
  clear hK' K' hH2 hr hc hb HBS
  (try simp only [Act.put, List.setIfInBounds_toArray, List.set_cons_zero, List.set_cons_succ])
  refine wpAnyH_take (i := 9) (oi := ⟨some 37, _, _, _, _, _⟩) (v := (.tuple #[(.slice A8 m8 c8), .int .i64 0])) rfl (by kernel_rfl) (by kernel_rfl) (by kernel_rfl) (fun _ _ _ h => h) (Or.inl ⟨by rfl, fun W hS => by go_simp⟩) hH3 ?_
  (try simp only [Act.put, List.setIfInBounds_toArray, List.set_cons_zero, List.set_cons_succ])
  refine wpAnyH_take (i := 10) (oi := ⟨some 47, _, _, _, _, _⟩) (v := (.slice A8 m8 c8)) rfl (by kernel_rfl) (by kernel_rfl) (by kernel_rfl) (fun _ _ _ h => h) (Or.inl ⟨by rfl, fun W hS => by go_simp⟩) hH3 ?_
  (try simp only [Act.put, List.setIfInBounds_toArray, List.set_cons_zero, List.set_cons_succ])
  refine wpAnyH_take (i := 11) (oi := ⟨some 48, _, _, _, _, _⟩) (v := (.int .i64 0)) rfl (by kernel_rfl) (by kernel_rfl) (by kernel_rfl) (fun _ _ _ h => h) (Or.inl ⟨by rfl, fun W hS => by go_simp⟩) hH3 ?_
  (try simp only [Act.put, List.setIfInBounds_toArray, List.set_cons_zero, List.set_cons_succ])
  refine wpAnyH_take (i := 12) (oi := ⟨some 8, _, _, _, _, _⟩) (v := (.slice A8 m8 c8)) rfl (by kernel_rfl) (by kernel_rfl) (by kernel_rfl) (fun _ _ _ h => h) (Or.inl ⟨by rfl, fun W hS => by go_simp⟩) hH3 ?_
  (try simp only [Act.put, List.setIfInBounds_toArray, List.set_cons_zero, List.set_cons_succ])
  refine wpAnyH_take (i := 13) (oi := ⟨some 9, _, _, _, _, _⟩) (v := (.int .i64 0)) rfl (by kernel_rfl) (by kernel_rfl) (by kernel_rfl) (fun _ _ _ h => h) (Or.inl ⟨by rfl, fun W hS => by go_simp⟩) hH3 ?_
  (try simp only [Act.put, List.setIfInBounds_toArray, List.set_cons_zero, List.set_cons_succ])
  refine wpAnyH_done (by kernel_rfl) ?_ _
  clear hH3
  (try simp only [Exit.then])
  have HB12 := Aside0.mk (below_step HB11.out RW8.out)
  have Bg12 := Aside0.mk (blk_below Bg11.out RW8.out)
  have Bm12 := Aside0.mk (blk_below Bm11.out RW8.out)
  have RA5n := Aside0.mk (RA5.out.below RW8.out)
  clear RA5
  have RA5 := RA5n
  clear RA5n
  obtain ⟨w12, hw⟩ : ∃ W, W3 = W := ⟨_, rfl⟩
  rw [hw] at HB12 Bg12 Bm12 RA5 RA8 RW8 ⊢
  clear hw
  go_wp2
  (try simp only [Act.put, List.setIfInBounds_toArray, List.set_cons_zero, List.set_cons_succ])
  refine wp_region_held_drew (S := fun W => Below w12.heap.size w12 W) (by kernel_rfl) (below_drew (Below.refl w12.heap.size w12)) (fun hHeld => ?_)
  refine wpAnyH_take (i := 0) (oi := ⟨some 50, _, _, _, _, _⟩) rfl (by kernel_rfl) (by kernel_rfl) (by kernel_rfl) (fun _ _ _ h => h) (yieldsIf_load_mid (by rfl) 23 (.tmp 1) rfl gg 0 rfl [.int .i64 2, .int .i64 3, .int .i64 16] _ (fun W hS => World.rangeAt_of_block (blk_below Bg12.out hS) 0 3) hu23.out rfl sizeGeo) hHeld ?_
  (try simp only [Act.put, List.setIfInBounds_toArray, List.set_cons_zero, List.set_cons_succ])
  refine wpAnyH_take (i := 1) (oi := ⟨some 51, _, _, _, _, _⟩) rfl (by kernel_rfl) (by kernel_rfl) (by kernel_rfl) (fun _ _ _ h => h) (yieldsIf_load_mid (by rfl) 36 (.tmp 7) rfl gm 0 rfl (nums .u32 mW) _ (fun W hS => rangeAt_blk (blk_below Bm12.out hS)) hu36.out rfl sizeArr64) hHeld ?_
  (try simp only [Act.put, List.setIfInBounds_toArray, List.set_cons_zero, List.set_cons_succ])
  refine wpAnyH_take (i := 2) (oi := ⟨some 52, _, _, _, _, _⟩) (v := (.slice A5 112 c5)) rfl (by kernel_rfl) (by kernel_rfl) (by kernel_rfl) (fun _ _ _ h => h) (Or.inl ⟨by rfl, fun W hS => by go_simp⟩) hHeld ?_
  (try simp only [Act.put, List.setIfInBounds_toArray, List.set_cons_zero, List.set_cons_succ])
  refine wpAnyH_take (i := 3) (oi := ⟨some 53, _, _, _, _, _⟩) (v := (.agg #[.int .u32 11, .slice A5 112 c5])) rfl (by kernel_rfl) (by kernel_rfl) (by kernel_rfl) (fun _ _ _ h => h) (Or.inl ⟨by rfl, fun W hS => by go_simp⟩) hHeld ?_
  (try simp only [Act.put, List.setIfInBounds_toArray, List.set_cons_zero, List.set_cons_succ])
  obtain ⟨W0, hW0⟩ : ∃ W0, w12.drew = W0 := ⟨_, rfl⟩
  rw [hW0] at hHeld ⊢
  clear hW0
  refine wpAnyH_ready (rs := [4]) (by kernel_rfl) (by simp) ?_
  refine AllReadyH.cons rfl (fun K' hK' => ?_) AllReadyH.nil
  go_simp
  refine hK'.out _ _ (below_alloc hHeld _) (fun hH1 => ?_)
  have k1 := heap_alloc_new W0 (.cells #[.int .u32 11, .slice A5 112 c5] 62)
  have hrb := (RA5.out.below (show Below w12.heap.size w12 (W0.alloc (.cells #[.int .u32 11, .slice A5 112 c5] 62)) from hH1))
  have kv := one_at _ _ 11 A5 c5 wC k1 (by rw [show (wC : List Int).length = 112 from rfl]; exact CA5.out) (by rw [show (wC : List Int).length = 112 from rfl]; exact hrb)
  obtain ⟨gx, hgx⟩ : ∃ g, W0.heap.size = g := ⟨_, rfl⟩
  obtain ⟨W1, hW1⟩ : ∃ W1, W0.alloc (.cells #[.int .u32 11, .slice A5 112 c5] 62) = W1 := ⟨_, rfl⟩
  rw [hW1] at hH1 kv ⊢
  rw [hgx] at kv ⊢
  have KV := Aside0.mk kv
  clear hK' K' hHeld k1 hrb kv hgx hW1
  (try simp only [Act.put, List.setIfInBounds_toArray, List.set_cons_zero, List.set_cons_succ])
  refine wpAnyH_ready (rs := [5]) (by kernel_rfl) (by simp) ?_
  refine AllReadyH.cons rfl (fun K' hK' => ?_) AllReadyH.nil
  go_simp
  refine (hayricklaw15_shelf.calls 20 _ (some ⟨gx, 0, none⟩) 1 [⟨11, wC⟩] (shelfOf wC) W1 KV.out shelf_C).mono ?_
  rintro e W2 ⟨vs, rfl, hn, hb⟩
  dsimp only
  have hv := Kd.V_bound (Kd.N_V (base' := 0) hn)
  obtain ⟨SA, cs, rfl⟩ := Kd.V_slice hv
  refine hK'.out _ _ (below_step hH1 hb) (fun hH2 => ?_)
  have hbs : BS W2 W2.heap.size SA cs (shelfOf wC) := Kd.V_mono hv (fun k hk => hk.2)
  have HBS := Aside0.mk hbs
  clear hK' K' hH1 hn hv hb hbs KV
  (try simp only [Act.put, List.setIfInBounds_toArray, List.set_cons_zero, List.set_cons_succ])
  refine wpAnyH_take (i := 6) (oi := ⟨some 56, _, _, _, _, _⟩) (v := (.agg #[.slice SA (shelfOf wC).length cs])) rfl (by kernel_rfl) (by kernel_rfl) (by kernel_rfl) (fun _ _ _ h => h) (Or.inl ⟨by rfl, fun W hS => by go_simp⟩) hH2 ?_
  (try simp only [Act.put, List.setIfInBounds_toArray, List.set_cons_zero, List.set_cons_succ])
  refine wpAnyH_take (i := 7) (oi := ⟨some 57, _, _, _, _, _⟩) (v := (.func (.func 14) #[(.agg #[.slice SA (shelfOf wC).length cs])] #[])) rfl (by kernel_rfl) (by kernel_rfl) (by kernel_rfl) (fun _ _ _ h => h) (Or.inl ⟨by rfl, fun W hS => by go_simp⟩) hH2 ?_
  (try simp only [Act.put, List.setIfInBounds_toArray, List.set_cons_zero, List.set_cons_succ])
  refine wpAnyH_ready (rs := [8]) (by kernel_rfl) (by simp) ?_
  refine AllReadyH.cons rfl (fun K' hK' => ?_) AllReadyH.nil
  go_simp
  refine (live_Cw W2 SA cs HBS.out).mono ?_
  rintro e W3 ⟨A10, m10, c10, rfl, hr, hc, hb⟩
  dsimp only
  refine hK'.out _ _ (below_step hH2 hb) (fun hH3 => ?_)
  have RA10 := Aside0.mk hr
  have CA10 := Aside0.mk hc
  have RW10 := Aside0.mk hH3
  clear hK' K' hH2 hr hc hb HBS
  (try simp only [Act.put, List.setIfInBounds_toArray, List.set_cons_zero, List.set_cons_succ])
  refine wpAnyH_take (i := 9) (oi := ⟨some 49, _, _, _, _, _⟩) (v := (.tuple #[(.slice A10 m10 c10), .int .i64 5])) rfl (by kernel_rfl) (by kernel_rfl) (by kernel_rfl) (fun _ _ _ h => h) (Or.inl ⟨by rfl, fun W hS => by go_simp⟩) hH3 ?_
  (try simp only [Act.put, List.setIfInBounds_toArray, List.set_cons_zero, List.set_cons_succ])
  refine wpAnyH_take (i := 10) (oi := ⟨some 59, _, _, _, _, _⟩) (v := (.slice A10 m10 c10)) rfl (by kernel_rfl) (by kernel_rfl) (by kernel_rfl) (fun _ _ _ h => h) (Or.inl ⟨by rfl, fun W hS => by go_simp⟩) hH3 ?_
  (try simp only [Act.put, List.setIfInBounds_toArray, List.set_cons_zero, List.set_cons_succ])
  refine wpAnyH_take (i := 11) (oi := ⟨some 60, _, _, _, _, _⟩) (v := (.int .i64 5)) rfl (by kernel_rfl) (by kernel_rfl) (by kernel_rfl) (fun _ _ _ h => h) (Or.inl ⟨by rfl, fun W hS => by go_simp⟩) hH3 ?_
  (try simp only [Act.put, List.setIfInBounds_toArray, List.set_cons_zero, List.set_cons_succ])
  refine wpAnyH_take (i := 12) (oi := ⟨some 10, _, _, _, _, _⟩) (v := (.slice A10 m10 c10)) rfl (by kernel_rfl) (by kernel_rfl) (by kernel_rfl) (fun _ _ _ h => h) (Or.inl ⟨by rfl, fun W hS => by go_simp⟩) hH3 ?_
  (try simp only [Act.put, List.setIfInBounds_toArray, List.set_cons_zero, List.set_cons_succ])
  refine wpAnyH_take (i := 13) (oi := ⟨some 11, _, _, _, _, _⟩) (v := (.int .i64 5)) rfl (by kernel_rfl) (by kernel_rfl) (by kernel_rfl) (fun _ _ _ h => h) (Or.inl ⟨by rfl, fun W hS => by go_simp⟩) hH3 ?_
  (try simp only [Act.put, List.setIfInBounds_toArray, List.set_cons_zero, List.set_cons_succ])
  refine wpAnyH_done (by kernel_rfl) ?_ _
  clear hH3
  (try simp only [Exit.then])
  have HB13 := Aside0.mk (below_step HB12.out RW10.out)
  have Bg13 := Aside0.mk (blk_below Bg12.out RW10.out)
  have Bm13 := Aside0.mk (blk_below Bm12.out RW10.out)
  have RA5n := Aside0.mk (RA5.out.below RW10.out)
  clear RA5
  have RA5 := RA5n
  clear RA5n
  obtain ⟨w13, hw⟩ : ∃ W, W3 = W := ⟨_, rfl⟩
  rw [hw] at HB13 Bg13 Bm13 RA5 RA10 RW10 ⊢
  clear hw
  obtain rfl : m8 = 16 := RA8.out.1.symm
  obtain ⟨ad8, rfl, _⟩ := RA8.out.2.2 (by decide)
  have RA8_13 := Aside0.mk (RA8.out.below RW10.out)
  go_wp2_with (first
    | ((with_reducible refine gate_dst (N := 62) rfl ?_); refine wpList_load_row rfl 23 (.tmp 1) (by kernel_rfl) gg (by kernel_rfl) _ _ _ _ Bg13.out hu23.out rfl sizeGeo ?_)
    | ((with_reducible refine gate_dst (N := 67) rfl ?_); refine wpList_load_row rfl 23 (.tmp 1) (by kernel_rfl) gg (by kernel_rfl) _ _ _ _ Bg14.out hu23.out rfl sizeGeo ?_)
    | (go_at_call 7; refine (usage_Address.calls 2 3 16 1 2 11 0 _ addr_W).mono ?_; rintro e w14 ⟨rfl, hb⟩; have HB14 := Aside0.mk (below_step HB13.out hb); have Bg14 := Aside0.mk (blk_below Bg13.out hb); have RA8_14 := Aside0.mk (RA8_13.out.below hb); clear hb)
    | (go_at_call 9; refine (usage_Place.calls 2 3 16 128 15 7 0 _ place_W).mono ?_; rintro e w15 ⟨rfl, hb⟩; have HB15 := Aside0.mk (below_step HB14.out hb); have Bg15 := Aside0.mk (blk_below Bg14.out hb); have RA8_15 := Aside0.mk (RA8_14.out.below hb); clear hb)
    | (go_at_call 17; refine (usage_Free.calls 10 (some ⟨w15.heap.size, 0, none⟩) 3 [0, 2, 0] [0, 2] _ (Kd.C_of_reads (enc := Value.int .i64) (d := (0 : Int)) (h1 := fun _ => rfl) (reads_vec (heap_alloc_new w15 (.cells #[.int .i64 0, .int .i64 2, .int .i64 0] 3)) rfl (by decide))) (by decide) free_W).mono ?_; rintro e w16 ⟨vf, rfl, hf, hb⟩; have hb2 := (below_alloc (Below.refl w15.heap.size w15) (.cells #[.int .i64 0, .int .i64 2, .int .i64 0] 3)).trans (hb.mono (by simp)); have HB16 := Aside0.mk (below_step HB15.out hb2); have ra8 := RA8_15.out.below hb2; have q1 : w16.cell? ⟨ad8.block, ad8.off + 1, none⟩ = some (.int .i64 2) := cell_of_reads ra8 1 (by decide); have q2 : w16.cell? ⟨ad8.block, ad8.off + 2, none⟩ = some (.int .i64 1) := cell_of_reads ra8 2 (by decide); obtain ⟨A17, c17, rfl, hl17, hc17⟩ := Kd.R_reads hf; have r17 : ReadsInt w16 .i64 A17 2 [0, 2] := Kd.reads_of_C (enc := Value.int .i64) (d := (0 : Int)) (h1 := fun _ => rfl) hc17; obtain ⟨ad17, rfl, _⟩ := r17.2.2 (by decide); have q3 : w16.cell? ⟨ad17.block, ad17.off + 1, none⟩ = some (.int .i64 2) := cell_of_reads r17 1 (by decide); clear hf hb hb2 ra8 hl17 hc17 r17))
  go_ret
  exact ⟨rfl, HB16.out⟩
end Go.Proofs.Ytgiapegacbibeaa.UM
