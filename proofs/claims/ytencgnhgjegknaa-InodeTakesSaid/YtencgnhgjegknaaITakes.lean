/- InodeTakes: the law's own walk. -/
import Derived.Test.YtencgnhgjegknaaIRTake
namespace Go.Proofs.YtencgnhgjegknaaX
open Go.RowKit Go.Proofs.YtencgnhgjegknaaW.PrintWords
set_option linter.unusedVariables false
theorem getD_byte {L : List Int} (h : ∀ x ∈ L, 0 ≤ x ∧ x < 256) (j : Nat) : 0 ≤ L.getD j 0 ∧ L.getD j 0 < 256 := by
  by_cases hl : j < L.length
  · rw [List.getD_eq_getElem?_getD, List.getElem?_eq_getElem hl]; exact h _ (List.getElem_mem _)
  · rw [List.getD_eq_getElem?_getD, List.getElem?_eq_none (by omega)]; decide
theorem accN_rng {L : List Int} (h : ∀ x ∈ L, 0 ≤ x ∧ x < 256) (o z : Nat) : 0 ≤ accN (L.drop o) z ∧ accN (L.drop o) z < 256 ^ z :=
  accN_bound (getD_byte (fun x hx => h x (List.mem_of_mem_drop hx))) z
theorem rtake_any (A : Option Addr) (n c : Nat) (L : List Int) (w : World) (hc : n ≤ c) (hr : ReadsInt w .u8 A n L) (hby : ∀ x ∈ L, 0 ≤ x ∧ x < 256) :
    Calls Try.prog 18 #[.slice A n c] w fun e w' => e = .returned (.tuple #[.agg (takeR L).1, .int .i64 (takeR L).2]) ∧ Below w.heap.size w w' := by
  obtain rfl : L.length = n := hr.1
  rw [take_ref L hby]
  unfold refR
  by_cases h1 : L.length < 112
  · rw [if_pos h1]; exact rtake_short A _ c w h1 hr.2.1
  · rw [if_neg h1]
    by_cases h2 : 112 < L.length
    · rw [if_pos h2]; exact rtake_long A _ c w h2 hr.2.1
    · rw [if_neg h2]
      have h3 : L.length = 112 := by omega
      obtain ⟨ad, rfl, _⟩ := hr.2.2 (by omega)
      rw [h3] at hr hc ⊢
      have r2 : ∀ o, 0 ≤ accN (L.drop o) 2 ∧ accN (L.drop o) 2 < 65536 := fun o => accN_rng hby o 2
      have r1 : ∀ o, 0 ≤ accN (L.drop o) 1 ∧ accN (L.drop o) 1 < 65536 := fun o => ⟨(accN_rng hby o 1).1, Int.lt_trans (accN_rng hby o 1).2 (by decide)⟩
      have r4 : ∀ o, 0 ≤ accN (L.drop o) 4 ∧ accN (L.drop o) 4 < 4294967296 := fun o => accN_rng hby o 4
      have m4 : ∀ o, accN (L.drop o) 4 % 4294967296 = accN (L.drop o) 4 := fun o => by have := r4 o; omega
      have := rtake_yes ad c L w _ _ _ _ _ _ _ _ _ _ _ _ _ hc hr (getD_byte hby) rfl rfl rfl rfl rfl rfl rfl rfl rfl rfl rfl (r2 0) (r1 2) (r2 4) (r1 3) (r4 6) (r4 10) (r4 14) (r4 18) (r4 22) (r4 26) (r4 30) rfl rfl
      refine this.mono ?_
      rintro e w' ⟨rfl, hb⟩
      refine ⟨?_, hb⟩
      simp only [m4, show List.drop 0 L = L from rfl]
      split <;> rfl
theorem own_cap63 {W : World} {base n c : Nat} {e : TypeId} {size : Nat} {A : Option Addr} {xs : List Value} (h : W.ownsRow base e size (.slice A n c) n xs) : c ≤ 9223372036854775807 := by
  rcases h.2 with ⟨he, _⟩ | ⟨g2, c2, cur, he, _, _, _, hm, _⟩
  · cases he; decide
  · cases he; simpa [maxLen] using hm
theorem takeR_form (L : List Int) : ∃ fa fk fs fl f0 f1 f2 f3 f4 f5 fp e, takeR L = (inoCells fa fk fs fl f0 f1 f2 f3 f4 f5 fp, e) := by
  unfold takeR
  split
  · exact ⟨_, _, _, _, _, _, _, _, _, _, _, _, rfl⟩
  · split
    · exact ⟨_, _, _, _, _, _, _, _, _, _, _, _, rfl⟩
    · split
      · exact ⟨_, _, _, _, _, _, _, _, _, _, _, _, rfl⟩
      · exact ⟨_, _, _, _, _, _, _, _, _, _, _, _, rfl⟩
set_option maxHeartbeats 2000000 in
set_option maxRecDepth 100000 in
theorem itakes_law (A : Option Addr) (n c : Nat) (L : List Int) (w : World) (hr : ReadsInt w .u8 A n L) (hn : n ≤ 140737488355328) (hc : n ≤ c) (hc63 : c ≤ 9223372036854775807) (hby : ∀ x ∈ L, 0 ≤ x ∧ x < 256) :
    Calls Try.prog 4 #[.slice A n c] w fun e w' => e = .returned (.bool true) ∧ Below w.heap.size w w' := by
  have hu25 := Aside0.mk Try.underlying25
  obtain rfl : L.length = n := hr.1
  obtain ⟨fa, fk, fs, fl, f0, f1, f2, f3, f4, f5, fp, fe, hT⟩ := takeR_form L
  have HT := Aside0.mk hT
  have R0 := Aside0.mk hr
  have HN := Aside0.mk hn
  have HC := Aside0.mk hc
  have HC63 := Aside0.mk hc63
  have HBY := Aside0.mk hby
  have NIL : Aside0 (∀ (W : World), W.ownsRow w.heap.size 5 1 (.slice none 0 0) ([] : List Int).length (nums .u8 [])) := ⟨fun W => own_nil _ _ _ _⟩
  have EZ := fun W : World => (ino_eql W fa fk fs fl f0 f1 f2 f3 f4 f5 fp fa fk fs fl f0 f1 f2 f3 f4 f5 fp).trans (by rw [inoB_self])
  clear hr hn hc hc63 hby hT
  go_enter Try.func4, Try.ntmps4
  go_wp2_with (first
    | (at_builtin; with_reducible refine gate_dst (N := 9) rfl ?_; refine print_append_row (w0 := w) w.heap.size rfl (.const (.slice none 0 0)) (.tmp 8) 26 5 .u8 1 rfl Try.underlying26 infoU8 (by omega) (.slice none 0 0) [] L A L.length c (by kernel_rfl) (by kernel_rfl) (NIL.out _) R0.out (Below.refl _ _) (Nat.le_refl _) (by have := HN.out; simp; omega) ?_; intro v1 w1 ho hb _ _; rw [List.nil_append] at ho; have HA := Aside0.mk (hb); have HB1 := Aside0.mk (Below.refl w1.heap.size w1); obtain ⟨A1, c1, rfl, hr1⟩ := own_reads ho; have R1 := Aside0.mk (hr1); have S0 := Aside0.mk (R0.out.below hb); have C1 := Aside0.mk (own_le ho); have D1 := Aside0.mk (own_cap63 ho); clear ho hb hr1)
    | (have hz := HB1.out; clear hz; go_at_call 17; refine (itake_any A1 L.length c1 L _ C1.out D1.out R1.out HBY.out).mono ?_; rw [HT.out]; rintro e w2 ⟨rfl, hb⟩; have HB2 := Aside0.mk (below_step HB1.out hb); clear hb)
    | ((with_reducible refine gate_dst (N := 4) rfl ?_); refine box_event ?hg (N := 4) ?hd (cs := inoCells 0 0 0 0 0 0 0 0 0 0 0) (t := 25) ?hr ?_; (case hd => rfl); (case hg => rfl); (case hr => first | (go_simp; done) | (go_simp; rfl) | kernel_rfl); intro gx hg w3 hbox hb; have Gx := Aside0.mk (show w1.heap.size ≤ gx from by have := HB2.out.size; omega); have HB3 := Aside0.mk (below_step HB2.out hb); have Bx3 := Aside0.mk (hbox); clear hb hbox hg)
    | ((with_reducible refine gate_store (t := 25) (p := 4) (v := .tmp 13) rfl ?_); refine ev_store_row (by rfl) 25 (.tmp 4) (.tmp 13) (by rfl) gx (inoCells fa fk fs fl f0 f1 f2 f3 f4 f5 fp) (by kernel_rfl) (by kernel_rfl) 25 _ Bx3.out sizeInode (by rfl) (ino_all _ _ _ _ _ _ _ _ _ _ _) ?_; intro w4 hbox hg; have HB4 := Aside0.mk (pw_below_grown HB3.out _ HB3.out.size hg (fun q e => by cases e; exact Gx.out)); have Bx4 := Aside0.mk (hbox); clear hbox hg)
    | (have hz := HB4.out; clear hz; go_at_call 18; refine (rtake_any A L.length c L _ HC.out (S0.out.below HB4.out) HBY.out).mono ?_; rw [HT.out]; rintro e w5 ⟨rfl, hb⟩; have HB5 := Aside0.mk (below_step HB4.out hb); have Bx5 := Aside0.mk (blk_below Bx4.out hb); clear hb)
    | ((with_reducible refine gate_dst (N := 6) rfl ?_); refine box_event ?hg (N := 6) ?hd (cs := inoCells 0 0 0 0 0 0 0 0 0 0 0) (t := 25) ?hr ?_; (case hd => rfl); (case hg => rfl); (case hr => first | (go_simp; done) | (go_simp; rfl) | kernel_rfl); intro gy hg w6 hbox hb; have Gy := Aside0.mk (show w1.heap.size ≤ gy from by have := HB5.out.size; omega); have HB6 := Aside0.mk (below_step HB5.out hb); have Nyx := Aside0.mk (show gy ≠ gx from fun e => by have h1 := blk_lt Bx5.out; omega); have Bx6 := Aside0.mk (blk_below Bx5.out hb); have By6 := Aside0.mk (hbox); clear hb hbox hg)
    | ((with_reducible refine gate_store (t := 25) (p := 6) (v := .tmp 18) rfl ?_); refine ev_store_row (by rfl) 25 (.tmp 6) (.tmp 18) (by rfl) gy (inoCells fa fk fs fl f0 f1 f2 f3 f4 f5 fp) (by kernel_rfl) (by kernel_rfl) 25 _ By6.out sizeInode (by rfl) (ino_all _ _ _ _ _ _ _ _ _ _ _) ?_; intro w7 hbox hg; have HB7 := Aside0.mk (pw_below_grown HB6.out _ HB6.out.size hg (fun q e => by cases e; exact Gy.out)); have Bx7 := Aside0.mk (blk_grown Bx6.out hg (fun e => by cases e; first | exact Nyx.out rfl | exact Nxy.out rfl)); have By7 := Aside0.mk (hbox); have s1 := string_of_reads (P := Try.prog) (src := 26) (dst := 9) Try.underlying26 Try.underlying5 Try.underlying9 (c := c1) (R1.out.below HB7.out); have s2 := string_of_reads (P := Try.prog) (src := 26) (dst := 9) Try.underlying26 Try.underlying5 Try.underlying9 (c := c) (S0.out.below HB7.out); clear hbox hg)
    | ((with_reducible refine gate_dst (N := 20) rfl ?_); refine wpList_load_row rfl 25 (.tmp 4) (by kernel_rfl) gx (by kernel_rfl) _ _ _ _ Bx7.out hu25.out rfl sizeInode ?_)
    | ((with_reducible refine gate_dst (N := 21) rfl ?_); refine wpList_load_row rfl 25 (.tmp 6) (by kernel_rfl) gy (by kernel_rfl) _ _ _ _ By7.out hu25.out rfl sizeInode ?_)
    | (have hz := HB7.out; clear hz; go_at_call 16; refine (wakes_true _).mono ?_; rintro e w8 ⟨rfl, hb⟩; have HB8 := Aside0.mk (below_step HB7.out hb); clear hb))
  go_ret
  exact ⟨rfl, below_step HA.out HB8.out⟩
end Go.Proofs.YtencgnhgjegknaaX
