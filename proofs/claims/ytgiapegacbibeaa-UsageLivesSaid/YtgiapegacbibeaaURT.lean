/- The document's Take of an inode, of a block of pointers. -/
import Derived.Test.YtgiapegacbibeaaURAll
import Derived.Test.YtgiapegacbibeaaIRPtr
namespace Go.Proofs.YtgiapegacbibeaaX
open Go.RowKit Go.Proofs.YtgiapegacbibeaaW.PrintWords
set_option linter.unusedVariables false
theorem getD_byte {L : List Int} (h : ∀ x ∈ L, 0 ≤ x ∧ x < 256) (j : Nat) : 0 ≤ L.getD j 0 ∧ L.getD j 0 < 256 := by
  by_cases hl : j < L.length
  · rw [List.getD_eq_getElem?_getD, List.getElem?_eq_getElem hl]; exact h _ (List.getElem_mem _)
  · rw [List.getD_eq_getElem?_getD, List.getElem?_eq_none (by omega)]; decide
theorem accN_rng {L : List Int} (h : ∀ x ∈ L, 0 ≤ x ∧ x < 256) (o z : Nat) : 0 ≤ accN (L.drop o) z ∧ accN (L.drop o) z < 256 ^ z :=
  accN_bound (getD_byte (fun x hx => h x (List.mem_of_mem_drop hx))) z
theorem rtake_any (A : Option Addr) (n c : Nat) (L : List Int) (w : World) (hc : n ≤ c) (hr : ReadsInt w .u8 A n L) (hby : ∀ x ∈ L, 0 ≤ x ∧ x < 256) :
    Calls Try.prog 33 #[.slice A n c] w fun e w' => e = .returned (.tuple #[.agg (takeR L).1, .int .i64 (takeR L).2]) ∧ Below w.heap.size w w' := by
  obtain rfl : L.length = n := hr.1
  rw [take_ref L hby]
  unfold refR
  by_cases h1 : L.length < 112
  · rw [if_pos h1]; exact rtake_short A _ c w h1 hr.2.1
  · rw [if_neg h1]
    by_cases h2 : 112 < L.length
    · rw [if_pos h2]; exact rtake_long A _ c w h2 hr.2.1
    · rw [if_neg h2]
      have h3 : L.length = 112 := by omega
      obtain ⟨ad, rfl, _⟩ := hr.2.2 (by omega)
      rw [h3] at hr hc ⊢
      have r2 : ∀ o, 0 ≤ accN (L.drop o) 2 ∧ accN (L.drop o) 2 < 65536 := fun o => accN_rng hby o 2
      have r1 : ∀ o, 0 ≤ accN (L.drop o) 1 ∧ accN (L.drop o) 1 < 65536 := fun o => ⟨(accN_rng hby o 1).1, Int.lt_trans (accN_rng hby o 1).2 (by decide)⟩
      have r4 : ∀ o, 0 ≤ accN (L.drop o) 4 ∧ accN (L.drop o) 4 < 4294967296 := fun o => accN_rng hby o 4
      have m4 : ∀ o, accN (L.drop o) 4 % 4294967296 = accN (L.drop o) 4 := fun o => by have := r4 o; omega
      have := rtake_yes ad c L w _ _ _ _ _ _ _ _ _ _ _ _ _ hc hr (getD_byte hby) rfl rfl rfl rfl rfl rfl rfl rfl rfl rfl rfl (r2 0) (r1 2) (r2 4) (r1 3) (r4 6) (r4 10) (r4 14) (r4 18) (r4 22) (r4 26) (r4 30) rfl rfl
      refine this.mono ?_
      rintro e w' ⟨rfl, hb⟩
      refine ⟨?_, hb⟩
      simp only [m4, show List.drop 0 L = L from rfl]
      split <;> rfl
end Go.Proofs.YtgiapegacbibeaaX
namespace Go.Proofs.Ytgiapegacbibeaa.UM
open Go.RowKit Go.Proofs.YtgiapegacbibeaaX Go.Proofs.YtgiapegacbibeaaW.PrintWords Go.Proofs.Ytgiapegacbibeaa.PUsageLives
set_option linter.unusedVariables false
theorem f64 {n : Int} (h : -9223372036854775808 ≤ n ∧ n ≤ 9223372036854775807) : wrap64 n = n := IntWalk.wrap64_in n h
theorem rtake_in (k : Nat) (L T : List Int) (i : Nat) (hi : i < 28) (hL : L.length = 112) (hT : T.length ≤ 28) (hx : ∀ x ∈ L, 0 ≤ x ∧ x < 256) :
    hayrickref13_Take.l1 (k + 5) L T (i : Int) 0 0 = hayrickref13_Take.l0 k L (T ++ [wordAt L (4 * i)]) ((i : Int) + 1) := by
  have hw : ∀ j : Int, 0 ≤ j → j ≤ 3 → wrap64 (wrap64 (4 * (i : Int)) + j) = 4 * (i : Int) + j := fun j h0 h3 => by rw [f64 (n := 4 * (i : Int)) (by omega), f64 (by omega)]
  have hr : ∀ j : Nat, j < 4 → rd L (4 * (i : Int) + (j : Int)) = L.getD (4 * i + j) 0 := fun j hj => by unfold rd; rw [show (4 * (i : Int) + (j : Int)).toNat = 4 * i + j from by omega]
  have hb : ∀ j : Nat, j < 4 → 0 ≤ L.getD (4 * i + j) 0 ∧ L.getD (4 * i + j) 0 < 256 := fun j hj => hx _ (by rw [List.getD_eq_getElem?_getD, List.getElem?_eq_getElem (by omega)]; exact List.getElem_mem _)
  have r0 := hr 0 (by decide)
  have r1 := hr 1 (by decide)
  have r2 := hr 2 (by decide)
  have r3 := hr 3 (by decide)
  have b0 := hb 0 (by decide)
  have b1 := hb 1 (by decide)
  have b2 := hb 2 (by decide)
  have b3 := hb 3 (by decide)
  unfold wordAt
  simp only [Nat.add_zero] at r0 b0
  generalize L.getD (4 * i) 0 = y0 at r0 b0 ⊢
  generalize L.getD (4 * i + 1) 0 = y1 at r1 b1 ⊢
  generalize L.getD (4 * i + 2) 0 = y2 at r2 b2 ⊢
  generalize L.getD (4 * i + 3) 0 = y3 at r3 b3 ⊢
  rw [hayrickref13_Take.l1, if_pos (by decide), hw 0 (by decide) (by decide), if_pos (by omega), if_pos (by rw [hL]; omega), show rd L (4 * (i : Int) + 0) = y0 from r0, show wrap64 ((0 : Int) + 1) = 1 from f64 (by decide)]
  rw [hayrickref13_Take.l1, if_pos (by decide), hw 1 (by decide) (by decide), if_pos (by omega), if_pos (by rw [hL]; omega), show rd L (4 * (i : Int) + 1) = y1 from r1, show wrap64 ((1 : Int) + 1) = 2 from f64 (by decide)]
  rw [hayrickref13_Take.l1, if_pos (by decide), hw 2 (by decide) (by decide), if_pos (by omega), if_pos (by rw [hL]; omega), show rd L (4 * (i : Int) + 2) = y2 from r2, show wrap64 ((2 : Int) + 1) = 3 from f64 (by decide)]
  rw [hayrickref13_Take.l1, if_pos (by decide), hw 3 (by decide) (by decide), if_pos (by omega), if_pos (by rw [hL]; omega), show rd L (4 * (i : Int) + 3) = y3 from r3, show wrap64 ((3 : Int) + 1) = 4 from f64 (by decide)]
  rw [hayrickref13_Take.l1, if_neg (by decide), if_pos (by omega), f64 (n := (i : Int) + 1) (by omega)]
  have e : (256 * ((256 * ((256 * ((256 * 0 % 4294967296 + y0 % 4294967296) % 4294967296) % 4294967296 + y1 % 4294967296) % 4294967296) % 4294967296 + y2 % 4294967296) % 4294967296) % 4294967296 + y3 % 4294967296) % 4294967296 = be4 y0 y1 y2 y3 := by
    unfold be4; omega
  rw [e]
theorem chAt_val (k : Nat) (h : k < 28) : (chAt k).1 = 4 * k := by unfold chAt; rw [dif_pos (by omega)]
theorem rtake_run (L : List Int) (hL : L.length = 112) (hx : ∀ x ∈ L, 0 ≤ x ∧ x < 256) : ∀ (d i : Nat), i + d = 28 → ∃ k, hayrickref13_Take.l0 k L ((chTo i).map fun x => wordAt L x.1) (i : Int) = some ((chTo 28).map fun x => wordAt L x.1, 0)
  | 0, i, h => ⟨1, by rw [hayrickref13_Take.l0, if_neg (by omega), show i = 28 from h]⟩
  | d + 1, i, h => by
    obtain ⟨k, hk⟩ := rtake_run L hL hx d (i + 1) (by omega)
    refine ⟨k + 5 + 1, ?_⟩
    rw [hayrickref13_Take.l0, if_pos (by omega), rtake_in k L _ i (by omega) hL (by rw [List.length_map, chTo_length]; omega) hx]
    rw [Int.natCast_add, chTo_succ, List.map_append, List.map_cons, List.map_nil, chAt_val i (by omega)] at hk
    exact hk
theorem rtake_f (L : List Int) (hL : L.length = 112) (hx : ∀ x ∈ L, 0 ≤ x ∧ x < 256) : ∃ k, hayrickref13_Take.f k L = some ((chTo 28).map fun x => wordAt L x.1, 0) := by
  obtain ⟨k, hk⟩ := rtake_run L hL hx 28 0 (by omega)
  refine ⟨k, ?_⟩
  rw [hayrickref13_Take.f, if_neg (by omega), if_neg (by omega)]
  exact hk
theorem r13_no (A : Option Addr) (n c : Nat) (L : List Int) (w : World) (hr : ReadsInt w .u8 A n L) (hc : n ≤ c) (hl : L.length ≠ 112) :
    Calls Try.prog 36 #[.slice A n c] w fun e w' => ∃ x v, x ≠ 0 ∧ e = .returned (.tuple #[v, .int .i64 x]) ∧ Below w.heap.size w w' := by
  obtain rfl : L.length = n := hr.1
  by_cases h1 : L.length < 112
  · refine (hayrickref13_Take.calls 1 A c L [] 4 w (Kd.C_of_reads (enc := Value.int .u8) (d := (0 : Int)) (h1 := fun _ => rfl) hr) hc (by rw [hayrickref13_Take.f, if_pos (by omega)])).mono ?_
    rintro e w' ⟨v, rfl, _, hb⟩
    exact ⟨4, v, by decide, rfl, hb⟩
  · refine (hayrickref13_Take.calls 1 A c L [] 3 w (Kd.C_of_reads (enc := Value.int .u8) (d := (0 : Int)) (h1 := fun _ => rfl) hr) hc (by rw [hayrickref13_Take.f, if_neg (by omega), if_pos (by omega)])).mono ?_
    rintro e w' ⟨v, rfl, _, hb⟩
    exact ⟨3, v, by decide, rfl, hb⟩
theorem r13_yes (A : Option Addr) (n c : Nat) (L : List Int) (w : World) (hr : ReadsInt w .u8 A n L) (hc : n ≤ c) (hl : L.length = 112) (hx : ∀ x ∈ L, 0 ≤ x ∧ x < 256) :
    Calls Try.prog 36 #[.slice A n c] w fun e w' => ∃ A9 c9, e = .returned (.tuple #[.slice A9 28 c9, .int .i64 0]) ∧ ReadsInt w' .u32 A9 28 (words L) ∧ 28 ≤ c9 ∧ (∀ ad, A9 = some ad → w.heap.size ≤ ad.block) ∧ Below w.heap.size w w' := by
  obtain rfl : L.length = n := hr.1
  obtain ⟨k, hk⟩ := rtake_f L hl hx
  refine (hayrickref13_Take.calls k A c L _ 0 w (Kd.C_of_reads (enc := Value.int .u8) (d := (0 : Int)) (h1 := fun _ => rfl) hr) hc hk).mono ?_
  rintro e w' ⟨v, rfl, ho, hb⟩
  have hlen : ((chTo 28).map fun x => wordAt L x.1).length = 28 := words_length L
  obtain ⟨g, c', rfl, hg, _⟩ := Kd.R_form ho (by rw [hlen]; decide)
  obtain ⟨_, hc', hr'⟩ := Kd.R_reads' ho
  have hr2 := Kd.reads_of_C (enc := Value.int .u32) (d := (0 : Int)) (h1 := fun _ => rfl) hr'
  rw [hlen] at hr2 hc' ⊢
  exact ⟨_, c', rfl, hr2, hc', fun ad h => by cases h; exact hg, hb⟩
theorem rread_any (w : World) (B : Nat) (SA : Option Addr) (cs : Nat) (bl : List (List Int)) (a : Int) (hB : BS w B SA cs bl) (ha : 0 ≤ a ∧ a < 4294967296) (hl : bl.length ≤ 9223372036854775807) :
    Calls Try.prog 22 #[.slice SA bl.length cs, .int .u32 a] w fun e w' => ∃ A2 c2, e = .returned (.tuple #[.slice A2 (rdN bl a).1.length c2, .int .i64 (rdN bl a).2]) ∧ ReadsInt w' .u8 A2 (rdN bl a).1.length (rdN bl a).1 ∧ (rdN bl a).1.length ≤ c2 ∧ Below w.heap.size w w' := by
  have hf := read_f bl a ha hl
  obtain ⟨b, x, hbx⟩ : ∃ b x, rdN bl a = (b, x) := ⟨_, _, rfl⟩
  rw [hbx] at hf ⊢
  refine (hayrickref15_Read.calls (fun k => k < B) SA cs bl a b x w (show Kd.V (Kd.slice 5 (Kd.int .u8)) 58 w w.heap.size (fun k => k < B) (.slice SA bl.length cs) bl from hB) hf).mono ?_
  rintro e w2 ⟨v2, rfl, hv, hb⟩
  obtain ⟨A2, c2, rfl⟩ := Kd.V_slice hv
  have hC := Kd.V_reads' hv
  exact ⟨A2, c2, rfl, Kd.reads_of_C (enc := Value.int .u8) (d := (0 : Int)) (h1 := fun _ => rfl) hC.2.2, hC.2.1, hb⟩
end Go.Proofs.Ytgiapegacbibeaa.UM
