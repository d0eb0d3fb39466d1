/- inode.Put and Take, any; hayricklaw11.wakes. -/
import Derived.Test.YtencgnhgjegknaaITake
import Derived.Test.YtencgnhgjegknaaPtr
import Derived.Test.YtencgnhgjegknaaInoEq
namespace Go.Proofs.YtencgnhgjegknaaX
open Go.RowKit Go.Proofs.YtencgnhgjegknaaW.PrintWords
set_option linter.unusedVariables false
/-- A result of Take: the inode's cells, the error. -/
def takeR (L : List Int) : Array Value × Int :=
  if L.length < 112 then (inoCells 0 0 0 0 0 0 0 0 0 0 0, 4) else if 112 < L.length then (inoCells 0 0 0 0 0 0 0 0 0 0 0, 3) else if (mayB (accN L 2) (accN (L.drop 2) 1) (accN (L.drop 4) 2) (accN (L.drop 3) 1) [(accN (L.drop 6) 4 % 4294967296), (accN (L.drop 10) 4 % 4294967296), (accN (L.drop 14) 4 % 4294967296), (accN (L.drop 18) 4 % 4294967296), (accN (L.drop 22) 4 % 4294967296), (accN (L.drop 26) 4 % 4294967296)] (accN (L.drop 30) 4 % 4294967296) && decide (encI (accN L 2) (accN (L.drop 2) 1) (accN (L.drop 4) 2) (accN (L.drop 3) 1) (accN (L.drop 6) 4 % 4294967296) (accN (L.drop 10) 4 % 4294967296) (accN (L.drop 14) 4 % 4294967296) (accN (L.drop 18) 4 % 4294967296) (accN (L.drop 22) 4 % 4294967296) (accN (L.drop 26) 4 % 4294967296) (accN (L.drop 30) 4 % 4294967296) = L)) = true then (inoCells (accN L 2) (accN (L.drop 2) 1) (accN (L.drop 4) 2) (accN (L.drop 3) 1) (accN (L.drop 6) 4 % 4294967296) (accN (L.drop 10) 4 % 4294967296) (accN (L.drop 14) 4 % 4294967296) (accN (L.drop 18) 4 % 4294967296) (accN (L.drop 22) 4 % 4294967296) (accN (L.drop 26) 4 % 4294967296) (accN (L.drop 30) 4 % 4294967296), 0) else (inoCells 0 0 0 0 0 0 0 0 0 0 0, 5)
theorem accN2_small {L : List Int} (h : ∀ x ∈ L, 0 ≤ x ∧ x < 256) : accN L 2 ≤ 9223372036854775807 := by
  have hj : ∀ j, 0 ≤ L.getD j 0 ∧ L.getD j 0 < 256 := by
    intro j
    by_cases hl : j < L.length
    · rw [List.getD_eq_getElem?_getD, List.getElem?_eq_getElem hl]; exact h _ (List.getElem_mem _)
    · rw [List.getD_eq_getElem?_getD, List.getElem?_eq_none (by omega)]; decide
  have := accN_bound hj 2
  have e : (256 : Int) ^ 2 = 65536 := by decide
  omega
theorem itake_any (A : Option Addr) (n c : Nat) (L : List Int) (w : World) (hc : n ≤ c) (hc63 : c ≤ 9223372036854775807) (hr : ReadsInt w .u8 A n L) (hby : ∀ x ∈ L, 0 ≤ x ∧ x < 256) :
    Calls Try.prog 17 #[.slice A n c] w fun e w' => e = .returned (.tuple #[.agg (takeR L).1, .int .i64 (takeR L).2]) ∧ Below w.heap.size w w' := by
  obtain rfl : L.length = n := hr.1
  unfold takeR
  by_cases h1 : L.length < 112
  · rw [if_pos h1]; exact itake_short A _ c w h1 hr.2.1
  · rw [if_neg h1]
    by_cases h2 : 112 < L.length
    · rw [if_pos h2]; exact itake_long A _ c w h2 hr.2.1
    · rw [if_neg h2]
      have h3 : L.length = 112 := by omega
      obtain ⟨ad, rfl, _⟩ := hr.2.2 (by omega)
      rw [h3] at hr hc ⊢
      have := itake_yes ad c L w _ _ hc hc63 hr hby (accN2_small (fun x hx => hby x (List.mem_of_mem_drop hx))) rfl (fun _ => rfl)
      refine this.mono ?_
      rintro e w' ⟨rfl, hb⟩
      refine ⟨?_, hb⟩
      by_cases h4 : (mayB (accN L 2) (accN (L.drop 2) 1) (accN (L.drop 4) 2) (accN (L.drop 3) 1) [(accN (L.drop 6) 4 % 4294967296), (accN (L.drop 10) 4 % 4294967296), (accN (L.drop 14) 4 % 4294967296), (accN (L.drop 18) 4 % 4294967296), (accN (L.drop 22) 4 % 4294967296), (accN (L.drop 26) 4 % 4294967296)] (accN (L.drop 30) 4 % 4294967296) && decide (encI (accN L 2) (accN (L.drop 2) 1) (accN (L.drop 4) 2) (accN (L.drop 3) 1) (accN (L.drop 6) 4 % 4294967296) (accN (L.drop 10) 4 % 4294967296) (accN (L.drop 14) 4 % 4294967296) (accN (L.drop 18) 4 % 4294967296) (accN (L.drop 22) 4 % 4294967296) (accN (L.drop 26) 4 % 4294967296) (accN (L.drop 30) 4 % 4294967296) = L)) = true
      · rw [if_pos h4, if_pos h4]
      · rw [if_neg h4, if_neg h4]
theorem own_some {W : World} {base n : Nat} {e : TypeId} {k : IntKind} {v : Value} {xs : List Int} (h : W.ownsRow base e 1 v n (nums k xs)) (hn : 0 < n) :
    ∃ ad c, v = .slice (some ad) n c ∧ ReadsInt W k (some ad) n xs ∧ n ≤ c ∧ c ≤ 9223372036854775807 := by
  obtain ⟨A, c, rfl, hr⟩ := own_reads h
  have hc := own_le h
  obtain ⟨ad, rfl, _⟩ := hr.2.2 hn
  refine ⟨ad, c, rfl, hr, hc, ?_⟩
  rcases h.2 with ⟨he, _⟩ | ⟨g2, c2, cur, he, _, _, _, hm, _⟩
  · cases he
  · cases he; simpa [maxLen] using hm
theorem iput_rd (a k s l d0 d1 d2 d3 d4 d5 p : Int) (w : World) (hs : s ≤ 9223372036854775807) (hm : mayB a k s l [d0, d1, d2, d3, d4, d5] p = true) (hx : (0 ≤ d0 ∧ d0 < 4294967296) ∧ (0 ≤ d1 ∧ d1 < 4294967296) ∧ (0 ≤ d2 ∧ d2 < 4294967296) ∧ (0 ≤ d3 ∧ d3 < 4294967296) ∧ (0 ≤ d4 ∧ d4 < 4294967296) ∧ (0 ≤ d5 ∧ d5 < 4294967296) ∧ (0 ≤ p ∧ p < 4294967296)) (E : List Int) (hE : encI a k s l d0 d1 d2 d3 d4 d5 p = E) :
    Calls Try.prog 8 #[.agg (inoCells a k s l d0 d1 d2 d3 d4 d5 p)] w fun e w' => ∃ ad c, e = .returned (.tuple #[.slice (some ad) 112 c, .int .i64 0]) ∧ ReadsInt w' .u8 (some ad) 112 E ∧ 112 ≤ c ∧ c ≤ 9223372036854775807 ∧ Below w.heap.size w w' := by
  subst hE
  refine (iput_yes a k s l d0 d1 d2 d3 d4 d5 p w hs hm hx).mono ?_
  rintro e w' ⟨v, rfl, ho, hb⟩
  obtain ⟨ad, c, rfl, h1, h2, h3⟩ := own_some ho (by decide)
  exact ⟨ad, c, rfl, h1, h2, h3, hb⟩
theorem reads_prefix {W : World} {k : IntKind} {A : Option Addr} {n m : Nat} {xs : List Int} (h : ReadsInt W k A n xs) (hm : m ≤ n) : ReadsInt W k A m (xs.take m) := by
  refine ⟨by rw [List.length_take, h.1]; omega, by have := h.2.1; omega, fun hp => ?_⟩
  obtain ⟨ad, rfl, hc⟩ := h.2.2 (by omega)
  refine ⟨ad, rfl, fun j hj => ?_⟩
  rw [hc j (by omega)]
  simp [List.getD_eq_getElem?_getD, hj]
def wakeB : List Int := encI 5 1 113 2 258 259 0 0 0 0 0
theorem wakeB_take : takeR wakeB = (inoCells 5 1 113 2 258 259 0 0 0 0 0, 0) := by kernel_rfl
theorem wakeB_range : ∀ x ∈ wakeB, 0 ≤ x ∧ x < 256 := by decide +kernel
theorem wakeB_take111 : takeR (wakeB.take 111) = (inoCells 0 0 0 0 0 0 0 0 0 0 0, 4) := by kernel_rfl
theorem wake6 : strOfNums (wakeB.take 6) = ⟨#[0, 5, 1, 2, 0, 113]⟩ := by decide +kernel
theorem wake14 : strOfNums ((wakeB.drop 6).take 8) = ⟨#[0, 0, 1, 2, 0, 0, 1, 3]⟩ := by decide +kernel
set_option maxHeartbeats 2000000 in
set_option maxRecDepth 100000 in
theorem wakes_true (w : World) : Calls Try.prog 16 #[] w fun e w' => e = .returned (.bool true) ∧ Below w.heap.size w w' := by
  have hu25 := Aside0.mk Try.underlying25
  go_enter Try.func16, Try.ntmps16
  go_wp2_with (first | ((with_reducible refine gate_dst (N := 1) rfl ?_); refine box_event ?hg (N := 1) ?hd (cs := inoCells 0 0 0 0 0 0 0 0 0 0 0) (t := 25) ?hr ?_; (case hd => rfl); (case hg => rfl); (case hr => first | (go_simp; done) | (go_simp; rfl)); intro g1 hg w1 hbox hb; have HB1 := Aside0.mk (hb); have G1 := Aside0.mk (Nat.le_of_eq hg.symm); have B1 := Aside0.mk (hbox); clear hb hbox hg) | ((with_reducible refine gate_store (t := 25) (p := 1) (v := .tmp 8) rfl ?_); refine ev_store_row (by rfl) 25 (.tmp 1) (.tmp 8) (by rfl) g1 (inoCells 5 1 113 2 0 0 0 0 0 0 0) (by kernel_rfl) (by kernel_rfl) 25 _ B1.out sizeInode (by rfl) (ino_all _ _ _ _ _ _ _ _ _ _ _) ?_; intro w2 hbox hg; have HB2 := Aside0.mk (pw_below_grown HB1.out _ HB1.out.size hg (fun q e => by cases e; exact G1.out)); have B2 := Aside0.mk (hbox); clear hbox hg) | ((with_reducible refine gate_store (t := 22) (p := 10) (v := .const (.int .u32 258)) rfl ?_); refine ev_store (by rfl) 22 (.tmp 10) (.const (.int .u32 258)) (by rfl) g1 4 (inoCells 5 1 113 2 0 0 0 0 0 0 0).toList (nums .u32 [258]) (.int .u32 258) (by kernel_rfl) (by rfl) (by rfl) 25 B2.out sizeU32 (show 4 + 1 ≤ 11 from by decide) (one_nums _ _) ?_; intro w3 hbox hg; have B3 := Aside0.mk (show w3.heap[g1]? = some (.cells (inoCells 5 1 113 2 258 0 0 0 0 0 0) 25 (0, 0)) from hbox); have HB3 := Aside0.mk (pw_below_grown HB2.out _ HB2.out.size hg (fun q e => by cases e; exact G1.out)); clear hbox hg) | ((with_reducible refine gate_store (t := 22) (p := 12) (v := .const (.int .u32 259)) rfl ?_); refine ev_store (by rfl) 22 (.tmp 12) (.const (.int .u32 259)) (by rfl) g1 5 (inoCells 5 1 113 2 258 0 0 0 0 0 0).toList (nums .u32 [259]) (.int .u32 259) (by kernel_rfl) (by rfl) (by rfl) 25 B3.out sizeU32 (show 5 + 1 ≤ 11 from by decide) (one_nums _ _) ?_; intro w4 hbox hg; have B4 := Aside0.mk (show w4.heap[g1]? = some (.cells (inoCells 5 1 113 2 258 259 0 0 0 0 0) 25 (0, 0)) from hbox); have HB4 := Aside0.mk (pw_below_grown HB3.out _ HB3.out.size hg (fun q e => by cases e; exact G1.out)); clear hbox hg) | ((with_reducible refine gate_dst (N := 14) rfl ?_); refine wpList_load_row rfl 25 (.tmp 1) (by kernel_rfl) g1 (by kernel_rfl) _ _ _ _ B4.out hu25.out rfl sizeInode ?_) | (go_at_call 8; refine (iput_rd 5 1 113 2 258 259 0 0 0 0 0 _ (by decide) (by decide +kernel) (by decide) wakeB rfl).mono ?_; rintro e w5 ⟨ad, c, rfl, hr, hc, hc63, hb⟩; have HB5 := Aside0.mk (below_step HB4.out hb); have B5 := Aside0.mk (blk_below B4.out hb); have R5 := Aside0.mk (hr); have i1 : (6 : Int) ≤ (c : Int) := (by omega); have i2 : (14 : Int) ≤ (c : Int) := (by omega); have i3 : (111 : Int) ≤ (c : Int) := (by omega); have i4 : 6 ≤ c := (by omega); have i5 : 14 ≤ c := (by omega); have i6 : 111 ≤ c := (by omega); have i7 : ¬ c - 6 = 0 := (by omega); have i8 : ¬ c = 6 := (by omega); have CC := Aside0.mk (hc); have CD := Aside0.mk (hc63); have s1 := (string_of_reads (P := Try.prog) (src := 26) (dst := 9) Try.underlying26 Try.underlying5 Try.underlying9 (c := c) (reads_prefix hr (show 6 ≤ 112 from by decide))); rw [wake6] at s1; have s2 := (string_of_reads (P := Try.prog) (src := 26) (dst := 9) Try.underlying26 Try.underlying5 Try.underlying9 (c := c - 6) (reads_prefix (reads_at hr 6 (by decide)) (show 8 ≤ 112 - 6 from by decide))); rw [wake14, show ad.add 6 = ⟨ad.block, ad.off + 6, none⟩ from rfl] at s2; clear hb hr hc hc63) | (have hz := B48.out; clear hz; go_at_call 17; refine (itake_any (some ad) 111 c _ _ i6 CD.out (reads_prefix (R6.out.below KB8.out) (show 111 ≤ 112 from by decide)) (fun x hx => wakeB_range x (List.mem_of_mem_take hx))).mono ?_; rw [wakeB_take111]; rintro e w9 ⟨rfl, hb⟩; have HB9 := Aside0.mk (below_step HB8.out hb); have B9 := Aside0.mk (blk_below B8.out hb); have B49 := Aside0.mk (blk_below B48.out hb); clear hb) | (go_at_call 17; refine (itake_any (some ad) 112 c wakeB _ CC.out CD.out R5.out wakeB_range).mono ?_; rw [wakeB_take]; rintro e w6 ⟨rfl, hb⟩; have HB6 := Aside0.mk (below_step HB5.out hb); have B6 := Aside0.mk (blk_below B5.out hb); have R6 := Aside0.mk (R5.out.below hb); clear hb s1 s2) | ((with_reducible refine gate_dst (N := 4) rfl ?_); refine box_event ?hg (N := 4) ?hd (cs := inoCells 0 0 0 0 0 0 0 0 0 0 0) (t := 25) ?hr ?_; (case hd => rfl); (case hg => rfl); (case hr => first | (go_simp; done) | (go_simp; rfl)); intro g4 hg w7 hbox hb; have G4 := Aside0.mk (show w.heap.size ≤ g4 from by have := HB6.out.size; omega); have H4 := Aside0.mk (show w6.heap.size ≤ g4 from by omega); have N4 := Aside0.mk (show g4 ≠ g1 from fun e => by have h1 := blk_lt B6.out; omega); have HB7 := Aside0.mk (below_step HB6.out hb); have KB7 := Aside0.mk (hb); have B7 := Aside0.mk (blk_below B6.out hb); have B47 := Aside0.mk (hbox); clear hb hbox hg) | ((with_reducible refine gate_store (t := 25) (p := 4) (v := .tmp 40) rfl ?_); refine ev_store_row (by rfl) 25 (.tmp 4) (.tmp 40) (by rfl) g4 (inoCells 5 1 113 2 258 259 0 0 0 0 0) (by kernel_rfl) (by kernel_rfl) 25 _ B47.out sizeInode (by rfl) (ino_all _ _ _ _ _ _ _ _ _ _ _) ?_; intro w8 hbox hg; have HB8 := Aside0.mk (pw_below_grown HB7.out _ HB7.out.size hg (fun q e => by cases e; exact G4.out)); have KB8 := Aside0.mk (pw_below_grown KB7.out _ KB7.out.size hg (fun q e => by cases e; exact H4.out)); have B8 := Aside0.mk (blk_grown B7.out hg (fun e => N4.out (Option.some.inj e).symm)); have B48 := Aside0.mk (hbox); clear hbox hg) | ((with_reducible refine gate_dst (N := 6) rfl ?_); refine box_event ?hg (N := 6) ?hd (cs := inoCells 0 0 0 0 0 0 0 0 0 0 0) (t := 25) ?hr ?_; (case hd => rfl); (case hg => rfl); (case hr => first | (go_simp; done) | (go_simp; rfl)); intro g6 hg w10 hbox hb; have G6 := Aside0.mk (show w.heap.size ≤ g6 from by have := HB9.out.size; omega); have N6 := Aside0.mk (show g6 ≠ g1 from fun e => by have h1 := blk_lt B9.out; omega); have M6 := Aside0.mk (show g6 ≠ g4 from fun e => by have h1 := blk_lt B49.out; omega); have HB10 := Aside0.mk (below_step HB9.out hb); have B10 := Aside0.mk (blk_below B9.out hb); have B410 := Aside0.mk (blk_below B49.out hb); have B610 := Aside0.mk (hbox); clear hb hbox hg) | ((with_reducible refine gate_store (t := 25) (p := 6) (v := .tmp 46) rfl ?_); refine ev_store_row (by rfl) 25 (.tmp 6) (.tmp 46) (by rfl) g6 (inoCells 0 0 0 0 0 0 0 0 0 0 0) (by kernel_rfl) (by kernel_rfl) 25 _ B610.out sizeInode (by rfl) (ino_all _ _ _ _ _ _ _ _ _ _ _) ?_; intro w11 hbox hg; have HB11 := Aside0.mk (pw_below_grown HB10.out _ HB10.out.size hg (fun q e => by cases e; exact G6.out)); have B11 := Aside0.mk (blk_grown B10.out hg (fun e => N6.out (Option.some.inj e).symm)); have B411 := Aside0.mk (blk_grown B410.out hg (fun e => M6.out (Option.some.inj e).symm)); clear hbox hg) | ((with_reducible refine gate_store (t := 22) (p := 49) (v := .const (.int .u32 1)) rfl ?_); refine ev_store (by rfl) 22 (.tmp 49) (.const (.int .u32 1)) (by rfl) g1 6 (inoCells 5 1 113 2 258 259 0 0 0 0 0).toList (nums .u32 [1]) (.int .u32 1) (by kernel_rfl) (by rfl) (by rfl) 25 B11.out sizeU32 (show 6 + 1 ≤ 11 from by decide) (one_nums _ _) ?_; intro w12 hbox hg; have B12 := Aside0.mk (show w12.heap[g1]? = some (.cells (inoCells 5 1 113 2 258 259 1 0 0 0 0) 25 (0, 0)) from hbox); have HB12 := Aside0.mk (pw_below_grown HB11.out _ HB11.out.size hg (fun q e => by cases e; exact G1.out)); have B412 := Aside0.mk (blk_grown B411.out hg (fun e => N4.out (Option.some.inj e))); have cs2 := (blk_cell B412.out 2).trans (show (inoCells 5 1 113 2 258 259 0 0 0 0 0)[2]? = some (.int .i64 113) from rfl); clear hbox hg) | ((with_reducible refine gate_dst (N := 62) rfl ?_); refine BigFrame.wpList_want (by kernel_rfl) (fun K hK => ?_); refine wp_load_row 25 (.tmp 1) rfl g1 (by kernel_rfl) _ _ _ _ B12.out hu25.out rfl sizeInode ?_; refine hK _ _ ?_; clear hK) | (go_at_call 12; refine (may_any 5 1 113 2 258 259 1 0 0 0 0 _ (by decide)).mono ?_; rw [show mayB 5 1 113 2 [258, 259, 1, 0, 0, 0] 0 = false from by decide +kernel]; rintro e w13 ⟨rfl, hb⟩; have HB13 := Aside0.mk (below_step HB12.out hb); have B413 := Aside0.mk (blk_below B412.out hb); clear hb cs2) | (go_at_call 14; refine (blocks_any 113 _ (by decide)).mono ?_; rw [show blk 113 = 2 from by decide +kernel]; rintro e w' ⟨rfl, rfl⟩) | ((with_reducible refine gate_dst (N := 71) rfl ?_); refine BigFrame.wpList_want (by kernel_rfl) (fun K hK => ?_); refine wp_load_row 25 (.tmp 4) rfl g4 (by kernel_rfl) _ _ _ _ B413.out hu25.out rfl sizeInode ?_; refine hK _ _ ?_; clear hK) | (go_at_call 10; refine (pointers_any 5 1 113 2 258 259 0 0 0 0 0 _).mono ?_; rw [show (filt [258, 259, 0, 0, 0, 0, 0]).length = 2 from by decide +kernel]; rintro e w14 ⟨A9, c9, rfl, _, _, hb⟩; have HB14 := Aside0.mk (below_step HB13.out hb); clear hb))
  go_ret
  exact ⟨rfl, HB14.out⟩
end Go.Proofs.YtencgnhgjegknaaX
