import Derived.Test.YtgiapegacbibeaaURLive
import Derived.Deep.SlicePairs
import Derived.SizedLaws
import Derived.WideShapes
section
/- same, Free, shelf: what they answer. -/
namespace Go.Proofs.Ytgiapegacbibeaa.UM
open Go.RowKit Go.Proofs.YtgiapegacbibeaaX Go.Proofs.YtgiapegacbibeaaW.PrintWords Go.Proofs.Ytgiapegacbibeaa.PUsageLives
set_option linter.unusedVariables false
theorem u64w {n : Int} (h : -9223372036854775808 ≤ n ∧ n ≤ 9223372036854775807) : wrap64 n = n := IntWalk.wrap64_in n h
theorem same_run (l : List Int) (hl : l.length ≤ 9223372036854775806) : ∀ (d j : Nat), j + d = l.length → hayricklaw15_same.l0 (d + 1) l l (j : Int) = some true
  | 0, j, h => by rw [hayricklaw15_same.l0, if_neg (by omega)]
  | d + 1, j, h => by
    rw [hayricklaw15_same.l0, if_pos (by omega), if_pos (by omega), if_pos (by omega), if_pos rfl, u64w (n := (j : Int) + 1) (by omega)]
    have := same_run l hl d (j + 1) (by omega)
    rw [Int.natCast_add] at this
    exact this
theorem same_f (l : List Int) (hl : l.length ≤ 9223372036854775806) : hayricklaw15_same.f (l.length + 1) l l = some true := by
  unfold hayricklaw15_same.f
  rw [if_pos rfl]
  exact same_run l hl l.length 0 (by omega)
theorem same_any (A0 A1 : Option Addr) (n m c0 c1 : Nat) (l : List Int) (w : World) (hr0 : ReadsInt w .i64 A0 n l) (hr1 : ReadsInt w .i64 A1 m l) (h0 : n ≤ c0) (h1 : m ≤ c1) (hn : n ≤ 9223372036854775806) :
    Calls Try.prog 16 #[.slice A0 n c0, .slice A1 m c1] w fun e w' => e = .returned (.bool true) ∧ Drawn0 w w' := by
  have hl : l.length = n := hr0.1
  have hl1 : l.length = m := hr1.1
  subst hl hl1
  exact hayricklaw15_same.calls (l.length + 1) A0 c0 l A1 c1 l true w (Kd.C_of_reads (enc := Value.int .i64) (d := (0 : Int)) (h1 := fun _ => rfl) hr0) h0 (Kd.C_of_reads (enc := Value.int .i64) (d := (0 : Int)) (h1 := fun _ => rfl) hr1) h1 (same_f l hn)
/-- The places of what is 0, up to one. -/
def freeT (V : List Int) : Nat → List Int
  | 0 => []
  | j + 1 => freeT V j ++ (if V.getD j 0 = 0 then [(j : Int)] else [])
theorem freeT_le (V : List Int) : ∀ j, (freeT V j).length ≤ j
  | 0 => Nat.le_refl _
  | j + 1 => by
    have := freeT_le V j
    unfold freeT
    rw [List.length_append]
    split <;> simp <;> omega
theorem free_run (V : List Int) (hl : V.length ≤ 1000) : ∀ (d j : Nat), j + d = V.length → usage_Free.l0 (d + 1) (freeT V j) V (V.length : Int) (j : Int) = some (freeT V V.length)
  | 0, j, h => by rw [usage_Free.l0, if_neg (by omega), show j = V.length by omega]
  | d + 1, j, h => by
    have hf := freeT_le V j
    have ih := free_run V hl d (j + 1) (by omega)
    have hrd : rd V (j : Int) = V.getD j 0 := by unfold rd; rw [Int.toNat_natCast]
    rw [Int.natCast_add] at ih
    rw [usage_Free.l0, if_pos (by omega), if_pos (by omega), if_pos (by omega), hrd]
    by_cases h0 : V.getD j 0 = 0
    · rw [if_pos h0, if_pos (by omega), u64w (n := (j : Int) + 1) (by omega)]
      rw [show freeT V (j + 1) = freeT V j ++ [(j : Int)] by rw [freeT, if_pos h0]] at ih
      exact ih
    · rw [if_neg h0, u64w (n := (j : Int) + 1) (by omega)]
      rw [show freeT V (j + 1) = freeT V j by rw [freeT, if_neg h0, List.append_nil]] at ih
      exact ih
theorem free_f (V : List Int) (hl : V.length ≤ 1000) : usage_Free.f (V.length + 1) V = some (freeT V V.length) := free_run V hl V.length 0 (by omega)
theorem rd62 (l : List S62) (j : Nat) : rd_T62 l (j : Int) = l.getD j z62 := by unfold rd_T62; rw [Int.toNat_natCast]
theorem shelf_run0 (l : List S62) (hl : l.length ≤ 9223372036854775806) (hr : ∀ j : Nat, 0 ≤ (l.getD j z62).f0 ∧ (l.getD j z62).f0 < 4294967296) : ∀ (d j : Nat) (n : Int), j + d = l.length → 0 ≤ n ∧ n ≤ 200000 → (∀ i : Nat, i < j → (l.getD i z62).f0 ≤ 200000 → (l.getD i z62).f0 ≤ n) →
    ∃ N : Nat, N ≤ 200000 ∧ (∀ i : Nat, i < l.length → (l.getD i z62).f0 ≤ 200000 → (l.getD i z62).f0 ≤ N) ∧ ∀ k1, hayricklaw15_shelf.l0 (d + 1 + k1) l n (j : Int) = hayricklaw15_shelf.l1 k1 l (List.replicate N []) 0
  | 0, j, n, h, hn, hi => by
    obtain ⟨N, rfl⟩ := Int.eq_ofNat_of_zero_le hn.1
    refine ⟨N, by omega, fun i h1 h2 => hi i (by omega) h2, fun k1 => ?_⟩
    rw [show 0 + 1 + k1 = k1 + 1 by omega, hayricklaw15_shelf.l0, if_neg (by omega), if_pos hn.1, if_pos (by omega)]
    rfl
  | d + 1, j, n, h, hn, hi => by
    have hb := hr j
    have step : ∀ n' : Int, 0 ≤ n' ∧ n' ≤ 200000 → n ≤ n' → ((l.getD j z62).f0 ≤ 200000 → (l.getD j z62).f0 ≤ n') → (∀ k1, hayricklaw15_shelf.l0 (d + 1 + 1 + k1) l n (j : Int) = hayricklaw15_shelf.l0 (d + 1 + k1) l n' ((j + 1 : Nat) : Int)) → ∃ N : Nat, N ≤ 200000 ∧ (∀ i : Nat, i < l.length → (l.getD i z62).f0 ≤ 200000 → (l.getD i z62).f0 ≤ N) ∧ ∀ k1, hayricklaw15_shelf.l0 (d + 1 + 1 + k1) l n (j : Int) = hayricklaw15_shelf.l1 k1 l (List.replicate N []) 0 := by
      intro n' hn' hle hjn he
      obtain ⟨N, h1, h2, h3⟩ := shelf_run0 l hl hr d (j + 1) n' (by omega) hn' (fun i h1 h2 => by
        rcases Nat.lt_succ_iff_lt_or_eq.1 h1 with h | h
        · exact Int.le_trans (hi i h h2) hle
        · subst h; exact hjn h2)
      exact ⟨N, h1, h2, fun k1 => (he k1).trans (h3 k1)⟩
    by_cases h2 : (l.getD j z62).f0 ≤ 200000
    · refine step (mx n (l.getD j z62).f0) (by unfold mx; split <;> omega) (by unfold mx; split <;> omega) (fun _ => by unfold mx; split <;> omega) (fun k1 => ?_)
      rw [show d + 1 + 1 + k1 = (d + 1 + k1) + 1 by omega, hayricklaw15_shelf.l0, if_pos (by omega), if_pos (by omega), rd62, if_pos h2, u64w (n := (l.getD j z62).f0) (by omega), u64w (n := (j : Int) + 1) (by omega), Int.natCast_add]
      rfl
    · refine step n hn (Int.le_refl _) (fun h => absurd h h2) (fun k1 => ?_)
      rw [show d + 1 + 1 + k1 = (d + 1 + k1) + 1 by omega, hayricklaw15_shelf.l0, if_pos (by omega), if_pos (by omega), rd62, if_neg h2, u64w (n := (j : Int) + 1) (by omega), Int.natCast_add]
      rfl
def FromL (l : List S62) (r : List (List Int)) : Prop := ∀ b ∈ r, b = [] ∨ ∃ p ∈ l, b = p.f1
theorem shelf_run1 (l : List S62) (hl : l.length ≤ 9223372036854775806) (hr : ∀ j : Nat, 0 ≤ (l.getD j z62).f0 ∧ (l.getD j z62).f0 < 4294967296) (N : Nat) (hN : N ≤ 200000) (hi : ∀ i : Nat, i < l.length → (l.getD i z62).f0 ≤ 200000 → (l.getD i z62).f0 ≤ N) :
    ∀ (d j : Nat) (x : List (List Int)), j + d = l.length → x.length = N → FromL l x → ∃ r, hayricklaw15_shelf.l1 (d + 1) l x (j : Int) = some r ∧ r.length = N ∧ FromL l r
  | 0, j, x, h, hx, hf => ⟨x, by rw [hayricklaw15_shelf.l1, if_neg (by omega)], hx, hf⟩
  | d + 1, j, x, h, hx, hf => by
    have hb := hr j
    have hij := hi j (by omega)
    have hmem : l.getD j z62 ∈ l := by rw [List.getD_eq_getElem?_getD, List.getElem?_eq_getElem (by omega)]; exact List.getElem_mem _
    by_cases h1 : (l.getD j z62).f0 ≥ 1
    · by_cases h2 : (l.getD j z62).f0 ≤ 200000
      · have h3 := hij h2
        have e : ((l.getD j z62).f0 - 1) % 4294967296 = (l.getD j z62).f0 - 1 := by omega
        obtain ⟨r, r1, r2, r3⟩ := shelf_run1 l hl hr N hN hi d (j + 1) (x.set ((l.getD j z62).f0 - 1).toNat (l.getD j z62).f1) (by omega) (by rw [List.length_set]; exact hx) (fun b hb => by
          rcases List.mem_or_eq_of_mem_set hb with h | h
          · exact hf b h
          · exact .inr ⟨_, hmem, h⟩)
        refine ⟨r, ?_, r2, r3⟩
        rw [hayricklaw15_shelf.l1, if_pos (by omega), if_pos (by omega), rd62, if_pos h1, if_pos h2, e, if_pos (by omega), if_pos (by omega), u64w (n := (j : Int) + 1) (by omega)]
        rw [Int.natCast_add] at r1
        exact r1
      · obtain ⟨r, r1, r2, r3⟩ := shelf_run1 l hl hr N hN hi d (j + 1) x (by omega) hx hf
        refine ⟨r, ?_, r2, r3⟩
        rw [hayricklaw15_shelf.l1, if_pos (by omega), if_pos (by omega), rd62, if_pos h1, if_neg h2, u64w (n := (j : Int) + 1) (by omega)]
        rw [Int.natCast_add] at r1
        exact r1
    · obtain ⟨r, r1, r2, r3⟩ := shelf_run1 l hl hr N hN hi d (j + 1) x (by omega) hx hf
      refine ⟨r, ?_, r2, r3⟩
      rw [hayricklaw15_shelf.l1, if_pos (by omega), if_pos (by omega), rd62, if_neg h1, u64w (n := (j : Int) + 1) (by omega)]
      rw [Int.natCast_add] at r1
      exact r1
theorem shelf_f (l : List S62) (hl : l.length ≤ 9223372036854775806) (hr : ∀ p ∈ l, 0 ≤ p.f0 ∧ p.f0 < 4294967296) : ∃ k r, hayricklaw15_shelf.f k l = some r ∧ r.length ≤ 200000 ∧ FromL l r := by
  have hr' : ∀ j : Nat, 0 ≤ (l.getD j z62).f0 ∧ (l.getD j z62).f0 < 4294967296 := by
    intro j
    by_cases h : j < l.length
    · rw [List.getD_eq_getElem?_getD, List.getElem?_eq_getElem h]; exact hr _ (List.getElem_mem _)
    · rw [List.getD_eq_getElem?_getD, List.getElem?_eq_none (by omega)]; decide
  obtain ⟨N, h1, h2, h3⟩ := shelf_run0 l hl hr' l.length 0 0 (by omega) (by decide) (fun i h => absurd h (Nat.not_lt_zero i))
  obtain ⟨r, r1, r2, r3⟩ := shelf_run1 l hl hr' N h1 h2 l.length 0 (List.replicate N []) (by omega) List.length_replicate (fun b hb => .inl (List.eq_of_mem_replicate hb))
  refine ⟨l.length + 1 + (l.length + 1), r, ?_, by omega, r3⟩
  unfold hayricklaw15_shelf.f
  exact (h3 (l.length + 1)).trans r1
end Go.Proofs.Ytgiapegacbibeaa.UM

end

section
/- UsageLives: the law's own walk. -/
namespace Go.Proofs.Ytgiapegacbibeaa.UM
open Go.RowKit Go.Proofs.YtgiapegacbibeaaX Go.Proofs.YtgiapegacbibeaaW.PrintWords Go.Proofs.Ytgiapegacbibeaa.PUsageLives
set_option linter.unusedVariables false
set_option maxHeartbeats 4000000 in
set_option maxRecDepth 100000 in
theorem lives_walk (K N S : Int) (mm : List Int) (A : Option Addr) (c : Nat) (l : List S62) (w : World) (k : Nat) (bl : List (List Int)) (x : Int) (V : List Int) (hml : mm.length = 64)
    (hV : Kd.V k62 62 w w.heap.size (fun k => k < w.heap.size) (.slice A l.length c) l) (hf : hayricklaw15_shelf.f k l = some bl) (hv : V.length ≤ 1000)
    (h1 : ∀ (W : World) (SA : Option Addr) (cs : Nat), BS W W.heap.size SA cs bl → Calls Try.prog 13 #[.agg #[.int .i64 K, .int .i64 N, .int .i64 S], .agg (nums .u32 mm).toArray, .func (.func 14) #[.agg #[.slice SA bl.length cs]] #[]] W fun e w' => ∃ A m c, e = .returned (.tuple #[.slice A m c, .int .i64 x]) ∧ ReadsInt w' .i64 A m V ∧ m ≤ c ∧ Below W.heap.size W w')
    (h2 : ∀ (W : World) (SA : Option Addr) (cs : Nat), BS W W.heap.size SA cs bl → Calls Try.prog 15 #[.agg #[.int .i64 K, .int .i64 N, .int .i64 S], .agg (nums .u32 mm).toArray, .slice SA bl.length cs] W fun e w' => ∃ A m c, e = .returned (.tuple #[.slice A m c, .int .i64 x]) ∧ ReadsInt w' .i64 A m V ∧ m ≤ c ∧ Below W.heap.size W w') :
    Calls Try.prog 4 #[.agg #[.int .i64 K, .int .i64 N, .int .i64 S], .agg (nums .u32 mm).toArray, .slice A l.length c] w fun e w' => e = .returned (.bool true) ∧ Below w.heap.size w w' := by
  have hu23 := Aside0.mk Try.underlying23
  have hu36 := Aside0.mk Try.underlying36
  have HAS := Aside0.mk (show (Try.prog.info? 36).map (·.size) = some (nums .u32 mm).toArray.size from by rw [sizeArr]; simp [nums, hml])
  have HV := Aside0.mk hV
  have HF := Aside0.mk hf
  have HVL := Aside0.mk hv
  have H1 := Aside0.mk h1
  have H2 := Aside0.mk h2
  clear hV hf hv h1 h2 hml
  go_enter Try.func4, Try.ntmps4
  go_wp2_with (first
    | ((with_reducible refine gate_dst (N := 3) rfl ?_); refine box_event ?hg (N := 3) ?hd (cs := #[.int .i64 K, .int .i64 N, .int .i64 S]) (t := 23) ?hr ?_; (case hd => rfl); (case hg => rfl); (case hr => first | (go_simp; done) | (go_simp; rfl) | kernel_rfl); intro gg hg w1 hbox hb; have Gg := Aside0.mk (Nat.le_of_eq hg.symm); have HB1 := Aside0.mk (hb); have Bg1 := Aside0.mk (hbox); clear hb hbox hg)
    | ((with_reducible refine gate_dst (N := 4) rfl ?_); refine box_event ?hg (N := 4) ?hd (cs := (nums .u32 mm).toArray) (t := 36) ?hr ?_; (case hd => rfl); (case hg => rfl); (case hr => first | (go_simp; done) | (go_simp; rfl) | kernel_rfl); intro ga hg w2 hbox hb; have Ga := Aside0.mk (show w.heap.size ≤ ga from by have := HB1.out.size; omega); have HB2 := Aside0.mk (below_step HB1.out hb); have Nag := Aside0.mk (show ga ≠ gg from fun e => by have h1 := blk_lt Bg1.out; omega); have Bg2 := Aside0.mk (blk_below Bg1.out hb); have Ba2 := Aside0.mk (hbox); clear hb hbox hg)
    | ((with_reducible refine gate_dst (N := 17) rfl ?_); refine wpList_load_row rfl 23 (.tmp 3) (by kernel_rfl) gg (by kernel_rfl) _ _ _ _ Bg3.out hu23.out rfl sizeGeo ?_)
    | ((with_reducible refine gate_dst (N := 18) rfl ?_); refine wpList_load_row rfl 36 (.tmp 4) (by kernel_rfl) ga (by kernel_rfl) _ _ _ _ Ba3.out hu36.out rfl HAS.out ?_)
    | ((with_reducible refine gate_dst (N := 26) rfl ?_); refine wpList_load_row rfl 23 (.tmp 3) (by kernel_rfl) gg (by kernel_rfl) _ _ _ _ Bg4.out hu23.out rfl sizeGeo ?_)
    | ((with_reducible refine gate_dst (N := 27) rfl ?_); refine wpList_load_row rfl 36 (.tmp 4) (by kernel_rfl) ga (by kernel_rfl) _ _ _ _ Ba4.out hu36.out rfl HAS.out ?_)
    | (have hz := HB5.out; clear hz; go_at_call 16; refine (same_any A4 A5 _ _ c4 c5 V _ R45.out R5.out C4.out C5.out (by have := HVL.out; omega)).mono ?_; rintro e w6 ⟨rfl, hd⟩; have hb := hd.below; have HB6 := Aside0.mk (below_step HB5.out hb); have R6 := Aside0.mk (R5.out.below hb); clear hd; clear hb)
    | (have hz := HB4.out; clear hz; go_at_call 15; refine (H2.out _ SA cs S4.out).mono ?_; rintro e w5 ⟨A5, m5, c5, rfl, hr, hc, hb⟩; obtain rfl : V.length = m5 := hr.1; have HB5 := Aside0.mk (below_step HB4.out hb); have R5 := Aside0.mk (hr); have C5 := Aside0.mk (hc); have R45 := Aside0.mk (R4.out.below hb); clear hr hc; clear hb)
    | (have hz := HB3.out; clear hz; go_at_call 13; refine (H1.out _ SA cs S3.out).mono ?_; rintro e w4 ⟨A4, m4, c4, rfl, hr, hc, hb⟩; obtain rfl : V.length = m4 := hr.1; have HB4 := Aside0.mk (below_step HB3.out hb); have Bg4 := Aside0.mk (blk_below Bg3.out hb); have Ba4 := Aside0.mk (blk_below Ba3.out hb); have R4 := Aside0.mk (hr); have C4 := Aside0.mk (hc); have S4 := Aside0.mk ((S3.out.below hb).mono' hb.size); clear hr hc; clear hb)
    | (have hz := HB2.out; clear hz; go_at_call 12; refine (hayricklaw15_shelf.calls k (fun k => k < w.heap.size) A c l bl _ (show Kd.V k62 62 w2 w2.heap.size (fun k => k < w.heap.size) (.slice A l.length c) l from Kd.V_below HV.out (HB2.out.mono (Nat.le_refl _))) HF.out).mono ?_; rintro e w3 ⟨vs, rfl, hn, hb⟩; have hv := Kd.V_bound (Kd.N_V (base' := 0) hn); obtain ⟨SA, cs, rfl⟩ := Kd.V_slice hv; have HB3 := Aside0.mk (below_step HB2.out hb); have Bg3 := Aside0.mk (blk_below Bg2.out hb); have Ba3 := Aside0.mk (blk_below Ba2.out hb); have S3 := Aside0.mk (show BS w3 w3.heap.size SA cs bl from Kd.V_mono hv (fun k hk => hk.2)); clear hn hv; clear hb))
  go_loopw [12, 13] (fun v i wr => ∃ j : Nat, j ≤ V.length ∧ i = .int .i64 j ∧ Aside0 (wr.ownsRow w6.heap.size 3 1 v (freeT V j).length (nums .i64 (freeT V j))) ∧ Aside0 (Below w6.heap.size w6 wr)) (fun _ i _ => V.length - (intOf i).toNat)
  case atStart => exact ⟨0, Nat.zero_le _, rfl, ⟨own_nil _ _ _ _⟩, ⟨Below.refl _ _⟩⟩
  case round =>
    obtain ⟨j, hj, rfl, HO, HB⟩ := hrel
    have hj0 : (0 : Int) ≤ (j : Int) := Int.natCast_nonneg _
    have hr63 : V.length ≤ 9223372036854775807 := R6.out.2.1
    have r5 := R6.out.below HB.out
    have HLE := Aside0.mk (freeT_le V j)
    by_cases hlt : j < V.length
    · have hjm : (j : Int) < (V.length : Int) := by omega
      obtain ⟨ad, rfl, _⟩ := R6.out.2.2 (by omega)
      have cj := cell_of_reads r5 j hlt
      have hst : freeT V (j + 1) = freeT V j ++ (if V.getD j 0 = 0 then [(j : Int)] else []) := rfl
      obtain ⟨y, hy⟩ : ∃ y, V.getD j 0 = y := ⟨_, rfl⟩
      rw [hy] at cj hst
      clear hy r5
      by_cases h0 : y = 0
      · subst h0
        rw [if_pos rfl] at hst
        have HST := Aside0.mk hst.symm
        clear hst
        obtain ⟨acc, hacc⟩ : ∃ acc, freeT V j = acc := ⟨_, rfl⟩
        rw [hacc] at HO HST HLE
        clear hacc
        have HJ := Aside0.mk hlt
        go_wp2_with (first
          | (at_builtin; with_reducible refine gate_dst (N := 55) rfl ?_; refine print_append_num (w0 := w6) w6.heap.size rfl (.tmp 52) (.tmp 54) 40 3 .i64 8 rfl Try.underlying40 infoI64 (by omega) u12 acc (j : Int) rfl rfl HO.out HB.out HB.out.size (by have := HLE.out; have := HJ.out; have := HVL.out; omega) ?_; intro v2 w7 ho hb7 hg7 _; rw [HST.out] at ho; have HO7 := Aside0.mk ho; have HB7 := Aside0.mk hb7; clear ho hb7 hg7))
        go_roundw
        case rel => exact ⟨j + 1, by omega, by go_num, HO7, HB7⟩
        case measure => simp [intOf]; omega
      · rw [if_neg h0, List.append_nil] at hst
        have HST := Aside0.mk hst
        have h0b : (y == 0) = false := beq_eq_false_iff_ne.2 h0
        clear hst h0
        go_wp2
        go_roundw
        case rel => exact ⟨j + 1, by omega, by go_num, ⟨by rw [HST.out]; exact HO.out⟩, HB⟩
        case measure => simp [intOf]; omega
    · obtain rfl : j = V.length := by omega
      obtain ⟨A7, c7, rfl, hr7⟩ := own_reads HO.out
      have R7 := Aside0.mk hr7
      have C7 := Aside0.mk (own_le HO.out)
      have R8 := Aside0.mk r5
      obtain ⟨FR, hFR⟩ : ∃ FR, freeT V V.length = FR := ⟨_, rfl⟩
      have HFF := Aside0.mk (free_f V HVL.out)
      rw [hFR] at HO R7 C7 HLE HFF ⊢
      have HB10 := Aside0.mk (below_step HB6.out HB.out)
      clear hr7 r5 hlt hj hFR HB
      go_wp2_with (first
        | (have hz := R10.out; clear hz; go_at_call 11; refine (wakes_true _).mono ?_; rintro e w13 ⟨rfl, hb⟩; have HB13 := Aside0.mk (below_step HB12.out hb); clear hb)
        | (go_at_call 17; refine (usage_Free.calls (V.length + 1) A5 c5 V FR _ (Kd.C_of_reads (enc := Value.int .i64) (d := (0 : Int)) (h1 := fun _ => rfl) R8.out) C5.out HFF.out).mono ?_; rintro e w11 ⟨vf, rfl, hf, hb⟩; obtain ⟨A11, c11, rfl, hl11, hc11⟩ := Kd.R_reads hf; have HB11 := Aside0.mk (below_step HB10.out hb); have R9 := Aside0.mk (R7.out.below hb); have R11 := Aside0.mk (Kd.reads_of_C (enc := Value.int .i64) (d := (0 : Int)) (h1 := fun _ => rfl) hc11); have C11 := Aside0.mk hl11; clear hf hl11 hc11 hb)
        | (have hz := R11.out; clear hz; go_at_call 16; refine (same_any A11 A7 _ _ c11 c7 FR _ R11.out R9.out C11.out C7.out (by have := HLE.out; have := HVL.out; omega)).mono ?_; rintro e w12 ⟨rfl, hd⟩; have hb := hd.below; have HB12 := Aside0.mk (below_step HB11.out hb); have R10 := Aside0.mk (R9.out.below hb); clear hb hd))
      go_ret
      exact ⟨rfl, HB13.out⟩
theorem reads_nil {w : World} : ReadsInt w .i64 none 0 [] := ⟨rfl, by decide, fun h => absurd h (by decide)⟩
theorem fromL_all {l : List S62} {r : List (List Int)} (h : FromL l r) {P : List Int → Prop} (h0 : P []) (h1 : ∀ p ∈ l, P p.f1) : ∀ b ∈ r, P b := by
  intro b hb
  rcases h b hb with e | ⟨p, hp, e⟩
  · rw [e]; exact h0
  · rw [e]; exact h1 p hp
theorem inoN_inv {K S : Int} {bl : List (List Int)} {n : Nat} : ∀ (m : List Int) (i : Int) (l v : List Int), Inv n l v → (liveN K S bl m i l v).1 = 0 → (liveN K S bl m i l v).2.2.length = n
  | [], i, l, v, hi, h => hi.1
  | a :: r, i, l, v, hi, h => by
    unfold liveN at h ⊢
    by_cases h0 : a = 0
    · rw [if_pos h0] at h ⊢; exact inoN_inv r _ l v hi h
    · rw [if_neg h0] at h ⊢
      by_cases h1 : (inoN K S bl (i + 1) a l v).1 ≠ 0
      · rw [if_pos h1] at h; exact absurd h h1
      · rw [if_neg h1] at h ⊢
        have h2 : (inoN K S bl (i + 1) a l v).1 = 0 := Decidable.not_not.1 h1
        exact inoN_inv r _ _ _ (ino_inv hi (by rw [← h2])).1 h
theorem lives_law (K N S : Int) (mm : List Int) (A : Option Addr) (c : Nat) (l : List S62) (w : World) (hml : mm.length = 64) (hmr : ∀ x ∈ mm, 0 ≤ x ∧ x < 4294967296)
    (hV : Kd.V k62 62 w w.heap.size (fun k => k < w.heap.size) (.slice A l.length c) l) (hll : l.length ≤ 9223372036854775806) (h0 : ∀ p ∈ l, 0 ≤ p.f0 ∧ p.f0 < 4294967296) (hz : ∀ p ∈ l, p.f1.length ≤ 140737488355328) (hy : ∀ p ∈ l, ∀ x ∈ p.f1, 0 ≤ x ∧ x < 256) :
    Calls Try.prog 4 #[.agg #[.int .i64 K, .int .i64 N, .int .i64 S], .agg (nums .u32 mm).toArray, .slice A l.length c] w fun e w' => e = .returned (.bool true) ∧ Below w.heap.size w w' := by
  obtain ⟨k, bl, hf, hb1, hb2⟩ := shelf_f l hll h0
  have bz : ∀ b ∈ bl, b.length ≤ 140737488355328 := fromL_all hb2 (P := fun b => b.length ≤ 140737488355328) (Nat.zero_le _) hz
  have by_ : ∀ b ∈ bl, ∀ x ∈ b, 0 ≤ x ∧ x < 256 := fromL_all hb2 (P := fun b => ∀ x ∈ b, 0 ≤ x ∧ x < 256) (by simp) hy
  by_cases h : (1 ≤ K ∧ K ≤ 255) ∧ 1 ≤ S ∧ S ≤ 128
  · obtain ⟨hK, hS⟩ := h
    obtain ⟨n, rfl⟩ := Int.eq_ofNat_of_zero_le (show 0 ≤ S by omega)
    obtain ⟨R, hR⟩ : ∃ R, liveN K n bl mm 0 [] (List.replicate n 0) = R := ⟨_, rfl⟩
    have hlen : (if R.1 = 0 then R.2.2 else []).length ≤ 1000 := by
      split
      · rename_i hx
        have := inoN_inv (K := K) (S := n) (bl := bl) mm 0 [] (List.replicate n 0) (inv_zero n) (by rw [hR]; exact hx)
        rw [hR] at this
        omega
      · exact Nat.zero_le _
    exact lives_walk K N n mm A c l w k bl R.1 (if R.1 = 0 then R.2.2 else []) hml hV hf hlen
      (fun W SA cs hB => live_read W K N n n rfl mm SA cs _ bl rfl hB hK hS hml hmr (by omega) bz by_ R hR)
      (fun W SA cs hB => rlive_yes K N n mm W SA cs bl R hB hK hS hml hmr (by omega) bz by_ hR)
  · exact lives_walk K N S mm A c l w k bl 1 [] hml hV hf (Nat.zero_le _)
      (fun W SA cs hB => (live_no K N S mm _ W h).mono fun e w' h => ⟨none, 0, 0, h.1, reads_nil, Nat.le_refl _, h.2⟩)
      (fun W SA cs hB => (rlive_no K N S mm _ _ _ W h).mono fun e w' h => ⟨none, 0, 0, h.1, reads_nil, Nat.le_refl _, h.2⟩)
end Go.Proofs.Ytgiapegacbibeaa.UM

end

section
/- An array of 64 addresses, a list of blocks at addresses: opened. -/
namespace Go.Proofs.Ytgiapegacbibeaa.UM
open Go.RowKit Go.Proofs.YtgiapegacbibeaaX Go.Proofs.YtgiapegacbibeaaW.PrintWords Go.Proofs.Ytgiapegacbibeaa.PUsageLives Go.ChangeShapes Go.WideShapes
set_option linter.unusedVariables false
theorem cells36 : Try.prog.cellsOf 36 = 64 := by kernel_rfl
theorem cells24 : Try.prog.cellsOf 24 = 1 := by kernel_rfl
theorem cells5 : Try.prog.cellsOf 5 = 1 := by kernel_rfl
theorem cells62 : Try.prog.cellsOf 62 = 2 := by kernel_rfl
theorem cells58 : Try.prog.cellsOf 58 = 1 := by kernel_rfl
theorem bytes5 : Try.prog.bytesOf 5 = 1 := by kernel_rfl
theorem bytes62 : Try.prog.bytesOf 62 = 32 := by kernel_rfl
section
variable {H : Type} {enc : TypeId × Value → H}
def numV : Value → Int
  | .int _ n => n
  | _ => 0
theorem mapM_turn {α β : Type} {f g : α → Option β} : ∀ (l : List α) {ys : List β}, l.mapM f = some ys → (∀ a ∈ l, ∀ y, f a = some y → g a = some y) → l.mapM g = some ys
  | [], ys, h, _ => h
  | a :: l, ys, h, hg => by
    rw [List.mapM_cons] at h ⊢
    obtain ⟨y, h1, h2⟩ := Option.bind_eq_some_iff.1 h
    obtain ⟨r, h3, h4⟩ := Option.bind_eq_some_iff.1 h2
    rw [hg a (List.mem_cons_self ..) y h1]
    show ((l.mapM g).bind fun r => some (y :: r)) = some ys
    rw [mapM_turn l h3 (fun b hb => hg b (List.mem_cons_of_mem _ hb))]
    exact h4
set_option maxRecDepth 100000 in
theorem open_arr64 {W : World} {base b0 : Nat} {sp : Nat → Bool} {held : Bool} {r : Reach} {v : Value} {d : DataW H} {ps : List MemPlace} (hv : Value.okWide Try.prog W r b0 36 v) (h : DataW.Trod enc Try.prog W base sp held 36 v d ps) :
    ∃ mm : List Int, mm.length = 64 ∧ (∀ x ∈ mm, (Lit.int .u32 x).wf = true) ∧ v = .agg (nums .u32 mm).toArray ∧ ps = [] ∧ ∀ (W' : World) (base' : Nat) (sp' : Nat → Bool) (held' : Bool), DataW.Trod enc Try.prog W' base' sp' held' 36 (.agg (nums .u32 mm).toArray) d [] := by
  simp only [Value.okWide, Try.underlying36] at hv
  obtain ⟨xs, rfl, hsz, _⟩ := hv
  rw [cells36] at hsz
  obtain ⟨fuel, hf⟩ := h
  cases fuel with
  | zero => simp [DataW.trod] at hf
  | succ n =>
    unfold DataW.trod at hf
    rw [Try.underlying36] at hf
    simp only [cells24, cells36, Value.cells] at hf
    rw [if_pos (by rw [Array.length_toList]; exact hsz)] at hf
    simp only [Option.map_eq_some_iff] at hf
    obtain ⟨ys, hx, hy⟩ := hf
    have hl : ys.length = 64 := by simpa using mapM_some_length hx
    have hg := fun i (hi : i < 64) => mapM_some_get hx i i (by simp [hi])
    have hs64 : xs.toList.length = 64 := by rw [Array.length_toList]; exact hsz
    have tk : ∀ i (hi : i < xs.toList.length), List.take 1 (List.drop (i * 1) xs.toList) = [xs.toList[i]] := by
      intro i hi
      rw [Nat.mul_one, List.drop_eq_getElem_cons hi]
      rfl
    have each : ∀ i (hi : i < xs.toList.length), ∃ z : Int, xs.toList[i] = .int .u32 z ∧ (Lit.int .u32 z).wf = true ∧ ys[i]? = some (.lit (.int .u32 z), []) := by
      intro i hi
      have h1 := hg i (by omega)
      rw [tk i hi, List.getElem?_eq_getElem (by omega)] at h1
      obtain ⟨z, e1, e2, e3⟩ := DataW.trod_int Try.underlying24 h1
      refine ⟨z, by simpa using e1, e3, ?_⟩
      rw [List.getElem?_eq_getElem (by omega), e2]
    have hnum : (xs.toList.map numV).map (Value.int .u32) = xs.toList := by
      rw [List.map_map]
      conv => rhs; rw [← List.map_id xs.toList]
      refine List.map_congr_left (fun v hv => ?_)
      obtain ⟨i, hi, rfl⟩ := List.getElem_of_mem hv
      obtain ⟨z, e1, _⟩ := each i hi
      rw [e1]
      rfl
    have hps : ps = [] := by
      rw [← (Prod.mk.inj hy).2]
      refine List.flatMap_eq_nil_iff.2 (fun y hy => ?_)
      obtain ⟨i, hi, rfl⟩ := List.getElem_of_mem hy
      obtain ⟨z, _, _, e3⟩ := each i (by omega)
      rw [List.getElem?_eq_getElem hi] at e3
      rw [Option.some.inj e3]
    have hag : Value.agg (nums .u32 (xs.toList.map numV)).toArray = .agg xs := by
      unfold nums
      rw [hnum]
    refine ⟨xs.toList.map numV, by rw [List.length_map]; exact hs64, fun x hx => ?_, hag.symm, hps, fun W' base' sp' held' => ⟨2, ?_⟩⟩
    · obtain ⟨v, hv, rfl⟩ := List.mem_map.1 hx
      obtain ⟨i, hi, rfl⟩ := List.getElem_of_mem hv
      obtain ⟨z, e1, e2, _⟩ := each i hi
      rw [e1]
      exact e2
    · rw [hag]
      unfold DataW.trod
      rw [Try.underlying36]
      simp only [cells24, cells36, Value.cells]
      rw [if_pos hs64]
      simp only [Option.map_eq_some_iff]
      refine ⟨ys, mapM_turn _ hx (fun i hi y hy => ?_), by rw [hy, hps]⟩
      have hi' : i < xs.toList.length := by rw [hs64]; exact List.mem_range.1 hi
      rw [tk i hi'] at hy ⊢
      obtain ⟨z, e1, e2, e3⟩ := each i hi'
      rw [e1] at hy ⊢
      obtain ⟨z', f1, f2, f3⟩ := DataW.trod_int Try.underlying24 hy
      rw [f2]
      obtain rfl : z = z' := by simpa using f1
      simp [DataW.trod, Try.underlying24, e2]
theorem weights_all {P : Program} {e : TypeId} : ∀ {ds : List (DataW H)} {d : DataW H} {n : Nat}, d ∈ ds → n ∈ d.weights P e → n ∈ DataW.weightsAll P e ds
  | d0 :: ds, d, n, hd, hn => by
    simp only [DataW.weightsAll, List.mem_append]
    rcases List.mem_cons.1 hd with rfl | h
    · exact .inl hn
    · exact .inr (weights_all h hn)
/-- What one block at an address is. -/
def AtOf (W : World) (v0 v1 : Value) (p : S62) : Prop :=
  v0 = .int .u32 p.f0 ∧ (Lit.int .u32 p.f0).wf = true ∧ (∃ A1 c1, v1 = .slice A1 p.f1.length c1 ∧ p.f1.length ≤ c1 ∧ ReadsInt W .u8 A1 p.f1.length p.f1) ∧ (∀ x ∈ p.f1, (Lit.int .u8 x).wf = true) ∧ p.f1.length ≤ reachBytes
set_option maxRecDepth 100000 in
theorem open_ats {W : World} {v : Value} {d : DataW H} {ps : List MemPlace} {b0 : Nat} {r : Reach} {ts : List TypeId} {ds : List (DataW H)} {j : Nat} (hv : Value.okWide Try.prog W r b0 37 v) (h : DataW.Trod enc Try.prog W 0 (fun _ => true) true 37 v d ps)
    (hsz : (DataW.weightsEach Try.prog ts ds).all (· ≤ reachBytes) = true) (ht : ts[j]? = some 37) (hd : ds[j]? = some d) :
    ∃ (A : Option Addr) (c : Nat) (l : List S62), v = .slice A l.length c ∧ Kd.V k62 62 W W.heap.size (fun k => k < W.heap.size) v l ∧ l.length ≤ reachBytes ∧
      (∀ p ∈ l, (Lit.int .u32 p.f0).wf = true) ∧ (∀ p ∈ l, ∀ x ∈ p.f1, (Lit.int .u8 x).wf = true) ∧ (∀ p ∈ l, p.f1.length ≤ reachBytes) := by
  obtain ⟨A, n, c, rfl⟩ := okWide_slice Try.underlying37 hv
  obtain ⟨fuel, hf⟩ := h
  rcases Go.Deep.open_slice_pairs Try.underlying37 Try.underlying62 cells62 rfl rfl cells24 cells58 hf with ⟨hcs, _⟩ | ⟨a, len, cap, m, n', V0, V1, D0, D1, P0, P1, hcs, hb, hl, hm, hmm, hx, hi⟩
  · simp [Value.cells] at hcs
    obtain ⟨rfl, rfl, rfl⟩ := hcs
    exact ⟨none, 0, [], rfl, Kd.V_nil _ _ _ _ _, Nat.zero_le _, by simp, by simp, by simp⟩
  · simp [Value.cells] at hcs
    obtain ⟨rfl, rfl, rfl⟩ := hcs
    obtain ⟨hx, _⟩ := Prod.mk.inj hx
    have hlm : n ≤ m := by rw [hmm]; exact hl
    subst hx
    have z := sized_slice hsz ht hd Try.underlying37
    rw [bytes62] at z
    simp only [List.length_map, List.length_range] at z
    have each : ∀ i, i < n → ∃ p : S62, AtOf W (V0 i) (V1 i) p := by
      intro i hin
      obtain ⟨_, _, t0, t1⟩ := hi i (by omega)
      obtain ⟨x, e1, e2, e3⟩ := DataW.trod_int Try.underlying24 t0
      have hw : ∀ q ∈ (D1 i).weights Try.prog 58, q ≤ reachBytes := by
        intro q hq
        have h1 : q ∈ (DataW.agg [D0 i, D1 i]).weights Try.prog 62 := by
          simp only [DataW.weights, Try.underlying62]
          simp only [DataW.weightsEach, List.map_cons, List.map_nil, List.mem_append]
          exact .inr (.inl hq)
        have h2 : q ∈ DataW.weightsAll Try.prog 62 ((List.range n).map fun i => DataW.agg [D0 i, D1 i]) := weights_all (List.mem_map.2 ⟨i, List.mem_range.2 hin, rfl⟩) h1
        have h3 := List.all_eq_true.1 hsz _ (DataW.weights_mem_each ht hd q (by
          simp only [DataW.weights, Try.underlying37, List.mem_cons, List.mem_append]
          exact .inr (.inl h2)))
        simpa using h3
      rcases open_ints Try.underlying58 Try.underlying5 cells5 t1 with ⟨hcs, _⟩ | ⟨a1, l1, c1, zs, hcs, _, hl1, hm1, hz1, hx1, hcell, hwz⟩
      · refine ⟨⟨x, []⟩, by simpa using e1, e3, ⟨none, 0, by simpa using hcs, Nat.le_refl _, rfl, Nat.zero_le _, fun h => absurd h (Nat.lt_irrefl 0)⟩, by simp, Nat.zero_le _⟩
      · have hzl : l1 ≤ zs.length := by rw [hz1]; exact hl1
        have hcap : zs.length = c1 := by rw [hz1]; rfl
        have htl : (zs.take l1).length = l1 := by rw [List.length_take]; omega
        have hD := (Prod.mk.inj hx1).1
        have hq := hw (((lits (H := H) .u8 (zs.take l1)).length + (lits (H := H) .u8 (zs.drop l1)).length) * Try.prog.bytesOf 5) (by rw [hD]; simp only [DataW.weights, Try.underlying58]; exact List.mem_cons_self ..)
        rw [bytes5] at hq
        simp only [lits, List.length_map] at hq
        refine ⟨⟨x, zs.take l1⟩, by simpa using e1, e3, ⟨some a1, c1, by rw [show (S62.mk x (zs.take l1)).f1.length = l1 from htl]; simpa using hcs, by show (zs.take l1).length ≤ c1; omega, rfl, ?_, fun hp => ⟨a1, rfl, fun j hj => ?_⟩⟩, fun y hy => hwz y (List.mem_of_mem_take hy), ?_⟩
        · show (zs.take l1).length ≤ 9223372036854775807
          simp only [maxLen] at hm1
          omega
        · have hj' : j < l1 := by rw [← htl]; exact hj
          rw [hcell j (by omega)]
          simp [List.getD_eq_getElem?_getD, hj']
        · show (zs.take l1).length ≤ reachBytes
          omega
    classical
    obtain ⟨G, hG⟩ : ∃ G : Nat → S62, ∀ i, i < n → AtOf W (V0 i) (V1 i) (G i) := ⟨fun i => if hin : i < n then Classical.choose (each i hin) else z62, fun i hin => by
      show AtOf W (V0 i) (V1 i) (if hin : i < n then Classical.choose (each i hin) else z62)
      rw [dif_pos hin]
      exact Classical.choose_spec (each i hin)⟩
    have hll : ((List.range n).map G).length = n := by rw [List.length_map, List.length_range]
    have hall : ∀ p ∈ (List.range n).map G, ∃ i, i < n ∧ G i = p := by
      intro p hp
      obtain ⟨i, hi, e⟩ := List.mem_map.1 hp
      exact ⟨i, List.mem_range.1 hi, e⟩
    refine ⟨some a, c, (List.range n).map G, by rw [hll], ?_, by rw [hll]; omega, fun p hp => ?_, fun p hp => ?_, fun p hp => ?_⟩
    · have hC : Kd.C k62 W (some a) ((List.range n).map G).length ((List.range n).map G) := by
        refine ⟨rfl, by rw [hll]; simp only [maxLen] at hm; omega, fun _ => ⟨_, rfl, fun j p hj => ?_⟩⟩
        obtain ⟨hjl, hje⟩ := List.getElem?_eq_some_iff.1 hj
        have hjn : j < n := by rw [← hll]; exact hjl
        have hp : G j = p := by simpa using hje
        obtain ⟨g0, _, ⟨A1, c1, g1, g2, g3⟩, _⟩ := hG j hjn
        rw [hp] at g0 g1 g2 g3
        obtain ⟨k0, k1, _, _⟩ := hi j (by omega)
        refine ⟨_, rfl, k62_mk W p g2 (Kd.C_of_reads (enc := Value.int .u8) (d := (0 : Int)) (h1 := fun _ => rfl) g3), fun i u hu => ?_⟩
        match i, hu with
        | 0, hu => rw [← Option.some.inj hu, ← g0]; exact k0
        | 1, hu => rw [← Option.some.inj hu, ← g1]; exact k1
      have := Kd.V_mk (d := k62) (e := 62) (base := W.heap.size) (c := c) (by rw [hll]; exact hl) (Kd.C_F (Kd.heap_iso _ (Kd.heap_pair (Kd.heap_int _) (Kd.heap_slice _ (Kd.heap_int _)))) hC)
      rw [hll] at this
      exact this
    · obtain ⟨i, hi, rfl⟩ := hall p hp; exact (hG i hi).2.1
    · obtain ⟨i, hi, rfl⟩ := hall p hp; exact (hG i hi).2.2.2.1
    · obtain ⟨i, hi, rfl⟩ := hall p hp; exact (hG i hi).2.2.2.2
end
end Go.Proofs.Ytgiapegacbibeaa.UM

end
