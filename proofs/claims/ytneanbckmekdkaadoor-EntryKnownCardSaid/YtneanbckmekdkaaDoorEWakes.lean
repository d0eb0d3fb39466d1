/- Law 12's wakes. -/
import Derived.Test.YtneanbckmekdkaaDoorEPlain
import Derived.Test.YtneanbckmekdkaaDoorEIns
namespace Go.Proofs.YtneanbckmekdkaaDoor.EN
open Go Go.RowKit Go.Proofs.YtneanbckmekdkaaDoorX Go.Proofs.YtneanbckmekdkaaDoor.NM Go.Proofs.YtneanbckmekdkaaDoorW.PrintWords Go.Proofs.YtneanbckmekdkaaDoorW.PrintLast Go.Proofs.YtneanbckmekdkaaDoorW.PrintMore Go.Proofs.YtneanbckmekdkaaDoor.PEntryForms
set_option linter.unusedVariables false
set_option linter.unusedSimpArgs false
theorem rowsE_length (l : List S42) : (rowsE l).length = l.length * 2 := by
  induction l with
  | nil => rfl
  | cons x l ih => rw [rowsE, List.flatMap_cons, List.length_append, ← rowsE, ih, List.length_cons]; simp only [List.length_cons, List.length_nil]; omega
theorem row_own_new (W : World) (l : List S42) (hl : l.length ≤ 9223372036854775807) : (W.alloc (.cells (rowsE l).toArray 42)).ownsRow W.heap.size 42 2 (.slice (some ⟨W.heap.size, 0, none⟩) l.length l.length) l.length (rowsE l) := by
  refine ⟨rowsE_length l, .inr ⟨W.heap.size, l.length, (rowsE l).toArray, rfl, Nat.le_refl _, heap_alloc_new W _, Nat.le_refl _, by simp only [maxLen]; omega, by simp [rowsE_length], ?_⟩⟩
  rw [← rowsE_length l, List.take_length]
theorem row_new (W : World) (l : List S42) (hl : l.length ≤ 9223372036854775807) (hz : ∀ x ∈ l, x.f1.size ≤ 140737488351232) : Row (W.alloc (.cells (rowsE l).toArray 42)) (some ⟨W.heap.size, 0, none⟩) l := own_row (row_own_new W l hl) hz
theorem row_none (W : World) : Row W none [] := ⟨⟨rfl, by decide, fun h => absurd h (by decide)⟩, fun x hx => by cases hx⟩
def wkL : List S42 := [⟨3, ⟨#[98]⟩⟩]
def wkB : List Int := [0, 3, 1, 98, 0, 0, 0, 0, 0, 0, 0, 0, 0, 0, 0, 0, 0, 0, 0, 0, 0, 0, 0, 0, 0, 0, 0, 0]
theorem wk_bytes : putL wkL = wkB := by decide +kernel
theorem wk_may : mayE wkL = true := by decide +kernel
theorem wk_back : takeE wkB = some wkL := by rw [← wk_bytes]; exact take_put wk_may
theorem wk_two : takeE (wkB ++ wkB) = none := by kernel_rfl
theorem wk_range : ∀ x ∈ wkB ++ wkB, 0 ≤ x ∧ x < 256 := by decide +kernel
theorem wk_put (w : World) (hT : Lib.Utf8Tabs 1 2 w) :
    Calls Tryd.prog 10 #[.slice (some ⟨w.heap.size, 0, none⟩) 1 1] (w.alloc (.cells #[.int .i64 3, .string ⟨#[98]⟩] 42)) fun e w' => ∃ A c, e = .returned (.tuple #[.slice A 28 c, .int .i64 0]) ∧ ReadsInt w' .u8 A 28 wkB ∧ 28 ≤ c ∧ Below w.heap.size w w' := by
  have hb0 := below_alloc (Below.refl w.heap.size w) (.cells #[.int .i64 3, .string ⟨#[98]⟩] 42)
  refine (put_yes (w.alloc (.cells #[.int .i64 3, .string ⟨#[98]⟩] 42)) (some ⟨w.heap.size, 0, none⟩) 1 wkL (row_new w wkL (by decide) (by decide +kernel)) (Utf8Tabs_below hT hb0) wk_may).mono ?_
  rintro e w' ⟨v, rfl, ho, hb⟩
  rw [wk_bytes] at ho
  obtain ⟨A, c, rfl, hr⟩ := own_reads ho
  exact ⟨A, c, rfl, hr, own_cap ho, below_step hb0 hb⟩
theorem wk_take (W : World) (A : Option Addr) (c : Nat) (h : ReadsInt W .u8 A 28 wkB) (hc : 28 ≤ c) (hT : Lib.Utf8Tabs 1 2 W) :
    Calls Tryd.prog 12 #[.slice A 28 c] W fun e w' => ∃ ad c', e = .returned (.tuple #[.slice (some ad) 1 c', .int .i64 0]) ∧ w'.cell? ad = some (.int .i64 3) ∧ Below W.heap.size W w' := by
  have h1 := take_any A c wkB W hc (by decide) h (fun x hx => wk_range x (List.mem_append_left _ hx)) hT
  rw [wk_back] at h1
  refine Calls.mono h1 ?_
  rintro e w' ⟨v, x, rfl, ⟨rfl, ho⟩, hb⟩
  obtain ⟨A', c', rfl⟩ := own_slice ho
  obtain ⟨ad, rfl, h0, _⟩ := (own_row ho (by decide +kernel)).at_ (j := 0) (by decide)
  exact ⟨ad, c', rfl, h0, hb⟩
theorem wk_take2 (W : World) (A : Option Addr) (c : Nat) (h : ReadsInt W .u8 A 56 (wkB ++ wkB)) (hc : 56 ≤ c) (hT : Lib.Utf8Tabs 1 2 W) :
    Calls Tryd.prog 12 #[.slice A 56 c] W fun e w' => e = .returned (.tuple #[.slice none 0 0, .int .i64 5]) ∧ Below W.heap.size W w' := by
  have h1 := take_any A c (wkB ++ wkB) W hc (by decide) h wk_range hT
  rw [wk_two] at h1
  refine Calls.mono h1 ?_
  rintro e w' ⟨v, x, rfl, ⟨rfl, rfl⟩, hb⟩
  exact ⟨rfl, hb⟩
theorem wk_find (w : World) :
    Calls Tryd.prog 18 #[.slice (some ⟨w.heap.size, 0, none⟩) 2 2, .string ⟨#[98]⟩] (w.alloc (.cells #[.int .i64 1, .string ⟨#[97]⟩, .int .i64 2, .string ⟨#[99]⟩] 42)) fun e w' => e = .returned (.tuple #[.int .i64 1, .bool false]) ∧ Below w.heap.size w w' := by
  have hb0 := below_alloc (Below.refl w.heap.size w) (.cells #[.int .i64 1, .string ⟨#[97]⟩, .int .i64 2, .string ⟨#[99]⟩] 42)
  refine (find_any (some ⟨w.heap.size, 0, none⟩) 2 [⟨1, ⟨#[97]⟩⟩, ⟨2, ⟨#[99]⟩⟩] ⟨#[98]⟩ (w.alloc (.cells #[.int .i64 1, .string ⟨#[97]⟩, .int .i64 2, .string ⟨#[99]⟩] 42)) (row_new w [⟨1, ⟨#[97]⟩⟩, ⟨2, ⟨#[99]⟩⟩] (by decide) (by decide +kernel)) (by decide) (by decide +kernel) (by decide)).mono ?_
  rintro e w' ⟨rfl, hb⟩
  exact ⟨by kernel_rfl, below_step hb0 hb⟩
theorem wk_ins (w : World) (hT : Lib.Utf8Tabs 1 2 w) :
    Calls Tryd.prog 20 #[.slice none 0 0, .agg #[.int .i64 1, .string ⟨#[46]⟩]] w fun e w' => e = .returned (.tuple #[.slice none 0 0, .int .i64 31]) ∧ Below w.heap.size w w' :=
  ins_err none 0 [] 1 ⟨#[46]⟩ w (row_none w) (fun x hx => by cases hx) (by decide) hT (by decide) 31 (by kernel_rfl)
theorem wk_str : strOfNums (wkB.take 5) = ⟨#[0, 3, 1, 98, 0]⟩ := by kernel_rfl
set_option maxHeartbeats 4000000 in
set_option maxRecDepth 100000 in
theorem wakes_true (w : World) (hT : Lib.Utf8Tabs 1 2 w) : Calls Tryd.prog 17 #[] w fun e w' => e = .returned (.bool true) ∧ Below w.heap.size w w' := by
  have HT := Aside0.mk hT
  clear hT
  have HC5 := 5
  go_enter Tryd.func17, Tryd.ntmps17
  go_wp2_with (first
    | (have hz := HB6.out; clear hz; go_at_call 20; refine (wk_ins w6 (Utf8Tabs_below HT.out HB6.out)).mono ?_; rintro e w7 ⟨rfl, hb⟩; have HB7 := Aside0.mk (below_step HB6.out hb); have R7 := Aside0.mk (R6.out.below hb); have cc7 := pw_cell_below hb CC6.out; have s1 := string_of_reads (P := Tryd.prog) (src := 23) (dst := 9) Tryd.underlying23 Tryd.underlying5 Tryd.underlying9 (c := c1) (R7.out.take_ 5 (by decide)); rw [wk_str] at s1; have k28 := C1.out; clear hb)
    | (have hz := HB5.out; clear hz; go_at_call 18; refine (wk_find w5).mono ?_; rintro e w6 ⟨rfl, hb⟩; have HB6 := Aside0.mk (below_step HB5.out hb); have R6 := Aside0.mk (R5.out.below hb); have CC6 := Aside0.mk (pw_cell_below hb CC5.out); clear hb)
    | (have hz := HB4.out; clear hz; go_at_call 12; refine (wk_take2 w4 A4 c4 R4.out CP4.out (Utf8Tabs_below HT.out HB4.out)).mono ?_; rintro e w5 ⟨rfl, hb⟩; have HB5 := Aside0.mk (below_step HB4.out hb); have R5 := Aside0.mk (R14.out.below hb); have CC5 := Aside0.mk (pw_cell_below hb CC4.out); clear hb)
    | (have hz := HB3.out; clear hz; at_builtin; (with_reducible refine gate_dst (N := 26) rfl ?_); refine print_append_row (w0 := w2) w2.heap.size rfl (.tmp 24) (.tmp 25) 23 5 .u8 1 rfl Tryd.underlying23 infoU8 (by omega) v3 wkB wkB A1 28 c1 (by kernel_rfl) (by kernel_rfl) HO3.out R3.out HX3.out HX3.out.size (by decide) ?_; intro v4 w4 ho hb _ _; obtain ⟨A4, c4, rfl, hr4⟩ := own_reads ho; have CP4 := Aside0.mk (own_cap ho); have R4 := Aside0.mk hr4; have HB4 := Aside0.mk (below_step HB2.out hb); have R14 := Aside0.mk (R2.out.below hb); have CC4 := Aside0.mk (pw_cell_below hb CC2.out); clear ho hb hr4)
    | (have hz := HB2.out; clear hz; at_builtin; (with_reducible refine gate_dst (N := 24) rfl ?_); refine print_append_row (w0 := w2) w2.heap.size rfl (.const (.slice none 0 0)) (.tmp 23) 23 5 .u8 1 rfl Tryd.underlying23 infoU8 (by omega) (.slice none 0 0) [] wkB A1 28 c1 (by kernel_rfl) (by kernel_rfl) (own_nil _ _ _ _) R2.out (Below.refl _ _) (Nat.le_refl _) (by decide) ?_; intro v3 w3 ho hb _ _; rw [List.nil_append] at ho; have HO3 := Aside0.mk ho; have HX3 := Aside0.mk hb; have HB3 := Aside0.mk (below_step HB2.out hb); have R3 := Aside0.mk (R2.out.below hb); have CC3 := Aside0.mk (pw_cell_below hb CC2.out); clear ho hb)
    | (have hz := HB1.out; clear hz; go_at_call 12; refine (wk_take w1 A1 c1 R1.out C1.out (Utf8Tabs_below HT.out HB1.out)).mono ?_; rintro e w2 ⟨ad, c2, rfl, hcell, hb⟩; have HB2 := Aside0.mk (below_step HB1.out hb); have R2 := Aside0.mk (R1.out.below hb); have CC2 := Aside0.mk hcell; clear hcell hb)
    | (go_at_call 10; refine (wk_put w HT.out).mono ?_; rintro e w1 ⟨A1, c1, rfl, hr, hc, hb⟩; have R1 := Aside0.mk hr; have C1 := Aside0.mk hc; have HB1 := Aside0.mk hb; clear hr hc hb))
  go_ret
  exact ⟨rfl, HB7.out⟩
end Go.Proofs.YtneanbckmekdkaaDoor.EN
