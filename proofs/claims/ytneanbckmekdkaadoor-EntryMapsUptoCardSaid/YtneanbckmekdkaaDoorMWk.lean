import Derived.Test.YtneanbckmekdkaaDoorMTake
import Derived.Test.YtneanbckmekdkaaDoorMFind
import Derived.Deep.DeepAppendWide
import Derived.Test.YtneanbckmekdkaaDoorMSame
section
/- Law 12's wakes. -/
namespace Go.Proofs.YtneanbckmekdkaaDoor.EN
open Go Go.RowKit Go.Proofs.YtneanbckmekdkaaDoorX Go.Proofs.YtneanbckmekdkaaDoor.NM Go.Proofs.YtneanbckmekdkaaDoorW.PrintWords Go.Proofs.YtneanbckmekdkaaDoorW.PrintLast Go.Proofs.YtneanbckmekdkaaDoorW.PrintMore Go.Proofs.YtneanbckmekdkaaDoor.PEntryForms
set_option linter.unusedVariables false
set_option linter.unusedSimpArgs false
theorem rowsE_length (l : List S42) : (rowsE l).length = l.length * 2 := by
  induction l with
  | nil => rfl
  | cons x l ih => rw [rowsE, List.flatMap_cons, List.length_append, ← rowsE, ih, List.length_cons]; simp only [List.length_cons, List.length_nil]; omega
theorem row_own_new (W : World) (l : List S42) (hl : l.length ≤ 9223372036854775807) : (W.alloc (.cells (rowsE l).toArray 42)).ownsRow W.heap.size 42 2 (.slice (some ⟨W.heap.size, 0, none⟩) l.length l.length) l.length (rowsE l) := by
  refine ⟨rowsE_length l, .inr ⟨W.heap.size, l.length, (rowsE l).toArray, rfl, Nat.le_refl _, heap_alloc_new W _, Nat.le_refl _, by simp only [maxLen]; omega, by simp [rowsE_length], ?_⟩⟩
  rw [← rowsE_length l, List.take_length]
theorem row_new (W : World) (l : List S42) (hl : l.length ≤ 9223372036854775807) (hz : ∀ x ∈ l, x.f1.size ≤ 140737488351232) : Row (W.alloc (.cells (rowsE l).toArray 42)) (some ⟨W.heap.size, 0, none⟩) l := own_row (row_own_new W l hl) hz
theorem row_none (W : World) : Row W none [] := ⟨⟨rfl, by decide, fun h => absurd h (by decide)⟩, fun x hx => by cases hx⟩
def wkL : List S42 := [⟨3, ⟨#[98]⟩⟩]
def wkB : List Int := [0, 3, 1, 98, 0, 0, 0, 0, 0, 0, 0, 0, 0, 0, 0, 0, 0, 0, 0, 0, 0, 0, 0, 0, 0, 0, 0, 0]
theorem wk_bytes : putL wkL = wkB := by decide +kernel
theorem wk_may : mayE wkL = true := by decide +kernel
theorem wk_back : takeE wkB = some wkL := by rw [← wk_bytes]; exact take_put wk_may
theorem wk_two : takeE (wkB ++ wkB) = none := by kernel_rfl
theorem wk_range : ∀ x ∈ wkB ++ wkB, 0 ≤ x ∧ x < 256 := by decide +kernel
theorem wk_put (w : World) (hT : Lib.Utf8Tabs 1 2 w) :
    Calls Tryd.prog 10 #[.slice (some ⟨w.heap.size, 0, none⟩) 1 1] (w.alloc (.cells #[.int .i64 3, .string ⟨#[98]⟩] 42)) fun e w' => ∃ A c, e = .returned (.tuple #[.slice A 28 c, .int .i64 0]) ∧ ReadsInt w' .u8 A 28 wkB ∧ 28 ≤ c ∧ Below w.heap.size w w' := by
  have hb0 := below_alloc (Below.refl w.heap.size w) (.cells #[.int .i64 3, .string ⟨#[98]⟩] 42)
  refine (put_yes (w.alloc (.cells #[.int .i64 3, .string ⟨#[98]⟩] 42)) (some ⟨w.heap.size, 0, none⟩) 1 wkL (row_new w wkL (by decide) (by decide +kernel)) (Utf8Tabs_below hT hb0) wk_may).mono ?_
  rintro e w' ⟨v, rfl, ho, hb⟩
  rw [wk_bytes] at ho
  obtain ⟨A, c, rfl, hr⟩ := own_reads ho
  exact ⟨A, c, rfl, hr, own_cap ho, below_step hb0 hb⟩
theorem wk_take (W : World) (A : Option Addr) (c : Nat) (h : ReadsInt W .u8 A 28 wkB) (hc : 28 ≤ c) (hT : Lib.Utf8Tabs 1 2 W) :
    Calls Tryd.prog 12 #[.slice A 28 c] W fun e w' => ∃ ad c', e = .returned (.tuple #[.slice (some ad) 1 c', .int .i64 0]) ∧ w'.cell? ad = some (.int .i64 3) ∧ Below W.heap.size W w' := by
  have h1 := take_any A c wkB W hc (by decide) h (fun x hx => wk_range x (List.mem_append_left _ hx)) hT
  rw [wk_back] at h1
  refine Calls.mono h1 ?_
  rintro e w' ⟨v, x, rfl, ⟨rfl, ho⟩, hb⟩
  obtain ⟨A', c', rfl⟩ := own_slice ho
  obtain ⟨ad, rfl, h0, _⟩ := (own_row ho (by decide +kernel)).at_ (j := 0) (by decide)
  exact ⟨ad, c', rfl, h0, hb⟩
theorem wk_take2 (W : World) (A : Option Addr) (c : Nat) (h : ReadsInt W .u8 A 56 (wkB ++ wkB)) (hc : 56 ≤ c) (hT : Lib.Utf8Tabs 1 2 W) :
    Calls Tryd.prog 12 #[.slice A 56 c] W fun e w' => e = .returned (.tuple #[.slice none 0 0, .int .i64 5]) ∧ Below W.heap.size W w' := by
  have h1 := take_any A c (wkB ++ wkB) W hc (by decide) h wk_range hT
  rw [wk_two] at h1
  refine Calls.mono h1 ?_
  rintro e w' ⟨v, x, rfl, ⟨rfl, rfl⟩, hb⟩
  exact ⟨rfl, hb⟩
theorem wk_find (w : World) :
    Calls Tryd.prog 18 #[.slice (some ⟨w.heap.size, 0, none⟩) 2 2, .string ⟨#[98]⟩] (w.alloc (.cells #[.int .i64 1, .string ⟨#[97]⟩, .int .i64 2, .string ⟨#[99]⟩] 42)) fun e w' => e = .returned (.tuple #[.int .i64 1, .bool false]) ∧ Below w.heap.size w w' := by
  have hb0 := below_alloc (Below.refl w.heap.size w) (.cells #[.int .i64 1, .string ⟨#[97]⟩, .int .i64 2, .string ⟨#[99]⟩] 42)
  refine (find_any (some ⟨w.heap.size, 0, none⟩) 2 [⟨1, ⟨#[97]⟩⟩, ⟨2, ⟨#[99]⟩⟩] ⟨#[98]⟩ (w.alloc (.cells #[.int .i64 1, .string ⟨#[97]⟩, .int .i64 2, .string ⟨#[99]⟩] 42)) (row_new w [⟨1, ⟨#[97]⟩⟩, ⟨2, ⟨#[99]⟩⟩] (by decide) (by decide +kernel)) (by decide) (by decide +kernel) (by decide)).mono ?_
  rintro e w' ⟨rfl, hb⟩
  exact ⟨by kernel_rfl, below_step hb0 hb⟩
theorem wk_ins (w : World) (hT : Lib.Utf8Tabs 1 2 w) :
    Calls Tryd.prog 20 #[.slice none 0 0, .agg #[.int .i64 1, .string ⟨#[46]⟩]] w fun e w' => e = .returned (.tuple #[.slice none 0 0, .int .i64 31]) ∧ Below w.heap.size w w' :=
  ins_err none 0 [] 1 ⟨#[46]⟩ w (row_none w) (fun x hx => by cases hx) (by decide) hT (by decide) 31 (by kernel_rfl)
theorem wk_str : strOfNums (wkB.take 5) = ⟨#[0, 3, 1, 98, 0]⟩ := by kernel_rfl
set_option maxHeartbeats 4000000 in
set_option maxRecDepth 100000 in
theorem wakes_true (w : World) (hT : Lib.Utf8Tabs 1 2 w) : Calls Tryd.prog 17 #[] w fun e w' => e = .returned (.bool true) ∧ Below w.heap.size w w' := by
  have HT := Aside0.mk hT
  clear hT
  have HC5 := 5
  go_enter Tryd.func17, Tryd.ntmps17
  go_wp2_with (first
    | (have hz := HB6.out; clear hz; go_at_call 20; refine (wk_ins w6 (Utf8Tabs_below HT.out HB6.out)).mono ?_; rintro e w7 ⟨rfl, hb⟩; have HB7 := Aside0.mk (below_step HB6.out hb); have R7 := Aside0.mk (R6.out.below hb); have cc7 := pw_cell_below hb CC6.out; have s1 := string_of_reads (P := Tryd.prog) (src := 23) (dst := 9) Tryd.underlying23 Tryd.underlying5 Tryd.underlying9 (c := c1) (R7.out.take_ 5 (by decide)); rw [wk_str] at s1; have k28 := C1.out; clear hb)
    | (have hz := HB5.out; clear hz; go_at_call 18; refine (wk_find w5).mono ?_; rintro e w6 ⟨rfl, hb⟩; have HB6 := Aside0.mk (below_step HB5.out hb); have R6 := Aside0.mk (R5.out.below hb); have CC6 := Aside0.mk (pw_cell_below hb CC5.out); clear hb)
    | (have hz := HB4.out; clear hz; go_at_call 12; refine (wk_take2 w4 A4 c4 R4.out CP4.out (Utf8Tabs_below HT.out HB4.out)).mono ?_; rintro e w5 ⟨rfl, hb⟩; have HB5 := Aside0.mk (below_step HB4.out hb); have R5 := Aside0.mk (R14.out.below hb); have CC5 := Aside0.mk (pw_cell_below hb CC4.out); clear hb)
    | (have hz := HB3.out; clear hz; at_builtin; (with_reducible refine gate_dst (N := 26) rfl ?_); refine print_append_row (w0 := w2) w2.heap.size rfl (.tmp 24) (.tmp 25) 23 5 .u8 1 rfl Tryd.underlying23 infoU8 (by omega) v3 wkB wkB A1 28 c1 (by kernel_rfl) (by kernel_rfl) HO3.out R3.out HX3.out HX3.out.size (by decide) ?_; intro v4 w4 ho hb _ _; obtain ⟨A4, c4, rfl, hr4⟩ := own_reads ho; have CP4 := Aside0.mk (own_cap ho); have R4 := Aside0.mk hr4; have HB4 := Aside0.mk (below_step HB2.out hb); have R14 := Aside0.mk (R2.out.below hb); have CC4 := Aside0.mk (pw_cell_below hb CC2.out); clear ho hb hr4)
    | (have hz := HB2.out; clear hz; at_builtin; (with_reducible refine gate_dst (N := 24) rfl ?_); refine print_append_row (w0 := w2) w2.heap.size rfl (.const (.slice none 0 0)) (.tmp 23) 23 5 .u8 1 rfl Tryd.underlying23 infoU8 (by omega) (.slice none 0 0) [] wkB A1 28 c1 (by kernel_rfl) (by kernel_rfl) (own_nil _ _ _ _) R2.out (Below.refl _ _) (Nat.le_refl _) (by decide) ?_; intro v3 w3 ho hb _ _; rw [List.nil_append] at ho; have HO3 := Aside0.mk ho; have HX3 := Aside0.mk hb; have HB3 := Aside0.mk (below_step HB2.out hb); have R3 := Aside0.mk (R2.out.below hb); have CC3 := Aside0.mk (pw_cell_below hb CC2.out); clear ho hb)
    | (have hz := HB1.out; clear hz; go_at_call 12; refine (wk_take w1 A1 c1 R1.out C1.out (Utf8Tabs_below HT.out HB1.out)).mono ?_; rintro e w2 ⟨ad, c2, rfl, hcell, hb⟩; have HB2 := Aside0.mk (below_step HB1.out hb); have R2 := Aside0.mk (R1.out.below hb); have CC2 := Aside0.mk hcell; clear hcell hb)
    | (go_at_call 10; refine (wk_put w HT.out).mono ?_; rintro e w1 ⟨A1, c1, rfl, hr, hc, hb⟩; have R1 := Aside0.mk hr; have C1 := Aside0.mk hc; have HB1 := Aside0.mk hb; clear hr hc hb))
  go_ret
  exact ⟨rfl, HB7.out⟩
end Go.Proofs.YtneanbckmekdkaaDoor.EN

end

section
/- entry.Set: where it refuses; a row of entries behind another; own. -/
namespace Go.Proofs.YtneanbckmekdkaaDoor.EN
open Go Go.RowKit Go.Proofs.YtneanbckmekdkaaDoorX Go.Proofs.YtneanbckmekdkaaDoor.NM Go.Proofs.YtneanbckmekdkaaDoorW.PrintWords Go.Proofs.YtneanbckmekdkaaDoorW.PrintLast Go.Proofs.YtneanbckmekdkaaDoorW.PrintMore Go.Proofs.YtneanbckmekdkaaDoor.PEntryForms
set_option linter.unusedVariables false
set_option linter.unusedSimpArgs false
/-- Why a number may not be set. -/
def setErr (l : List S42) (nm : ByteArray) (x : Int) : Option Int := if mayE l = true ∧ okIno x = true then (if isE l nm = true then none else some 32) else some 1
set_option maxHeartbeats 2000000 in
theorem set_may (A : Option Addr) (c : Nat) (l : List S42) (nm : ByteArray) (x : Int) (w : World) (hr : Row w A l) (hl : l.length ≤ 9223372036854775807) (hz : ∀ x ∈ l, x.f1.size ≤ 17592186044416) (hn : nm.size ≤ 17592186044416) (hT : Lib.Utf8Tabs 1 2 w) (HM : Aside0 (mayE l = false)) :
    Calls Tryd.prog 21 #[.slice A l.length c, .string nm, .int .i64 x] w fun e w' => e = .returned (.tuple #[.slice none 0 0, .int .i64 0, .int .i64 1]) ∧ Below w.heap.size w w' := by
  have HR := Aside0.mk hr
  have HL := Aside0.mk hl
  have HZ := Aside0.mk hz
  have HN := Aside0.mk hn
  have HT := Aside0.mk hT
  obtain ⟨J, HAT⟩ : ∃ J, Aside0 (atE l nm = J) := ⟨_, ⟨rfl⟩⟩
  clear hr hl hz hn hT
  go_enter Tryd.func21, Tryd.ntmps21
  go_wp2_with (first
    | (go_at_call 15; refine (may_any w A c l HR.out HT.out).mono ?_; rw [HM.out]; rintro e w1 ⟨rfl, hb⟩; have HB1 := Aside0.mk hb; clear hb))
  refine bodyPost_ret (results_tmp3 rfl _ _ _) rfl ?_
  exact ⟨rfl, HB1.out⟩
set_option maxHeartbeats 2000000 in
theorem set_ino (A : Option Addr) (c : Nat) (l : List S42) (nm : ByteArray) (x : Int) (w : World) (hr : Row w A l) (hl : l.length ≤ 9223372036854775807) (hz : ∀ x ∈ l, x.f1.size ≤ 17592186044416) (hn : nm.size ≤ 17592186044416) (hT : Lib.Utf8Tabs 1 2 w) (HM : Aside0 (mayE l = true)) (HI : Aside0 (okIno x = false)) :
    Calls Tryd.prog 21 #[.slice A l.length c, .string nm, .int .i64 x] w fun e w' => e = .returned (.tuple #[.slice none 0 0, .int .i64 0, .int .i64 1]) ∧ Below w.heap.size w w' := by
  have HR := Aside0.mk hr
  have HL := Aside0.mk hl
  have HZ := Aside0.mk hz
  have HN := Aside0.mk hn
  have HT := Aside0.mk hT
  obtain ⟨J, HAT⟩ : ∃ J, Aside0 (atE l nm = J) := ⟨_, ⟨rfl⟩⟩
  clear hr hl hz hn hT
  go_enter Tryd.func21, Tryd.ntmps21
  go_wp2_with (first
    | (have hz := HB1.out; clear hz; go_at_call 29; refine (may_call x w1).mono ?_; rw [HI.out]; rintro e w2 ⟨rfl, hb⟩; have HB2 := Aside0.mk (below_step HB1.out hb); clear hb)
    | (go_at_call 15; refine (may_any w A c l HR.out HT.out).mono ?_; rw [HM.out]; rintro e w1 ⟨rfl, hb⟩; have HB1 := Aside0.mk hb; clear hb))
  refine bodyPost_ret (results_tmp3 rfl _ _ _) rfl ?_
  exact ⟨rfl, HB2.out⟩
set_option maxHeartbeats 2000000 in
theorem set_none (A : Option Addr) (c : Nat) (l : List S42) (nm : ByteArray) (x : Int) (w : World) (hr : Row w A l) (hl : l.length ≤ 9223372036854775807) (hz : ∀ x ∈ l, x.f1.size ≤ 17592186044416) (hn : nm.size ≤ 17592186044416) (hT : Lib.Utf8Tabs 1 2 w) (HM : Aside0 (mayE l = true)) (HI : Aside0 (okIno x = true)) (HE : Aside0 (isE l nm = false)) :
    Calls Tryd.prog 21 #[.slice A l.length c, .string nm, .int .i64 x] w fun e w' => e = .returned (.tuple #[.slice none 0 0, .int .i64 0, .int .i64 32]) ∧ Below w.heap.size w w' := by
  have HR := Aside0.mk hr
  have HL := Aside0.mk hl
  have HZ := Aside0.mk hz
  have HN := Aside0.mk hn
  have HT := Aside0.mk hT
  obtain ⟨J, HAT⟩ : ∃ J, Aside0 (atE l nm = J) := ⟨_, ⟨rfl⟩⟩
  clear hr hl hz hn hT
  go_enter Tryd.func21, Tryd.ntmps21
  go_wp2_with (first
    | (have hz := HB2.out; clear hz; go_at_call 18; refine (find_any A c l nm w2 (HR.out.below HB2.out) HL.out HZ.out HN.out).mono ?_; rw [HE.out, HAT.out]; rintro e w3 ⟨rfl, hb⟩; have HB3 := Aside0.mk (below_step HB2.out hb); clear hb)
    | (have hz := HB1.out; clear hz; go_at_call 29; refine (may_call x w1).mono ?_; rw [HI.out]; rintro e w2 ⟨rfl, hb⟩; have HB2 := Aside0.mk (below_step HB1.out hb); clear hb)
    | (go_at_call 15; refine (may_any w A c l HR.out HT.out).mono ?_; rw [HM.out]; rintro e w1 ⟨rfl, hb⟩; have HB1 := Aside0.mk hb; clear hb))
  refine bodyPost_ret (results_tmp3 rfl _ _ _) rfl ?_
  exact ⟨rfl, HB3.out⟩
theorem set_err (A : Option Addr) (c : Nat) (l : List S42) (nm : ByteArray) (x : Int) (w : World) (hr : Row w A l) (hl : l.length ≤ 9223372036854775807) (hz : ∀ x ∈ l, x.f1.size ≤ 17592186044416) (hn : nm.size ≤ 17592186044416) (hT : Lib.Utf8Tabs 1 2 w) (y : Int) (he : setErr l nm x = some y) :
    Calls Tryd.prog 21 #[.slice A l.length c, .string nm, .int .i64 x] w fun e w' => e = .returned (.tuple #[.slice none 0 0, .int .i64 0, .int .i64 y]) ∧ Below w.heap.size w w' := by
  unfold setErr at he
  cases hm : mayE l with
  | false =>
    rw [hm, if_neg (by simp)] at he
    cases he
    exact set_may A c l nm x w hr hl hz hn hT ⟨hm⟩
  | true =>
    cases hi : okIno x with
    | false =>
      rw [hm, hi, if_neg (by simp)] at he
      cases he
      exact set_ino A c l nm x w hr hl hz hn hT ⟨hm⟩ ⟨hi⟩
    | true =>
      rw [hm, hi, if_pos (by simp)] at he
      cases hx : isE l nm with
      | true => rw [hx, if_pos rfl] at he; cases he
      | false =>
        rw [hx, if_neg (by simp)] at he
        cases he
        exact set_none A c l nm x w hr hl hz hn hT ⟨hm⟩ ⟨hi⟩ ⟨hx⟩
theorem rowsE_append (a b : List S42) : rowsE (a ++ b) = rowsE a ++ rowsE b := by simp [rowsE]
theorem rowsE_one (l : List S42) : ∀ u ∈ rowsE l, u.oneCell' = true := by
  intro u hu
  rw [rowsE, List.mem_flatMap] at hu
  obtain ⟨x, _, hx⟩ := hu
  simp only [List.mem_cons, List.not_mem_nil, or_false] at hx
  rcases hx with rfl | rfl <;> rfl
theorem rowsE_get {l : List S42} : ∀ {j : Nat} {u : Value}, (rowsE l)[j]? = some u → ∃ i, i < l.length ∧ ((j = i * 2 ∧ u = .int .i64 (inoAt l i)) ∨ (j = i * 2 + 1 ∧ u = .string (nameAt l i))) := by
  induction l with
  | nil => intro j u h; cases h
  | cons x l ih =>
    intro j u h
    have hc : rowsE (x :: l) = Value.int .i64 x.f0 :: Value.string x.f1 :: rowsE l := by simp [rowsE]
    rw [hc] at h
    match j, h with
    | 0, h => cases h; exact ⟨0, by simp, .inl ⟨rfl, rfl⟩⟩
    | 1, h => cases h; exact ⟨0, by simp, .inr ⟨rfl, rfl⟩⟩
    | j + 2, h =>
      obtain ⟨i, hi, hu⟩ := ih (j := j) (u := u) (by simpa using h)
      have e1 : inoAt (x :: l) (i + 1) = inoAt l i := by
        have a := (at_get (l := x :: l) (i := i + 1) (by simp; omega)).1
        rw [a, (at_get hi).1]; rfl
      have e2 : nameAt (x :: l) (i + 1) = nameAt l i := by
        have a := (at_get (l := x :: l) (i := i + 1) (by simp; omega)).2
        rw [a, (at_get hi).2]; rfl
      refine ⟨i + 1, by simp; omega, ?_⟩
      rw [e1, e2]
      rcases hu with ⟨h1, h2⟩ | ⟨h1, h2⟩
      · exact .inl ⟨by omega, h2⟩
      · exact .inr ⟨by omega, h2⟩
theorem row_news {w : World} {A : Option Addr} {l : List S42} (h : Row w A l) (h0 : 0 < l.length) : ∃ ad, A = some ad ∧ ∀ j u, (rowsE l)[j]? = some u → w.cell? (ad.add j) = some u := by
  obtain ⟨ad, rfl, _⟩ := h.at_ h0
  refine ⟨ad, rfl, fun j u hu => ?_⟩
  obtain ⟨i, hi, hc⟩ := rowsE_get hu
  obtain ⟨ad', e, c0, c1⟩ := h.at_ hi
  cases e
  rcases hc with ⟨rfl, rfl⟩ | ⟨rfl, rfl⟩
  · exact c0
  · rw [add_field _ _ 1 (by decide)]; exact c1
theorem infoEnt' : (Tryd.prog.info? 42).map (fun i => (i.zero, i.size, i.bytes)) = some (some (.agg #[.int .i64 0, .string ⟨#[]⟩]), 2, 24) := by kernel_rfl
section
variable {o : Oper} {a : Act} {K : Act → World → Prop} {Q : Exit → Act → World → Prop}
/-- append(v, x...), entries: at an operation. -/
theorem wp_append_ents (s x : Operand) (ho : o.op = .call { callee := .builtin .append, args := #[s, x], argTypes := #[22, 22] }) {W : World} (base : Nat) (v : Value) (xs ys : List S42) (A : Option Addr) (c : Nat) (hs : a.eval s = v) (hx : a.eval x = .slice A ys.length c)
    (HO : W.ownsRow base 42 2 v xs.length (rowsE xs)) (HR : Row W A ys) (hbase : base ≤ W.heap.size) (hl : xs.length + ys.length ≤ 5864062014700)
    (h : ∀ v1 w1, w1.ownsRow base 42 2 v1 (xs ++ ys).length (rowsE (xs ++ ys)) → W.grownBy w1 v.ownBlock → K (a.put o.dst v1) w1) : o.wp Tryd.prog a W K Q := by
  obtain ⟨i0, hi, hz0, hz1, hz2⟩ := info_parts infoEnt'
  rcases Nat.eq_zero_or_pos ys.length with h0 | h0
  · obtain rfl : ys = [] := List.eq_nil_of_length_eq_zero h0
    have h1 := h v W (by simpa using HO) (World.grownBy.refl W _)
    cases A with
    | some ad =>
      refine wp_append_own_wide W s x 22 ho base 42 i0 (.agg #[.int .i64 0, .string ⟨#[]⟩]) 2 24 Tryd.underlying22 hi hz0 hz1 hz2 rfl (by decide) v xs.length _ hs HO ad 0 c [] hx rfl (fun j u hu => by cases hu) (fun u hu => by cases hu) (by simp only [maxLen, List.length_nil] at *; omega) (by simp only [List.length_nil] at hl; omega) hbase ?_
      intro v1 w1 ho1 hg _
      exact h v1 w1 (by simpa using ho1) hg
    | none =>
      unfold Oper.wp execOp
      have hrun : (Builtin.append_ #[22, 22] o.type #[v, .slice none 0 c]).run Tryd.prog W = .ok v W := by
        rcases HO.2 with ⟨rfl, hn⟩ | ⟨g, cap, cur, rfl, _, _, hnc, _⟩
        · simp [Builtin.append_, run_underlying Tryd.underlying22, sizeOf, typeInfo, hi, Builtin.lenOf, Builtin.firstCells]
        · simp [Builtin.append_, run_underlying Tryd.underlying22, sizeOf, typeInfo, hi, Builtin.lenOf, Builtin.firstCells, hnc, storeCells]
      have hx' : a.eval x = .slice none 0 c := hx
      simp only [ho, resolve, invoke, builtin, Sem.run_bind, Sem.run_pure, Result.andThen_ok, List.map_toArray, List.map_cons, List.map_nil, hs, hx', hrun]
      exact h1
  · obtain ⟨ad, rfl, hc⟩ := row_news HR h0
    refine wp_append_own_wide W s x 22 ho base 42 i0 (.agg #[.int .i64 0, .string ⟨#[]⟩]) 2 24 Tryd.underlying22 hi hz0 hz1 hz2 rfl (by decide) v xs.length _ hs HO ad ys.length c (rowsE ys) hx (rowsE_length ys) hc (rowsE_one ys) (by simp only [maxLen]; omega) (by omega) hbase ?_
    intro v1 w1 ho1 hg _
    exact h v1 w1 (by rw [List.length_append, rowsE_append]; exact ho1) hg
theorem ev_append_ents {ops : Array Oper} {rest : List Oper} (hgd : o.guard = none) (s x : Operand) (ho : o.op = .call { callee := .builtin .append, args := #[s, x], argTypes := #[22, 22] }) {W : World} (base : Nat) (v : Value) (xs ys : List S42) (A : Option Addr) (c : Nat) (hs : a.eval s = v) (hx : a.eval x = .slice A ys.length c)
    (HO : W.ownsRow base 42 2 v xs.length (rowsE xs)) (HR : Row W A ys) (hbase : base ≤ W.heap.size) (hl : xs.length + ys.length ≤ 5864062014700)
    (h : ∀ v1 w1, w1.ownsRow base 42 2 v1 (xs ++ ys).length (rowsE (xs ++ ys)) → W.grownBy w1 v.ownBlock → wpList Tryd.prog ops Q rest (a.put o.dst v1) w1) : wpList Tryd.prog ops Q (o :: rest) a W :=
  wpList_plain hgd fun _ hK => wp_append_ents s x ho base v xs ys A c hs hx HO HR hbase hl (fun v1 w1 h1 h2 => hK _ _ (h v1 w1 h1 h2))
end
theorem own_any (A : Option Addr) (c : Nat) (l : List S42) (w : World) (hr : Row w A l) (hl : l.length ≤ 5864062014700) :
    Calls Tryd.prog 9 #[.slice A l.length c] w fun e w' => ∃ B d, e = .returned (.slice B l.length d) ∧ w'.ownsRow w.heap.size 42 2 (.slice B l.length d) l.length (rowsE l) ∧ Below w.heap.size w w' := by
  have HR := Aside0.mk hr
  have HL := Aside0.mk hl
  clear hr hl
  go_enter Tryd.func9, Tryd.ntmps9
  go_wp2_with (at_builtin; (with_reducible refine gate_dst (N := 4) rfl ?_); refine ev_append_ents rfl (.const (.slice none 0 0)) (.tmp 3) rfl w.heap.size (.slice none 0 0) [] l A c (by kernel_rfl) (by kernel_rfl) (own_nil _ _ _ _) HR.out (Nat.le_refl _) (by have := HL.out; simp; omega) ?_; intro v1 w1 ho hg; rw [List.nil_append] at ho; have HO := Aside0.mk ho; have HB := Aside0.mk (pw_below_grown (Below.refl w.heap.size w) _ (Nat.le_refl _) hg (fun k e => by simp [Value.ownBlock] at e)); clear ho hg)
  go_ret
  obtain ⟨B, d, rfl⟩ := own_slice HO.out
  exact ⟨B, d, rfl, HO.out, HB.out⟩
end Go.Proofs.YtneanbckmekdkaaDoor.EN

end

section
/- EntryBack: the law's own walk. -/
namespace Go.Proofs.YtneanbckmekdkaaDoor.EN
open Go Go.RowKit Go.Proofs.YtneanbckmekdkaaDoorX Go.Proofs.YtneanbckmekdkaaDoor.NM Go.Proofs.YtneanbckmekdkaaDoorW.PrintWords Go.Proofs.YtneanbckmekdkaaDoorW.PrintLast Go.Proofs.YtneanbckmekdkaaDoorW.PrintMore Go.Proofs.YtneanbckmekdkaaDoor.PEntryForms
set_option linter.unusedVariables false
set_option linter.unusedSimpArgs false
theorem same_l (l : List S42) (hl : l.length ≤ 9223372036854775806) : ∀ (j k i : Nat), l.length ≤ i + j → i ≤ l.length → hayrickref12_Same.l0 (k + 1 + j) l l i = some true
  | 0, k, i, h, h2 => by
    rw [show k + 1 + 0 = k + 1 by omega, hayrickref12_Same.l0, if_neg (by omega)]
  | j + 1, k, i, h, h2 => by
    rw [show k + 1 + (j + 1) = (k + 1 + j) + 1 by omega, hayrickref12_Same.l0]
    by_cases hi : i < l.length
    · have hw : wrap64 ((i : Int) + 1) = ((i + 1 : Nat) : Int) := by unfold wrap64; omega
      rw [if_pos (by omega), if_pos (by omega), if_pos (by omega), if_neg (by simp), hw]
      exact same_l l hl j k (i + 1) (by omega) (by omega)
    · rw [if_neg (by omega)]
theorem same_refl (l : List S42) (hl : l.length ≤ 9223372036854775806) : hayrickref12_Same.f (0 + 1 + l.length) l l = some true := by
  rw [hayrickref12_Same.f, if_pos rfl]
  exact same_l l hl l.length 0 0 (by omega) (Nat.zero_le _)
theorem same_call (W : World) (A1 A2 : Option Addr) (c1 c2 : Nat) (l : List S42) (hl : l.length ≤ 9223372036854775806) (h1 : Row W A1 l) (h2 : Row W A2 l) (hc1 : l.length ≤ c1) (hc2 : l.length ≤ c2) :
    Calls Tryd.prog 14 #[.slice A1 l.length c1, .slice A2 l.length c2] W fun e w' => e = .returned (.bool true) ∧ Below W.heap.size W w' :=
  (hayrickref12_Same.calls _ A1 c1 l A2 c2 l true W h1.c hc1 h2.c hc2 (same_refl l hl)).mono fun e w' h => ⟨h.1, h.2.below⟩
theorem putL_range {l : List S42} (h : MayP l) : ∀ x ∈ putL l, 0 ≤ x ∧ x < 256 := by
  intro y hy
  rw [putL, List.mem_flatMap] at hy
  obtain ⟨x, hx, hy⟩ := hy
  obtain ⟨i, hi, rfl⟩ := List.getElem_of_mem hx
  have he := h.entry hi
  rw [(at_get hi).1, (at_get hi).2] at he
  unfold encE at hy
  simp only [List.mem_append, List.mem_cons, List.not_mem_nil, or_false] at hy
  rcases hy with ((rfl | rfl | rfl) | hy) | hy
  · omega
  · omega
  · omega
  · unfold bytesOf at hy
    obtain ⟨b, _, rfl⟩ := List.mem_map.1 hy
    have := b.toNat_lt
    omega
  · have := List.eq_of_mem_replicate hy
    omega
set_option maxHeartbeats 4000000 in
set_option maxRecDepth 100000 in
theorem back_00 (A : Option Addr) (c : Nat) (l : List S42) (B : Option Addr) (d : Nat) (b : List Int) (w : World) (hr : Row w A l) (hc : l.length ≤ c) (hl63 : l.length ≤ 9223372036854775806) (hb : ReadsInt w .u8 B b.length b) (hd : b.length ≤ d) (h63 : b.length ≤ 140737488355328) (hby : ∀ x ∈ b, 0 ≤ x ∧ x < 256) (hT : Lib.Utf8Tabs 1 2 w) (HM : Aside0 (mayE l = false)) (HTB : Aside0 (takeE b = none)) :
    Calls Tryd.prog 5 #[.slice A l.length c, .slice B b.length d] w fun e w' => e = .returned (.bool true) ∧ Below w.heap.size w w' := by
  have HR := Aside0.mk hr
  have HC := Aside0.mk hc
  have HL := Aside0.mk hl63
  have HBR := Aside0.mk hb
  have HD := Aside0.mk hd
  have H63 := Aside0.mk h63
  have HBY := Aside0.mk hby
  have HT := Aside0.mk hT
  clear hr hc hl63 hb hd h63 hby hT
  go_enter Tryd.func5, Tryd.ntmps5
  go_wp2_with (first
    | (have hz := HB3.out; clear hz; go_at_call 17; refine (Calls.mono (wakes_true w3 (Utf8Tabs_below HT.out HB3.out)) ?_); rintro e w4 ⟨rfl, hb⟩; have HB4 := Aside0.mk (below_step HB3.out hb); clear hb)
    | (have hz := HB2.out; clear hz; go_at_call 12; refine (Calls.mono (take_any B d b w2 HD.out H63.out (HBR.out.below HB2.out) HBY.out (Utf8Tabs_below HT.out HB2.out)) ?_); rw [HTB.out]; rintro e w3 ⟨v5, x5, rfl, ⟨rfl, rfl⟩, hb⟩; have HB3 := Aside0.mk (below_step HB2.out hb); clear hb)
    | (have hz := HB1.out; clear hz; go_at_call 15; refine (Calls.mono (may_any w1 A c l (HR.out.below HB1.out) (Utf8Tabs_below HT.out HB1.out)) ?_); rw [HM.out]; rintro e w2 ⟨rfl, hb⟩; have HB2 := Aside0.mk (below_step HB1.out hb); clear hb)
    | (go_at_call 10; refine (Calls.mono (put_no w A c l HR.out HT.out HM.out) ?_); rintro e w1 ⟨rfl, hb⟩; have HB1 := Aside0.mk hb; clear hb))
  go_ret
  exact ⟨rfl, HB4.out⟩
set_option maxHeartbeats 4000000 in
set_option maxRecDepth 100000 in
theorem back_01 (A : Option Addr) (c : Nat) (l : List S42) (B : Option Addr) (d : Nat) (b : List Int) (w : World) (hr : Row w A l) (hc : l.length ≤ c) (hl63 : l.length ≤ 9223372036854775806) (hb : ReadsInt w .u8 B b.length b) (hd : b.length ≤ d) (h63 : b.length ≤ 140737488355328) (hby : ∀ x ∈ b, 0 ≤ x ∧ x < 256) (hT : Lib.Utf8Tabs 1 2 w) (HM : Aside0 (mayE l = false)) (y : List S42) (HTB : Aside0 (takeE b = some y)) :
    Calls Tryd.prog 5 #[.slice A l.length c, .slice B b.length d] w fun e w' => e = .returned (.bool true) ∧ Below w.heap.size w w' := by
  have HR := Aside0.mk hr
  have HC := Aside0.mk hc
  have HL := Aside0.mk hl63
  have HBR := Aside0.mk hb
  have HD := Aside0.mk hd
  have H63 := Aside0.mk h63
  have HBY := Aside0.mk hby
  have HT := Aside0.mk hT
  have HYM := Aside0.mk (take_some HTB.out).1
  have HYP := Aside0.mk (take_some HTB.out).2
  have HYZ := Aside0.mk (show ∀ x ∈ y, x.f1.size ≤ 140737488351232 from fun x hx => by have := ((mayE_iff y).1 HYM.out).sizes x hx; omega)
  clear hr hc hl63 hb hd h63 hby hT
  go_enter Tryd.func5, Tryd.ntmps5
  go_wp2_with (first
    | (have hz := HB5.out; clear hz; go_at_call 17; refine (Calls.mono (wakes_true w5 (Utf8Tabs_below HT.out HB5.out)) ?_); rintro e w6 ⟨rfl, hb⟩; have HB6 := Aside0.mk (below_step HB5.out hb); clear hb)
    | (have hz := HB4.out; clear hz; go_at_call 15; refine (Calls.mono (may_any w4 A5 c5 y R5b.out (Utf8Tabs_below HT.out HB4.out)) ?_); rw [HYM.out]; rintro e w5 ⟨rfl, hb⟩; have HB5 := Aside0.mk (below_step HB4.out hb); clear hb)
    | (have hz := HB3.out; clear hz; go_at_call 10; refine (Calls.mono (put_yes w3 A5 c5 y R5.out (Utf8Tabs_below HT.out HB3.out) HYM.out) ?_); rw [HYP.out]; rintro e w4 ⟨v6, rfl, ho, hb⟩; have HB4 := Aside0.mk (below_step HB3.out hb); obtain ⟨A6, c6, rfl, hq⟩ := own_reads ho; have R5b := Aside0.mk (R5.out.below hb); have s1 := string_of_reads (P := Tryd.prog) (src := 23) (dst := 9) Tryd.underlying23 Tryd.underlying5 Tryd.underlying9 (c := c6) hq; have s2 := string_of_reads (P := Tryd.prog) (src := 23) (dst := 9) Tryd.underlying23 Tryd.underlying5 Tryd.underlying9 (c := d) ((HBR.out.below HB3.out).below hb); clear ho hq; clear hb)
    | (have hz := HB2.out; clear hz; go_at_call 12; refine (Calls.mono (take_any B d b w2 HD.out H63.out (HBR.out.below HB2.out) HBY.out (Utf8Tabs_below HT.out HB2.out)) ?_); rw [HTB.out]; rintro e w3 ⟨v5, x5, rfl, ⟨rfl, ho⟩, hb⟩; have HB3 := Aside0.mk (below_step HB2.out hb); obtain ⟨A5, c5, rfl⟩ := own_slice ho; have R5 := Aside0.mk (own_row ho HYZ.out); clear ho; clear hb)
    | (have hz := HB1.out; clear hz; go_at_call 15; refine (Calls.mono (may_any w1 A c l (HR.out.below HB1.out) (Utf8Tabs_below HT.out HB1.out)) ?_); rw [HM.out]; rintro e w2 ⟨rfl, hb⟩; have HB2 := Aside0.mk (below_step HB1.out hb); clear hb)
    | (go_at_call 10; refine (Calls.mono (put_no w A c l HR.out HT.out HM.out) ?_); rintro e w1 ⟨rfl, hb⟩; have HB1 := Aside0.mk hb; clear hb))
  go_ret
  exact ⟨rfl, HB6.out⟩
set_option maxHeartbeats 4000000 in
set_option maxRecDepth 100000 in
theorem back_10 (A : Option Addr) (c : Nat) (l : List S42) (B : Option Addr) (d : Nat) (b : List Int) (w : World) (hr : Row w A l) (hc : l.length ≤ c) (hl63 : l.length ≤ 9223372036854775806) (hb : ReadsInt w .u8 B b.length b) (hd : b.length ≤ d) (h63 : b.length ≤ 140737488355328) (hby : ∀ x ∈ b, 0 ≤ x ∧ x < 256) (hT : Lib.Utf8Tabs 1 2 w) (HM : Aside0 (mayE l = true)) (HTB : Aside0 (takeE b = none)) :
    Calls Tryd.prog 5 #[.slice A l.length c, .slice B b.length d] w fun e w' => e = .returned (.bool true) ∧ Below w.heap.size w w' := by
  have HR := Aside0.mk hr
  have HC := Aside0.mk hc
  have HL := Aside0.mk hl63
  have HBR := Aside0.mk hb
  have HD := Aside0.mk hd
  have H63 := Aside0.mk h63
  have HBY := Aside0.mk hby
  have HT := Aside0.mk hT
  have HP := Aside0.mk ((mayE_iff l).1 HM.out)
  have hpy := put_yes w A c l hr hT HM.out
  have hlen := putL_length l HP.out.sizes
  have HTK0 := take_put HM.out
  have hpr := putL_range HP.out
  obtain ⟨PL, hPL⟩ : ∃ PL, putL l = PL := ⟨_, rfl⟩
  rw [hPL] at hpy hlen HTK0 hpr
  have HPY := Aside0.mk hpy
  have HTK := Aside0.mk HTK0
  have HPR := Aside0.mk hpr
  have hl64 := HP.out.1
  have HPL := Aside0.mk (show PL.length ≤ 140737488355328 ∧ PL.length = 28 * l.length from ⟨by omega, hlen⟩)
  have hwl : IntKind.wrap .i64 (28 * (l.length : Int)) = (PL.length : Int) := (IntWalk.i64_in _ ⟨by omega, by omega⟩).trans (by omega)
  have HSZ := Aside0.mk (show ∀ x ∈ l, x.f1.size ≤ 140737488351232 from hr.z)
  clear hpy hlen HTK0 hpr hPL hl64
  clear hr hc hl63 hb hd h63 hby hT
  go_enter Tryd.func5, Tryd.ntmps5
  go_wp2_with (first
    | (have hz := HB5.out; clear hz; go_at_call 17; refine (Calls.mono (wakes_true w5 (Utf8Tabs_below HT.out HB5.out)) ?_); rintro e w6 ⟨rfl, hb⟩; have HB6 := Aside0.mk (below_step HB5.out hb); clear hb)
    | (have hz := HB4.out; clear hz; go_at_call 12; refine (Calls.mono (take_any B d b w4 HD.out H63.out (HBR.out.below HB4.out) HBY.out (Utf8Tabs_below HT.out HB4.out)) ?_); rw [HTB.out]; rintro e w5 ⟨v5, x5, rfl, ⟨rfl, rfl⟩, hb⟩; have HB5 := Aside0.mk (below_step HB4.out hb); clear hb)
    | (have hz := HB3.out; clear hz; go_at_call 14; refine (Calls.mono (same_call w3 A3 A c3 c l HL.out R3.out (HR.out.below HB3.out) C3.out HC.out) ?_); rintro e w4 ⟨rfl, hb⟩; have HB4 := Aside0.mk (below_step HB3.out hb); clear hb)
    | (have hz := HB2.out; clear hz; go_at_call 12; refine (Calls.mono (take_any A1 c1 PL w2 CP.out HPL.out.1 (RP.out.below HB12.out) HPR.out (Utf8Tabs_below HT.out HB2.out)) ?_); rw [HTK.out]; rintro e w3 ⟨v3, x3, rfl, ⟨rfl, ho⟩, hb⟩; have HB3 := Aside0.mk (below_step HB2.out hb); obtain ⟨A3, c3, rfl⟩ := own_slice ho; have R3 := Aside0.mk (own_row ho HSZ.out); have C3 := Aside0.mk (own_cap ho); clear ho; clear hb)
    | (have hz := HB1.out; clear hz; go_at_call 15; refine (Calls.mono (may_any w1 A c l (HR.out.below HB1.out) (Utf8Tabs_below HT.out HB1.out)) ?_); rw [HM.out]; rintro e w2 ⟨rfl, hb⟩; have HB2 := Aside0.mk (below_step HB1.out hb); have HB12 := Aside0.mk hb; clear hb)
    | (go_at_call 10; refine (Calls.mono (HPY.out) ?_); rintro e w1 ⟨v1, rfl, ho, hb⟩; have HB1 := Aside0.mk hb; obtain ⟨A1, c1, rfl, hq⟩ := own_reads ho; have RP := Aside0.mk hq; have CP := Aside0.mk (own_cap ho); clear ho hq; clear hb))
  go_ret
  exact ⟨rfl, HB6.out⟩
set_option maxHeartbeats 4000000 in
set_option maxRecDepth 100000 in
theorem back_11 (A : Option Addr) (c : Nat) (l : List S42) (B : Option Addr) (d : Nat) (b : List Int) (w : World) (hr : Row w A l) (hc : l.length ≤ c) (hl63 : l.length ≤ 9223372036854775806) (hb : ReadsInt w .u8 B b.length b) (hd : b.length ≤ d) (h63 : b.length ≤ 140737488355328) (hby : ∀ x ∈ b, 0 ≤ x ∧ x < 256) (hT : Lib.Utf8Tabs 1 2 w) (HM : Aside0 (mayE l = true)) (y : List S42) (HTB : Aside0 (takeE b = some y)) :
    Calls Tryd.prog 5 #[.slice A l.length c, .slice B b.length d] w fun e w' => e = .returned (.bool true) ∧ Below w.heap.size w w' := by
  have HR := Aside0.mk hr
  have HC := Aside0.mk hc
  have HL := Aside0.mk hl63
  have HBR := Aside0.mk hb
  have HD := Aside0.mk hd
  have H63 := Aside0.mk h63
  have HBY := Aside0.mk hby
  have HT := Aside0.mk hT
  have HP := Aside0.mk ((mayE_iff l).1 HM.out)
  have hpy := put_yes w A c l hr hT HM.out
  have hlen := putL_length l HP.out.sizes
  have HTK0 := take_put HM.out
  have hpr := putL_range HP.out
  obtain ⟨PL, hPL⟩ : ∃ PL, putL l = PL := ⟨_, rfl⟩
  rw [hPL] at hpy hlen HTK0 hpr
  have HPY := Aside0.mk hpy
  have HTK := Aside0.mk HTK0
  have HPR := Aside0.mk hpr
  have hl64 := HP.out.1
  have HPL := Aside0.mk (show PL.length ≤ 140737488355328 ∧ PL.length = 28 * l.length from ⟨by omega, hlen⟩)
  have hwl : IntKind.wrap .i64 (28 * (l.length : Int)) = (PL.length : Int) := (IntWalk.i64_in _ ⟨by omega, by omega⟩).trans (by omega)
  have HSZ := Aside0.mk (show ∀ x ∈ l, x.f1.size ≤ 140737488351232 from hr.z)
  clear hpy hlen HTK0 hpr hPL hl64
  have HYM := Aside0.mk (take_some HTB.out).1
  have HYP := Aside0.mk (take_some HTB.out).2
  have HYZ := Aside0.mk (show ∀ x ∈ y, x.f1.size ≤ 140737488351232 from fun x hx => by have := ((mayE_iff y).1 HYM.out).sizes x hx; omega)
  clear hr hc hl63 hb hd h63 hby hT
  go_enter Tryd.func5, Tryd.ntmps5
  go_wp2_with (first
    | (have hz := HB7.out; clear hz; go_at_call 17; refine (Calls.mono (wakes_true w7 (Utf8Tabs_below HT.out HB7.out)) ?_); rintro e w8 ⟨rfl, hb⟩; have HB8 := Aside0.mk (below_step HB7.out hb); clear hb)
    | (have hz := HB6.out; clear hz; go_at_call 15; refine (Calls.mono (may_any w6 A5 c5 y R5b.out (Utf8Tabs_below HT.out HB6.out)) ?_); rw [HYM.out]; rintro e w7 ⟨rfl, hb⟩; have HB7 := Aside0.mk (below_step HB6.out hb); clear hb)
    | (have hz := HB5.out; clear hz; go_at_call 10; refine (Calls.mono (put_yes w5 A5 c5 y R5.out (Utf8Tabs_below HT.out HB5.out) HYM.out) ?_); rw [HYP.out]; rintro e w6 ⟨v6, rfl, ho, hb⟩; have HB6 := Aside0.mk (below_step HB5.out hb); obtain ⟨A6, c6, rfl, hq⟩ := own_reads ho; have R5b := Aside0.mk (R5.out.below hb); have s1 := string_of_reads (P := Tryd.prog) (src := 23) (dst := 9) Tryd.underlying23 Tryd.underlying5 Tryd.underlying9 (c := c6) hq; have s2 := string_of_reads (P := Tryd.prog) (src := 23) (dst := 9) Tryd.underlying23 Tryd.underlying5 Tryd.underlying9 (c := d) ((HBR.out.below HB5.out).below hb); clear ho hq; clear hb)
    | (have hz := HB4.out; clear hz; go_at_call 12; refine (Calls.mono (take_any B d b w4 HD.out H63.out (HBR.out.below HB4.out) HBY.out (Utf8Tabs_below HT.out HB4.out)) ?_); rw [HTB.out]; rintro e w5 ⟨v5, x5, rfl, ⟨rfl, ho⟩, hb⟩; have HB5 := Aside0.mk (below_step HB4.out hb); obtain ⟨A5, c5, rfl⟩ := own_slice ho; have R5 := Aside0.mk (own_row ho HYZ.out); clear ho; clear hb)
    | (have hz := HB3.out; clear hz; go_at_call 14; refine (Calls.mono (same_call w3 A3 A c3 c l HL.out R3.out (HR.out.below HB3.out) C3.out HC.out) ?_); rintro e w4 ⟨rfl, hb⟩; have HB4 := Aside0.mk (below_step HB3.out hb); clear hb)
    | (have hz := HB2.out; clear hz; go_at_call 12; refine (Calls.mono (take_any A1 c1 PL w2 CP.out HPL.out.1 (RP.out.below HB12.out) HPR.out (Utf8Tabs_below HT.out HB2.out)) ?_); rw [HTK.out]; rintro e w3 ⟨v3, x3, rfl, ⟨rfl, ho⟩, hb⟩; have HB3 := Aside0.mk (below_step HB2.out hb); obtain ⟨A3, c3, rfl⟩ := own_slice ho; have R3 := Aside0.mk (own_row ho HSZ.out); have C3 := Aside0.mk (own_cap ho); clear ho; clear hb)
    | (have hz := HB1.out; clear hz; go_at_call 15; refine (Calls.mono (may_any w1 A c l (HR.out.below HB1.out) (Utf8Tabs_below HT.out HB1.out)) ?_); rw [HM.out]; rintro e w2 ⟨rfl, hb⟩; have HB2 := Aside0.mk (below_step HB1.out hb); have HB12 := Aside0.mk hb; clear hb)
    | (go_at_call 10; refine (Calls.mono (HPY.out) ?_); rintro e w1 ⟨v1, rfl, ho, hb⟩; have HB1 := Aside0.mk hb; obtain ⟨A1, c1, rfl, hq⟩ := own_reads ho; have RP := Aside0.mk hq; have CP := Aside0.mk (own_cap ho); clear ho hq; clear hb))
  go_ret
  exact ⟨rfl, HB8.out⟩
theorem back_walk (A : Option Addr) (c : Nat) (l : List S42) (B : Option Addr) (d : Nat) (b : List Int) (w : World) (hr : Row w A l) (hc : l.length ≤ c) (hl63 : l.length ≤ 9223372036854775806) (hb : ReadsInt w .u8 B b.length b) (hd : b.length ≤ d) (h63 : b.length ≤ 140737488355328) (hby : ∀ x ∈ b, 0 ≤ x ∧ x < 256) (hT : Lib.Utf8Tabs 1 2 w) :
    Calls Tryd.prog 5 #[.slice A l.length c, .slice B b.length d] w fun e w' => e = .returned (.bool true) ∧ Below w.heap.size w w' := by
  cases hm : mayE l with
  | false => cases ht : takeE b with
    | none => exact back_00 A c l B d b w hr hc hl63 hb hd h63 hby hT ⟨hm⟩ ⟨ht⟩
    | some y => exact back_01 A c l B d b w hr hc hl63 hb hd h63 hby hT ⟨hm⟩ y ⟨ht⟩
  | true => cases ht : takeE b with
    | none => exact back_10 A c l B d b w hr hc hl63 hb hd h63 hby hT ⟨hm⟩ ⟨ht⟩
    | some y => exact back_11 A c l B d b w hr hc hl63 hb hd h63 hby hT ⟨hm⟩ y ⟨ht⟩
end Go.Proofs.YtneanbckmekdkaaDoor.EN

end
