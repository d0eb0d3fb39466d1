/- PointsForms: the walk. -/
import Derived.Test.YtjpjjddkbohbpaaFormsLaw
import Derived.Test.YtjpjjddkbohbpaaSame
import Derived.Test.YtjpjjddkbohbpaaWakes
import Derived.Test.YtjpjjddkbohbpaaFilesWalk
namespace Go.Proofs.YtjpjjddkbohbpaaX
open Go.RowKit Go.Proofs.YtjpjjddkbohbpaaW.PrintWords Go.Proofs.Ytjpjjddkbohbpaa.PPointsForms
set_option linter.unusedVariables false
/-- The value is a row that reads so. -/
def RD (W : World) (k : IntKind) (xs : List Int) (v : Value) : Prop := ∃ A c, v = .slice A xs.length c ∧ ReadsInt W k A xs.length xs ∧ xs.length ≤ c
theorem RD.of_own {W : World} {base : Nat} {e : TypeId} {k : IntKind} {v : Value} {xs : List Int} (h : W.ownsRow base e 1 v xs.length (nums k xs)) : RD W k xs v := by
  obtain ⟨A, c, rfl, hr, hc, _, _⟩ := own_form h
  exact ⟨A, c, rfl, hr, hc⟩
structure FB (w W : World) (vm vo : Value) (xs ys : List Int) : Prop where
  hb : Below w.heap.size w W
  m : W.ownsRow w.heap.size 38 1 vm xs.length (nums .u32 xs)
  o : W.ownsRow w.heap.size 5 1 vo ys.length (nums .u8 ys)
theorem FB.below {w W W1 : World} {vm vo : Value} {xs ys : List Int} (h : FB w W vm vo xs ys) (hb : Below W.heap.size W W1) : FB w W1 vm vo xs ys :=
  ⟨below_step h.hb hb, pw_own_below h.m hb, pw_own_below h.o hb⟩
theorem take_short (A : Option Addr) (n c : Nat) (w : World) (hn : n < 112) : Calls Try.prog 21 #[.slice A n c] w fun e w' => e = .returned (.tuple #[.slice none 0 0, .int .i64 4]) ∧ Below w.heap.size w w' := by
  go_enter Try.func21, Try.ntmps21
  go_wp2
  go_ret2
  exact ⟨rfl, Below.refl _ _⟩
theorem take_long (A : Option Addr) (n c : Nat) (w : World) (hn : 112 < n) (hm : n ≤ 9223372036854775807) : Calls Try.prog 21 #[.slice A n c] w fun e w' => e = .returned (.tuple #[.slice none 0 0, .int .i64 3]) ∧ Below w.heap.size w w' := by
  have h1 : ¬ n < 112 := by omega
  go_enter Try.func21, Try.ntmps21
  go_wp2
  go_ret2
  exact ⟨rfl, Below.refl _ _⟩
theorem infoU8' : (Try.prog.info? 5).map (fun i => (i.zero, i.size, i.bytes)) = some (some (.int .u8 0), 1, 1) := by kernel_rfl
set_option maxHeartbeats 4000000 in
set_option maxRecDepth 100000 in
theorem forms_walk (wk : ∀ W : World, Calls Try.prog 12 #[] W fun e w' => e = .returned (.bool true) ∧ Below W.heap.size W w')
    (A1 A2 : Option Addr) (c1 c2 : Nat) (xs ys : List Int) (b : Int) (w : World) (P T : List Int) (e1 e2 r2 : Int) (r1 r3 : Bool) (hT : T.length ≤ 9223372036854775806)
    (hp : ∀ (W : World) (A : Option Addr) (n c : Nat), ReadsInt W .u32 A n xs → n ≤ c → Calls Try.prog 19 #[.slice A n c] W fun e w' => ∃ v, e = .returned (.tuple #[v, .int .i64 e1]) ∧ RD w' .u8 P v ∧ Below W.heap.size W w')
    (hq : ∀ (W : World) (A : Option Addr) (n c : Nat), ReadsInt W .u32 A n xs → n ≤ c → Calls Try.prog 20 #[.slice A n c] W fun e w' => ∃ v, e = .returned (.tuple #[v, .int .i64 e1]) ∧ RD w' .u8 P v ∧ Below W.heap.size W w')
    (hx : ∀ (W : World) (A : Option Addr) (n c : Nat), ReadsInt W .u8 A n ys → n ≤ c → c ≤ 9223372036854775807 → Calls Try.prog 21 #[.slice A n c] W fun e w' => ∃ v, e = .returned (.tuple #[v, .int .i64 e2]) ∧ RD w' .u32 T v ∧ Below W.heap.size W w')
    (hy : ∀ (W : World) (A : Option Addr) (n c : Nat), ReadsInt W .u8 A n ys → n ≤ c → Calls Try.prog 22 #[.slice A n c] W fun e w' => ∃ v, e = .returned (.tuple #[v, .int .i64 e2]) ∧ RD w' .u32 T v ∧ Below W.heap.size W w')
    (ha : points_At.f 5 b = some (r1, r2, r3)) (hd : hayrickref13_At.f 5 b = some (r1, r2, r3))
    (hr1 : ReadsInt w .u32 A1 xs.length xs) (hr2 : ReadsInt w .u8 A2 ys.length ys) (h1 : xs.length * 4 ≤ 140737488355328) (h2 : ys.length * 1 ≤ 140737488355328) (hc1 : xs.length ≤ c1) (hc2 : ys.length ≤ c2) :
    Calls Try.prog 8 #[.slice A1 xs.length c1, .slice A2 ys.length c2, .int .i64 b] w fun e w' => e = .returned (.bool true) ∧ Below w.heap.size w w' := by
  have R1 := Aside0.mk hr1
  have R2 := Aside0.mk hr2
  have WK := Aside0.mk wk
  have HP := Aside0.mk hp
  have HQ := Aside0.mk hq
  have HX := Aside0.mk hx
  have HY := Aside0.mk hy
  have HA := Aside0.mk ha
  have HD := Aside0.mk hd
  have HT := Aside0.mk hT
  have H1 := Aside0.mk h1
  have H2 := Aside0.mk h2
  have HC1 := Aside0.mk hc1
  have HC2 := Aside0.mk hc2
  clear hr1 hr2 wk hp hq hx hy ha hd hT h1 h2 hc1 hc2
  have NIL : Aside0 (∀ (W : World), W.ownsRow w.heap.size 38 1 (.slice none 0 0) ([] : List Int).length (nums .u32 [])) := ⟨fun W => own_nil _ _ _ _⟩
  have NIL8 : Aside0 (∀ (W : World), W.ownsRow w.heap.size 5 1 (.slice none 0 0) ([] : List Int).length (nums .u8 [])) := ⟨fun W => own_nil _ _ _ _⟩
  go_enter Try.func8, Try.ntmps8
  go_wp2_with (first | (at_builtin; with_reducible refine gate_dst (N := 24) rfl ?_; refine print_append_row (w0 := w) w.heap.size rfl (.const (.slice none 0 0)) (.tmp 23) 42 38 .u32 4 rfl Try.underlying42 infoU32 (by omega) (.slice none 0 0) [] xs A1 xs.length c1 (by kernel_rfl) (by kernel_rfl) (NIL.out _) (R1.out) (Below.refl _ _) (Nat.le_refl _) (by have := H1.out; simp; omega) ?_; intro v2 w2 ho hb hg _; rw [List.nil_append] at ho; have HO2 := Aside0.mk (ho); have HB2 := Aside0.mk (hb); clear ho hb hg) | (at_builtin; with_reducible refine gate_dst (N := 26) rfl ?_; refine print_append_row (w0 := w) w.heap.size rfl (.const (.slice none 0 0)) (.tmp 25) 53 5 .u8 1 rfl Try.underlying53 infoU8' (by omega) (.slice none 0 0) [] ys A2 ys.length c2 (by kernel_rfl) (by kernel_rfl) (NIL8.out w2) (R2.out.below HB2.out) HB2.out HB2.out.size (by have := H2.out; simp at this; simp; omega) ?_; intro v3 w3 ho hb hg _; rw [List.nil_append] at ho; have hne : v2.ownBlock = none ∨ v2.ownBlock ≠ (Value.slice none 0 0).ownBlock := (by by_cases hv : v2.ownBlock = none; exact .inl hv; exact .inr (fun e => absurd (e.trans (show (Value.slice none 0 0).ownBlock = none from rfl)) hv)); have K3 := Aside0.mk (FB.mk hb (own_other HO2.out hg hne) ho); clear hne ho hb hg; obtain ⟨A3, c3, rfl, _, hc3, _, _⟩ := own_form K3.out.m; have C3 := Aside0.mk (hc3); obtain ⟨A4, c4, rfl, _, hc4, hm4, _⟩ := own_form K3.out.o; have C4 := Aside0.mk (hc4); have M4 := Aside0.mk (hm4); clear hc3 hc4 hm4) | (go_at_call 19; refine (HP.out _ A3 _ c3 (own_reads' K3.out.m) C3.out).mono ?_; rintro e w4 ⟨v, rfl, hrd, hb⟩; obtain ⟨A5, c5, rfl, hr, hc⟩ := hrd; have K4 := Aside0.mk (K3.out.below hb); have R5 := Aside0.mk (hr); have C5 := Aside0.mk (hc); clear hb hr hc) | (go_at_call 20; refine (HQ.out _ A1 _ c1 (R1.out.below K4.out.hb) HC1.out).mono ?_; rintro e w5 ⟨v, rfl, hrd, hb⟩; obtain ⟨A6, c6, rfl, hr, hc⟩ := hrd; have K5 := Aside0.mk (K4.out.below hb); have R5a := Aside0.mk (R5.out.below hb); have R6 := Aside0.mk (hr); have C6 := Aside0.mk (hc); clear hb hr hc) | (go_at_call 21; refine (HX.out _ A4 _ c4 (own_reads' K5.out.o) C4.out M4.out).mono ?_; rintro e w6 ⟨v, rfl, hrd, hb⟩; obtain ⟨A7, c7, rfl, hr, hc⟩ := hrd; have K6 := Aside0.mk (K5.out.below hb); have R5b := Aside0.mk (R5a.out.below hb); have R6b := Aside0.mk (R6.out.below hb); have R7 := Aside0.mk (hr); have C7 := Aside0.mk (hc); clear hb hr hc) | (go_at_call 22; refine (HY.out _ A2 _ c2 (R2.out.below K6.out.hb) HC2.out).mono ?_; rintro e w7 ⟨v, rfl, hrd, hb⟩; obtain ⟨A8, c8, rfl, hr, hc⟩ := hrd; have K7 := Aside0.mk (K6.out.below hb); have R5c := Aside0.mk (R5b.out.below hb); have R6c := Aside0.mk (R6b.out.below hb); have R7c := Aside0.mk (R7.out.below hb); have R8 := Aside0.mk (hr); have C8 := Aside0.mk (hc); clear hb hr hc) | (go_at_call 13; refine (points_At.calls 5 b r1 r2 r3 _ HA.out).mono ?_; rintro e w8 ⟨rfl, hd⟩; have hb := hd.below; have K8 := Aside0.mk (K7.out.below hb); have R5d := Aside0.mk (R5c.out.below hb); have R6d := Aside0.mk (R6c.out.below hb); have R7d := Aside0.mk (R7c.out.below hb); have R8d := Aside0.mk (R8.out.below hb); clear hb hd) | (go_at_call 23; refine (hayrickref13_At.calls 5 b r1 r2 r3 _ HD.out).mono ?_; rintro e w9 ⟨rfl, hd⟩; have hb := hd.below; have K9 := Aside0.mk (K8.out.below hb); have R7e := Aside0.mk (R7d.out.below hb); have R8e := Aside0.mk (R8d.out.below hb); have s1 := string_of_reads (P := Try.prog) (src := 53) (dst := 9) Try.underlying53 Try.underlying5 Try.underlying9 (c := c5) (R5d.out.below hb); have s2 := string_of_reads (P := Try.prog) (src := 53) (dst := 9) Try.underlying53 Try.underlying5 Try.underlying9 (c := c6) (R6d.out.below hb); clear hb hd) | (have hz := K10.out; clear hz; go_at_call 16; refine (same_any A3 A1 _ c3 c1 xs _ (own_reads' K10.out.m) (R1.out.below K10.out.hb) C3.out HC1.out (by have := H1.out; omega)).mono ?_; rintro e w11 ⟨rfl, hd⟩; have K11 := Aside0.mk (K10.out.below hd.below); have s3 := string_of_reads (P := Try.prog) (src := 53) (dst := 9) Try.underlying53 Try.underlying5 Try.underlying9 (c := c4) (own_reads' K11.out.o); have s4 := string_of_reads (P := Try.prog) (src := 53) (dst := 9) Try.underlying53 Try.underlying5 Try.underlying9 (c := c2) (R2.out.below K11.out.hb); clear hd) | (go_at_call 16; refine (same_any A7 A8 _ c7 c8 T _ R7e.out R8e.out C7.out C8.out HT.out).mono ?_; rintro e w10 ⟨rfl, hd⟩; have K10 := Aside0.mk (K9.out.below hd.below); clear hd s1 s2) | (go_at_call 12; refine (WK.out _).mono ?_; rintro e w12 ⟨rfl, hb⟩; have K12 := Aside0.mk (K11.out.below hb); clear hb))
  go_ret
  exact ⟨rfl, K12.out.hb⟩
theorem put_both (xs : List Int) (hl : xs.length ≤ 9223372036854775807) (hx : ∀ x ∈ xs, 0 ≤ x ∧ x < 4294967296) : ∃ (P : List Int) (e1 : Int),
    (∀ (W : World) (A : Option Addr) (n c : Nat), ReadsInt W .u32 A n xs → n ≤ c → Calls Try.prog 19 #[.slice A n c] W fun e w' => ∃ v, e = .returned (.tuple #[v, .int .i64 e1]) ∧ RD w' .u8 P v ∧ Below W.heap.size W w') ∧
    (∀ (W : World) (A : Option Addr) (n c : Nat), ReadsInt W .u32 A n xs → n ≤ c → Calls Try.prog 20 #[.slice A n c] W fun e w' => ∃ v, e = .returned (.tuple #[v, .int .i64 e1]) ∧ RD w' .u8 P v ∧ Below W.heap.size W w') := by
  by_cases h28 : xs.length ≤ 28
  · have hpl : (putN xs xs.length).length = 112 := putN_length (Nat.le_refl _) h28
    refine ⟨putN xs xs.length, 0, ?_, ?_⟩
    · intro W A n c hr hc
      obtain rfl : xs.length = n := hr.1
      refine (put_any A _ c xs W hr h28).mono ?_
      rintro e w' ⟨v, rfl, ho, hb⟩
      exact ⟨v, rfl, RD.of_own (by rw [hpl]; exact ho), hb⟩
    · intro W A n c hr hc
      obtain rfl : xs.length = n := hr.1
      obtain ⟨k, hk⟩ := rput_f xs h28 hx
      refine (hayrickref13_Put.calls k A c xs _ _ W (Kd.C_of_reads (enc := Value.int .u32) (d := (0 : Int)) (h1 := fun _ => rfl) hr) hc hk).mono ?_
      rintro e w' ⟨v, rfl, ho, hb⟩
      obtain ⟨A', c', rfl, hc', hr'⟩ := Kd.R_reads ho
      exact ⟨_, rfl, ⟨A', c', rfl, Kd.reads_of_C (enc := Value.int .u8) (d := (0 : Int)) (h1 := fun _ => rfl) hr', hc'⟩, hb⟩
  · refine ⟨[], 3, ?_, ?_⟩
    · intro W A n c hr hc
      obtain rfl : xs.length = n := hr.1
      refine (put_long A _ c W (by omega) hl).mono ?_
      rintro e w' ⟨rfl, rfl⟩
      exact ⟨_, rfl, RD.of_own (base := 0) (e := 5) (own_nil _ _ _ _), Below.refl _ _⟩
    · intro W A n c hr hc
      obtain rfl : xs.length = n := hr.1
      refine (hayrickref13_Put.calls 1 A c xs _ _ W (Kd.C_of_reads (enc := Value.int .u32) (d := (0 : Int)) (h1 := fun _ => rfl) hr) hc (rput_long xs (by omega))).mono ?_
      rintro e w' ⟨v, rfl, ho, hb⟩
      obtain ⟨A', c', rfl, hc', hr'⟩ := Kd.R_reads ho
      exact ⟨_, rfl, ⟨A', c', rfl, Kd.reads_of_C (enc := Value.int .u8) (d := (0 : Int)) (h1 := fun _ => rfl) hr', hc'⟩, hb⟩
theorem take_both (ys : List Int) (hl : ys.length ≤ 9223372036854775807) (hy : ∀ x ∈ ys, 0 ≤ x ∧ x < 256) : ∃ (T : List Int) (e2 : Int), T.length ≤ 9223372036854775806 ∧
    (∀ (W : World) (A : Option Addr) (n c : Nat), ReadsInt W .u8 A n ys → n ≤ c → c ≤ 9223372036854775807 → Calls Try.prog 21 #[.slice A n c] W fun e w' => ∃ v, e = .returned (.tuple #[v, .int .i64 e2]) ∧ RD w' .u32 T v ∧ Below W.heap.size W w') ∧
    (∀ (W : World) (A : Option Addr) (n c : Nat), ReadsInt W .u8 A n ys → n ≤ c → Calls Try.prog 22 #[.slice A n c] W fun e w' => ∃ v, e = .returned (.tuple #[v, .int .i64 e2]) ∧ RD w' .u32 T v ∧ Below W.heap.size W w') := by
  have ref : ∀ (k : Nat) (T : List Int) (e2 : Int), hayrickref13_Take.f k ys = some (T, e2) → ∀ (W : World) (A : Option Addr) (n c : Nat), ReadsInt W .u8 A n ys → n ≤ c → Calls Try.prog 22 #[.slice A n c] W fun e w' => ∃ v, e = .returned (.tuple #[v, .int .i64 e2]) ∧ RD w' .u32 T v ∧ Below W.heap.size W w' := by
    intro k T e2 hk W A n c hr hc
    obtain rfl : ys.length = n := hr.1
    refine (hayrickref13_Take.calls k A c ys _ _ W (Kd.C_of_reads (enc := Value.int .u8) (d := (0 : Int)) (h1 := fun _ => rfl) hr) hc hk).mono ?_
    rintro e w' ⟨v, rfl, ho, hb⟩
    obtain ⟨A', c', rfl, hc', hr'⟩ := Kd.R_reads ho
    exact ⟨_, rfl, ⟨A', c', rfl, Kd.reads_of_C (enc := Value.int .u32) (d := (0 : Int)) (h1 := fun _ => rfl) hr', hc'⟩, hb⟩
  by_cases h1 : ys.length < 112
  · refine ⟨[], 4, by decide, ?_, ref 1 _ _ (by rw [hayrickref13_Take.f, if_pos (by omega)])⟩
    intro W A n c hr hc _
    obtain rfl : ys.length = n := hr.1
    refine (take_short A _ c W h1).mono ?_
    rintro e w' ⟨rfl, hb⟩
    exact ⟨_, rfl, RD.of_own (base := 0) (e := 38) (own_nil _ _ _ _), hb⟩
  · by_cases h2 : 112 < ys.length
    · refine ⟨[], 3, by decide, ?_, ref 1 _ _ (by rw [hayrickref13_Take.f, if_neg (by omega), if_pos (by omega)])⟩
      intro W A n c hr hc _
      obtain rfl : ys.length = n := hr.1
      refine (take_long A _ c W h2 hl).mono ?_
      rintro e w' ⟨rfl, hb⟩
      exact ⟨_, rfl, RD.of_own (base := 0) (e := 38) (own_nil _ _ _ _), hb⟩
    · have h3 : ys.length = 112 := by omega
      obtain ⟨k, hk⟩ := rtake_f ys h3 hy
      refine ⟨_, 0, ?_, ?_, ref k _ _ hk⟩
      · rw [List.length_map, chTo_length]; decide
      · intro W A n c hr hc hc63
        obtain rfl : n = 112 := by have := hr.1; omega
        obtain ⟨ad, rfl, _⟩ := hr.2.2 (by decide)
        refine (take_yes ad c ys W hc hc63 hr hy).mono ?_
        rintro e w' ⟨v, rfl, ho, hb⟩
        exact ⟨v, rfl, RD.of_own (by rw [List.length_map, chTo_length]; exact ho), hb⟩
theorem forms_law (A1 A2 : Option Addr) (n1 c1 n2 c2 : Nat) (xs ys : List Int) (b : Int) (w : World) (hb : -9223372036854775808 ≤ b ∧ b ≤ 9223372036854775807)
    (hx : ∀ x ∈ xs, 0 ≤ x ∧ x < 4294967296) (hy : ∀ x ∈ ys, 0 ≤ x ∧ x < 256)
    (hr1 : ReadsInt w .u32 A1 n1 xs) (hr2 : ReadsInt w .u8 A2 n2 ys) (h1 : n1 * 4 ≤ 140737488355328) (h2 : n2 * 1 ≤ 140737488355328) (hc1 : n1 ≤ c1) (hc2 : n2 ≤ c2) :
    Calls Try.prog 8 #[.slice A1 n1 c1, .slice A2 n2 c2, .int .i64 b] w fun e w' => e = .returned (.bool true) ∧ Below w.heap.size w w' := by
  obtain rfl : xs.length = n1 := hr1.1
  obtain rfl : ys.length = n2 := hr2.1
  obtain ⟨r1, r2, r3, ha, hd⟩ := at_both b hb
  obtain ⟨P, e1, hp, hq⟩ := put_both xs (by omega) hx
  obtain ⟨T, e2, hT, ht, hu⟩ := take_both ys (by omega) hy
  exact forms_walk wakes_true A1 A2 c1 c2 xs ys b w P T e1 e2 r2 r1 r3 hT hp hq ht hu ha hd hr1 hr2 h1 h2 hc1 hc2
end Go.Proofs.YtjpjjddkbohbpaaX
