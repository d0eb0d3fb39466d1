/- EntryBack: the law's own walk. -/
import Derived.Test.YtneanbckmekdkaaDoorEWakes
import Derived.Test.YtneanbckmekdkaaDoorESame
namespace Go.Proofs.YtneanbckmekdkaaDoor.EN
open Go Go.RowKit Go.Proofs.YtneanbckmekdkaaDoorX Go.Proofs.YtneanbckmekdkaaDoor.NM Go.Proofs.YtneanbckmekdkaaDoorW.PrintWords Go.Proofs.YtneanbckmekdkaaDoorW.PrintLast Go.Proofs.YtneanbckmekdkaaDoorW.PrintMore Go.Proofs.YtneanbckmekdkaaDoor.PEntryForms
set_option linter.unusedVariables false
set_option linter.unusedSimpArgs false
theorem same_l (l : List S42) (hl : l.length ≤ 9223372036854775806) : ∀ (j k i : Nat), l.length ≤ i + j → i ≤ l.length → hayrickref12_Same.l0 (k + 1 + j) l l i = some true
  | 0, k, i, h, h2 => by
    rw [show k + 1 + 0 = k + 1 by omega, hayrickref12_Same.l0, if_neg (by omega)]
  | j + 1, k, i, h, h2 => by
    rw [show k + 1 + (j + 1) = (k + 1 + j) + 1 by omega, hayrickref12_Same.l0]
    by_cases hi : i < l.length
    · have hw : wrap64 ((i : Int) + 1) = ((i + 1 : Nat) : Int) := by unfold wrap64; omega
      rw [if_pos (by omega), if_pos (by omega), if_pos (by omega), if_neg (by simp), hw]
      exact same_l l hl j k (i + 1) (by omega) (by omega)
    · rw [if_neg (by omega)]
theorem same_refl (l : List S42) (hl : l.length ≤ 9223372036854775806) : hayrickref12_Same.f (0 + 1 + l.length) l l = some true := by
  rw [hayrickref12_Same.f, if_pos rfl]
  exact same_l l hl l.length 0 0 (by omega) (Nat.zero_le _)
theorem same_call (W : World) (A1 A2 : Option Addr) (c1 c2 : Nat) (l : List S42) (hl : l.length ≤ 9223372036854775806) (h1 : Row W A1 l) (h2 : Row W A2 l) (hc1 : l.length ≤ c1) (hc2 : l.length ≤ c2) :
    Calls Tryd.prog 14 #[.slice A1 l.length c1, .slice A2 l.length c2] W fun e w' => e = .returned (.bool true) ∧ Below W.heap.size W w' :=
  (hayrickref12_Same.calls _ A1 c1 l A2 c2 l true W h1.c hc1 h2.c hc2 (same_refl l hl)).mono fun e w' h => ⟨h.1, h.2.below⟩
theorem putL_range {l : List S42} (h : MayP l) : ∀ x ∈ putL l, 0 ≤ x ∧ x < 256 := by
  intro y hy
  rw [putL, List.mem_flatMap] at hy
  obtain ⟨x, hx, hy⟩ := hy
  obtain ⟨i, hi, rfl⟩ := List.getElem_of_mem hx
  have he := h.entry hi
  rw [(at_get hi).1, (at_get hi).2] at he
  unfold encE at hy
  simp only [List.mem_append, List.mem_cons, List.not_mem_nil, or_false] at hy
  rcases hy with ((rfl | rfl | rfl) | hy) | hy
  · omega
  · omega
  · omega
  · unfold bytesOf at hy
    obtain ⟨b, _, rfl⟩ := List.mem_map.1 hy
    have := b.toNat_lt
    omega
  · have := List.eq_of_mem_replicate hy
    omega
set_option maxHeartbeats 4000000 in
set_option maxRecDepth 100000 in
theorem back_00 (A : Option Addr) (c : Nat) (l : List S42) (B : Option Addr) (d : Nat) (b : List Int) (w : World) (hr : Row w A l) (hc : l.length ≤ c) (hl63 : l.length ≤ 9223372036854775806) (hb : ReadsInt w .u8 B b.length b) (hd : b.length ≤ d) (h63 : b.length ≤ 140737488355328) (hby : ∀ x ∈ b, 0 ≤ x ∧ x < 256) (hT : Lib.Utf8Tabs 1 2 w) (HM : Aside0 (mayE l = false)) (HTB : Aside0 (takeE b = none)) :
    Calls Tryd.prog 5 #[.slice A l.length c, .slice B b.length d] w fun e w' => e = .returned (.bool true) ∧ Below w.heap.size w w' := by
  have HR := Aside0.mk hr
  have HC := Aside0.mk hc
  have HL := Aside0.mk hl63
  have HBR := Aside0.mk hb
  have HD := Aside0.mk hd
  have H63 := Aside0.mk h63
  have HBY := Aside0.mk hby
  have HT := Aside0.mk hT
  clear hr hc hl63 hb hd h63 hby hT
  go_enter Tryd.func5, Tryd.ntmps5
  go_wp2_with (first
    | (have hz := HB3.out; clear hz; go_at_call 17; refine (Calls.mono (wakes_true w3 (Utf8Tabs_below HT.out HB3.out)) ?_); rintro e w4 ⟨rfl, hb⟩; have HB4 := Aside0.mk (below_step HB3.out hb); clear hb)
    | (have hz := HB2.out; clear hz; go_at_call 12; refine (Calls.mono (take_any B d b w2 HD.out H63.out (HBR.out.below HB2.out) HBY.out (Utf8Tabs_below HT.out HB2.out)) ?_); rw [HTB.out]; rintro e w3 ⟨v5, x5, rfl, ⟨rfl, rfl⟩, hb⟩; have HB3 := Aside0.mk (below_step HB2.out hb); clear hb)
    | (have hz := HB1.out; clear hz; go_at_call 15; refine (Calls.mono (may_any w1 A c l (HR.out.below HB1.out) (Utf8Tabs_below HT.out HB1.out)) ?_); rw [HM.out]; rintro e w2 ⟨rfl, hb⟩; have HB2 := Aside0.mk (below_step HB1.out hb); clear hb)
    | (go_at_call 10; refine (Calls.mono (put_no w A c l HR.out HT.out HM.out) ?_); rintro e w1 ⟨rfl, hb⟩; have HB1 := Aside0.mk hb; clear hb))
  go_ret
  exact ⟨rfl, HB4.out⟩
set_option maxHeartbeats 4000000 in
set_option maxRecDepth 100000 in
theorem back_01 (A : Option Addr) (c : Nat) (l : List S42) (B : Option Addr) (d : Nat) (b : List Int) (w : World) (hr : Row w A l) (hc : l.length ≤ c) (hl63 : l.length ≤ 9223372036854775806) (hb : ReadsInt w .u8 B b.length b) (hd : b.length ≤ d) (h63 : b.length ≤ 140737488355328) (hby : ∀ x ∈ b, 0 ≤ x ∧ x < 256) (hT : Lib.Utf8Tabs 1 2 w) (HM : Aside0 (mayE l = false)) (y : List S42) (HTB : Aside0 (takeE b = some y)) :
    Calls Tryd.prog 5 #[.slice A l.length c, .slice B b.length d] w fun e w' => e = .returned (.bool true) ∧ Below w.heap.size w w' := by
  have HR := Aside0.mk hr
  have HC := Aside0.mk hc
  have HL := Aside0.mk hl63
  have HBR := Aside0.mk hb
  have HD := Aside0.mk hd
  have H63 := Aside0.mk h63
  have HBY := Aside0.mk hby
  have HT := Aside0.mk hT
  have HYM := Aside0.mk (take_some HTB.out).1
  have HYP := Aside0.mk (take_some HTB.out).2
  have HYZ := Aside0.mk (show ∀ x ∈ y, x.f1.size ≤ 140737488351232 from fun x hx => by have := ((mayE_iff y).1 HYM.out).sizes x hx; omega)
  clear hr hc hl63 hb hd h63 hby hT
  go_enter Tryd.func5, Tryd.ntmps5
  go_wp2_with (first
    | (have hz := HB5.out; clear hz; go_at_call 17; refine (Calls.mono (wakes_true w5 (Utf8Tabs_below HT.out HB5.out)) ?_); rintro e w6 ⟨rfl, hb⟩; have HB6 := Aside0.mk (below_step HB5.out hb); clear hb)
    | (have hz := HB4.out; clear hz; go_at_call 15; refine (Calls.mono (may_any w4 A5 c5 y R5b.out (Utf8Tabs_below HT.out HB4.out)) ?_); rw [HYM.out]; rintro e w5 ⟨rfl, hb⟩; have HB5 := Aside0.mk (below_step HB4.out hb); clear hb)
    | (have hz := HB3.out; clear hz; go_at_call 10; refine (Calls.mono (put_yes w3 A5 c5 y R5.out (Utf8Tabs_below HT.out HB3.out) HYM.out) ?_); rw [HYP.out]; rintro e w4 ⟨v6, rfl, ho, hb⟩; have HB4 := Aside0.mk (below_step HB3.out hb); obtain ⟨A6, c6, rfl, hq⟩ := own_reads ho; have R5b := Aside0.mk (R5.out.below hb); have s1 := string_of_reads (P := Tryd.prog) (src := 23) (dst := 9) Tryd.underlying23 Tryd.underlying5 Tryd.underlying9 (c := c6) hq; have s2 := string_of_reads (P := Tryd.prog) (src := 23) (dst := 9) Tryd.underlying23 Tryd.underlying5 Tryd.underlying9 (c := d) ((HBR.out.below HB3.out).below hb); clear ho hq; clear hb)
    | (have hz := HB2.out; clear hz; go_at_call 12; refine (Calls.mono (take_any B d b w2 HD.out H63.out (HBR.out.below HB2.out) HBY.out (Utf8Tabs_below HT.out HB2.out)) ?_); rw [HTB.out]; rintro e w3 ⟨v5, x5, rfl, ⟨rfl, ho⟩, hb⟩; have HB3 := Aside0.mk (below_step HB2.out hb); obtain ⟨A5, c5, rfl⟩ := own_slice ho; have R5 := Aside0.mk (own_row ho HYZ.out); clear ho; clear hb)
    | (have hz := HB1.out; clear hz; go_at_call 15; refine (Calls.mono (may_any w1 A c l (HR.out.below HB1.out) (Utf8Tabs_below HT.out HB1.out)) ?_); rw [HM.out]; rintro e w2 ⟨rfl, hb⟩; have HB2 := Aside0.mk (below_step HB1.out hb); clear hb)
    | (go_at_call 10; refine (Calls.mono (put_no w A c l HR.out HT.out HM.out) ?_); rintro e w1 ⟨rfl, hb⟩; have HB1 := Aside0.mk hb; clear hb))
  go_ret
  exact ⟨rfl, HB6.out⟩
set_option maxHeartbeats 4000000 in
set_option maxRecDepth 100000 in
theorem back_10 (A : Option Addr) (c : Nat) (l : List S42) (B : Option Addr) (d : Nat) (b : List Int) (w : World) (hr : Row w A l) (hc : l.length ≤ c) (hl63 : l.length ≤ 9223372036854775806) (hb : ReadsInt w .u8 B b.length b) (hd : b.length ≤ d) (h63 : b.length ≤ 140737488355328) (hby : ∀ x ∈ b, 0 ≤ x ∧ x < 256) (hT : Lib.Utf8Tabs 1 2 w) (HM : Aside0 (mayE l = true)) (HTB : Aside0 (takeE b = none)) :
    Calls Tryd.prog 5 #[.slice A l.length c, .slice B b.length d] w fun e w' => e = .returned (.bool true) ∧ Below w.heap.size w w' := by
  have HR := Aside0.mk hr
  have HC := Aside0.mk hc
  have HL := Aside0.mk hl63
  have HBR := Aside0.mk hb
  have HD := Aside0.mk hd
  have H63 := Aside0.mk h63
  have HBY := Aside0.mk hby
  have HT := Aside0.mk hT
  have HP := Aside0.mk ((mayE_iff l).1 HM.out)
  have hpy := put_yes w A c l hr hT HM.out
  have hlen := putL_length l HP.out.sizes
  have HTK0 := take_put HM.out
  have hpr := putL_range HP.out
  obtain ⟨PL, hPL⟩ : ∃ PL, putL l = PL := ⟨_, rfl⟩
  rw [hPL] at hpy hlen HTK0 hpr
  have HPY := Aside0.mk hpy
  have HTK := Aside0.mk HTK0
  have HPR := Aside0.mk hpr
  have hl64 := HP.out.1
  have HPL := Aside0.mk (show PL.length ≤ 140737488355328 ∧ PL.length = 28 * l.length from ⟨by omega, hlen⟩)
  have hwl : IntKind.wrap .i64 (28 * (l.length : Int)) = (PL.length : Int) := (IntWalk.i64_in _ ⟨by omega, by omega⟩).trans (by omega)
  have HSZ := Aside0.mk (show ∀ x ∈ l, x.f1.size ≤ 140737488351232 from hr.z)
  clear hpy hlen HTK0 hpr hPL hl64
  clear hr hc hl63 hb hd h63 hby hT
  go_enter Tryd.func5, Tryd.ntmps5
  go_wp2_with (first
    | (have hz := HB5.out; clear hz; go_at_call 17; refine (Calls.mono (wakes_true w5 (Utf8Tabs_below HT.out HB5.out)) ?_); rintro e w6 ⟨rfl, hb⟩; have HB6 := Aside0.mk (below_step HB5.out hb); clear hb)
    | (have hz := HB4.out; clear hz; go_at_call 12; refine (Calls.mono (take_any B d b w4 HD.out H63.out (HBR.out.below HB4.out) HBY.out (Utf8Tabs_below HT.out HB4.out)) ?_); rw [HTB.out]; rintro e w5 ⟨v5, x5, rfl, ⟨rfl, rfl⟩, hb⟩; have HB5 := Aside0.mk (below_step HB4.out hb); clear hb)
    | (have hz := HB3.out; clear hz; go_at_call 14; refine (Calls.mono (same_call w3 A3 A c3 c l HL.out R3.out (HR.out.below HB3.out) C3.out HC.out) ?_); rintro e w4 ⟨rfl, hb⟩; have HB4 := Aside0.mk (below_step HB3.out hb); clear hb)
    | (have hz := HB2.out; clear hz; go_at_call 12; refine (Calls.mono (take_any A1 c1 PL w2 CP.out HPL.out.1 (RP.out.below HB12.out) HPR.out (Utf8Tabs_below HT.out HB2.out)) ?_); rw [HTK.out]; rintro e w3 ⟨v3, x3, rfl, ⟨rfl, ho⟩, hb⟩; have HB3 := Aside0.mk (below_step HB2.out hb); obtain ⟨A3, c3, rfl⟩ := own_slice ho; have R3 := Aside0.mk (own_row ho HSZ.out); have C3 := Aside0.mk (own_cap ho); clear ho; clear hb)
    | (have hz := HB1.out; clear hz; go_at_call 15; refine (Calls.mono (may_any w1 A c l (HR.out.below HB1.out) (Utf8Tabs_below HT.out HB1.out)) ?_); rw [HM.out]; rintro e w2 ⟨rfl, hb⟩; have HB2 := Aside0.mk (below_step HB1.out hb); have HB12 := Aside0.mk hb; clear hb)
    | (go_at_call 10; refine (Calls.mono (HPY.out) ?_); rintro e w1 ⟨v1, rfl, ho, hb⟩; have HB1 := Aside0.mk hb; obtain ⟨A1, c1, rfl, hq⟩ := own_reads ho; have RP := Aside0.mk hq; have CP := Aside0.mk (own_cap ho); clear ho hq; clear hb))
  go_ret
  exact ⟨rfl, HB6.out⟩
set_option maxHeartbeats 4000000 in
set_option maxRecDepth 100000 in
theorem back_11 (A : Option Addr) (c : Nat) (l : List S42) (B : Option Addr) (d : Nat) (b : List Int) (w : World) (hr : Row w A l) (hc : l.length ≤ c) (hl63 : l.length ≤ 9223372036854775806) (hb : ReadsInt w .u8 B b.length b) (hd : b.length ≤ d) (h63 : b.length ≤ 140737488355328) (hby : ∀ x ∈ b, 0 ≤ x ∧ x < 256) (hT : Lib.Utf8Tabs 1 2 w) (HM : Aside0 (mayE l = true)) (y : List S42) (HTB : Aside0 (takeE b = some y)) :
    Calls Tryd.prog 5 #[.slice A l.length c, .slice B b.length d] w fun e w' => e = .returned (.bool true) ∧ Below w.heap.size w w' := by
  have HR := Aside0.mk hr
  have HC := Aside0.mk hc
  have HL := Aside0.mk hl63
  have HBR := Aside0.mk hb
  have HD := Aside0.mk hd
  have H63 := Aside0.mk h63
  have HBY := Aside0.mk hby
  have HT := Aside0.mk hT
  have HP := Aside0.mk ((mayE_iff l).1 HM.out)
  have hpy := put_yes w A c l hr hT HM.out
  have hlen := putL_length l HP.out.sizes
  have HTK0 := take_put HM.out
  have hpr := putL_range HP.out
  obtain ⟨PL, hPL⟩ : ∃ PL, putL l = PL := ⟨_, rfl⟩
  rw [hPL] at hpy hlen HTK0 hpr
  have HPY := Aside0.mk hpy
  have HTK := Aside0.mk HTK0
  have HPR := Aside0.mk hpr
  have hl64 := HP.out.1
  have HPL := Aside0.mk (show PL.length ≤ 140737488355328 ∧ PL.length = 28 * l.length from ⟨by omega, hlen⟩)
  have hwl : IntKind.wrap .i64 (28 * (l.length : Int)) = (PL.length : Int) := (IntWalk.i64_in _ ⟨by omega, by omega⟩).trans (by omega)
  have HSZ := Aside0.mk (show ∀ x ∈ l, x.f1.size ≤ 140737488351232 from hr.z)
  clear hpy hlen HTK0 hpr hPL hl64
  have HYM := Aside0.mk (take_some HTB.out).1
  have HYP := Aside0.mk (take_some HTB.out).2
  have HYZ := Aside0.mk (show ∀ x ∈ y, x.f1.size ≤ 140737488351232 from fun x hx => by have := ((mayE_iff y).1 HYM.out).sizes x hx; omega)
  clear hr hc hl63 hb hd h63 hby hT
  go_enter Tryd.func5, Tryd.ntmps5
  go_wp2_with (first
    | (have hz := HB7.out; clear hz; go_at_call 17; refine (Calls.mono (wakes_true w7 (Utf8Tabs_below HT.out HB7.out)) ?_); rintro e w8 ⟨rfl, hb⟩; have HB8 := Aside0.mk (below_step HB7.out hb); clear hb)
    | (have hz := HB6.out; clear hz; go_at_call 15; refine (Calls.mono (may_any w6 A5 c5 y R5b.out (Utf8Tabs_below HT.out HB6.out)) ?_); rw [HYM.out]; rintro e w7 ⟨rfl, hb⟩; have HB7 := Aside0.mk (below_step HB6.out hb); clear hb)
    | (have hz := HB5.out; clear hz; go_at_call 10; refine (Calls.mono (put_yes w5 A5 c5 y R5.out (Utf8Tabs_below HT.out HB5.out) HYM.out) ?_); rw [HYP.out]; rintro e w6 ⟨v6, rfl, ho, hb⟩; have HB6 := Aside0.mk (below_step HB5.out hb); obtain ⟨A6, c6, rfl, hq⟩ := own_reads ho; have R5b := Aside0.mk (R5.out.below hb); have s1 := string_of_reads (P := Tryd.prog) (src := 23) (dst := 9) Tryd.underlying23 Tryd.underlying5 Tryd.underlying9 (c := c6) hq; have s2 := string_of_reads (P := Tryd.prog) (src := 23) (dst := 9) Tryd.underlying23 Tryd.underlying5 Tryd.underlying9 (c := d) ((HBR.out.below HB5.out).below hb); clear ho hq; clear hb)
    | (have hz := HB4.out; clear hz; go_at_call 12; refine (Calls.mono (take_any B d b w4 HD.out H63.out (HBR.out.below HB4.out) HBY.out (Utf8Tabs_below HT.out HB4.out)) ?_); rw [HTB.out]; rintro e w5 ⟨v5, x5, rfl, ⟨rfl, ho⟩, hb⟩; have HB5 := Aside0.mk (below_step HB4.out hb); obtain ⟨A5, c5, rfl⟩ := own_slice ho; have R5 := Aside0.mk (own_row ho HYZ.out); clear ho; clear hb)
    | (have hz := HB3.out; clear hz; go_at_call 14; refine (Calls.mono (same_call w3 A3 A c3 c l HL.out R3.out (HR.out.below HB3.out) C3.out HC.out) ?_); rintro e w4 ⟨rfl, hb⟩; have HB4 := Aside0.mk (below_step HB3.out hb); clear hb)
    | (have hz := HB2.out; clear hz; go_at_call 12; refine (Calls.mono (take_any A1 c1 PL w2 CP.out HPL.out.1 (RP.out.below HB12.out) HPR.out (Utf8Tabs_below HT.out HB2.out)) ?_); rw [HTK.out]; rintro e w3 ⟨v3, x3, rfl, ⟨rfl, ho⟩, hb⟩; have HB3 := Aside0.mk (below_step HB2.out hb); obtain ⟨A3, c3, rfl⟩ := own_slice ho; have R3 := Aside0.mk (own_row ho HSZ.out); have C3 := Aside0.mk (own_cap ho); clear ho; clear hb)
    | (have hz := HB1.out; clear hz; go_at_call 15; refine (Calls.mono (may_any w1 A c l (HR.out.below HB1.out) (Utf8Tabs_below HT.out HB1.out)) ?_); rw [HM.out]; rintro e w2 ⟨rfl, hb⟩; have HB2 := Aside0.mk (below_step HB1.out hb); have HB12 := Aside0.mk hb; clear hb)
    | (go_at_call 10; refine (Calls.mono (HPY.out) ?_); rintro e w1 ⟨v1, rfl, ho, hb⟩; have HB1 := Aside0.mk hb; obtain ⟨A1, c1, rfl, hq⟩ := own_reads ho; have RP := Aside0.mk hq; have CP := Aside0.mk (own_cap ho); clear ho hq; clear hb))
  go_ret
  exact ⟨rfl, HB8.out⟩
theorem back_walk (A : Option Addr) (c : Nat) (l : List S42) (B : Option Addr) (d : Nat) (b : List Int) (w : World) (hr : Row w A l) (hc : l.length ≤ c) (hl63 : l.length ≤ 9223372036854775806) (hb : ReadsInt w .u8 B b.length b) (hd : b.length ≤ d) (h63 : b.length ≤ 140737488355328) (hby : ∀ x ∈ b, 0 ≤ x ∧ x < 256) (hT : Lib.Utf8Tabs 1 2 w) :
    Calls Tryd.prog 5 #[.slice A l.length c, .slice B b.length d] w fun e w' => e = .returned (.bool true) ∧ Below w.heap.size w w' := by
  cases hm : mayE l with
  | false => cases ht : takeE b with
    | none => exact back_00 A c l B d b w hr hc hl63 hb hd h63 hby hT ⟨hm⟩ ⟨ht⟩
    | some y => exact back_01 A c l B d b w hr hc hl63 hb hd h63 hby hT ⟨hm⟩ y ⟨ht⟩
  | true => cases ht : takeE b with
    | none => exact back_10 A c l B d b w hr hc hl63 hb hd h63 hby hT ⟨hm⟩ ⟨ht⟩
    | some y => exact back_11 A c l B d b w hr hc hl63 hb hd h63 hby hT ⟨hm⟩ y ⟨ht⟩
end Go.Proofs.YtneanbckmekdkaaDoor.EN
