/- entry.Insert: where it refuses: the walk. -/
import Derived.Test.YtneanbckmekdkaaDoorEFind
namespace Go.Proofs.YtneanbckmekdkaaDoor.EN
open Go Go.RowKit Go.Proofs.YtneanbckmekdkaaDoorX Go.Proofs.YtneanbckmekdkaaDoor.NM Go.Proofs.YtneanbckmekdkaaDoorW.PrintWords Go.Proofs.YtneanbckmekdkaaDoorW.PrintLast Go.Proofs.YtneanbckmekdkaaDoorW.PrintMore Go.Proofs.YtneanbckmekdkaaDoor.PEntryForms
set_option linter.unusedVariables false
set_option linter.unusedSimpArgs false
/-- Why an entry may not be put in. -/
def insErr (l : List S42) (x : S42) : Option Int :=
  if mayE l = true then (if valid x.f1.data.toList = true then (if okIno x.f0 = true then (if isE l x.f1 = true then some 33 else (if 64 ≤ l.length then some 40 else none)) else some 1) else some 31) else some 1
set_option maxHeartbeats 2000000 in
theorem ins_may (A : Option Addr) (c : Nat) (l : List S42) (a : Int) (s : ByteArray) (w : World) (hr : Row w A l) (hz : ∀ x ∈ l, x.f1.size ≤ 17592186044416) (hn : s.size ≤ 17592186044416) (hT : Lib.Utf8Tabs 1 2 w) (HM : Aside0 (mayE l = false)) :
    Calls Tryd.prog 20 #[.slice A l.length c, .agg (cellsE a s)] w fun e w' => e = .returned (.tuple #[.slice none 0 0, .int .i64 1]) ∧ Below w.heap.size w w' := by
  have HR := Aside0.mk hr
  have HZ := Aside0.mk hz
  have HN := Aside0.mk hn
  have HT := Aside0.mk hT
  obtain ⟨J, HAT⟩ : ∃ J, Aside0 (atE l s = J) := ⟨_, ⟨rfl⟩⟩
  clear hr hz hn hT
  go_enter Tryd.func20, Tryd.ntmps20
  go_wp2_with (first
    | ((with_reducible refine gate_dst (N := 3) rfl ?_); refine box_event ?hg (N := 3) ?hd (cs := cellsE a s) (t := 42) ?hr ?_; (case hd => rfl); (case hg => rfl); (case hr => first | (go_simp; done) | (go_simp; rfl) | kernel_rfl); intro gg hg w1 hbox hb; have HB1 := Aside0.mk hb; have BG := Aside0.mk hbox; have d1 : w1.cell? ⟨gg, 1, none⟩ = some (.string s) := (blk_cell hbox 1).trans (cellE_one a s); have d0 : w1.cell? ⟨gg, 0, none⟩ = some (.int .i64 a) := (blk_cell hbox 0).trans (cellE_zero a s); clear hb hbox hg)
    | (go_at_call 15; refine (may_any _ A c l (HR.out.below HB1.out) (Utf8Tabs_below HT.out HB1.out)).mono ?_; rw [HM.out]; rintro e w2 ⟨rfl, hb⟩; have HB2 := Aside0.mk (below_step HB1.out hb); have d1 := pw_cell_below hb d1; have d0 := pw_cell_below hb d0; have BG := Aside0.mk (blk_below BG.out hb); clear hb))
  go_ret2
  exact ⟨rfl, HB2.out⟩
set_option maxHeartbeats 2000000 in
theorem ins_name (A : Option Addr) (c : Nat) (l : List S42) (a : Int) (s : ByteArray) (w : World) (hr : Row w A l) (hz : ∀ x ∈ l, x.f1.size ≤ 17592186044416) (hn : s.size ≤ 17592186044416) (hT : Lib.Utf8Tabs 1 2 w) (HM : Aside0 (mayE l = true)) (HL : Aside0 (l.length ≤ 9223372036854775807)) (E : Bool) (HE : Aside0 (isE l s = E)) (HV : Aside0 (valid s.data.toList = false)) :
    Calls Tryd.prog 20 #[.slice A l.length c, .agg (cellsE a s)] w fun e w' => e = .returned (.tuple #[.slice none 0 0, .int .i64 31]) ∧ Below w.heap.size w w' := by
  have HR := Aside0.mk hr
  have HZ := Aside0.mk hz
  have HN := Aside0.mk hn
  have HT := Aside0.mk hT
  obtain ⟨J, HAT⟩ : ∃ J, Aside0 (atE l s = J) := ⟨_, ⟨rfl⟩⟩
  clear hr hz hn hT
  go_enter Tryd.func20, Tryd.ntmps20
  go_wp2_with (first
    | ((with_reducible refine gate_dst (N := 3) rfl ?_); refine box_event ?hg (N := 3) ?hd (cs := cellsE a s) (t := 42) ?hr ?_; (case hd => rfl); (case hg => rfl); (case hr => first | (go_simp; done) | (go_simp; rfl) | kernel_rfl); intro gg hg w1 hbox hb; have HB1 := Aside0.mk hb; have BG := Aside0.mk hbox; have d1 : w1.cell? ⟨gg, 1, none⟩ = some (.string s) := (blk_cell hbox 1).trans (cellE_one a s); have d0 : w1.cell? ⟨gg, 0, none⟩ = some (.int .i64 a) := (blk_cell hbox 0).trans (cellE_zero a s); clear hb hbox hg)
    | (go_at_call 30; refine (valid_any s _ (by have := HN.out; omega) (Utf8Tabs_below HT.out HB3.out)).mono ?_; rw [HV.out]; rintro e w4 ⟨rfl, hb⟩; have HB4 := Aside0.mk (below_step HB3.out hb); have d1 := pw_cell_below hb d1; have d0 := pw_cell_below hb d0; have BG := Aside0.mk (blk_below BG.out hb); clear hb)
    | (go_at_call 18; refine (find_any A c l s _ (HR.out.below HB2.out) HL.out HZ.out HN.out).mono ?_; rw [HE.out, HAT.out]; rintro e w3 ⟨rfl, hb⟩; have HB3 := Aside0.mk (below_step HB2.out hb); have d1 := pw_cell_below hb d1; have d0 := pw_cell_below hb d0; have BG := Aside0.mk (blk_below BG.out hb); clear hb)
    | (go_at_call 15; refine (may_any _ A c l (HR.out.below HB1.out) (Utf8Tabs_below HT.out HB1.out)).mono ?_; rw [HM.out]; rintro e w2 ⟨rfl, hb⟩; have HB2 := Aside0.mk (below_step HB1.out hb); have d1 := pw_cell_below hb d1; have d0 := pw_cell_below hb d0; have BG := Aside0.mk (blk_below BG.out hb); clear hb))
  go_ret2
  exact ⟨rfl, HB4.out⟩
set_option maxHeartbeats 2000000 in
theorem ins_ino (A : Option Addr) (c : Nat) (l : List S42) (a : Int) (s : ByteArray) (w : World) (hr : Row w A l) (hz : ∀ x ∈ l, x.f1.size ≤ 17592186044416) (hn : s.size ≤ 17592186044416) (hT : Lib.Utf8Tabs 1 2 w) (HM : Aside0 (mayE l = true)) (HL : Aside0 (l.length ≤ 9223372036854775807)) (E : Bool) (HE : Aside0 (isE l s = E)) (HV : Aside0 (valid s.data.toList = true)) (HI : Aside0 (okIno a = false)) :
    Calls Tryd.prog 20 #[.slice A l.length c, .agg (cellsE a s)] w fun e w' => e = .returned (.tuple #[.slice none 0 0, .int .i64 1]) ∧ Below w.heap.size w w' := by
  have HR := Aside0.mk hr
  have HZ := Aside0.mk hz
  have HN := Aside0.mk hn
  have HT := Aside0.mk hT
  obtain ⟨J, HAT⟩ : ∃ J, Aside0 (atE l s = J) := ⟨_, ⟨rfl⟩⟩
  clear hr hz hn hT
  go_enter Tryd.func20, Tryd.ntmps20
  go_wp2_with (first
    | ((with_reducible refine gate_dst (N := 3) rfl ?_); refine box_event ?hg (N := 3) ?hd (cs := cellsE a s) (t := 42) ?hr ?_; (case hd => rfl); (case hg => rfl); (case hr => first | (go_simp; done) | (go_simp; rfl) | kernel_rfl); intro gg hg w1 hbox hb; have HB1 := Aside0.mk hb; have BG := Aside0.mk hbox; have d1 : w1.cell? ⟨gg, 1, none⟩ = some (.string s) := (blk_cell hbox 1).trans (cellE_one a s); have d0 : w1.cell? ⟨gg, 0, none⟩ = some (.int .i64 a) := (blk_cell hbox 0).trans (cellE_zero a s); clear hb hbox hg)
    | (go_at_call 29; refine (may_call a _).mono ?_; rw [HI.out]; rintro e w5 ⟨rfl, hb⟩; have HB5 := Aside0.mk (below_step HB4.out hb); have d1 := pw_cell_below hb d1; have d0 := pw_cell_below hb d0; have BG := Aside0.mk (blk_below BG.out hb); clear hb)
    | (go_at_call 30; refine (valid_any s _ (by have := HN.out; omega) (Utf8Tabs_below HT.out HB3.out)).mono ?_; rw [HV.out]; rintro e w4 ⟨rfl, hb⟩; have HB4 := Aside0.mk (below_step HB3.out hb); have d1 := pw_cell_below hb d1; have d0 := pw_cell_below hb d0; have BG := Aside0.mk (blk_below BG.out hb); clear hb)
    | (go_at_call 18; refine (find_any A c l s _ (HR.out.below HB2.out) HL.out HZ.out HN.out).mono ?_; rw [HE.out, HAT.out]; rintro e w3 ⟨rfl, hb⟩; have HB3 := Aside0.mk (below_step HB2.out hb); have d1 := pw_cell_below hb d1; have d0 := pw_cell_below hb d0; have BG := Aside0.mk (blk_below BG.out hb); clear hb)
    | (go_at_call 15; refine (may_any _ A c l (HR.out.below HB1.out) (Utf8Tabs_below HT.out HB1.out)).mono ?_; rw [HM.out]; rintro e w2 ⟨rfl, hb⟩; have HB2 := Aside0.mk (below_step HB1.out hb); have d1 := pw_cell_below hb d1; have d0 := pw_cell_below hb d0; have BG := Aside0.mk (blk_below BG.out hb); clear hb))
  go_ret2
  exact ⟨rfl, HB5.out⟩
set_option maxHeartbeats 2000000 in
theorem ins_there (A : Option Addr) (c : Nat) (l : List S42) (a : Int) (s : ByteArray) (w : World) (hr : Row w A l) (hz : ∀ x ∈ l, x.f1.size ≤ 17592186044416) (hn : s.size ≤ 17592186044416) (hT : Lib.Utf8Tabs 1 2 w) (HM : Aside0 (mayE l = true)) (HL : Aside0 (l.length ≤ 9223372036854775807)) (HE : Aside0 (isE l s = true)) (HV : Aside0 (valid s.data.toList = true)) (HI : Aside0 (okIno a = true)) :
    Calls Tryd.prog 20 #[.slice A l.length c, .agg (cellsE a s)] w fun e w' => e = .returned (.tuple #[.slice none 0 0, .int .i64 33]) ∧ Below w.heap.size w w' := by
  have HR := Aside0.mk hr
  have HZ := Aside0.mk hz
  have HN := Aside0.mk hn
  have HT := Aside0.mk hT
  obtain ⟨J, HAT⟩ : ∃ J, Aside0 (atE l s = J) := ⟨_, ⟨rfl⟩⟩
  clear hr hz hn hT
  go_enter Tryd.func20, Tryd.ntmps20
  go_wp2_with (first
    | ((with_reducible refine gate_dst (N := 3) rfl ?_); refine box_event ?hg (N := 3) ?hd (cs := cellsE a s) (t := 42) ?hr ?_; (case hd => rfl); (case hg => rfl); (case hr => first | (go_simp; done) | (go_simp; rfl) | kernel_rfl); intro gg hg w1 hbox hb; have HB1 := Aside0.mk hb; have BG := Aside0.mk hbox; have d1 : w1.cell? ⟨gg, 1, none⟩ = some (.string s) := (blk_cell hbox 1).trans (cellE_one a s); have d0 : w1.cell? ⟨gg, 0, none⟩ = some (.int .i64 a) := (blk_cell hbox 0).trans (cellE_zero a s); clear hb hbox hg)
    | (go_at_call 29; refine (may_call a _).mono ?_; rw [HI.out]; rintro e w5 ⟨rfl, hb⟩; have HB5 := Aside0.mk (below_step HB4.out hb); have d1 := pw_cell_below hb d1; have d0 := pw_cell_below hb d0; have BG := Aside0.mk (blk_below BG.out hb); clear hb)
    | (go_at_call 30; refine (valid_any s _ (by have := HN.out; omega) (Utf8Tabs_below HT.out HB3.out)).mono ?_; rw [HV.out]; rintro e w4 ⟨rfl, hb⟩; have HB4 := Aside0.mk (below_step HB3.out hb); have d1 := pw_cell_below hb d1; have d0 := pw_cell_below hb d0; have BG := Aside0.mk (blk_below BG.out hb); clear hb)
    | (go_at_call 18; refine (find_any A c l s _ (HR.out.below HB2.out) HL.out HZ.out HN.out).mono ?_; rw [HE.out, HAT.out]; rintro e w3 ⟨rfl, hb⟩; have HB3 := Aside0.mk (below_step HB2.out hb); have d1 := pw_cell_below hb d1; have d0 := pw_cell_below hb d0; have BG := Aside0.mk (blk_below BG.out hb); clear hb)
    | (go_at_call 15; refine (may_any _ A c l (HR.out.below HB1.out) (Utf8Tabs_below HT.out HB1.out)).mono ?_; rw [HM.out]; rintro e w2 ⟨rfl, hb⟩; have HB2 := Aside0.mk (below_step HB1.out hb); have d1 := pw_cell_below hb d1; have d0 := pw_cell_below hb d0; have BG := Aside0.mk (blk_below BG.out hb); clear hb))
  go_ret2
  exact ⟨rfl, HB5.out⟩
set_option maxHeartbeats 2000000 in
theorem ins_full (A : Option Addr) (c : Nat) (l : List S42) (a : Int) (s : ByteArray) (w : World) (hr : Row w A l) (hz : ∀ x ∈ l, x.f1.size ≤ 17592186044416) (hn : s.size ≤ 17592186044416) (hT : Lib.Utf8Tabs 1 2 w) (HM : Aside0 (mayE l = true)) (HL : Aside0 (l.length ≤ 9223372036854775807)) (HE : Aside0 (isE l s = false)) (HV : Aside0 (valid s.data.toList = true)) (HI : Aside0 (okIno a = true)) (hfull : (64 : Int) ≤ (l.length : Int)) :
    Calls Tryd.prog 20 #[.slice A l.length c, .agg (cellsE a s)] w fun e w' => e = .returned (.tuple #[.slice none 0 0, .int .i64 40]) ∧ Below w.heap.size w w' := by
  have HR := Aside0.mk hr
  have HZ := Aside0.mk hz
  have HN := Aside0.mk hn
  have HT := Aside0.mk hT
  obtain ⟨J, HAT⟩ : ∃ J, Aside0 (atE l s = J) := ⟨_, ⟨rfl⟩⟩
  clear hr hz hn hT
  go_enter Tryd.func20, Tryd.ntmps20
  go_wp2_with (first
    | ((with_reducible refine gate_dst (N := 3) rfl ?_); refine box_event ?hg (N := 3) ?hd (cs := cellsE a s) (t := 42) ?hr ?_; (case hd => rfl); (case hg => rfl); (case hr => first | (go_simp; done) | (go_simp; rfl) | kernel_rfl); intro gg hg w1 hbox hb; have HB1 := Aside0.mk hb; have BG := Aside0.mk hbox; have d1 : w1.cell? ⟨gg, 1, none⟩ = some (.string s) := (blk_cell hbox 1).trans (cellE_one a s); have d0 : w1.cell? ⟨gg, 0, none⟩ = some (.int .i64 a) := (blk_cell hbox 0).trans (cellE_zero a s); clear hb hbox hg)
    | (go_at_call 29; refine (may_call a _).mono ?_; rw [HI.out]; rintro e w5 ⟨rfl, hb⟩; have HB5 := Aside0.mk (below_step HB4.out hb); have d1 := pw_cell_below hb d1; have d0 := pw_cell_below hb d0; have BG := Aside0.mk (blk_below BG.out hb); clear hb)
    | (go_at_call 30; refine (valid_any s _ (by have := HN.out; omega) (Utf8Tabs_below HT.out HB3.out)).mono ?_; rw [HV.out]; rintro e w4 ⟨rfl, hb⟩; have HB4 := Aside0.mk (below_step HB3.out hb); have d1 := pw_cell_below hb d1; have d0 := pw_cell_below hb d0; have BG := Aside0.mk (blk_below BG.out hb); clear hb)
    | (go_at_call 18; refine (find_any A c l s _ (HR.out.below HB2.out) HL.out HZ.out HN.out).mono ?_; rw [HE.out, HAT.out]; rintro e w3 ⟨rfl, hb⟩; have HB3 := Aside0.mk (below_step HB2.out hb); have d1 := pw_cell_below hb d1; have d0 := pw_cell_below hb d0; have BG := Aside0.mk (blk_below BG.out hb); clear hb)
    | (go_at_call 15; refine (may_any _ A c l (HR.out.below HB1.out) (Utf8Tabs_below HT.out HB1.out)).mono ?_; rw [HM.out]; rintro e w2 ⟨rfl, hb⟩; have HB2 := Aside0.mk (below_step HB1.out hb); have d1 := pw_cell_below hb d1; have d0 := pw_cell_below hb d0; have BG := Aside0.mk (blk_below BG.out hb); clear hb))
  go_ret2
  exact ⟨rfl, HB5.out⟩
theorem ins_err (A : Option Addr) (c : Nat) (l : List S42) (a : Int) (s : ByteArray) (w : World) (hr : Row w A l) (hz : ∀ x ∈ l, x.f1.size ≤ 17592186044416) (hn : s.size ≤ 17592186044416) (hT : Lib.Utf8Tabs 1 2 w) (HL : l.length ≤ 9223372036854775807) (x : Int) (he : insErr l ⟨a, s⟩ = some x) :
    Calls Tryd.prog 20 #[.slice A l.length c, .agg (cellsE a s)] w fun e w' => e = .returned (.tuple #[.slice none 0 0, .int .i64 x]) ∧ Below w.heap.size w w' := by
  unfold insErr at he
  cases hm : mayE l with
  | false =>
    rw [hm] at he
    cases he
    exact ins_may A c l a s w hr hz hn hT ⟨hm⟩
  | true =>
    rw [hm, if_pos rfl] at he
    cases hv : valid s.data.toList with
    | false =>
      rw [hv] at he
      cases he
      exact ins_name A c l a s w hr hz hn hT ⟨hm⟩ ⟨HL⟩ _ ⟨rfl⟩ ⟨hv⟩
    | true =>
      rw [hv, if_pos rfl] at he
      cases hi : okIno a with
      | false =>
        rw [hi] at he
        cases he
        exact ins_ino A c l a s w hr hz hn hT ⟨hm⟩ ⟨HL⟩ _ ⟨rfl⟩ ⟨hv⟩ ⟨hi⟩
      | true =>
        rw [hi, if_pos rfl] at he
        cases hx : isE l s with
        | true =>
          rw [hx, if_pos rfl] at he
          cases he
          exact ins_there A c l a s w hr hz hn hT ⟨hm⟩ ⟨HL⟩ ⟨hx⟩ ⟨hv⟩ ⟨hi⟩
        | false =>
          rw [hx] at he
          by_cases hf : 64 ≤ l.length
          · rw [if_neg (by simp), if_pos hf] at he
            cases he
            exact ins_full A c l a s w hr hz hn hT ⟨hm⟩ ⟨HL⟩ ⟨hx⟩ ⟨hv⟩ ⟨hi⟩ (by omega)
          · rw [if_neg (by simp), if_neg hf] at he
            cases he
end Go.Proofs.YtneanbckmekdkaaDoor.EN
