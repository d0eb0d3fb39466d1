/- What this claim uses of the texts that were printed for it. -/
import Derived.Deep.DeepAppendWide
import Derived.WalkSpells
import Derived.Lib.SliceRun
import Derived.Lib.AppendZerosOnto
import Derived.Lib.Overlaps
import Derived.Maps.OwnSet
import Derived.Maps.Ext
import Derived.LoopTactic
import Derived.Test.YtcmcmkfoihlniaaDoorV2
section
namespace Go.Proofs.YtcmcmkfoihlniaaDoor.EN
open Go Go.RowKit Go.Proofs.YtcmcmkfoihlniaaDoorX Go.Proofs.YtcmcmkfoihlniaaDoor.NM Go.Proofs.YtcmcmkfoihlniaaDoorW.PrintWords Go.Proofs.YtcmcmkfoihlniaaDoorW.PrintLast Go.Proofs.YtcmcmkfoihlniaaDoorW.PrintMore Go.Proofs.YtcmcmkfoihlniaaDoor.PModelUndoes
set_option linter.unusedVariables false
set_option linter.unusedSimpArgs false
def insErr (l : List S90) (x : S90) : Option Int :=
  if mayE l = true then (if valid x.f1.data.toList = true then (if okIno x.f0 = true then (if isE l x.f1 = true then some 33 else (if 64 ≤ l.length then some 40 else none)) else some 1) else some 31) else some 1
set_option maxHeartbeats 2000000 in
theorem ins_may (A : Option Addr) (c : Nat) (l : List S90) (a : Int) (s : ByteArray) (w : World) (hr : Row w A l) (hz : ∀ x ∈ l, x.f1.size ≤ 17592186044416) (hn : s.size ≤ 17592186044416) (hT : Lib.Utf8Tabs 2 3 w) (HM : Aside0 (mayE l = false)) :
    Calls Tryd.prog 59 #[.slice A l.length c, .agg (cellsE a s)] w fun e w' => e = .returned (.tuple #[.slice none 0 0, .int .i64 1]) ∧ Below w.heap.size w w' := by
  have HR := Aside0.mk hr
  have HZ := Aside0.mk hz
  have HN := Aside0.mk hn
  have HT := Aside0.mk hT
  obtain ⟨J, HAT⟩ : ∃ J, Aside0 (atE l s = J) := ⟨_, ⟨rfl⟩⟩
  clear hr hz hn hT
  go_enter Tryd.func59, Tryd.ntmps59
  go_wp2_with (first
    | ((with_reducible refine gate_dst (N := 3) rfl ?_); refine box_event ?hg (N := 3) ?hd (cs := cellsE a s) (t := 90) ?hr ?_; (case hd => rfl); (case hg => rfl); (case hr => first | (go_simp; done) | (go_simp; rfl) | kernel_rfl); intro gg hg w1 hbox hb; have HB1 := Aside0.mk hb; have BG := Aside0.mk hbox; have d1 : w1.cell? ⟨gg, 1, none⟩ = some (.string s) := (blk_cell hbox 1).trans (cellE_one a s); have d0 : w1.cell? ⟨gg, 0, none⟩ = some (.int .i64 a) := (blk_cell hbox 0).trans (cellE_zero a s); clear hb hbox hg)
    | (go_at_call 69; refine (may_any _ A c l (HR.out.below HB1.out) (Utf8Tabs_below HT.out HB1.out)).mono ?_; rw [HM.out]; rintro e w2 ⟨rfl, hb⟩; have HB2 := Aside0.mk (below_step HB1.out hb); have d1 := pw_cell_below hb d1; have d0 := pw_cell_below hb d0; have BG := Aside0.mk (blk_below BG.out hb); clear hb))
  go_ret2
  exact ⟨rfl, HB2.out⟩
set_option maxHeartbeats 2000000 in
theorem ins_name (A : Option Addr) (c : Nat) (l : List S90) (a : Int) (s : ByteArray) (w : World) (hr : Row w A l) (hz : ∀ x ∈ l, x.f1.size ≤ 17592186044416) (hn : s.size ≤ 17592186044416) (hT : Lib.Utf8Tabs 2 3 w) (HM : Aside0 (mayE l = true)) (HL : Aside0 (l.length ≤ 9223372036854775807)) (E : Bool) (HE : Aside0 (isE l s = E)) (HV : Aside0 (valid s.data.toList = false)) :
    Calls Tryd.prog 59 #[.slice A l.length c, .agg (cellsE a s)] w fun e w' => e = .returned (.tuple #[.slice none 0 0, .int .i64 31]) ∧ Below w.heap.size w w' := by
  have HR := Aside0.mk hr
  have HZ := Aside0.mk hz
  have HN := Aside0.mk hn
  have HT := Aside0.mk hT
  obtain ⟨J, HAT⟩ : ∃ J, Aside0 (atE l s = J) := ⟨_, ⟨rfl⟩⟩
  clear hr hz hn hT
  go_enter Tryd.func59, Tryd.ntmps59
  go_wp2_with (first
    | ((with_reducible refine gate_dst (N := 3) rfl ?_); refine box_event ?hg (N := 3) ?hd (cs := cellsE a s) (t := 90) ?hr ?_; (case hd => rfl); (case hg => rfl); (case hr => first | (go_simp; done) | (go_simp; rfl) | kernel_rfl); intro gg hg w1 hbox hb; have HB1 := Aside0.mk hb; have BG := Aside0.mk hbox; have d1 : w1.cell? ⟨gg, 1, none⟩ = some (.string s) := (blk_cell hbox 1).trans (cellE_one a s); have d0 : w1.cell? ⟨gg, 0, none⟩ = some (.int .i64 a) := (blk_cell hbox 0).trans (cellE_zero a s); clear hb hbox hg)
    | (go_at_call 68; refine (valid_any s _ (by have := HN.out; omega) (Utf8Tabs_below HT.out HB3.out)).mono ?_; rw [HV.out]; rintro e w4 ⟨rfl, hb⟩; have HB4 := Aside0.mk (below_step HB3.out hb); have d1 := pw_cell_below hb d1; have d0 := pw_cell_below hb d0; have BG := Aside0.mk (blk_below BG.out hb); clear hb)
    | (go_at_call 58; refine (find_any A c l s _ (HR.out.below HB2.out) HL.out HZ.out HN.out).mono ?_; rw [HE.out, HAT.out]; rintro e w3 ⟨rfl, hb⟩; have HB3 := Aside0.mk (below_step HB2.out hb); have d1 := pw_cell_below hb d1; have d0 := pw_cell_below hb d0; have BG := Aside0.mk (blk_below BG.out hb); clear hb)
    | (go_at_call 69; refine (may_any _ A c l (HR.out.below HB1.out) (Utf8Tabs_below HT.out HB1.out)).mono ?_; rw [HM.out]; rintro e w2 ⟨rfl, hb⟩; have HB2 := Aside0.mk (below_step HB1.out hb); have d1 := pw_cell_below hb d1; have d0 := pw_cell_below hb d0; have BG := Aside0.mk (blk_below BG.out hb); clear hb))
  go_ret2
  exact ⟨rfl, HB4.out⟩
set_option maxHeartbeats 2000000 in
theorem ins_ino (A : Option Addr) (c : Nat) (l : List S90) (a : Int) (s : ByteArray) (w : World) (hr : Row w A l) (hz : ∀ x ∈ l, x.f1.size ≤ 17592186044416) (hn : s.size ≤ 17592186044416) (hT : Lib.Utf8Tabs 2 3 w) (HM : Aside0 (mayE l = true)) (HL : Aside0 (l.length ≤ 9223372036854775807)) (E : Bool) (HE : Aside0 (isE l s = E)) (HV : Aside0 (valid s.data.toList = true)) (HI : Aside0 (okIno a = false)) :
    Calls Tryd.prog 59 #[.slice A l.length c, .agg (cellsE a s)] w fun e w' => e = .returned (.tuple #[.slice none 0 0, .int .i64 1]) ∧ Below w.heap.size w w' := by
  have HR := Aside0.mk hr
  have HZ := Aside0.mk hz
  have HN := Aside0.mk hn
  have HT := Aside0.mk hT
  obtain ⟨J, HAT⟩ : ∃ J, Aside0 (atE l s = J) := ⟨_, ⟨rfl⟩⟩
  clear hr hz hn hT
  go_enter Tryd.func59, Tryd.ntmps59
  go_wp2_with (first
    | ((with_reducible refine gate_dst (N := 3) rfl ?_); refine box_event ?hg (N := 3) ?hd (cs := cellsE a s) (t := 90) ?hr ?_; (case hd => rfl); (case hg => rfl); (case hr => first | (go_simp; done) | (go_simp; rfl) | kernel_rfl); intro gg hg w1 hbox hb; have HB1 := Aside0.mk hb; have BG := Aside0.mk hbox; have d1 : w1.cell? ⟨gg, 1, none⟩ = some (.string s) := (blk_cell hbox 1).trans (cellE_one a s); have d0 : w1.cell? ⟨gg, 0, none⟩ = some (.int .i64 a) := (blk_cell hbox 0).trans (cellE_zero a s); clear hb hbox hg)
    | (go_at_call 75; refine (may_call a _).mono ?_; rw [HI.out]; rintro e w5 ⟨rfl, hb⟩; have HB5 := Aside0.mk (below_step HB4.out hb); have d1 := pw_cell_below hb d1; have d0 := pw_cell_below hb d0; have BG := Aside0.mk (blk_below BG.out hb); clear hb)
    | (go_at_call 68; refine (valid_any s _ (by have := HN.out; omega) (Utf8Tabs_below HT.out HB3.out)).mono ?_; rw [HV.out]; rintro e w4 ⟨rfl, hb⟩; have HB4 := Aside0.mk (below_step HB3.out hb); have d1 := pw_cell_below hb d1; have d0 := pw_cell_below hb d0; have BG := Aside0.mk (blk_below BG.out hb); clear hb)
    | (go_at_call 58; refine (find_any A c l s _ (HR.out.below HB2.out) HL.out HZ.out HN.out).mono ?_; rw [HE.out, HAT.out]; rintro e w3 ⟨rfl, hb⟩; have HB3 := Aside0.mk (below_step HB2.out hb); have d1 := pw_cell_below hb d1; have d0 := pw_cell_below hb d0; have BG := Aside0.mk (blk_below BG.out hb); clear hb)
    | (go_at_call 69; refine (may_any _ A c l (HR.out.below HB1.out) (Utf8Tabs_below HT.out HB1.out)).mono ?_; rw [HM.out]; rintro e w2 ⟨rfl, hb⟩; have HB2 := Aside0.mk (below_step HB1.out hb); have d1 := pw_cell_below hb d1; have d0 := pw_cell_below hb d0; have BG := Aside0.mk (blk_below BG.out hb); clear hb))
  go_ret2
  exact ⟨rfl, HB5.out⟩
set_option maxHeartbeats 2000000 in
theorem ins_there (A : Option Addr) (c : Nat) (l : List S90) (a : Int) (s : ByteArray) (w : World) (hr : Row w A l) (hz : ∀ x ∈ l, x.f1.size ≤ 17592186044416) (hn : s.size ≤ 17592186044416) (hT : Lib.Utf8Tabs 2 3 w) (HM : Aside0 (mayE l = true)) (HL : Aside0 (l.length ≤ 9223372036854775807)) (HE : Aside0 (isE l s = true)) (HV : Aside0 (valid s.data.toList = true)) (HI : Aside0 (okIno a = true)) :
    Calls Tryd.prog 59 #[.slice A l.length c, .agg (cellsE a s)] w fun e w' => e = .returned (.tuple #[.slice none 0 0, .int .i64 33]) ∧ Below w.heap.size w w' := by
  have HR := Aside0.mk hr
  have HZ := Aside0.mk hz
  have HN := Aside0.mk hn
  have HT := Aside0.mk hT
  obtain ⟨J, HAT⟩ : ∃ J, Aside0 (atE l s = J) := ⟨_, ⟨rfl⟩⟩
  clear hr hz hn hT
  go_enter Tryd.func59, Tryd.ntmps59
  go_wp2_with (first
    | ((with_reducible refine gate_dst (N := 3) rfl ?_); refine box_event ?hg (N := 3) ?hd (cs := cellsE a s) (t := 90) ?hr ?_; (case hd => rfl); (case hg => rfl); (case hr => first | (go_simp; done) | (go_simp; rfl) | kernel_rfl); intro gg hg w1 hbox hb; have HB1 := Aside0.mk hb; have BG := Aside0.mk hbox; have d1 : w1.cell? ⟨gg, 1, none⟩ = some (.string s) := (blk_cell hbox 1).trans (cellE_one a s); have d0 : w1.cell? ⟨gg, 0, none⟩ = some (.int .i64 a) := (blk_cell hbox 0).trans (cellE_zero a s); clear hb hbox hg)
    | (go_at_call 75; refine (may_call a _).mono ?_; rw [HI.out]; rintro e w5 ⟨rfl, hb⟩; have HB5 := Aside0.mk (below_step HB4.out hb); have d1 := pw_cell_below hb d1; have d0 := pw_cell_below hb d0; have BG := Aside0.mk (blk_below BG.out hb); clear hb)
    | (go_at_call 68; refine (valid_any s _ (by have := HN.out; omega) (Utf8Tabs_below HT.out HB3.out)).mono ?_; rw [HV.out]; rintro e w4 ⟨rfl, hb⟩; have HB4 := Aside0.mk (below_step HB3.out hb); have d1 := pw_cell_below hb d1; have d0 := pw_cell_below hb d0; have BG := Aside0.mk (blk_below BG.out hb); clear hb)
    | (go_at_call 58; refine (find_any A c l s _ (HR.out.below HB2.out) HL.out HZ.out HN.out).mono ?_; rw [HE.out, HAT.out]; rintro e w3 ⟨rfl, hb⟩; have HB3 := Aside0.mk (below_step HB2.out hb); have d1 := pw_cell_below hb d1; have d0 := pw_cell_below hb d0; have BG := Aside0.mk (blk_below BG.out hb); clear hb)
    | (go_at_call 69; refine (may_any _ A c l (HR.out.below HB1.out) (Utf8Tabs_below HT.out HB1.out)).mono ?_; rw [HM.out]; rintro e w2 ⟨rfl, hb⟩; have HB2 := Aside0.mk (below_step HB1.out hb); have d1 := pw_cell_below hb d1; have d0 := pw_cell_below hb d0; have BG := Aside0.mk (blk_below BG.out hb); clear hb))
  go_ret2
  exact ⟨rfl, HB5.out⟩
set_option maxHeartbeats 2000000 in
theorem ins_full (A : Option Addr) (c : Nat) (l : List S90) (a : Int) (s : ByteArray) (w : World) (hr : Row w A l) (hz : ∀ x ∈ l, x.f1.size ≤ 17592186044416) (hn : s.size ≤ 17592186044416) (hT : Lib.Utf8Tabs 2 3 w) (HM : Aside0 (mayE l = true)) (HL : Aside0 (l.length ≤ 9223372036854775807)) (HE : Aside0 (isE l s = false)) (HV : Aside0 (valid s.data.toList = true)) (HI : Aside0 (okIno a = true)) (hfull : (64 : Int) ≤ (l.length : Int)) :
    Calls Tryd.prog 59 #[.slice A l.length c, .agg (cellsE a s)] w fun e w' => e = .returned (.tuple #[.slice none 0 0, .int .i64 40]) ∧ Below w.heap.size w w' := by
  have HR := Aside0.mk hr
  have HZ := Aside0.mk hz
  have HN := Aside0.mk hn
  have HT := Aside0.mk hT
  obtain ⟨J, HAT⟩ : ∃ J, Aside0 (atE l s = J) := ⟨_, ⟨rfl⟩⟩
  clear hr hz hn hT
  go_enter Tryd.func59, Tryd.ntmps59
  go_wp2_with (first
    | ((with_reducible refine gate_dst (N := 3) rfl ?_); refine box_event ?hg (N := 3) ?hd (cs := cellsE a s) (t := 90) ?hr ?_; (case hd => rfl); (case hg => rfl); (case hr => first | (go_simp; done) | (go_simp; rfl) | kernel_rfl); intro gg hg w1 hbox hb; have HB1 := Aside0.mk hb; have BG := Aside0.mk hbox; have d1 : w1.cell? ⟨gg, 1, none⟩ = some (.string s) := (blk_cell hbox 1).trans (cellE_one a s); have d0 : w1.cell? ⟨gg, 0, none⟩ = some (.int .i64 a) := (blk_cell hbox 0).trans (cellE_zero a s); clear hb hbox hg)
    | (go_at_call 75; refine (may_call a _).mono ?_; rw [HI.out]; rintro e w5 ⟨rfl, hb⟩; have HB5 := Aside0.mk (below_step HB4.out hb); have d1 := pw_cell_below hb d1; have d0 := pw_cell_below hb d0; have BG := Aside0.mk (blk_below BG.out hb); clear hb)
    | (go_at_call 68; refine (valid_any s _ (by have := HN.out; omega) (Utf8Tabs_below HT.out HB3.out)).mono ?_; rw [HV.out]; rintro e w4 ⟨rfl, hb⟩; have HB4 := Aside0.mk (below_step HB3.out hb); have d1 := pw_cell_below hb d1; have d0 := pw_cell_below hb d0; have BG := Aside0.mk (blk_below BG.out hb); clear hb)
    | (go_at_call 58; refine (find_any A c l s _ (HR.out.below HB2.out) HL.out HZ.out HN.out).mono ?_; rw [HE.out, HAT.out]; rintro e w3 ⟨rfl, hb⟩; have HB3 := Aside0.mk (below_step HB2.out hb); have d1 := pw_cell_below hb d1; have d0 := pw_cell_below hb d0; have BG := Aside0.mk (blk_below BG.out hb); clear hb)
    | (go_at_call 69; refine (may_any _ A c l (HR.out.below HB1.out) (Utf8Tabs_below HT.out HB1.out)).mono ?_; rw [HM.out]; rintro e w2 ⟨rfl, hb⟩; have HB2 := Aside0.mk (below_step HB1.out hb); have d1 := pw_cell_below hb d1; have d0 := pw_cell_below hb d0; have BG := Aside0.mk (blk_below BG.out hb); clear hb))
  go_ret2
  exact ⟨rfl, HB5.out⟩
theorem ins_err (A : Option Addr) (c : Nat) (l : List S90) (a : Int) (s : ByteArray) (w : World) (hr : Row w A l) (hz : ∀ x ∈ l, x.f1.size ≤ 17592186044416) (hn : s.size ≤ 17592186044416) (hT : Lib.Utf8Tabs 2 3 w) (HL : l.length ≤ 9223372036854775807) (x : Int) (he : insErr l ⟨a, s⟩ = some x) :
    Calls Tryd.prog 59 #[.slice A l.length c, .agg (cellsE a s)] w fun e w' => e = .returned (.tuple #[.slice none 0 0, .int .i64 x]) ∧ Below w.heap.size w w' := by
  unfold insErr at he
  cases hm : mayE l with
  | false =>
    rw [hm] at he
    cases he
    exact ins_may A c l a s w hr hz hn hT ⟨hm⟩
  | true =>
    rw [hm, if_pos rfl] at he
    cases hv : valid s.data.toList with
    | false =>
      rw [hv] at he
      cases he
      exact ins_name A c l a s w hr hz hn hT ⟨hm⟩ ⟨HL⟩ _ ⟨rfl⟩ ⟨hv⟩
    | true =>
      rw [hv, if_pos rfl] at he
      cases hi : okIno a with
      | false =>
        rw [hi] at he
        cases he
        exact ins_ino A c l a s w hr hz hn hT ⟨hm⟩ ⟨HL⟩ _ ⟨rfl⟩ ⟨hv⟩ ⟨hi⟩
      | true =>
        rw [hi, if_pos rfl] at he
        cases hx : isE l s with
        | true =>
          rw [hx, if_pos rfl] at he
          cases he
          exact ins_there A c l a s w hr hz hn hT ⟨hm⟩ ⟨HL⟩ ⟨hx⟩ ⟨hv⟩ ⟨hi⟩
        | false =>
          rw [hx] at he
          by_cases hf : 64 ≤ l.length
          · rw [if_neg (by simp), if_pos hf] at he
            cases he
            exact ins_full A c l a s w hr hz hn hT ⟨hm⟩ ⟨HL⟩ ⟨hx⟩ ⟨hv⟩ ⟨hi⟩ (by omega)
          · rw [if_neg (by simp), if_neg hf] at he
            cases he
end Go.Proofs.YtcmcmkfoihlniaaDoor.EN
end

section
namespace Go.Proofs.YtcmcmkfoihlniaaDoor.EN
open Go Go.RowKit Go.Proofs.YtcmcmkfoihlniaaDoorX Go.Proofs.YtcmcmkfoihlniaaDoor.NM Go.Proofs.YtcmcmkfoihlniaaDoorW.PrintWords Go.Proofs.YtcmcmkfoihlniaaDoorW.PrintLast Go.Proofs.YtcmcmkfoihlniaaDoorW.PrintMore Go.Proofs.YtcmcmkfoihlniaaDoor.PModelUndoes
set_option linter.unusedVariables false
set_option linter.unusedSimpArgs false
theorem at_get {l : List S90} {i : Nat} (hi : i < l.length) : inoAt l i = l[i].f0 ∧ nameAt l i = l[i].f1 := by
  unfold inoAt nameAt rd_T90
  have : (i : Int).toNat = i := rfl
  rw [this, List.getD_eq_getElem?_getD, List.getElem?_eq_getElem hi]
  exact ⟨rfl, rfl⟩
def rowsE (l : List S90) : List Value := l.flatMap fun x => [.int .i64 x.f0, .string x.f1]
theorem rowsE_snoc (l : List S90) (x : S90) : rowsE (l ++ [x]) = rowsE l ++ [.int .i64 x.f0, .string x.f1] := by simp [rowsE]
theorem rowsE_reps : ∀ (l : List S90), Reps (fun (x : S90) c => c = [.int .i64 x.f0, .string x.f1]) 2 l (rowsE l) := by
  intro l
  have key : ∀ (n : Nat) (l : List S90), l.length = n → Reps (fun (x : S90) c => c = [.int .i64 x.f0, .string x.f1]) 2 l (rowsE l) := by
    intro n
    induction n with
    | zero => intro l hl; obtain rfl := List.eq_nil_of_length_eq_zero hl; exact Reps.none _ _
    | succ n ih =>
      intro l hl
      obtain ⟨a, x, rfl⟩ : ∃ a x, l = a ++ [x] := ⟨l.dropLast, l.getLast (by intro h; simp [h] at hl), (List.dropLast_concat_getLast _).symm⟩
      rw [rowsE_snoc]
      exact Reps.snoc (ih a (by simpa using hl)) rfl rfl
  exact key _ l rfl
theorem own_row {W : World} {base c : Nat} {A : Option Addr} {l : List S90} {n : Nat} (h : W.ownsRow base 90 2 (.slice A n c) l.length (rowsE l)) (hz : ∀ x ∈ l, x.f1.size ≤ 140737488351232) : Row W A l := by
  obtain ⟨A1, c1, e, hr⟩ := own_reads_row h (rowsE_reps l) rfl
  cases e
  refine ⟨⟨hr.1, hr.2.1, fun h0 => ?_⟩, hz⟩
  obtain ⟨ad, e, hc⟩ := hr.2.2 h0
  refine ⟨ad, e, fun j p hj => ?_⟩
  obtain ⟨c, h1, h2, h3⟩ := hc j p hj
  exact ⟨c, h1, h2 ▸ k90_mk W p, h3⟩
theorem rowsE_length (l : List S90) : (rowsE l).length = l.length * 2 := by
  induction l with
  | nil => rfl
  | cons x l ih => rw [rowsE, List.flatMap_cons, List.length_append, ← rowsE, ih, List.length_cons]; simp only [List.length_cons, List.length_nil]; omega
theorem row_own_new (W : World) (l : List S90) (hl : l.length ≤ 9223372036854775807) : (W.alloc (.cells (rowsE l).toArray 90)).ownsRow W.heap.size 90 2 (.slice (some ⟨W.heap.size, 0, none⟩) l.length l.length) l.length (rowsE l) := by
  refine ⟨rowsE_length l, .inr ⟨W.heap.size, l.length, (rowsE l).toArray, rfl, Nat.le_refl _, heap_alloc_new W _, Nat.le_refl _, by simp only [maxLen]; omega, by simp [rowsE_length], ?_⟩⟩
  rw [← rowsE_length l, List.take_length]
theorem row_none (W : World) : Row W none [] := ⟨⟨rfl, by decide, fun h => absurd h (by decide)⟩, fun x hx => by cases hx⟩
end Go.Proofs.YtcmcmkfoihlniaaDoor.EN
end

section
namespace Go.Proofs.YtcmcmkfoihlniaaDoor.EN
open Go Go.RowKit Go.Proofs.YtcmcmkfoihlniaaDoorX Go.Proofs.YtcmcmkfoihlniaaDoor.NM Go.Proofs.YtcmcmkfoihlniaaDoorW.PrintWords Go.Proofs.YtcmcmkfoihlniaaDoorW.PrintLast Go.Proofs.YtcmcmkfoihlniaaDoorW.PrintMore Go.Proofs.YtcmcmkfoihlniaaDoor.PModelUndoes
set_option linter.unusedVariables false
set_option linter.unusedSimpArgs false
theorem rowsE_append (a b : List S90) : rowsE (a ++ b) = rowsE a ++ rowsE b := by simp [rowsE]
theorem rowsE_one (l : List S90) : ∀ u ∈ rowsE l, u.oneCell' = true := by
  intro u hu
  rw [rowsE, List.mem_flatMap] at hu
  obtain ⟨x, _, hx⟩ := hu
  simp only [List.mem_cons, List.not_mem_nil, or_false] at hx
  rcases hx with rfl | rfl <;> rfl
theorem rowsE_get {l : List S90} : ∀ {j : Nat} {u : Value}, (rowsE l)[j]? = some u → ∃ i, i < l.length ∧ ((j = i * 2 ∧ u = .int .i64 (inoAt l i)) ∨ (j = i * 2 + 1 ∧ u = .string (nameAt l i))) := by
  induction l with
  | nil => intro j u h; cases h
  | cons x l ih =>
    intro j u h
    have hc : rowsE (x :: l) = Value.int .i64 x.f0 :: Value.string x.f1 :: rowsE l := by simp [rowsE]
    rw [hc] at h
    match j, h with
    | 0, h => cases h; exact ⟨0, by simp, .inl ⟨rfl, rfl⟩⟩
    | 1, h => cases h; exact ⟨0, by simp, .inr ⟨rfl, rfl⟩⟩
    | j + 2, h =>
      obtain ⟨i, hi, hu⟩ := ih (j := j) (u := u) (by simpa using h)
      have e1 : inoAt (x :: l) (i + 1) = inoAt l i := by
        have a := (at_get (l := x :: l) (i := i + 1) (by simp; omega)).1
        rw [a, (at_get hi).1]; rfl
      have e2 : nameAt (x :: l) (i + 1) = nameAt l i := by
        have a := (at_get (l := x :: l) (i := i + 1) (by simp; omega)).2
        rw [a, (at_get hi).2]; rfl
      refine ⟨i + 1, by simp; omega, ?_⟩
      rw [e1, e2]
      rcases hu with ⟨h1, h2⟩ | ⟨h1, h2⟩
      · exact .inl ⟨by omega, h2⟩
      · exact .inr ⟨by omega, h2⟩
theorem row_news {w : World} {A : Option Addr} {l : List S90} (h : Row w A l) (h0 : 0 < l.length) : ∃ ad, A = some ad ∧ ∀ j u, (rowsE l)[j]? = some u → w.cell? (ad.add j) = some u := by
  obtain ⟨ad, rfl, _⟩ := h.at_ h0
  refine ⟨ad, rfl, fun j u hu => ?_⟩
  obtain ⟨i, hi, hc⟩ := rowsE_get hu
  obtain ⟨ad', e, c0, c1⟩ := h.at_ hi
  cases e
  rcases hc with ⟨rfl, rfl⟩ | ⟨rfl, rfl⟩
  · exact c0
  · rw [add_field _ _ 1 (by decide)]; exact c1
theorem infoEnt' : (Tryd.prog.info? 90).map (fun i => (i.zero, i.size, i.bytes)) = some (some (.agg #[.int .i64 0, .string ⟨#[]⟩]), 2, 24) := by kernel_rfl
section
variable {o : Oper} {a : Act} {K : Act → World → Prop} {Q : Exit → Act → World → Prop}
theorem wp_append_ents (s x : Operand) (ho : o.op = .call { callee := .builtin .append, args := #[s, x], argTypes := #[80, 80] }) {W : World} (base : Nat) (v : Value) (xs ys : List S90) (A : Option Addr) (c : Nat) (hs : a.eval s = v) (hx : a.eval x = .slice A ys.length c)
    (HO : W.ownsRow base 90 2 v xs.length (rowsE xs)) (HR : Row W A ys) (hbase : base ≤ W.heap.size) (hl : xs.length + ys.length ≤ 5864062014700)
    (h : ∀ v1 w1, w1.ownsRow base 90 2 v1 (xs ++ ys).length (rowsE (xs ++ ys)) → W.grownBy w1 v.ownBlock → K (a.put o.dst v1) w1) : o.wp Tryd.prog a W K Q := by
  obtain ⟨i0, hi, hz0, hz1, hz2⟩ := info_parts infoEnt'
  rcases Nat.eq_zero_or_pos ys.length with h0 | h0
  · obtain rfl : ys = [] := List.eq_nil_of_length_eq_zero h0
    have h1 := h v W (by simpa using HO) (World.grownBy.refl W _)
    cases A with
    | some ad =>
      refine wp_append_own_wide W s x 80 ho base 90 i0 (.agg #[.int .i64 0, .string ⟨#[]⟩]) 2 24 Tryd.underlying80 hi hz0 hz1 hz2 rfl (by decide) v xs.length _ hs HO ad 0 c [] hx rfl (fun j u hu => by cases hu) (fun u hu => by cases hu) (by simp only [maxLen, List.length_nil] at *; omega) (by simp only [List.length_nil] at hl; omega) hbase ?_
      intro v1 w1 ho1 hg _
      exact h v1 w1 (by simpa using ho1) hg
    | none =>
      unfold Oper.wp execOp
      have hrun : (Builtin.append_ #[80, 80] o.type #[v, .slice none 0 c]).run Tryd.prog W = .ok v W := by
        rcases HO.2 with ⟨rfl, hn⟩ | ⟨g, cap, cur, rfl, _, _, hnc, _⟩
        · simp [Builtin.append_, run_underlying Tryd.underlying80, sizeOf, typeInfo, hi, Builtin.lenOf, Builtin.firstCells]
        · simp [Builtin.append_, run_underlying Tryd.underlying80, sizeOf, typeInfo, hi, Builtin.lenOf, Builtin.firstCells, hnc, storeCells]
      have hx' : a.eval x = .slice none 0 c := hx
      simp only [ho, resolve, invoke, builtin, Sem.run_bind, Sem.run_pure, Result.andThen_ok, List.map_toArray, List.map_cons, List.map_nil, hs, hx', hrun]
      exact h1
  · obtain ⟨ad, rfl, hc⟩ := row_news HR h0
    refine wp_append_own_wide W s x 80 ho base 90 i0 (.agg #[.int .i64 0, .string ⟨#[]⟩]) 2 24 Tryd.underlying80 hi hz0 hz1 hz2 rfl (by decide) v xs.length _ hs HO ad ys.length c (rowsE ys) hx (rowsE_length ys) hc (rowsE_one ys) (by simp only [maxLen]; omega) (by omega) hbase ?_
    intro v1 w1 ho1 hg _
    exact h v1 w1 (by rw [List.length_append, rowsE_append]; exact ho1) hg
theorem ev_append_ents {ops : Array Oper} {rest : List Oper} (hgd : o.guard = none) (s x : Operand) (ho : o.op = .call { callee := .builtin .append, args := #[s, x], argTypes := #[80, 80] }) {W : World} (base : Nat) (v : Value) (xs ys : List S90) (A : Option Addr) (c : Nat) (hs : a.eval s = v) (hx : a.eval x = .slice A ys.length c)
    (HO : W.ownsRow base 90 2 v xs.length (rowsE xs)) (HR : Row W A ys) (hbase : base ≤ W.heap.size) (hl : xs.length + ys.length ≤ 5864062014700)
    (h : ∀ v1 w1, w1.ownsRow base 90 2 v1 (xs ++ ys).length (rowsE (xs ++ ys)) → W.grownBy w1 v.ownBlock → wpList Tryd.prog ops Q rest (a.put o.dst v1) w1) : wpList Tryd.prog ops Q (o :: rest) a W :=
  wpList_plain hgd fun _ hK => wp_append_ents s x ho base v xs ys A c hs hx HO HR hbase hl (fun v1 w1 h1 h2 => hK _ _ (h v1 w1 h1 h2))
end
end Go.Proofs.YtcmcmkfoihlniaaDoor.EN
end

section
namespace Go.Proofs.YtcmcmkfoihlniaaDoor.EN
open Go Go.RowKit Go.Proofs.YtcmcmkfoihlniaaDoorX Go.Proofs.YtcmcmkfoihlniaaDoor.NM Go.Proofs.YtcmcmkfoihlniaaDoorW.PrintWords Go.Proofs.YtcmcmkfoihlniaaDoorW.PrintLast Go.Proofs.YtcmcmkfoihlniaaDoorW.PrintMore Go.Proofs.YtcmcmkfoihlniaaDoor.PModelUndoes
set_option linter.unusedVariables false
set_option linter.unusedSimpArgs false
set_option maxHeartbeats 1000000 in
theorem clone_any (A : Option Addr) (c : Nat) (l : List S90) (w : World) (hr : Row w A l) (hl : l.length ≤ 5864062014700) :
    Calls Tryd.prog 71 #[.slice A l.length c] w fun e w' => ∃ v, e = .returned v ∧ w'.ownsRow w.heap.size 90 2 v l.length (rowsE l) ∧ Below w.heap.size w w' := by
  have HR := Aside0.mk hr
  have HL := Aside0.mk hl
  clear hl
  cases A with
  | none =>
    have h0 : l = [] := by
      rcases Nat.eq_zero_or_pos l.length with h | h
      · exact List.eq_nil_of_length_eq_zero h
      · obtain ⟨ad, e, _⟩ := hr.at_ h; cases e
    subst h0
    clear hr HL HR
    have hq := Lib.run_eql_slice_nil (P := Tryd.prog) w 80 90 none 0 c 0 0 Tryd.underlying80
    go_enter Tryd.func71, Tryd.ntmps71
    go_wp2
    go_ret
    exact ⟨_, rfl, own_nil _ _ _ _, Below.refl _ _⟩
  | some ad =>
    clear hr
    have hq := Lib.run_eql_slice_nil (P := Tryd.prog) w 80 90 (some ad) l.length c 0 0 Tryd.underlying80
    go_enter Tryd.func71, Tryd.ntmps71
    go_wp2_with (at_builtin; (with_reducible refine gate_dst (N := 7) rfl ?_); refine ev_append_ents rfl (.tmp 5) (.tmp 6) rfl w.heap.size (.slice (some ⟨w.heap.size, 0, none⟩) 0 0) [] l (some ad) c (by kernel_rfl) (by kernel_rfl) (row_own_new w [] (by decide)) (HR.out.below (below_alloc (Below.refl _ _) _)) (by simp) (by have := HL.out; simp; omega) ?_; intro v1 w1 ho hg; rw [List.nil_append] at ho; have HO := Aside0.mk ho; have HB := Aside0.mk ((below_alloc (Below.refl w.heap.size w) (.cells #[] 90)).grown hg (by simp) (fun k e => by simp [Value.ownBlock] at e; omega)); clear ho hg)
    go_ret
    exact ⟨_, rfl, HO.out, HB.out⟩
theorem own_form {W : World} {base : Nat} {v : Value} {l : List S90} (h : W.ownsRow base 90 2 v l.length (rowsE l)) (h0 : 0 < l.length) : ∃ g cap cur, v = .slice (some ⟨g, 0, none⟩) l.length cap ∧ base ≤ g ∧ W.heap[g]? = some (.cells cur 90 (0, 0)) ∧ l.length ≤ cap ∧ cap ≤ maxLen ∧ cur.size = cap * 2 ∧ cur.toList.take (l.length * 2) = rowsE l := by
  rcases h.2 with ⟨_, hn⟩ | ⟨g, cap, cur, rfl, hb, hh, hn, hm, hs, ht⟩
  · omega
  · exact ⟨g, cap, cur, rfl, hb, hh, hn, hm, hs, by simpa using ht⟩
theorem own_of {W : World} {base g cap : Nat} {cur : List Value} {l : List S90} (hb : base ≤ g) (hh : W.heap[g]? = some (.cells cur.toArray 90 (0, 0))) (hn : l.length ≤ cap) (hm : cap ≤ maxLen) (hs : cur.length = cap * 2) (ht : cur.take (l.length * 2) = rowsE l) : W.ownsRow base 90 2 (.slice (some ⟨g, 0, none⟩) l.length cap) l.length (rowsE l) :=
  ⟨rowsE_length l, .inr ⟨g, cap, cur.toArray, rfl, hb, hh, hn, hm, by simpa using hs, by simpa using ht⟩⟩
end Go.Proofs.YtcmcmkfoihlniaaDoor.EN
end

section
namespace Go.Proofs.YtcmcmkfoihlniaaDoor.EN
open Go Go.RowKit Go.Proofs.YtcmcmkfoihlniaaDoorX Go.Proofs.YtcmcmkfoihlniaaDoor.NM Go.Proofs.YtcmcmkfoihlniaaDoorW.PrintWords Go.Proofs.YtcmcmkfoihlniaaDoorW.PrintLast Go.Proofs.YtcmcmkfoihlniaaDoorW.PrintMore Go.Proofs.YtcmcmkfoihlniaaDoor.PModelUndoes
set_option linter.unusedVariables false
set_option linter.unusedSimpArgs false
theorem reps_cells {w : World} {base : Nat} {ok : Nat → Prop} : ∀ {l : List S90} {inner : List Value}, Reps (k90.M w base ok) 2 l inner → inner = rowsE l
  | [], inner, h => by
    have := h.1
    simp at this
    rw [this]; rfl
  | x :: l, inner, h => by
    have h0 := k90_openM (h.2 0 x rfl)
    have hl := h.1
    rw [Nat.zero_mul, List.drop_zero] at h0
    have ih := reps_cells (l := l) (inner := inner.drop 2) (w := w) (base := base) (ok := ok) ⟨by rw [List.length_drop, hl, List.length_cons]; omega, fun j p hj => by
      have := h.2 (j + 1) p (by simpa using hj)
      rw [List.drop_drop, show 2 + j * 2 = (j + 1) * 2 by omega]
      exact this⟩
    have hc : rowsE (x :: l) = Value.int .i64 x.f0 :: Value.string x.f1 :: rowsE l := by simp [rowsE]
    rw [hc, ← ih, ← List.take_append_drop 2 inner, h0]
    simp
theorem reps_mk {w : World} {base : Nat} {ok : Nat → Prop} (l : List S90) : Reps (k90.M w base ok) 2 l (rowsE l) := (rowsE_reps l).imp_ fun p c h => h ▸ k90_mkM w base ok p
theorem R_of_own {W : World} {base : Nat} {v : Value} {l : List S90} (h : W.ownsRow base 90 2 v l.length (rowsE l)) : k90.R 90 W base (fun _ => True) v l := ⟨fun _ _ => trivial, rowsE l, h, reps_mk l⟩
theorem own_of_R {W : World} {base : Nat} {v : Value} {l : List S90} {ok : Nat → Prop} (h : k90.R 90 W base ok v l) : W.ownsRow base 90 2 v l.length (rowsE l) := by
  obtain ⟨_, inner, ho, hr⟩ := h
  rw [reps_cells hr] at ho
  exact ho
section
variable {o : Oper} {a : Act} {K : Act → World → Prop} {Q : Exit → Act → World → Prop}
theorem wp_delete_ents (s x : Operand) (ho : o.op = .call { callee := .builtin .append, args := #[s, x], argTypes := #[80, 80] }) {W : World} (base g n c k : Nat) (A : Option Addr) (c2 : Nat) (l : List S90) (hs : a.eval s = .slice (some ⟨g, 0, none⟩) k c) (hx : a.eval x = .slice A (n - (k + 1)) c2)
    (hA : A = if c = k + 1 then some ⟨g, 0, none⟩ else (some (⟨g, 0, none⟩ : Addr)).map (·.add ((k + 1) * 2))) (hn : l.length = n) (hk : k < n) (HO : W.ownsRow base 90 2 (.slice (some ⟨g, 0, none⟩) n c) l.length (rowsE l))
    (h : ∀ w1, w1.ownsRow base 90 2 (.slice (some ⟨g, 0, none⟩) (n - 1) c) (l.eraseIdx k).length (rowsE (l.eraseIdx k)) → W.grownBy w1 (some g) → K (a.put o.dst (.slice (some ⟨g, 0, none⟩) (n - 1) c)) w1) : o.wp Tryd.prog a W K Q := by
  obtain ⟨i0, hi, hsz⟩ := Option.map_eq_some_iff.1 (show (Tryd.prog.info? 90).map (·.size) = some k90.sz by kernel_rfl)
  obtain ⟨w1, hr, h1, h2⟩ := Kd.R_delete_run (P := Tryd.prog) k90 base 80 o.type 90 i0 Tryd.underlying80 hi hsz (R_of_own HO) hk hA c2
  unfold Oper.wp execOp
  simp only [ho, resolve, invoke, builtin, Sem.run_bind, Sem.run_pure, Result.andThen_ok, List.map_toArray, List.map_cons, List.map_nil, hs, hx, hr]
  exact h w1 (own_of_R h1) h2
end
theorem own_form2 {W : World} {base g n cap : Nat} {l : List S90} (h : W.ownsRow base 90 2 (.slice (some ⟨g, 0, none⟩) n cap) l.length (rowsE l)) : base ≤ g ∧ ∃ cur : List Value, W.heap[g]? = some (.cells cur.toArray 90 (0, 0)) ∧ l.length ≤ cap ∧ cap ≤ maxLen ∧ cur.length = cap * 2 ∧ cur.take (l.length * 2) = rowsE l := by
  rcases h.2 with ⟨he, _⟩ | ⟨g', cap', cur, he, hb, hh, hn, hm, hs, ht⟩
  · cases he
  · cases he
    exact ⟨hb, cur.toList, by simpa using hh, hn, hm, by simpa using hs, by simpa using ht⟩
theorem run_clear_one (W : World) (ty g o c : Nat) (cur : List Value) (hg : W.heap[g]? = some (.cells cur.toArray 90 (0, 0))) (hfit : o + 2 ≤ cur.length) :
    (Builtin.clear_ #[80] ty #[.slice (some ⟨g, o, none⟩) 1 c]).run Tryd.prog W = .ok (.tuple #[]) (W.setRow g (cur.take o ++ [Value.int .i64 0, Value.string ⟨#[]⟩] ++ cur.drop (o + 2)).toArray) := by
  have hst := run_storeCells_at (P := Tryd.prog) g o 90 [Value.int .i64 0, Value.string ⟨#[]⟩] 0 cur.toArray W hg (by simpa using hfit) (by simp [Value.oneCell'])
  simp only [Nat.add_zero, List.length_cons, List.length_nil, Nat.zero_add, Nat.reduceAdd] at hst
  have hz : ∀ w : World, (zeroValue 90).run Tryd.prog w = .ok (.agg #[.int .i64 0, .string ⟨#[]⟩]) w := fun w => by go_simp
  have hzc : (Builtin.zeroCells (Value.agg #[.int .i64 0, .string ⟨#[]⟩]).cells 1).toList = [Value.int .i64 0, Value.string ⟨#[]⟩] := by kernel_rfl
  simp [Builtin.clear_, run_underlying Tryd.underlying80, hz, hzc, hst]
set_option maxHeartbeats 4000000 in
set_option maxRecDepth 100000 in
theorem delete_any (base g n cap k : Nat) (l : List S90) (w : World) (ho : w.ownsRow base 90 2 (.slice (some ⟨g, 0, none⟩) n cap) l.length (rowsE l)) (hn : l.length = n) (hk : k < n) (hn64 : n ≤ 5864062014700) :
    Calls Tryd.prog 70 #[.slice (some ⟨g, 0, none⟩) n cap, .int .i64 (k : Int), .int .i64 ((k + 1 : Nat) : Int)] w fun e w' => e = .returned (.slice (some ⟨g, 0, none⟩) (n - 1) cap) ∧ w'.ownsRow base 90 2 (.slice (some ⟨g, 0, none⟩) (n - 1) cap) (n - 1) (rowsE (l.eraseIdx k)) ∧ w.grownBy w' (some g) := by
  have HO := Aside0.mk ho
  have HLN := Aside0.mk hn
  have HKN := Aside0.mk hk
  have HCAP := Aside0.mk (own_cap (show w.ownsRow base 90 2 (.slice (some ⟨g, 0, none⟩) n cap) n (rowsE l) from hn ▸ ho))
  obtain ⟨k1, hk1⟩ : ∃ q, q = k + 1 := ⟨_, rfl⟩
  obtain ⟨n1, hn1⟩ : ∃ q, n - 1 = q := ⟨_, rfl⟩
  obtain ⟨n2, hn2⟩ : ∃ q, n - (k + 1) = q := ⟨_, rfl⟩
  obtain ⟨c2, hc2⟩ : ∃ q, cap - (k + 1) = q := ⟨_, rfl⟩
  obtain ⟨A2, hA2⟩ : ∃ q, q = (if cap = k + 1 then some ⟨g, 0, none⟩ else (some (⟨g, 0, none⟩ : Addr)).map (·.add ((k + 1) * 2))) := ⟨_, rfl⟩
  rw [hn1, ← hk1]
  have HE := Aside0.mk (And.intro hk1 hn1)
  have hcapn := HCAP.out
  have hcut : ∀ W : World, (Instr.slice 80 (.slice (some ⟨g, 0, none⟩) n cap) (some (.int .i64 (k1 : Int))) none none).run Tryd.prog W = .ok (.slice A2 n2 c2) W := by
    intro W
    obtain ⟨i, hi, hsz⟩ := Option.map_eq_some_iff.1 (show (Tryd.prog.info? 90).map (·.size) = some 2 by kernel_rfl)
    have hel : Tryd.prog.elem 80 = 90 := by simp [Program.elem, Tryd.underlying80]
    have hu : Tryd.prog.underlying 80 = some (.slice (Tryd.prog.elem 80)) := by rw [hel]; exact Tryd.underlying80
    rw [run_slice_l W 80 _ n cap hu .i64 (k1 : Int) (by omega) (by omega), hel]
    have h1 : ((k1 : Int)).toNat = k + 1 := by omega
    simp only [sizeOf, typeInfo, hi, hsz, sliced, Result.andThen, Sem.run_bind, h1]
    rw [hA2, ← hn2, ← hc2]
    simp [hi, hsz, Result.andThen]
  have HCUT := Aside0.mk hcut
  obtain ⟨c3, hc3⟩ : ∃ q, cap - n1 = q := ⟨_, rfl⟩
  have hcut2 : ∀ W : World, (Instr.slice 80 (.slice (some ⟨g, 0, none⟩) n1 cap) (some (.int .i64 (n1 : Int))) (some (.int .i64 (n : Int))) none).run Tryd.prog W = .ok (.slice (some ⟨g, n1 * 2, none⟩) 1 c3) W := by
    intro W
    obtain ⟨i, hi, hsz⟩ := Option.map_eq_some_iff.1 (show (Tryd.prog.info? 90).map (·.size) = some 2 by kernel_rfl)
    have hel : Tryd.prog.elem 80 = 90 := by simp [Program.elem, Tryd.underlying80]
    have hu : Tryd.prog.underlying 80 = some (.slice (Tryd.prog.elem 80)) := by rw [hel]; exact Tryd.underlying80
    rw [run_slice_lh W 80 _ n1 cap hu .i64 .i64 (n1 : Int) (n : Int) (by omega) (by omega) (by omega), hel]
    have h1 : ¬ cap = n1 := by omega
    have h2 : n - n1 = 1 := by omega
    have h3 : (⟨g, 0, none⟩ : Addr).add (n1 * 2) = ⟨g, n1 * 2, none⟩ := add_plain _ _
    simp [sizeOf, typeInfo, hi, hsz, sliced, Result.andThen, h1, h2, h3, hc3]
  have HC2 := Aside0.mk hcut2
  have HN2 := Aside0.mk (show n - (k + 1) = n2 ∧ A2 = (if cap = k + 1 then some ⟨g, 0, none⟩ else (some (⟨g, 0, none⟩ : Addr)).map (·.add ((k + 1) * 2))) ∧ n1 = n - 1 from ⟨hn2, hA2, hn1.symm⟩)
  have z0 : (0 : Int) ≤ (k : Int) := Int.natCast_nonneg _
  have z1 : (k : Int) ≤ (k1 : Int) := by omega
  have z2 : (k1 : Int) ≤ (n : Int) := by omega
  have z3 : (n : Int) ≤ (cap : Int) := by omega
  have z4 : (k : Int) ≤ (cap : Int) := by omega
  have z5 : ((k : Int) == (k1 : Int)) = false := beq_eq_false_iff_ne.2 (by omega)
  have z5b : ¬ ((k : Int) = (k1 : Int)) := by omega
  have z5c : ¬ (k = k1) := by omega
  have z6 : (n1 : Int) ≤ (n : Int) := by omega
  have z7 : (0 : Int) ≤ (n1 : Int) := Int.natCast_nonneg _
  clear ho hn hk hk1 hn1 hn2 hc2 hA2 hcut hcapn hc3 hcut2
  go_enter Tryd.func70, Tryd.ntmps70
  go_wp2
  have HOD := Aside0.mk (show w.drew.ownsRow base 90 2 (.slice (some ⟨g, 0, none⟩) n cap) l.length (rowsE l) from HO.out)
  refine wp_region_held_drew (S := fun W => w.grownBy W (some g)) (by kernel_rfl) (grown_of_below (below_drew (Below.refl w.heap.size w)) _) (fun hHeld => ?_)
  refine wpAnyH_take (i := 0) (oi := ⟨some 20, _, _, _, _, _⟩) (v := (.slice (some ⟨g, 0, none⟩) n cap)) rfl (by kernel_rfl) (by kernel_rfl) (by kernel_rfl) (fun _ _ _ h => h) (Or.inl ⟨by rfl, fun W hS => by go_simp⟩) hHeld ?_
  (try simp only [Act.put, List.setIfInBounds_toArray, List.set_cons_zero, List.set_cons_succ])
  refine wpAnyH_take (i := 1) (oi := ⟨some 21, _, _, _, _, _⟩) (v := (.int .i64 (k : Int))) rfl (by kernel_rfl) (by kernel_rfl) (by kernel_rfl) (fun _ _ _ h => h) (Or.inl ⟨by rfl, fun W hS => by go_simp⟩) hHeld ?_
  (try simp only [Act.put, List.setIfInBounds_toArray, List.set_cons_zero, List.set_cons_succ])
  refine wpAnyH_take (i := 2) (oi := ⟨some 22, _, _, _, _, _⟩) (v := (.slice (some ⟨g, 0, none⟩) k cap)) rfl (by kernel_rfl) (by kernel_rfl) (by kernel_rfl) (fun _ _ _ h => h) (Or.inl ⟨by rfl, fun W hS => by go_simp⟩) hHeld ?_
  (try simp only [Act.put, List.setIfInBounds_toArray, List.set_cons_zero, List.set_cons_succ])
  refine wpAnyH_take (i := 3) (oi := ⟨some 23, _, _, _, _, _⟩) (v := (.slice (some ⟨g, 0, none⟩) n cap)) rfl (by kernel_rfl) (by kernel_rfl) (by kernel_rfl) (fun _ _ _ h => h) (Or.inl ⟨by rfl, fun W hS => by go_simp⟩) hHeld ?_
  (try simp only [Act.put, List.setIfInBounds_toArray, List.set_cons_zero, List.set_cons_succ])
  refine wpAnyH_take (i := 4) (oi := ⟨some 24, _, _, _, _, _⟩) (v := (.int .i64 (k1 : Int))) rfl (by kernel_rfl) (by kernel_rfl) (by kernel_rfl) (fun _ _ _ h => h) (Or.inl ⟨by rfl, fun W hS => by go_simp⟩) hHeld ?_
  (try simp only [Act.put, List.setIfInBounds_toArray, List.set_cons_zero, List.set_cons_succ])
  refine wpAnyH_take (i := 5) (oi := ⟨some 25, _, _, _, _, _⟩) (v := (.slice A2 n2 c2)) rfl (by kernel_rfl) (by kernel_rfl) (by kernel_rfl) (fun _ _ _ h => h) (Or.inl ⟨by rfl, fun W hS => by have hcut := HCUT.out W; go_simp⟩) hHeld ?_
  (try simp only [Act.put, List.setIfInBounds_toArray, List.set_cons_zero, List.set_cons_succ])
  refine wpAnyH_ready (rs := [6]) (by kernel_rfl) (by simp) ?_
  refine AllReadyH.cons rfl (fun K hK => ?_) AllReadyH.nil
  refine wp_delete_ents (.tmp 22) (.tmp 25) rfl base g n cap k A2 c2 l (by kernel_rfl) (by rw [← HN2.out.1]; kernel_rfl) HN2.out.2.1 HLN.out HKN.out HOD.out (fun w1 ho hg => ?_)
  refine hK.out _ _ (hHeld.trans hg) (fun hH => ?_)
  rw [← HN2.out.2.2] at ho ⊢
  have HO1 := Aside0.mk ho
  clear hK K hHeld ho hg
  have hHeld := hH
  clear hH
  (try simp only [Act.put, List.setIfInBounds_toArray, List.set_cons_zero, List.set_cons_succ])
  refine wpAnyH_take (i := 7) (oi := ⟨some 0, _, _, _, _, _⟩) (v := (.slice (some ⟨g, 0, none⟩) n1 cap)) rfl (by kernel_rfl) (by kernel_rfl) (by kernel_rfl) (fun _ _ _ h => h) (Or.inl ⟨by rfl, fun W hS => by go_simp⟩) hHeld ?_
  (try simp only [Act.put, List.setIfInBounds_toArray, List.set_cons_zero, List.set_cons_succ])
  refine wpAnyH_done (by kernel_rfl) ?_ _
  (try simp only [Exit.then])
  have HG5 := Aside0.mk hHeld
  clear hHeld HCUT
  obtain ⟨gb, cur, hh, hnc, hcm, hcs, htk⟩ := own_form2 HO1.out
  have hlen1 : (l.eraseIdx k).length = n1 := by rw [List.length_eraseIdx, if_pos (by rw [HLN.out]; exact HKN.out), HLN.out]; exact HE.out.2
  have hcut2 := HC2.out
  obtain ⟨wz, hwz⟩ : ∃ W, w1 = W := ⟨_, rfl⟩
  have HH := Aside0.mk hh
  have HFC := Aside0.mk (show n1 * 2 + 2 ≤ cur.length by have := HE.out.2; have := HKN.out; have := HCAP.out; omega)
  have HTK := Aside0.mk htk
  have HCS := Aside0.mk hcs
  have HNC := Aside0.mk (show (l.eraseIdx k).length ≤ cap by rw [hlen1]; have := HE.out.2; have := HCAP.out; omega)
  have HCM := Aside0.mk hcm
  have HGB := Aside0.mk gb
  have HL1 := Aside0.mk hlen1
  clear hh hnc hcm hcs htk gb hlen1 hwz
  have hclr := run_clear_one w1 0 g (n1 * 2) c3 cur HH.out HFC.out
  obtain ⟨w2, hw2⟩ : ∃ W, w1.setRow g (cur.take (n1 * 2) ++ [Value.int .i64 0, Value.string ⟨#[]⟩] ++ cur.drop (n1 * 2 + 2)).toArray = W := ⟨_, rfl⟩
  have hbox : w2.heap[g]? = some (.cells (cur.take (n1 * 2) ++ [Value.int .i64 0, Value.string ⟨#[]⟩] ++ cur.drop (n1 * 2 + 2)).toArray 90 (0, 0)) := by rw [← hw2]; exact setRow_heap w1 g cur.toArray _ 90 (0, 0) HH.out
  have hg2 : w1.grownBy w2 (some g) := by rw [← hw2]; exact grown_setRow w1 g _
  rw [hw2] at hclr
  clear hw2
  have HO2 := Aside0.mk (own_of (l := l.eraseIdx k) (base := base) (cap := cap) HGB.out hbox HNC.out HCM.out (by have := HFC.out; have := HCS.out; simp only [List.length_append, List.length_take, List.length_drop, List.length_cons, List.length_nil]; omega) (by rw [← HTK.out, HL1.out, List.append_assoc, List.take_append_of_le_length (by rw [List.length_take]; have := HFC.out; omega), List.take_take, Nat.min_self]))
  have HG6 := Aside0.mk (HG5.out.trans hg2)
  clear hbox hg2
  go_wp2
  go_ret
  refine ⟨rfl, ?_, HG6.out⟩
  have := HO2.out
  rw [HL1.out] at this
  exact this
end Go.Proofs.YtcmcmkfoihlniaaDoor.EN
end

section
namespace Go.Proofs.YtcmcmkfoihlniaaDoor.EN
open Go Go.RowKit Go.Proofs.YtcmcmkfoihlniaaDoorX Go.Proofs.YtcmcmkfoihlniaaDoor.NM Go.Proofs.YtcmcmkfoihlniaaDoorW.PrintWords Go.Proofs.YtcmcmkfoihlniaaDoorW.PrintLast Go.Proofs.YtcmcmkfoihlniaaDoorW.PrintMore Go.Proofs.YtcmcmkfoihlniaaDoor.PModelUndoes
set_option linter.unusedVariables false
set_option linter.unusedSimpArgs false
theorem cut_end (g n c i : Nat) (hin : i ≤ n) (hnc : n ≤ c) : ∃ A2 d2 c2, ∀ W : World, (Instr.slice 80 (.slice (some ⟨g, 0, none⟩) n c) (some (.int .i64 (i : Int))) none none).run Tryd.prog W = .ok (.slice A2 d2 c2) W := by
  obtain ⟨i0, hi, hsz⟩ := Option.map_eq_some_iff.1 (show (Tryd.prog.info? 90).map (·.size) = some 2 by kernel_rfl)
  refine ⟨if c = i then some ⟨g, 0, none⟩ else (some (⟨g, 0, none⟩ : Addr)).map (·.add (i * 2)), n - i, c - i, fun W => ?_⟩
  have hel : Tryd.prog.elem 80 = 90 := by simp [Program.elem, Tryd.underlying80]
  have hu : Tryd.prog.underlying 80 = some (.slice (Tryd.prog.elem 80)) := by rw [hel]; exact Tryd.underlying80
  rw [run_slice_l W 80 _ n c hu .i64 (i : Int) (by omega) (by omega), hel]
  have h1 : ((i : Int)).toNat = i := by omega
  simp [sizeOf, typeInfo, hi, hsz, sliced, Result.andThen, h1]
theorem cut_lo (W : World) (g n c i : Nat) (hin : i ≤ n) (hic : i < c) : (Instr.slice 80 (.slice (some ⟨g, 0, none⟩) n c) (some (.int .i64 (i : Int))) none none).run Tryd.prog W = .ok (.slice (some ⟨g, i * 2, none⟩) (n - i) (c - i)) W := by
  obtain ⟨i0, hi, hsz⟩ := Option.map_eq_some_iff.1 (show (Tryd.prog.info? 90).map (·.size) = some 2 by kernel_rfl)
  have hel : Tryd.prog.elem 80 = 90 := by simp [Program.elem, Tryd.underlying80]
  have hu : Tryd.prog.underlying 80 = some (.slice (Tryd.prog.elem 80)) := by rw [hel]; exact Tryd.underlying80
  rw [run_slice_l W 80 _ n c hu .i64 (i : Int) (by omega) (by omega), hel]
  have h1 : ((i : Int)).toNat = i := by omega
  have h2 : ¬ (c = i) := by omega
  have h3 : (⟨g, 0, none⟩ : Addr).add (i * 2) = ⟨g, i * 2, none⟩ := add_plain _ _
  simp [sizeOf, typeInfo, hi, hsz, sliced, Result.andThen, h1, h2, h3]
theorem cut_hi (W : World) (g n c i : Nat) (hic : i ≤ c) : (Instr.slice 80 (.slice (some ⟨g, 0, none⟩) n c) none (some (.int .i64 (i : Int))) none).run Tryd.prog W = .ok (.slice (some ⟨g, 0, none⟩) i c) W := by
  obtain ⟨i0, hi, hsz⟩ := Option.map_eq_some_iff.1 (show (Tryd.prog.info? 90).map (·.size) = some 2 by kernel_rfl)
  have hel : Tryd.prog.elem 80 = 90 := by simp [Program.elem, Tryd.underlying80]
  have hu : Tryd.prog.underlying 80 = some (.slice (Tryd.prog.elem 80)) := by rw [hel]; exact Tryd.underlying80
  rw [run_slice_h W 80 _ n c hu .i64 (i : Int) (by omega) (by omega), hel]
  have h1 : ((i : Int)).toNat = i := by omega
  have h3 : (⟨g, 0, none⟩ : Addr).add 0 = ⟨g, 0, none⟩ := add_plain _ _
  simp [sizeOf, typeInfo, hi, hsz, sliced, Result.andThen, h1, h3]
theorem run_copy_ents (W : World) (ty g off dLen dCap : Nat) (b : Addr) (sLen sCap n : Nat) (cur cs : List Value) (hn : n = Nat.min sLen dLen) (hc : cs.length = n * 2)
    (hg : W.heap[g]? = some (.cells cur.toArray 90 (0, 0))) (hsrc : ∀ j v, cs[j]? = some v → W.cell? (b.add j) = some v) (hfit : off + cs.length ≤ cur.length) (h1 : ∀ v ∈ cs, v.oneCell' = true) :
    (Builtin.copy_ #[80, 80] ty #[.slice (some ⟨g, off, none⟩) dLen dCap, .slice (some b) sLen sCap]).run Tryd.prog W = .ok (goInt n) (W.setRow g (cur.take off ++ cs ++ cur.drop (off + cs.length)).toArray) := by
  have hst := run_storeCells_at (P := Tryd.prog) g off 90 cs 0 cur.toArray W hg (by simpa using hfit) h1
  simp only [Nat.add_zero] at hst
  have hf := run_firstCells_some (P := Tryd.prog) W 2 n b sLen sCap cs hc hsrc
  obtain ⟨i0, hi, hsz⟩ := Option.map_eq_some_iff.1 (show (Tryd.prog.info? 90).map (·.size) = some 2 by kernel_rfl)
  simp [Builtin.copy_, run_underlying Tryd.underlying80, Builtin.lenOf, sizeOf, typeInfo, hi, hsz, ← hn, hf, hst]
section
variable {o : Oper} {a : Act} {K : Act → World → Prop} {Q : Exit → Act → World → Prop}
theorem wp_copy_ents (s x : Operand) (ho : o.op = .call { callee := .builtin .copy, args := #[s, x], argTypes := #[80, 80] }) {W : World} (g off dLen dCap : Nat) (b : Addr) (sLen sCap n : Nat) (cur cs : List Value) (hs : a.eval s = .slice (some ⟨g, off, none⟩) dLen dCap) (hx : a.eval x = .slice (some b) sLen sCap)
    (hn : n = Nat.min sLen dLen) (hc : cs.length = n * 2) (hg : W.heap[g]? = some (.cells cur.toArray 90 (0, 0))) (hsrc : ∀ j v, cs[j]? = some v → W.cell? (b.add j) = some v) (hfit : off + cs.length ≤ cur.length) (h1 : ∀ v ∈ cs, v.oneCell' = true)
    (h : ∀ w1, w1.heap[g]? = some (.cells (cur.take off ++ cs ++ cur.drop (off + cs.length)).toArray 90 (0, 0)) → W.grownBy w1 (some g) → K (a.put o.dst (goInt n)) w1) : o.wp Tryd.prog a W K Q := by
  have hr := run_copy_ents W o.type g off dLen dCap b sLen sCap n cur cs hn hc hg hsrc hfit h1
  unfold Oper.wp execOp
  simp only [ho, resolve, invoke, builtin, Sem.run_bind, Sem.run_pure, Result.andThen_ok, List.map_toArray, List.map_cons, List.map_nil, hs, hx, hr]
  exact h _ (setRow_heap W g cur.toArray _ 90 (0, 0) hg) (grown_setRow W g _)
theorem ev_copy_ents {ops : Array Oper} {rest : List Oper} (hgd : o.guard = none) (s x : Operand) (ho : o.op = .call { callee := .builtin .copy, args := #[s, x], argTypes := #[80, 80] }) {W : World} (g off dLen dCap : Nat) (b : Addr) (sLen sCap n : Nat) (cur cs : List Value) (hs : a.eval s = .slice (some ⟨g, off, none⟩) dLen dCap) (hx : a.eval x = .slice (some b) sLen sCap)
    (hn : n = Nat.min sLen dLen) (hc : cs.length = n * 2) (hg : W.heap[g]? = some (.cells cur.toArray 90 (0, 0))) (hsrc : ∀ j v, cs[j]? = some v → W.cell? (b.add j) = some v) (hfit : off + cs.length ≤ cur.length) (h1 : ∀ v ∈ cs, v.oneCell' = true)
    (h : ∀ w1, w1.heap[g]? = some (.cells (cur.take off ++ cs ++ cur.drop (off + cs.length)).toArray 90 (0, 0)) → W.grownBy w1 (some g) → wpList Tryd.prog ops Q rest (a.put o.dst (goInt n)) w1) : wpList Tryd.prog ops Q (o :: rest) a W :=
  wpList_plain hgd fun _ hK => wp_copy_ents s x ho g off dLen dCap b sLen sCap n cur cs hs hx hn hc hg hsrc hfit h1 (fun w1 a1 a2 => hK _ _ (h w1 a1 a2))
theorem ev_append_zeros_ents {ops : Array Oper} {rest : List Oper} (hgd : o.guard = none) (s x : Operand) (ho : o.op = .call { callee := .builtin .append, args := #[s, x], argTypes := #[80, 3] }) {W : World} (g i cap d n1 h0 : Nat) (P : List Value) (hh0 : W.heap.size = h0) (hs : a.eval s = .slice (some ⟨g, 0, none⟩) i cap) (hx : a.eval x = .int .i64 (d : Int))
    (hP : P.length = i * 2) (hold : ∀ j v, P[j]? = some v → W.cell? ⟨g, j, none⟩ = some v) (hd : 0 < d) (hid : i + d = n1) (hcap : cap < n1) (hb : n1 * 24 ≤ 140737488355328)
    (h : ∀ G Z w1, n1 ≤ G → G ≤ maxLen → Z.length = (G - i) * 2 → w1.heap[h0]? = some (.cells (P ++ Z).toArray 90 (0, 0)) → Below W.heap.size W w1 → wpList Tryd.prog ops Q rest (a.put o.dst (.slice (some ⟨h0, 0, none⟩) n1 G)) w1) : wpList Tryd.prog ops Q (o :: rest) a W := by
  subst hh0
  obtain ⟨i0, hi, hz0, hz1, hz2⟩ := info_parts infoEnt'
  have hf : (Builtin.firstCells i0.size i (.slice (some ⟨g, 0, none⟩) i cap)).run Tryd.prog W.drew = .ok P.toArray W.drew := by
    rw [hz1]
    exact run_firstCells_some W.drew 2 i ⟨g, 0, none⟩ i cap P hP (fun j v hj => by rw [add_plain]; exact hold j v hj)
  have hr := Lib.run_append_grow_zeros W 80 3 o.type 90 i0 _ .i64 .i64 Tryd.underlying80 Tryd.underlying3 hi hz0 (some ⟨g, 0, none⟩) i cap P hf d hd (by omega) (by omega) (by omega) (by rw [hz2]; omega) (by rw [hz2, hid]; exact growslice_fits hcap hb)
  rw [hid] at hr
  have hG1 := grownCap_ge W n1 cap 90
  have hG2 := grownCap_le_maxLen W n1 cap 90 (by unfold maxLen; omega)
  obtain ⟨G, hG⟩ : ∃ G, grownCap W n1 cap 90 = G := ⟨_, rfl⟩
  rw [hG] at hr hG1 hG2
  refine Lib.wpList_append_run W hgd s x 80 3 ho _ _ hs hx _ _ hr ?_
  obtain ⟨Z, hZ⟩ : ∃ Z : List Value, Z = (Builtin.zeroCells (Value.agg #[.int .i64 0, .string ⟨#[]⟩]).cells d ++ Builtin.zeroCells (Value.agg #[.int .i64 0, .string ⟨#[]⟩]).cells (G - n1)).toList := ⟨_, rfl⟩
  have hzl : ∀ k, (Builtin.zeroCells (Value.agg #[.int .i64 0, .string ⟨#[]⟩]).cells k).size = k * 2 := fun k => by simp [Builtin.zeroCells, Value.cells]
  have hZl : Z.length = (G - i) * 2 := by rw [hZ]; simp only [Array.length_toList, Array.size_append, hzl]; omega
  have hrow : P.toArray ++ Builtin.zeroCells (Value.agg #[.int .i64 0, .string ⟨#[]⟩]).cells d ++ Builtin.zeroCells (Value.agg #[.int .i64 0, .string ⟨#[]⟩]).cells (G - n1) = (P ++ Z).toArray := by
    rw [hZ]
    apply Array.toList_inj.1
    simp
  rw [hrow]
  refine h G Z _ hG1 hG2 hZl ?_ (below_alloc (w := W) (W := W.drew) ⟨rfl, rfl, rfl, Nat.le_refl _, fun _ _ => rfl⟩ _)
  show (W.heap.push _)[W.heap.size]? = _
  rw [Array.getElem?_push_size]
end
theorem rowsE_split (l : List S90) (i : Nat) : rowsE l = rowsE (l.take i) ++ rowsE (l.drop i) := by rw [← rowsE_append, List.take_append_drop]
def insE (l : List S90) (i : Nat) (x : S90) : List S90 := l.take i ++ [x] ++ l.drop i
theorem insE_length {l : List S90} {i : Nat} (x : S90) (h : i ≤ l.length) : (insE l i x).length = l.length + 1 := by simp [insE]; omega
theorem rowsE_ins (l : List S90) (i : Nat) (x : S90) : rowsE (insE l i x) = rowsE (l.take i) ++ [Value.int .i64 x.f0, Value.string x.f1] ++ rowsE (l.drop i) := by
  unfold insE
  rw [rowsE_append, rowsE_append]
  rfl
theorem grow_cells {P Z D e : List Value} {i d k : Nat} (hP : P.length = i * 2) (he : e.length = 2) (hD : D.length = d * 2) (hZ : Z.length = k) (hk : 2 + d * 2 ≤ k) :
    ∃ R, ((P ++ Z).take (i * 2) ++ e ++ (P ++ Z).drop (i * 2 + e.length)).take ((i + 1) * 2) ++ D ++ ((P ++ Z).take (i * 2) ++ e ++ (P ++ Z).drop (i * 2 + e.length)).drop ((i + 1) * 2 + D.length) = P ++ e ++ D ++ R ∧ R.length + 2 + d * 2 = k := by
  have h1 : (P ++ Z).take (i * 2) = P := by rw [← hP]; simp
  have h2 : (P ++ Z).drop (i * 2 + e.length) = Z.drop 2 := by rw [← hP, he, List.drop_append, List.drop_eq_nil_of_le (by omega), List.nil_append, Nat.add_sub_cancel_left]
  rw [h1, h2]
  have h3 : (P ++ e ++ Z.drop 2).take ((i + 1) * 2) = P ++ e := List.take_left' (by simp; omega)
  rw [h3]
  refine ⟨_, rfl, ?_⟩
  simp only [List.length_drop, List.length_append]
  omega
theorem shift_cells {P D S e : List Value} {i d k : Nat} (hP : P.length = i * 2) (he : e.length = 2) (hD : D.length = d * 2) (hS : S.length = k) (hk : 2 ≤ k) :
    ∃ R, ((P ++ D ++ S).take ((i + 1) * 2) ++ D ++ (P ++ D ++ S).drop ((i + 1) * 2 + D.length)).take (i * 2) ++ e ++ ((P ++ D ++ S).take ((i + 1) * 2) ++ D ++ (P ++ D ++ S).drop ((i + 1) * 2 + D.length)).drop (i * 2 + e.length) = P ++ e ++ D ++ R ∧ R.length + 2 = k := by
  obtain ⟨T, hT⟩ : ∃ T, (P ++ D ++ S).take ((i + 1) * 2) = P ++ T ∧ T.length = 2 := by
    refine ⟨(D ++ S).take 2, ?_, by rw [List.length_take, List.length_append]; omega⟩
    rw [List.append_assoc, List.take_append, List.take_of_length_le (by omega), hP]
    congr 2
    omega
  rw [hT.1]
  obtain ⟨R, hR⟩ : ∃ R, (P ++ D ++ S).drop ((i + 1) * 2 + D.length) = R := ⟨_, rfl⟩
  have hRl : R.length + 2 = k := by rw [← hR]; simp only [List.length_drop, List.length_append]; omega
  rw [hR]
  refine ⟨R, ?_, hRl⟩
  have h1 : (P ++ T ++ D ++ R).take (i * 2) = P := by rw [← hP]; simp
  have h2 : (P ++ T ++ D ++ R).drop (i * 2 + e.length) = D ++ R := by
    have : P ++ T ++ D ++ R = (P ++ T) ++ (D ++ R) := by simp
    rw [this, show i * 2 + e.length = (P ++ T).length by simp; omega, List.drop_left]
  rw [h1, h2]
  simp
end Go.Proofs.YtcmcmkfoihlniaaDoor.EN
end

section
namespace Go.Proofs.YtcmcmkfoihlniaaDoor.EN
open Go Go.RowKit Go.Proofs.YtcmcmkfoihlniaaDoorX Go.Proofs.YtcmcmkfoihlniaaDoor.NM Go.Proofs.YtcmcmkfoihlniaaDoorW.PrintWords Go.Proofs.YtcmcmkfoihlniaaDoorW.PrintLast Go.Proofs.YtcmcmkfoihlniaaDoorW.PrintMore Go.Proofs.YtcmcmkfoihlniaaDoor.PModelUndoes
set_option linter.unusedVariables false
set_option linter.unusedSimpArgs false
set_option maxHeartbeats 4000000 in
set_option maxRecDepth 100000 in
theorem insert_grow (base : Nat) (l : List S90) (i : Nat) (x : S90) (vb g cap : Nat) (w : World) (ho : w.ownsRow base 90 2 (.slice (some ⟨g, 0, none⟩) l.length cap) l.length (rowsE l)) (hb : base ≤ w.heap.size) (hi : i < l.length) (hl : l.length ≤ 1000) (hv : w.heap[vb]? = some (.cells #[.int .i64 x.f0, .string x.f1] 90 (0, 0))) (hne : g ≠ vb) (hcap : cap < l.length + 1) :
    Calls Tryd.prog 76 #[.slice (some ⟨g, 0, none⟩) l.length cap, .int .i64 (i : Int), .slice (some ⟨vb, 0, none⟩) 1 1] w fun e w' => ∃ v', e = .returned v' ∧ w'.ownsRow base 90 2 v' (l.length + 1) (rowsE (insE l i x)) ∧ w.grownBy w' (some g) := by
  obtain ⟨hgb, cur, hh, hnc, hcm, hcs, htk⟩ := own_form2 ho
  obtain ⟨n, hn⟩ : ∃ n, l.length = n := ⟨_, rfl⟩
  rw [hn] at ho hi hl hnc htk ⊢
  have hPl := rowsE_length (l.take i)
  have hDl := rowsE_length (l.drop i)
  rw [List.length_take, hn, Nat.min_eq_left (by omega)] at hPl
  rw [List.length_drop, hn] at hDl
  have hspl := rowsE_split l i
  have hins := rowsE_ins l i x
  have hP1 := rowsE_one (l.take i)
  have hD1 := rowsE_one (l.drop i)
  obtain ⟨P, hP⟩ : ∃ P, rowsE (l.take i) = P := ⟨_, rfl⟩
  obtain ⟨D, hD⟩ : ∃ D, rowsE (l.drop i) = D := ⟨_, rfl⟩
  obtain ⟨E, hE⟩ : ∃ E, E = [Value.int .i64 x.f0, Value.string x.f1] := ⟨_, rfl⟩
  rw [hP] at hPl hspl hins hP1
  rw [hD] at hDl hspl hins hD1
  rw [← hE] at hins
  have hEl : E.length = 2 := by rw [hE]; rfl
  have hE1 : ∀ v ∈ E, v.oneCell' = true := by rw [hE]; intro v hv; simp at hv; rcases hv with rfl | rfl <;> rfl
  have hins2 : (insE l i x).length = n + 1 := hn ▸ insE_length x (by omega)
  rw [hspl] at htk
  have hcell : ∀ (W : World), W.heap[g]? = some (.cells cur.toArray 90 (0, 0)) → ∀ j u, (P ++ D)[j]? = some u → W.cell? ⟨g, j, none⟩ = some u := fun W hW j u hj => by
    rw [World.cell?, hW]
    have : cur[j]? = some u := by
      rw [← htk, List.getElem?_take] at hj
      split at hj
      · exact hj
      · cases hj
    simpa using this
  have hcellV : ∀ (W : World), W.heap[vb]? = some (.cells #[.int .i64 x.f0, .string x.f1] 90 (0, 0)) → ∀ j u, E[j]? = some u → W.cell? ((⟨vb, 0, none⟩ : Addr).add j) = some u := fun W hW j u hj => by
    rw [add_plain, World.cell?, hW]
    rw [hE] at hj
    simpa using hj
  obtain ⟨rowV, hrowV⟩ : ∃ r : Array Value, r = #[.int .i64 x.f0, .string x.f1] := ⟨_, rfl⟩
  rw [← hrowV] at hv hcellV
  have hVs : rowV.size = 2 := by rw [hrowV]; rfl
  obtain ⟨n1, hn1⟩ : ∃ q, q = n + 1 := ⟨_, rfl⟩
  obtain ⟨i1, hi1⟩ : ∃ q, q = i + 1 := ⟨_, rfl⟩
  obtain ⟨d, hd⟩ : ∃ q, n - i = q := ⟨_, rfl⟩
  obtain ⟨d1, hd1⟩ : ∃ q, n1 - i = q := ⟨_, rfl⟩
  obtain ⟨ci, hci⟩ : ∃ q, cap - i = q := ⟨_, rfl⟩
  have hd2 : n1 - i1 = d := by omega
  have hc0 : ∀ W : World, _ := fun W => cut_lo W g n cap i (by omega) (by omega)
  rw [hd, hci] at hc0
  have hx1 : IntKind.wrap .i64 ((n : Int) + 1) = (n1 : Int) := (IntWalk.i64_in _ ⟨by omega, by omega⟩).trans (by omega)
  have hx2 : IntKind.wrap .i64 ((i : Int) + 1) = (i1 : Int) := (IntWalk.i64_in _ ⟨by omega, by omega⟩).trans (by omega)
  have hx3 : IntKind.wrap .i64 ((n1 : Int) - (i : Int)) = (d1 : Int) := (IntWalk.i64_in _ ⟨by omega, by omega⟩).trans (by omega)
  have hz2 : ¬ ((i : Int) = (n : Int)) := by omega
  have hz2b : ((i : Int) == (n : Int)) = false := beq_eq_false_iff_ne.2 hz2
  have hz2c : ¬ (i = n) := by omega
  have z0 : (0 : Int) ≤ (i : Int) := Int.natCast_nonneg _
  have z1 : (i : Int) ≤ (n : Int) := by omega
  have hz3 : (cap : Int) < (n1 : Int) := by omega
  have hc1 : ∀ W : World, _ := fun W => cut_hi W g n cap i (by omega)
  have hE0 := hcell w hh
  have HC0 := Aside0.mk hc0
  have HG0 := Aside0.mk (show i + d1 = n1 ∧ 0 < d1 ∧ cap < n1 ∧ n1 * 24 ≤ 140737488355328 by omega)
  have HPL := Aside0.mk hPl
  have HOLD := Aside0.mk (show ∀ j u, P[j]? = some u → w.cell? ⟨g, j, none⟩ = some u from fun j u hj => hE0 j u (by rw [List.getElem?_append_left (List.getElem?_eq_some_iff.1 hj).1]; exact hj))
  have hOD : ∀ (W : World), W.heap[g]? = some (.cells cur.toArray 90 (0, 0)) → ∀ j u, D[j]? = some u → W.cell? ((⟨g, i * 2, none⟩ : Addr).add j) = some u := fun W hW j u hj => by
    have h3 : (⟨g, i * 2, none⟩ : Addr).add j = ⟨g, i * 2 + j, none⟩ := by unfold Addr.add; split <;> simp_all
    rw [h3]
    exact hcell W hW _ u (by rw [← hPl, List.getElem?_append_right (by omega), Nat.add_sub_cancel_left]; exact hj)
  have HOD := Aside0.mk hOD
  have HDL := Aside0.mk (show D.length = d * 2 by rw [hDl, hd])
  have HD1 := Aside0.mk hD1
  have HH := Aside0.mk hh
  have HV := Aside0.mk hv
  have HCV := Aside0.mk hcellV
  have HE1 := Aside0.mk hE1
  have HEL := Aside0.mk hEl
  have HINS := Aside0.mk hins
  have HINS2 := Aside0.mk hins2
  have HB := Aside0.mk hb
  have HN := Aside0.mk (show n1 = n + 1 ∧ i1 = i + 1 ∧ n - i = d ∧ n1 - i = d1 ∧ i < n from ⟨hn1, hi1, hd, hd1, hi⟩)
  have HNE := Aside0.mk hne
  have HVL := Aside0.mk (show vb < w.heap.size from (Array.getElem?_eq_some_iff.1 hv).1)
  have hgl : g < w.heap.size := (Array.getElem?_eq_some_iff.1 hh).1
  clear ho hb hi hl hv hne hcap hgb hh hnc hcm hcs htk hPl hDl hspl hins hP1 hD1 hP hD hE hEl hE1 hins2 hcell hcellV hrowV hVs hn hn1 hi1 hd hd1 hci hd2 hE0 hOD
  obtain ⟨h0, hh0⟩ : ∃ q, w.heap.size = q := ⟨_, rfl⟩
  have HH0 := Aside0.mk hh0
  have HGL := Aside0.mk hgl
  clear hh0 hgl
  go_enter Tryd.func76, Tryd.ntmps76
  go_wp2_with (first
    | (have hz := HB1.out; clear hz; (with_reducible refine gate_dst (N := 45) rfl ?_); refine ev_copy_ents rfl (.tmp 43) (.tmp 44) rfl h0 (i * 2) d1 Gi ⟨vb, 0, none⟩ 1 1 1 (P ++ Z) E (by kernel_rfl) (by kernel_rfl) (by have := HG0.out.2.1; simp only [Nat.min_def]; split <;> omega) HEL.out HROW0.out (HCV.out _ ((HB1.out.block vb HVL.out).trans HV.out)) (by have := HEL.out; have := HGG.out.2.2.1; have := HPL.out; have := HGG.out.1; have := HG0.out.1; have := HG0.out.2.1; have := HGG.out.2.2.2; rw [List.length_append]; omega) HE1.out ?_; intro w2 hbox hg2; obtain ⟨C1, hC1⟩ : ∃ C, (P ++ Z).take (i * 2) ++ E ++ (P ++ Z).drop (i * 2 + E.length) = C := ⟨_, rfl⟩; rw [hC1] at hbox; have HC1 := Aside0.mk hC1; have HROW1 := Aside0.mk hbox; have HB2 := Aside0.mk (HB1.out.grown hg2 HB1.out.size (fun k e => by cases e; exact Nat.le_of_eq HH0.out)); have HMIN := Aside0.mk (show d = Nat.min d d by simp); have HSRC := Aside0.mk (HOD.out w2 ((HB2.out.block g HGL.out).trans HH.out)); have HCL := Aside0.mk (show C1.length = G * 2 by rw [← hC1]; have := HEL.out; have := HGG.out.2.2.1; have := HPL.out; have := HGG.out.1; have := HG0.out.1; have := HG0.out.2.1; have := HGG.out.2.2.2; simp only [List.length_append, List.length_take, List.length_drop]; omega); have HFIT := Aside0.mk (show i1 * 2 + D.length ≤ C1.length by rw [HCL.out]; have := HDL.out; have := HN.out; have := HGG.out.1; omega); clear hbox hg2 hC1)
    | (at_builtin; (with_reducible refine gate_dst (N := 40) rfl ?_); refine ev_append_zeros_ents rfl (.tmp 34) (.tmp 39) rfl g i cap d1 n1 h0 P HH0.out (by kernel_rfl) (by kernel_rfl) HPL.out HOLD.out HG0.out.2.1 HG0.out.1 HG0.out.2.2.1 HG0.out.2.2.2 ?_; intro G Z w1 hG1 hG2 hZ hbox hb1; obtain ⟨Gi, hGi⟩ : ∃ q, G - i = q := ⟨_, rfl⟩; obtain ⟨Gi1, hGi1⟩ : ∃ q, G - i1 = q := ⟨_, rfl⟩; have hc3 : ∀ W : World, _ := fun W => cut_lo W h0 n1 G i (by have := HG0.out.1; omega) (by have := HN.out; omega); rw [HN.out.2.2.2.1, hGi] at hc3; have hc4 : ∀ W : World, _ := fun W => cut_lo W h0 n1 G i1 (by have := HN.out; omega) (by have := HN.out; omega); rw [show n1 - i1 = d by have := HN.out; omega, hGi1] at hc4; have HC4 := Aside0.mk hc4; rw [hGi] at hZ; have HROW0 := Aside0.mk hbox; have HB1 := Aside0.mk hb1; have HGG := Aside0.mk (And.intro hG1 (And.intro hG2 (And.intro hZ hGi))); clear hbox hb1 hG1 hG2 hZ hGi hGi1 hc4))
  refine wp_region_held_drew (S := fun W => Below w.heap.size w W) (by kernel_rfl) (below_drew HB2.out) (fun hHeld => ?_)
  refine wpAnyH_take (i := 0) (oi := ⟨some 46, _, _, _, _, _⟩) (v := (.slice (some ⟨h0, 0, none⟩) n1 G)) rfl (by kernel_rfl) (by kernel_rfl) (by kernel_rfl) (fun _ _ _ h => h) (Or.inl ⟨by rfl, fun W hS => by go_simp⟩) hHeld ?_
  (try simp only [Act.put, List.setIfInBounds_toArray, List.set_cons_zero, List.set_cons_succ])
  refine wpAnyH_take (i := 1) (oi := ⟨some 47, _, _, _, _, _⟩) (v := (.int .i64 (i : Int))) rfl (by kernel_rfl) (by kernel_rfl) (by kernel_rfl) (fun _ _ _ h => h) (Or.inl ⟨by rfl, fun W hS => by go_simp⟩) hHeld ?_
  (try simp only [Act.put, List.setIfInBounds_toArray, List.set_cons_zero, List.set_cons_succ])
  refine wpAnyH_take (i := 2) (oi := ⟨some 48, _, _, _, _, _⟩) (v := (.int .i64 1)) rfl (by kernel_rfl) (by kernel_rfl) (by kernel_rfl) (fun _ _ _ h => h) (Or.inl ⟨by rfl, fun W hS => by go_simp⟩) hHeld ?_
  (try simp only [Act.put, List.setIfInBounds_toArray, List.set_cons_zero, List.set_cons_succ])
  refine wpAnyH_take (i := 3) (oi := ⟨some 49, _, _, _, _, _⟩) (v := (.int .i64 (i1 : Int))) rfl (by kernel_rfl) (by kernel_rfl) (by kernel_rfl) (fun _ _ _ h => h) (Or.inl ⟨by rfl, fun W hS => by go_simp⟩) hHeld ?_
  (try simp only [Act.put, List.setIfInBounds_toArray, List.set_cons_zero, List.set_cons_succ])
  refine wpAnyH_take (i := 4) (oi := ⟨some 50, _, _, _, _, _⟩) (v := (.slice (some ⟨h0, i1 * 2, none⟩) d Gi1)) rfl (by kernel_rfl) (by kernel_rfl) (by kernel_rfl) (fun _ _ _ h => h) (Or.inl ⟨by rfl, fun W hS => by have hc4 := HC4.out; go_simp⟩) hHeld ?_
  (try simp only [Act.put, List.setIfInBounds_toArray, List.set_cons_zero, List.set_cons_succ])
  refine wpAnyH_take (i := 5) (oi := ⟨some 51, _, _, _, _, _⟩) (v := (.slice (some ⟨g, 0, none⟩) n cap)) rfl (by kernel_rfl) (by kernel_rfl) (by kernel_rfl) (fun _ _ _ h => h) (Or.inl ⟨by rfl, fun W hS => by go_simp⟩) hHeld ?_
  (try simp only [Act.put, List.setIfInBounds_toArray, List.set_cons_zero, List.set_cons_succ])
  refine wpAnyH_take (i := 6) (oi := ⟨some 52, _, _, _, _, _⟩) (v := (.int .i64 (i : Int))) rfl (by kernel_rfl) (by kernel_rfl) (by kernel_rfl) (fun _ _ _ h => h) (Or.inl ⟨by rfl, fun W hS => by go_simp⟩) hHeld ?_
  (try simp only [Act.put, List.setIfInBounds_toArray, List.set_cons_zero, List.set_cons_succ])
  refine wpAnyH_take (i := 7) (oi := ⟨some 53, _, _, _, _, _⟩) (v := (.slice (some ⟨g, i * 2, none⟩) d ci)) rfl (by kernel_rfl) (by kernel_rfl) (by kernel_rfl) (fun _ _ _ h => h) (Or.inl ⟨by rfl, fun W hS => by have hc0 := HC0.out; go_simp⟩) hHeld ?_
  (try simp only [Act.put, List.setIfInBounds_toArray, List.set_cons_zero, List.set_cons_succ])
  refine wpAnyH_ready (rs := [8]) (by kernel_rfl) (by simp) ?_
  refine AllReadyH.cons rfl (fun K hK => ?_) AllReadyH.nil
  refine wp_copy_ents (.tmp 50) (.tmp 53) rfl h0 (i1 * 2) d Gi1 ⟨g, i * 2, none⟩ d ci d C1 D (by kernel_rfl) (by kernel_rfl) HMIN.out HDL.out HROW1.out HSRC.out HFIT.out HD1.out (fun w3 hbox hg3 => ?_)
  refine hK.out _ _ (hHeld.grown hg3 hHeld.size (fun k e => by cases e; exact Nat.le_of_eq HH0.out)) (fun hH => ?_)
  have HROW2 := Aside0.mk hbox
  clear hK K hHeld hbox hg3
  have hHeld := hH
  clear hH
  (try simp only [Act.put, List.setIfInBounds_toArray, List.set_cons_zero, List.set_cons_succ])
  refine wpAnyH_done (by kernel_rfl) ?_ _
  (try simp only [Exit.then])
  go_wp2
  go_ret
  obtain ⟨R, hR, hRl⟩ := grow_cells (k := Gi * 2) HPL.out HEL.out HDL.out HGG.out.2.2.1 (by have := HGG.out; have := HN.out; omega)
  rw [HC1.out, ← HN.out.2.1] at hR
  have hrow := HROW2.out
  rw [hR] at hrow
  refine ⟨_, rfl, ?_, grown_of_below hHeld _⟩
  have hown := own_of (base := base) (l := insE l i x) (cap := G) (by have := HB.out; have := HH0.out; omega) hrow (by rw [HINS2.out]; have := HGG.out.1; have := HN.out; omega) HGG.out.2.1 (by have := HPL.out; have := HEL.out; have := HDL.out; have := HGG.out; have := HN.out; simp only [List.length_append]; omega) (by rw [HINS2.out, HINS.out]; exact List.take_left' (by have := HPL.out; have := HEL.out; have := HDL.out; have := HN.out; simp only [List.length_append]; omega))
  rw [HINS2.out, ← HN.out.1] at hown
  rw [← HN.out.1]
  exact hown
end Go.Proofs.YtcmcmkfoihlniaaDoor.EN
end

section
namespace Go.Proofs.YtcmcmkfoihlniaaDoor.EN
open Go Go.RowKit Go.Proofs.YtcmcmkfoihlniaaDoorX Go.Proofs.YtcmcmkfoihlniaaDoor.NM Go.Proofs.YtcmcmkfoihlniaaDoorW.PrintWords Go.Proofs.YtcmcmkfoihlniaaDoorW.PrintLast Go.Proofs.YtcmcmkfoihlniaaDoorW.PrintMore Go.Proofs.YtcmcmkfoihlniaaDoor.PModelUndoes
set_option linter.unusedVariables false
set_option linter.unusedSimpArgs false
set_option maxHeartbeats 4000000 in
set_option maxRecDepth 100000 in
theorem insert_shift (base : Nat) (l : List S90) (i : Nat) (x : S90) (vb g cap : Nat) (w : World) (ho : w.ownsRow base 90 2 (.slice (some ⟨g, 0, none⟩) l.length cap) l.length (rowsE l)) (hb : base ≤ w.heap.size) (hi : i < l.length) (hl : l.length ≤ 1000) (hv : w.heap[vb]? = some (.cells #[.int .i64 x.f0, .string x.f1] 90 (0, 0))) (hne : g ≠ vb) (hcap : l.length + 1 ≤ cap) :
    Calls Tryd.prog 76 #[.slice (some ⟨g, 0, none⟩) l.length cap, .int .i64 (i : Int), .slice (some ⟨vb, 0, none⟩) 1 1] w fun e w' => ∃ v', e = .returned v' ∧ w'.ownsRow base 90 2 v' (l.length + 1) (rowsE (insE l i x)) ∧ w.grownBy w' (some g) := by
  obtain ⟨hgb, cur, hh, hnc, hcm, hcs, htk⟩ := own_form2 ho
  obtain ⟨n, hn⟩ : ∃ n, l.length = n := ⟨_, rfl⟩
  rw [hn] at ho hi hl hnc htk ⊢
  have hPl := rowsE_length (l.take i)
  have hDl := rowsE_length (l.drop i)
  rw [List.length_take, hn, Nat.min_eq_left (by omega)] at hPl
  rw [List.length_drop, hn] at hDl
  have hspl := rowsE_split l i
  have hins := rowsE_ins l i x
  have hP1 := rowsE_one (l.take i)
  have hD1 := rowsE_one (l.drop i)
  obtain ⟨P, hP⟩ : ∃ P, rowsE (l.take i) = P := ⟨_, rfl⟩
  obtain ⟨D, hD⟩ : ∃ D, rowsE (l.drop i) = D := ⟨_, rfl⟩
  obtain ⟨E, hE⟩ : ∃ E, E = [Value.int .i64 x.f0, Value.string x.f1] := ⟨_, rfl⟩
  rw [hP] at hPl hspl hins hP1
  rw [hD] at hDl hspl hins hD1
  rw [← hE] at hins
  have hEl : E.length = 2 := by rw [hE]; rfl
  have hE1 : ∀ v ∈ E, v.oneCell' = true := by rw [hE]; intro v hv; simp at hv; rcases hv with rfl | rfl <;> rfl
  have hins2 : (insE l i x).length = n + 1 := hn ▸ insE_length x (by omega)
  rw [hspl] at htk
  have hcell : ∀ (W : World), W.heap[g]? = some (.cells cur.toArray 90 (0, 0)) → ∀ j u, (P ++ D)[j]? = some u → W.cell? ⟨g, j, none⟩ = some u := fun W hW j u hj => by
    rw [World.cell?, hW]
    have : cur[j]? = some u := by
      rw [← htk, List.getElem?_take] at hj
      split at hj
      · exact hj
      · cases hj
    simpa using this
  have hcellV : ∀ (W : World), W.heap[vb]? = some (.cells #[.int .i64 x.f0, .string x.f1] 90 (0, 0)) → ∀ j u, E[j]? = some u → W.cell? ((⟨vb, 0, none⟩ : Addr).add j) = some u := fun W hW j u hj => by
    rw [add_plain, World.cell?, hW]
    rw [hE] at hj
    simpa using hj
  obtain ⟨rowV, hrowV⟩ : ∃ r : Array Value, r = #[.int .i64 x.f0, .string x.f1] := ⟨_, rfl⟩
  rw [← hrowV] at hv hcellV
  have hVs : rowV.size = 2 := by rw [hrowV]; rfl
  obtain ⟨n1, hn1⟩ : ∃ q, q = n + 1 := ⟨_, rfl⟩
  obtain ⟨i1, hi1⟩ : ∃ q, q = i + 1 := ⟨_, rfl⟩
  obtain ⟨d, hd⟩ : ∃ q, n - i = q := ⟨_, rfl⟩
  obtain ⟨d1, hd1⟩ : ∃ q, n1 - i = q := ⟨_, rfl⟩
  obtain ⟨ci, hci⟩ : ∃ q, cap - i = q := ⟨_, rfl⟩
  have hd2 : n1 - i1 = d := by omega
  have hc0 : ∀ W : World, _ := fun W => cut_lo W g n cap i (by omega) (by omega)
  rw [hd, hci] at hc0
  have hx1 : IntKind.wrap .i64 ((n : Int) + 1) = (n1 : Int) := (IntWalk.i64_in _ ⟨by omega, by omega⟩).trans (by omega)
  have hx2 : IntKind.wrap .i64 ((i : Int) + 1) = (i1 : Int) := (IntWalk.i64_in _ ⟨by omega, by omega⟩).trans (by omega)
  have hx3 : IntKind.wrap .i64 ((n1 : Int) - (i : Int)) = (d1 : Int) := (IntWalk.i64_in _ ⟨by omega, by omega⟩).trans (by omega)
  have hz2 : ¬ ((i : Int) = (n : Int)) := by omega
  have hz2b : ((i : Int) == (n : Int)) = false := beq_eq_false_iff_ne.2 hz2
  have hz2c : ¬ (i = n) := by omega
  have z0 : (0 : Int) ≤ (i : Int) := Int.natCast_nonneg _
  have z1 : (i : Int) ≤ (n : Int) := by omega
  have hz3 : ¬ ((cap : Int) < (n1 : Int)) := by omega
  have z2 : (i1 : Int) ≤ (n1 : Int) := by omega
  have z3 : (i : Int) ≤ (n1 : Int) := by omega
  have z4 : (n1 : Int) ≤ (cap : Int) := by omega
  have hc1 : ∀ W : World, _ := fun W => cut_hi W g n cap n1 (by omega)
  have hc4 : ∀ W : World, _ := fun W => cut_lo W g n1 cap i1 (by omega) (by omega)
  have hc5 : ∀ W : World, _ := fun W => cut_lo W g n1 cap i (by omega) (by omega)
  obtain ⟨c1, hc1'⟩ : ∃ q, cap - i1 = q := ⟨_, rfl⟩
  rw [hd2, hc1'] at hc4
  rw [hd1, hci] at hc5
  have hov : (callFunc 85 #[.slice (some ⟨vb, 0, none⟩) 1 1, .slice (some ⟨g, i1 * 2, none⟩) d c1]).run Tryd.prog w = .ok (.value (.bool false)) w := by
    rw [run_callFunc_extern Tryd.func85 (by kernel_rfl) (by kernel_rfl) (by kernel_rfl) (e := Extern.SlicesOverlaps.overlaps #[80, 80] #[4]) (by kernel_rfl),
      Lib.run_overlaps_apart w 80 4 90 Tryd.underlying80 2 (fun W => by go_simp) ⟨vb, 0, none⟩ ⟨g, i1 * 2, none⟩ 1 1 d c1 (fun e => hne e.symm) 90 90 2 (cap * 2) (by simp [World.shape?, hv, hVs]) (by simp [World.shape?, hh, hcs]) (by omega) (by simp [World.frozen?, hv]) (by simp [World.frozen?, hv])]
    rfl
  have hE0 := hcell w hh
  have HC4 := Aside0.mk hc4
  have HC5 := Aside0.mk hc5
  have HPL := Aside0.mk hPl
  have hOD : ∀ (W : World), W.heap[g]? = some (.cells cur.toArray 90 (0, 0)) → ∀ j u, D[j]? = some u → W.cell? ((⟨g, i * 2, none⟩ : Addr).add j) = some u := fun W hW j u hj => by
    have h3 : (⟨g, i * 2, none⟩ : Addr).add j = ⟨g, i * 2 + j, none⟩ := by unfold Addr.add; split <;> simp_all
    rw [h3]
    exact hcell W hW _ u (by rw [← hPl, List.getElem?_append_right (by omega), Nat.add_sub_cancel_left]; exact hj)
  have HOD := Aside0.mk hOD
  have HDL := Aside0.mk (show D.length = d * 2 by rw [hDl, hd])
  have HD1 := Aside0.mk hD1
  have HH := Aside0.mk hh
  have HV := Aside0.mk hv
  have HCV := Aside0.mk hcellV
  have HE1 := Aside0.mk hE1
  have HEL := Aside0.mk hEl
  have HINS := Aside0.mk hins
  have HINS2 := Aside0.mk hins2
  have HGB := Aside0.mk hgb
  have HN := Aside0.mk (show n1 = n + 1 ∧ i1 = i + 1 ∧ n - i = d ∧ n1 - i = d1 ∧ i < n ∧ n1 ≤ cap from ⟨hn1, hi1, hd, hd1, hi, by omega⟩)
  have HNE2 := Aside0.mk (show some vb ≠ some g from fun e => hne (Option.some.inj e).symm)
  have HVL := Aside0.mk (show vb < w.heap.size from (Array.getElem?_eq_some_iff.1 hv).1)
  have HCM := Aside0.mk hcm
  have HCS := Aside0.mk hcs
  have HTK := Aside0.mk htk
  have HMIN := Aside0.mk (show d = Nat.min d1 d by simp only [Nat.min_def]; split <;> omega)
  have HFIT := Aside0.mk (show i1 * 2 + D.length ≤ cur.length by rw [hDl, hcs]; omega)
  obtain ⟨C1, hC1⟩ : ∃ C, cur.take (i1 * 2) ++ D ++ cur.drop (i1 * 2 + D.length) = C := ⟨_, rfl⟩
  have HCL := Aside0.mk (show C1.length = cap * 2 by rw [← hC1]; simp only [List.length_append, List.length_take, List.length_drop]; omega)
  have HC1 := Aside0.mk hC1
  clear ho hb hi hl hv hne hcap hgb hh hnc hcm hcs htk hPl hDl hspl hins hP1 hD1 hP hD hE hEl hE1 hins2 hcell hcellV hrowV hVs hn hn1 hi1 hd hd1 hci hd2 hE0 hOD hc1' hC1
  go_enter Tryd.func76, Tryd.ntmps76
  go_wp2_with (simp only [hov])
  refine wp_region_held_drew (S := fun W => w.grownBy W (some g)) (by kernel_rfl) (grown_of_below (below_drew (Below.refl w.heap.size w)) _) (fun hHeld => ?_)
  refine wpAnyH_take (i := 0) (oi := ⟨some 69, _, _, _, _, _⟩) (v := (.slice (some ⟨g, 0, none⟩) n1 cap)) rfl (by kernel_rfl) (by kernel_rfl) (by kernel_rfl) (fun _ _ _ h => h) (Or.inl ⟨by rfl, fun W hS => by go_simp⟩) hHeld ?_
  (try simp only [Act.put, List.setIfInBounds_toArray, List.set_cons_zero, List.set_cons_succ])
  refine wpAnyH_take (i := 1) (oi := ⟨some 70, _, _, _, _, _⟩) (v := (.int .i64 (i : Int))) rfl (by kernel_rfl) (by kernel_rfl) (by kernel_rfl) (fun _ _ _ h => h) (Or.inl ⟨by rfl, fun W hS => by go_simp⟩) hHeld ?_
  (try simp only [Act.put, List.setIfInBounds_toArray, List.set_cons_zero, List.set_cons_succ])
  refine wpAnyH_take (i := 2) (oi := ⟨some 71, _, _, _, _, _⟩) (v := (.int .i64 1)) rfl (by kernel_rfl) (by kernel_rfl) (by kernel_rfl) (fun _ _ _ h => h) (Or.inl ⟨by rfl, fun W hS => by go_simp⟩) hHeld ?_
  (try simp only [Act.put, List.setIfInBounds_toArray, List.set_cons_zero, List.set_cons_succ])
  refine wpAnyH_take (i := 3) (oi := ⟨some 72, _, _, _, _, _⟩) (v := (.int .i64 (i1 : Int))) rfl (by kernel_rfl) (by kernel_rfl) (by kernel_rfl) (fun _ _ _ h => h) (Or.inl ⟨by rfl, fun W hS => by go_simp⟩) hHeld ?_
  (try simp only [Act.put, List.setIfInBounds_toArray, List.set_cons_zero, List.set_cons_succ])
  refine wpAnyH_take (i := 4) (oi := ⟨some 73, _, _, _, _, _⟩) (v := (.slice (some ⟨g, i1 * 2, none⟩) d c1)) rfl (by kernel_rfl) (by kernel_rfl) (by kernel_rfl) (fun _ _ _ h => h) (Or.inl ⟨by rfl, fun W hS => by have hc4 := HC4.out; go_simp⟩) hHeld ?_
  (try simp only [Act.put, List.setIfInBounds_toArray, List.set_cons_zero, List.set_cons_succ])
  refine wpAnyH_take (i := 5) (oi := ⟨some 74, _, _, _, _, _⟩) (v := (.slice (some ⟨g, 0, none⟩) n1 cap)) rfl (by kernel_rfl) (by kernel_rfl) (by kernel_rfl) (fun _ _ _ h => h) (Or.inl ⟨by rfl, fun W hS => by go_simp⟩) hHeld ?_
  (try simp only [Act.put, List.setIfInBounds_toArray, List.set_cons_zero, List.set_cons_succ])
  refine wpAnyH_take (i := 6) (oi := ⟨some 75, _, _, _, _, _⟩) (v := (.int .i64 (i : Int))) rfl (by kernel_rfl) (by kernel_rfl) (by kernel_rfl) (fun _ _ _ h => h) (Or.inl ⟨by rfl, fun W hS => by go_simp⟩) hHeld ?_
  (try simp only [Act.put, List.setIfInBounds_toArray, List.set_cons_zero, List.set_cons_succ])
  refine wpAnyH_take (i := 7) (oi := ⟨some 76, _, _, _, _, _⟩) (v := (.slice (some ⟨g, i * 2, none⟩) d1 ci)) rfl (by kernel_rfl) (by kernel_rfl) (by kernel_rfl) (fun _ _ _ h => h) (Or.inl ⟨by rfl, fun W hS => by have hc5 := HC5.out; go_simp⟩) hHeld ?_
  (try simp only [Act.put, List.setIfInBounds_toArray, List.set_cons_zero, List.set_cons_succ])
  refine wpAnyH_ready (rs := [8]) (by kernel_rfl) (by simp) ?_
  refine AllReadyH.cons rfl (fun K hK => ?_) AllReadyH.nil
  refine wp_copy_ents (.tmp 73) (.tmp 76) rfl g (i1 * 2) d c1 ⟨g, i * 2, none⟩ d1 ci d cur D (by kernel_rfl) (by kernel_rfl) HMIN.out HDL.out HH.out (HOD.out w.drew HH.out) HFIT.out HD1.out (fun w3 hbox hg3 => ?_)
  refine hK.out _ _ (hHeld.trans hg3) (fun hH => ?_)
  have HROW1 := Aside0.mk hbox
  clear hK K hHeld hbox hg3
  have hHeld := hH
  clear hH
  (try simp only [Act.put, List.setIfInBounds_toArray, List.set_cons_zero, List.set_cons_succ])
  refine wpAnyH_done (by kernel_rfl) ?_ _
  (try simp only [Exit.then])
  rw [HC1.out] at HROW1
  have HG1 := Aside0.mk hHeld
  clear hHeld
  go_wp2_with (first
    | (have hz := HROW1.out; clear hz; (with_reducible refine gate_dst (N := 82) rfl ?_); refine ev_copy_ents rfl (.tmp 80) (.tmp 81) rfl g (i * 2) d1 ci ⟨vb, 0, none⟩ 1 1 1 C1 E (by kernel_rfl) (by kernel_rfl) (by have := HN.out; simp only [Nat.min_def]; split <;> omega) HEL.out HROW1.out (HCV.out _ ((HG1.out.block vb HVL.out HNE2.out).trans HV.out)) (by rw [HCL.out, HEL.out]; have := HN.out; omega) HE1.out ?_; intro w4 hbox hg4; have HROW2 := Aside0.mk hbox; have HG2 := Aside0.mk (HG1.out.trans hg4); clear hbox hg4))
  go_ret
  obtain ⟨R, hR, hRl⟩ := shift_cells (S := cur.drop (n * 2)) (k := cap * 2 - n * 2) HPL.out HEL.out HDL.out (by rw [List.length_drop, HCS.out]) (by have := HN.out; omega)
  rw [← HTK.out, List.take_append_drop, ← HN.out.2.1, HC1.out] at hR
  have hrow := HROW2.out
  rw [hR] at hrow
  refine ⟨_, rfl, ?_, HG2.out⟩
  have hown := own_of (base := base) (l := insE l i x) (cap := cap) HGB.out hrow (by rw [HINS2.out]; have := HN.out; omega) HCM.out (by have := HPL.out; have := HEL.out; have := HDL.out; have := HN.out; simp only [List.length_append]; omega) (by rw [HINS2.out, HINS.out]; exact List.take_left' (by have := HPL.out; have := HEL.out; have := HDL.out; have := HN.out; simp only [List.length_append]; omega))
  rw [HINS2.out, ← HN.out.1] at hown
  rw [← HN.out.1]
  exact hown
end Go.Proofs.YtcmcmkfoihlniaaDoor.EN
end

section
namespace Go.Proofs.YtcmcmkfoihlniaaDoor.EN
open Go Go.RowKit Go.Proofs.YtcmcmkfoihlniaaDoorX Go.Proofs.YtcmcmkfoihlniaaDoor.NM Go.Proofs.YtcmcmkfoihlniaaDoorW.PrintWords Go.Proofs.YtcmcmkfoihlniaaDoorW.PrintLast Go.Proofs.YtcmcmkfoihlniaaDoorW.PrintMore Go.Proofs.YtcmcmkfoihlniaaDoor.PModelUndoes
set_option linter.unusedVariables false
set_option linter.unusedSimpArgs false
theorem one_row {w : World} {vb : Nat} {x : S90} (hv : w.heap[vb]? = some (.cells #[.int .i64 x.f0, .string x.f1] 90 (0, 0))) (hz : x.f1.size ≤ 140737488351232) : Row w (some ⟨vb, 0, none⟩) [x] :=
  own_row (own_of (base := vb) (l := [x]) (cap := 1) (cur := [.int .i64 x.f0, .string x.f1]) (Nat.le_refl _) hv (by simp) (by decide) rfl (by rfl)) (fun y hy => by rw [List.mem_singleton.1 hy]; exact hz)
theorem insE_end (l : List S90) (x : S90) : insE l l.length x = l ++ [x] := by simp [insE]
set_option maxHeartbeats 4000000 in
set_option maxRecDepth 100000 in
theorem insert_end (base : Nat) (v : Value) (l : List S90) (x : S90) (vb : Nat) (w : World) (ho : w.ownsRow base 90 2 v l.length (rowsE l)) (hb : base ≤ w.heap.size) (hl : l.length ≤ 1000) (hv : w.heap[vb]? = some (.cells #[.int .i64 x.f0, .string x.f1] 90 (0, 0))) (hz : x.f1.size ≤ 140737488351232) :
    Calls Tryd.prog 76 #[v, .int .i64 (l.length : Int), .slice (some ⟨vb, 0, none⟩) 1 1] w fun e w' => ∃ v', e = .returned v' ∧ w'.ownsRow base 90 2 v' (l.length + 1) (rowsE (insE l l.length x)) ∧ w.grownBy w' v.ownBlock := by
  have HRV := Aside0.mk (one_row hv hz)
  have HB := Aside0.mk hb
  have HO := Aside0.mk ho
  clear hv hz hb
  rcases ho.2 with ⟨hn0, h0⟩ | ⟨g, cap, cur, hv0, _⟩
  · obtain rfl : l = [] := List.eq_nil_of_length_eq_zero h0
    subst hn0
    clear ho h0
    go_enter Tryd.func76, Tryd.ntmps76
    go_wp2_with (at_builtin; (with_reducible refine gate_dst (N := 25) rfl ?_); refine ev_append_ents rfl (.tmp 23) (.tmp 24) rfl base (.slice none 0 0) [] [x] (some ⟨vb, 0, none⟩) 1 (by kernel_rfl) (by kernel_rfl) HO.out HRV.out HB.out (by simp) ?_; intro v1 w1 ho1 hg1; have HO1 := Aside0.mk ho1; have HG1 := Aside0.mk hg1; clear ho1 hg1)
    go_ret
    exact ⟨_, rfl, HO1.out, HG1.out⟩
  · subst hv0
    have hnc := own_form2 ho
    have hcapn : (l.length : Int) ≤ (cap : Int) := by have := hnc.2.choose_spec.2.1; omega
    obtain ⟨A2, d2, c2, hcut⟩ := cut_end g l.length cap l.length (Nat.le_refl _) hnc.2.choose_spec.2.1
    have HEND := Aside0.mk (insE_end l x)
    have HLL := Aside0.mk (show l.length + [x].length ≤ 5864062014700 by simp; omega)
    obtain ⟨n, hn⟩ : ∃ n, l.length = n := ⟨_, rfl⟩
    have HN := Aside0.mk hn
    rw [hn] at hcut hl hcapn ⊢
    have HEND' := HEND.out
    rw [hn] at HEND'
    have HE2 := Aside0.mk HEND'
    have HOn := Aside0.mk (show w.ownsRow base 90 2 (.slice (some ⟨g, 0, none⟩) n cap) l.length (rowsE l) from hn ▸ HO.out)
    clear ho hn hnc HEND' HO HEND
    have HO := HOn
    go_enter Tryd.func76, Tryd.ntmps76
    go_wp2_with (at_builtin; (with_reducible refine gate_dst (N := 25) rfl ?_); refine ev_append_ents rfl (.tmp 23) (.tmp 24) rfl base (.slice (some ⟨g, 0, none⟩) n cap) l [x] (some ⟨vb, 0, none⟩) 1 (by kernel_rfl) (by kernel_rfl) HO.out HRV.out HB.out HLL.out ?_; intro v1 w1 ho1 hg1; have HO1 := Aside0.mk ho1; have HG1 := Aside0.mk hg1; clear ho1 hg1)
    go_ret
    refine ⟨_, rfl, ?_, HG1.out⟩
    have := HO1.out
    rw [List.length_append, HN.out] at this
    rw [HE2.out]
    exact this
theorem insert_any (base : Nat) (v : Value) (l : List S90) (i : Nat) (x : S90) (vb : Nat) (w : World) (ho : w.ownsRow base 90 2 v l.length (rowsE l)) (hb : base ≤ w.heap.size) (hi : i ≤ l.length) (hl : l.length ≤ 1000) (hv : w.heap[vb]? = some (.cells #[.int .i64 x.f0, .string x.f1] 90 (0, 0))) (hz : x.f1.size ≤ 140737488351232) (hne : ∀ k, v.ownBlock = some k → k ≠ vb) :
    Calls Tryd.prog 76 #[v, .int .i64 (i : Int), .slice (some ⟨vb, 0, none⟩) 1 1] w fun e w' => ∃ v', e = .returned v' ∧ w'.ownsRow base 90 2 v' (l.length + 1) (rowsE (insE l i x)) ∧ w.grownBy w' v.ownBlock := by
  rcases Nat.lt_or_ge i l.length with h | h
  · obtain ⟨g, cap, cur, rfl, _⟩ := own_form ho (by omega)
    rcases Nat.lt_or_ge cap (l.length + 1) with hc | hc
    · exact insert_grow base l i x vb g cap w ho hb h hl hv (hne g rfl) hc
    · exact insert_shift base l i x vb g cap w ho hb h hl hv (hne g rfl) hc
  · obtain rfl : i = l.length := by omega
    exact insert_end base v l x vb w ho hb hl hv hz
end Go.Proofs.YtcmcmkfoihlniaaDoor.EN
end

section
namespace Go.Proofs.YtcmcmkfoihlniaaDoor.EN
open Go Go.RowKit Go.Proofs.YtcmcmkfoihlniaaDoorX Go.Proofs.YtcmcmkfoihlniaaDoor.NM Go.Proofs.YtcmcmkfoihlniaaDoorW.PrintWords Go.Proofs.YtcmcmkfoihlniaaDoorW.PrintLast Go.Proofs.YtcmcmkfoihlniaaDoorW.PrintMore Go.Proofs.YtcmcmkfoihlniaaDoor.PModelUndoes
set_option linter.unusedVariables false
set_option linter.unusedSimpArgs false
theorem rangeAt_blk {w : World} {b t : Nat} {cs : List Value} (h : w.heap[b]? = some (.cells cs.toArray t (0, 0))) : w.rangeAt b 0 cs := fun j v hv => by
  have hj : j < cs.length := by by_cases hlt : j < cs.length; exact hlt; rw [List.getElem?_eq_none (by omega)] at hv; cases hv
  have he : cs.toArray[0 + j]? = some v := by rw [Nat.zero_add]; simpa using hv
  have := blk_cell h (0 + j)
  rw [this, he]
theorem heap_new (W : World) (o : Obj) : (W.alloc o).heap[W.heap.size]? = some o := by
  show (W.heap.push o)[W.heap.size]? = _
  rw [Array.getElem?_push_size]
theorem insErr_none {l : List S90} {x : S90} (h : insErr l x = none) : mayE l = true ∧ valid x.f1.data.toList = true ∧ okIno x.f0 = true ∧ isE l x.f1 = false ∧ l.length < 64 := by
  unfold insErr at h
  by_cases h1 : mayE l = true
  · rw [if_pos h1] at h
    by_cases h2 : valid x.f1.data.toList = true
    · rw [if_pos h2] at h
      by_cases h3 : okIno x.f0 = true
      · rw [if_pos h3] at h
        by_cases h4 : isE l x.f1 = true
        · rw [if_pos h4] at h; cases h
        · rw [if_neg h4] at h
          by_cases h5 : 64 ≤ l.length
          · rw [if_pos h5] at h; cases h
          · exact ⟨h1, h2, h3, by simpa using h4, by omega⟩
      · rw [if_neg h3] at h; cases h
    · rw [if_neg h2] at h; cases h
  · rw [if_neg h1] at h; cases h
set_option maxHeartbeats 4000000 in
set_option maxRecDepth 100000 in
theorem ins_yes (A : Option Addr) (c : Nat) (l : List S90) (a : Int) (s : ByteArray) (w : World) (hr : Row w A l) (hz : ∀ x ∈ l, x.f1.size ≤ 17592186044416) (hn : s.size ≤ 17592186044416) (hT : Lib.Utf8Tabs 2 3 w) (he : insErr l ⟨a, s⟩ = none) :
    Calls Tryd.prog 59 #[.slice A l.length c, .agg (cellsE a s)] w fun e w' => ∃ v, e = .returned (.tuple #[v, .int .i64 0]) ∧ w'.ownsRow w.heap.size 90 2 v (l.length + 1) (rowsE (insE l (atE l s) ⟨a, s⟩)) ∧ Below w.heap.size w w' := by
  obtain ⟨hm, hv, hi, hx, hlen⟩ := insErr_none he
  have HM := Aside0.mk hm
  have HV := Aside0.mk hv
  have HI := Aside0.mk hi
  have HE := Aside0.mk hx
  have HR := Aside0.mk hr
  have HZ := Aside0.mk hz
  have HN := Aside0.mk hn
  have HT := Aside0.mk hT
  obtain ⟨J, HAT⟩ : ∃ J, Aside0 (atE l s = J) := ⟨_, ⟨rfl⟩⟩
  rw [HAT.out]
  have HJ := Aside0.mk (show J ≤ l.length by rw [← HAT.out]; exact atE_le l s)
  have HL := Aside0.mk (show l.length ≤ 9223372036854775807 by omega)
  have HL2 := Aside0.mk (show l.length ≤ 5864062014700 by omega)
  have HLL := Aside0.mk (show l.length ≤ 1000 by omega)
  have HSZ := Aside0.mk (show s.size ≤ 140737488351232 by omega)
  have hfull : ¬ ((64 : Int) ≤ (l.length : Int)) := by omega
  clear hr hz hn hT he hm hv hi hx hlen
  go_enter Tryd.func59, Tryd.ntmps59
  go_wp2_with (first
    | ((with_reducible refine gate_dst (N := 3) rfl ?_); refine box_event ?hg (N := 3) ?hd (cs := cellsE a s) (t := 90) ?hr ?_; (case hd => rfl); (case hg => rfl); (case hr => first | (go_simp; done) | (go_simp; rfl) | kernel_rfl); intro gg hg w1 hbox hb; have HB1 := Aside0.mk hb; have BG := Aside0.mk hbox; have d1 : w1.cell? ⟨gg, 1, none⟩ = some (.string s) := (blk_cell hbox 1).trans (cellE_one a s); have d0 : w1.cell? ⟨gg, 0, none⟩ = some (.int .i64 a) := (blk_cell hbox 0).trans (cellE_zero a s); clear hb hbox hg)
    | (go_at_call 75; refine (may_call a _).mono ?_; rw [HI.out]; rintro e w5 ⟨rfl, hb⟩; have HB5 := Aside0.mk (below_step HB4.out hb); have d1 := pw_cell_below hb d1; have d0 := pw_cell_below hb d0; have BG := Aside0.mk (blk_below BG.out hb); clear hb)
    | (go_at_call 68; refine (valid_any s _ (by have := HN.out; omega) (Utf8Tabs_below HT.out HB3.out)).mono ?_; rw [HV.out]; rintro e w4 ⟨rfl, hb⟩; have HB4 := Aside0.mk (below_step HB3.out hb); have d1 := pw_cell_below hb d1; have d0 := pw_cell_below hb d0; have BG := Aside0.mk (blk_below BG.out hb); clear hb)
    | (go_at_call 58; refine (find_any A c l s _ (HR.out.below HB2.out) HL.out HZ.out HN.out).mono ?_; rw [HE.out, HAT.out]; rintro e w3 ⟨rfl, hb⟩; have HB3 := Aside0.mk (below_step HB2.out hb); have d1 := pw_cell_below hb d1; have d0 := pw_cell_below hb d0; have BG := Aside0.mk (blk_below BG.out hb); clear hb)
    | (go_at_call 69; refine (may_any _ A c l (HR.out.below HB1.out) (Utf8Tabs_below HT.out HB1.out)).mono ?_; rw [HM.out]; rintro e w2 ⟨rfl, hb⟩; have HB2 := Aside0.mk (below_step HB1.out hb); have d1 := pw_cell_below hb d1; have d0 := pw_cell_below hb d0; have BG := Aside0.mk (blk_below BG.out hb); clear hb))
  refine wp_region_held_drew (S := fun W => Below w5.drew.heap.size w5.drew W) (by kernel_rfl) (Below.refl w5.drew.heap.size w5.drew) (fun hHeld => ?_)
  obtain ⟨wq, hwq⟩ : ∃ W, w5.drew = W := ⟨_, rfl⟩
  have HBQ := Aside0.mk (show Below w.heap.size w w5.drew from below_drew HB5.out)
  have BGQ := Aside0.mk (show w5.drew.heap[gg]? = some (.cells [Value.int .i64 a, Value.string s].toArray 90 (0, 0)) from BG.out)
  have HRQ := Aside0.mk (HR.out.below HBQ.out)
  rw [hwq] at hHeld HBQ BGQ HRQ ⊢
  clear hwq
  refine wpAnyH_take (i := 0) (oi := ⟨some 34, _, _, _, _, _⟩) (v := (.slice A l.length c)) rfl (by kernel_rfl) (by kernel_rfl) (by kernel_rfl) (fun _ _ _ h => h) (Or.inl ⟨by rfl, fun W hS => by go_simp⟩) hHeld ?_
  (try simp only [Act.put, List.setIfInBounds_toArray, List.set_cons_zero, List.set_cons_succ])
  refine wpAnyH_take (i := 2) (oi := ⟨some 36, _, _, _, _, _⟩) (v := (.int .i64 (J : Int))) rfl (by kernel_rfl) (by kernel_rfl) (by kernel_rfl) (fun _ _ _ h => h) (Or.inl ⟨by rfl, fun W hS => by go_simp⟩) hHeld ?_
  (try simp only [Act.put, List.setIfInBounds_toArray, List.set_cons_zero, List.set_cons_succ])
  refine wpAnyH_take (i := 3) (oi := ⟨some 37, _, _, _, _, _⟩) rfl (by kernel_rfl) (by kernel_rfl) (by kernel_rfl) (fun _ _ _ h => h) (yieldsIf_load_mid (by rfl) 90 (.tmp 3) rfl gg 0 rfl [.int .i64 a, .string s] _ (fun W hS => rangeAt_blk (blk_below BGQ.out hS)) Tryd.underlying90 rfl (by kernel_rfl)) hHeld ?_
  (try simp only [Act.put, List.setIfInBounds_toArray, List.set_cons_zero, List.set_cons_succ])
  refine wpAnyH_ready (rs := [1, 4]) (by kernel_rfl) (by simp) ?_
  refine AllReadyH.cons rfl (fun K hK => ?_) (AllReadyH.cons rfl (fun K hK => ?_) (AllReadyH.nil))
  case' refine_1 =>
    go_simp
    refine (clone_any A c l _ (HRQ.out.below hHeld) HL2.out).mono ?_
    rintro e wc ⟨v, rfl, ho, hb⟩
    have HOC := Aside0.mk (own_less ho hHeld.size)
    (first
      | (have HVI := Aside0.mk (blk_below HVA.out hb); have HNI := Aside0.mk (show ∀ k, v.ownBlock = some k → k ≠ wq.heap.size from fun k e => Nat.ne_of_gt (Nat.lt_of_lt_of_le (blk_lt HVA.out) (own_base ho k e))); have HOI := HOC)
      | skip)
    dsimp only
    refine hK.out _ _ (below_step hHeld hb) (fun hH => ?_)
    clear hK K hHeld ho hb
    have hHeld := hH
    clear hH
    (try simp only [Act.put, List.setIfInBounds_toArray, List.set_cons_zero, List.set_cons_succ])
    refine wpAnyH_ready (rs := [4]) (by kernel_rfl) (by simp) ?_
    refine AllReadyH.cons rfl (fun K hK => ?_) (AllReadyH.nil)
    go_simp
    (first
      | (have HVI := Aside0.mk (heap_new wc (.cells #[.int .i64 a, .string s] 90)); have HNI := Aside0.mk (show ∀ k, v.ownBlock = some k → k ≠ wc.heap.size from fun k e => Nat.ne_of_lt (own_lt HOC.out k e)); have HOI := Aside0.mk (HOC.out.alloc (.cells #[.int .i64 a, .string s] 90)))
      | (have HVA := Aside0.mk (heap_new wq (.cells #[.int .i64 a, .string s] 90))))
    refine hK.out _ _ (hHeld.alloc hHeld.size _) (fun hH => ?_)
    clear hK K hHeld
    have hHeld := hH
    clear hH
    (try simp only [Act.put, List.setIfInBounds_toArray, List.set_cons_zero, List.set_cons_succ])
    refine wpAnyH_ready (rs := [5]) (by kernel_rfl) (by simp) ?_
    refine AllReadyH.cons rfl (fun K hK => ?_) (AllReadyH.nil)
    go_simp
    refine (insert_any wq.heap.size v l J ⟨a, s⟩ _ _ HOI.out hHeld.size HJ.out HLL.out HVI.out HSZ.out HNI.out).mono ?_
    rintro e wi ⟨v', rfl, ho, hg⟩
    have HOF := Aside0.mk ho
    dsimp only
    refine hK.out _ _ (hHeld.grown hg hHeld.size (own_base HOI.out)) (fun hH => ?_)
    clear hK K hHeld ho hg
    have hHeld := hH
    clear hH
    (try simp only [Act.put, List.setIfInBounds_toArray, List.set_cons_zero, List.set_cons_succ])
    refine wpAnyH_take (i := 6) (oi := ⟨some 4, _, _, _, _, _⟩) (v := v') rfl (by kernel_rfl) (by kernel_rfl) (by kernel_rfl) (fun _ _ _ h => h) (Or.inl ⟨by rfl, fun W hS => by go_simp⟩) hHeld ?_
    (try simp only [Act.put, List.setIfInBounds_toArray, List.set_cons_zero, List.set_cons_succ])
    refine wpAnyH_take (i := 7) (oi := ⟨some 5, _, _, _, _, _⟩) (v := (.int .i64 0)) rfl (by kernel_rfl) (by kernel_rfl) (by kernel_rfl) (fun _ _ _ h => h) (Or.inl ⟨by rfl, fun W hS => by go_simp⟩) hHeld ?_
    (try simp only [Act.put, List.setIfInBounds_toArray, List.set_cons_zero, List.set_cons_succ])
    refine wpAnyH_done (by kernel_rfl) ?_ _
    have HF := Aside0.mk (below_step HBQ.out hHeld)
    clear hHeld
    (try simp only [Exit.then])
    go_wp2
    go_ret2
    exact ⟨_, rfl, own_less HOF.out HBQ.out.size, HF.out⟩
  case' refine_2 =>
    go_simp
    (first
      | (have HVI := Aside0.mk (heap_new wc (.cells #[.int .i64 a, .string s] 90)); have HNI := Aside0.mk (show ∀ k, v.ownBlock = some k → k ≠ wc.heap.size from fun k e => Nat.ne_of_lt (own_lt HOC.out k e)); have HOI := Aside0.mk (HOC.out.alloc (.cells #[.int .i64 a, .string s] 90)))
      | (have HVA := Aside0.mk (heap_new wq (.cells #[.int .i64 a, .string s] 90))))
    refine hK.out _ _ (hHeld.alloc hHeld.size _) (fun hH => ?_)
    clear hK K hHeld
    have hHeld := hH
    clear hH
    (try simp only [Act.put, List.setIfInBounds_toArray, List.set_cons_zero, List.set_cons_succ])
    refine wpAnyH_ready (rs := [1]) (by kernel_rfl) (by simp) ?_
    refine AllReadyH.cons rfl (fun K hK => ?_) (AllReadyH.nil)
    go_simp
    refine (clone_any A c l _ (HRQ.out.below hHeld) HL2.out).mono ?_
    rintro e wc ⟨v, rfl, ho, hb⟩
    have HOC := Aside0.mk (own_less ho hHeld.size)
    (first
      | (have HVI := Aside0.mk (blk_below HVA.out hb); have HNI := Aside0.mk (show ∀ k, v.ownBlock = some k → k ≠ wq.heap.size from fun k e => Nat.ne_of_gt (Nat.lt_of_lt_of_le (blk_lt HVA.out) (own_base ho k e))); have HOI := HOC)
      | skip)
    dsimp only
    refine hK.out _ _ (below_step hHeld hb) (fun hH => ?_)
    clear hK K hHeld ho hb
    have hHeld := hH
    clear hH
    (try simp only [Act.put, List.setIfInBounds_toArray, List.set_cons_zero, List.set_cons_succ])
    refine wpAnyH_ready (rs := [5]) (by kernel_rfl) (by simp) ?_
    refine AllReadyH.cons rfl (fun K hK => ?_) (AllReadyH.nil)
    go_simp
    refine (insert_any wq.heap.size v l J ⟨a, s⟩ _ _ HOI.out hHeld.size HJ.out HLL.out HVI.out HSZ.out HNI.out).mono ?_
    rintro e wi ⟨v', rfl, ho, hg⟩
    have HOF := Aside0.mk ho
    dsimp only
    refine hK.out _ _ (hHeld.grown hg hHeld.size (own_base HOI.out)) (fun hH => ?_)
    clear hK K hHeld ho hg
    have hHeld := hH
    clear hH
    (try simp only [Act.put, List.setIfInBounds_toArray, List.set_cons_zero, List.set_cons_succ])
    refine wpAnyH_take (i := 6) (oi := ⟨some 4, _, _, _, _, _⟩) (v := v') rfl (by kernel_rfl) (by kernel_rfl) (by kernel_rfl) (fun _ _ _ h => h) (Or.inl ⟨by rfl, fun W hS => by go_simp⟩) hHeld ?_
    (try simp only [Act.put, List.setIfInBounds_toArray, List.set_cons_zero, List.set_cons_succ])
    refine wpAnyH_take (i := 7) (oi := ⟨some 5, _, _, _, _, _⟩) (v := (.int .i64 0)) rfl (by kernel_rfl) (by kernel_rfl) (by kernel_rfl) (fun _ _ _ h => h) (Or.inl ⟨by rfl, fun W hS => by go_simp⟩) hHeld ?_
    (try simp only [Act.put, List.setIfInBounds_toArray, List.set_cons_zero, List.set_cons_succ])
    refine wpAnyH_done (by kernel_rfl) ?_ _
    have HF := Aside0.mk (below_step HBQ.out hHeld)
    clear hHeld
    (try simp only [Exit.then])
    go_wp2
    go_ret2
    exact ⟨_, rfl, own_less HOF.out HBQ.out.size, HF.out⟩
end Go.Proofs.YtcmcmkfoihlniaaDoor.EN
end

section
namespace Go.Proofs.YtcmcmkfoihlniaaDoor.EN
open Go Go.RowKit Go.Proofs.YtcmcmkfoihlniaaDoorX Go.Proofs.YtcmcmkfoihlniaaDoor.NM Go.Proofs.YtcmcmkfoihlniaaDoorW.PrintWords Go.Proofs.YtcmcmkfoihlniaaDoorW.PrintLast Go.Proofs.YtcmcmkfoihlniaaDoorW.PrintMore Go.Proofs.YtcmcmkfoihlniaaDoor.PModelUndoes
set_option linter.unusedVariables false
set_option linter.unusedSimpArgs false
def remErr (l : List S90) (nm : ByteArray) : Option Int := if mayE l = true then (if isE l nm = true then none else some 32) else some 1
set_option maxHeartbeats 2000000 in
theorem rem_may (A : Option Addr) (c : Nat) (l : List S90) (nm : ByteArray) (w : World) (hr : Row w A l) (hl : l.length ≤ 9223372036854775807) (hz : ∀ x ∈ l, x.f1.size ≤ 17592186044416) (hn : nm.size ≤ 17592186044416) (hT : Lib.Utf8Tabs 2 3 w) (HM : Aside0 (mayE l = false)) :
    Calls Tryd.prog 57 #[.slice A l.length c, .string nm] w fun e w' => e = .returned (.tuple #[.slice none 0 0, .int .i64 0, .int .i64 1]) ∧ Below w.heap.size w w' := by
  have HR := Aside0.mk hr
  have HL := Aside0.mk hl
  have HZ := Aside0.mk hz
  have HN := Aside0.mk hn
  have HT := Aside0.mk hT
  obtain ⟨J, HAT⟩ : ∃ J, Aside0 (atE l nm = J) := ⟨_, ⟨rfl⟩⟩
  clear hr hl hz hn hT
  go_enter Tryd.func57, Tryd.ntmps57
  go_wp2_with (first
    | (go_at_call 69; refine (may_any w A c l HR.out HT.out).mono ?_; rw [HM.out]; rintro e w2 ⟨rfl, hb⟩; have HB2 := Aside0.mk hb; clear hb))
  refine bodyPost_ret (results_tmp3 rfl _ _ _) rfl ?_
  exact ⟨rfl, HB2.out⟩
set_option maxHeartbeats 2000000 in
theorem rem_none (A : Option Addr) (c : Nat) (l : List S90) (nm : ByteArray) (w : World) (hr : Row w A l) (hl : l.length ≤ 9223372036854775807) (hz : ∀ x ∈ l, x.f1.size ≤ 17592186044416) (hn : nm.size ≤ 17592186044416) (hT : Lib.Utf8Tabs 2 3 w) (HM : Aside0 (mayE l = true)) (HE : Aside0 (isE l nm = false)) :
    Calls Tryd.prog 57 #[.slice A l.length c, .string nm] w fun e w' => e = .returned (.tuple #[.slice none 0 0, .int .i64 0, .int .i64 32]) ∧ Below w.heap.size w w' := by
  have HR := Aside0.mk hr
  have HL := Aside0.mk hl
  have HZ := Aside0.mk hz
  have HN := Aside0.mk hn
  have HT := Aside0.mk hT
  obtain ⟨J, HAT⟩ : ∃ J, Aside0 (atE l nm = J) := ⟨_, ⟨rfl⟩⟩
  clear hr hl hz hn hT
  go_enter Tryd.func57, Tryd.ntmps57
  go_wp2_with (first
    | (have hz := HB2.out; clear hz; go_at_call 58; refine (find_any A c l nm w2 (HR.out.below HB2.out) HL.out HZ.out HN.out).mono ?_; rw [HE.out, HAT.out]; rintro e w3 ⟨rfl, hb⟩; have HB3 := Aside0.mk (below_step HB2.out hb); clear hb)
    | (go_at_call 69; refine (may_any w A c l HR.out HT.out).mono ?_; rw [HM.out]; rintro e w2 ⟨rfl, hb⟩; have HB2 := Aside0.mk hb; clear hb))
  refine bodyPost_ret (results_tmp3 rfl _ _ _) rfl ?_
  exact ⟨rfl, HB3.out⟩
theorem rem_err (A : Option Addr) (c : Nat) (l : List S90) (nm : ByteArray) (w : World) (hr : Row w A l) (hl : l.length ≤ 9223372036854775807) (hz : ∀ x ∈ l, x.f1.size ≤ 17592186044416) (hn : nm.size ≤ 17592186044416) (hT : Lib.Utf8Tabs 2 3 w) (y : Int) (he : remErr l nm = some y) :
    Calls Tryd.prog 57 #[.slice A l.length c, .string nm] w fun e w' => e = .returned (.tuple #[.slice none 0 0, .int .i64 0, .int .i64 y]) ∧ Below w.heap.size w w' := by
  unfold remErr at he
  cases hm : mayE l with
  | false =>
    rw [hm, if_neg (by simp)] at he
    cases he
    exact rem_may A c l nm w hr hl hz hn hT ⟨hm⟩
  | true =>
    rw [hm, if_pos rfl] at he
    cases hx : isE l nm with
    | true => rw [hx, if_pos rfl] at he; cases he
    | false =>
      rw [hx, if_neg (by simp)] at he
      cases he
      exact rem_none A c l nm w hr hl hz hn hT ⟨hm⟩ ⟨hx⟩
set_option maxHeartbeats 4000000 in
set_option maxRecDepth 100000 in
theorem rem_yes (A : Option Addr) (c : Nat) (l : List S90) (nm : ByteArray) (w : World) (hr : Row w A l) (hz : ∀ x ∈ l, x.f1.size ≤ 17592186044416) (hn : nm.size ≤ 17592186044416) (hT : Lib.Utf8Tabs 2 3 w) (HM : Aside0 (mayE l = true)) (HE : Aside0 (isE l nm = true)) :
    Calls Tryd.prog 57 #[.slice A l.length c, .string nm] w fun e w' => ∃ v, e = .returned (.tuple #[v, .int .i64 (inoAt l (atE l nm)), .int .i64 0]) ∧ w'.ownsRow w.heap.size 90 2 v (l.length - 1) (rowsE (l.eraseIdx (atE l nm))) ∧ Below w.heap.size w w' := by
  have hl64 := ((mayE_iff l).1 HM.out).1
  have HZ := Aside0.mk hz
  have HN := Aside0.mk hn
  have HT := Aside0.mk hT
  obtain ⟨J, HAT⟩ : ∃ J, Aside0 (atE l nm = J) := ⟨_, ⟨rfl⟩⟩
  rw [HAT.out]
  have hj : J < l.length := by
    have h := HE.out
    unfold isE at h
    rw [HAT.out, Bool.and_eq_true] at h
    exact of_decide_eq_true h.1
  obtain ⟨ad, rfl, _⟩ := hr.at_ hj
  have HR := Aside0.mk hr
  have HJ := Aside0.mk hj
  have HL := Aside0.mk (show l.length ≤ 9223372036854775807 by omega)
  have HL2 := Aside0.mk (show l.length ≤ 5864062014700 by omega)
  have HL0 := Aside0.mk (show 0 < l.length by omega)
  have j0 : (0 : Int) ≤ (J : Int) := Int.natCast_nonneg _
  have j1 : (J : Int) < (l.length : Int) := by omega
  obtain ⟨J1, hJ1⟩ : ∃ q, q = J + 1 := ⟨_, rfl⟩
  have hwJ : IntKind.wrap .i64 ((J : Int) + 1) = (J1 : Int) := (IntWalk.i64_in _ ⟨by omega, by omega⟩).trans (by omega)
  have HJ1 := Aside0.mk hJ1
  obtain ⟨ino, hino⟩ : ∃ q, inoAt l J = q := ⟨_, rfl⟩
  rw [hino]
  have HINO := Aside0.mk hino
  clear hr hz hn hT hl64 hj hino hJ1
  go_enter Tryd.func57, Tryd.ntmps57
  go_wp2_with (first
    | (have hz := HB2.out; clear hz; go_at_call 58; refine (find_any (some ad) c l nm w2 (HR.out.below HB2.out) HL.out HZ.out HN.out).mono ?_; rw [HE.out, HAT.out]; rintro e w3 ⟨rfl, hb⟩; have HB3 := Aside0.mk (below_step HB2.out hb); clear hb)
    | (go_at_call 69; refine (may_any w (some ad) c l HR.out HT.out).mono ?_; rw [HM.out]; rintro e w2 ⟨rfl, hb⟩; have HB2 := Aside0.mk hb; clear hb))
  have HR3 := Aside0.mk (HR.out.below HB3.out)
  obtain ⟨ad', e', k3, _⟩ := HR3.out.at_ HJ.out
  cases e'
  rw [HINO.out] at k3
  have K3 := Aside0.mk k3
  clear k3
  refine wp_region_held_drew (S := fun W => Below w3.heap.size w3 W) (by kernel_rfl) (below_drew (Below.refl w3.heap.size w3)) (fun hHeld => ?_)
  refine wpAnyH_take (i := 0) (oi := ⟨some 20, _, _, _, _, _⟩) (v := (.slice (some ad) l.length c)) rfl (by kernel_rfl) (by kernel_rfl) (by kernel_rfl) (fun _ _ _ h => h) (Or.inl ⟨by rfl, fun W hS => by go_simp⟩) hHeld ?_
  (try simp only [Act.put, List.setIfInBounds_toArray, List.set_cons_zero, List.set_cons_succ])
  refine wpAnyH_take (i := 2) (oi := ⟨some 22, _, _, _, _, _⟩) (v := (.int .i64 (J : Int))) rfl (by kernel_rfl) (by kernel_rfl) (by kernel_rfl) (fun _ _ _ h => h) (Or.inl ⟨by rfl, fun W hS => by go_simp⟩) hHeld ?_
  (try simp only [Act.put, List.setIfInBounds_toArray, List.set_cons_zero, List.set_cons_succ])
  refine wpAnyH_take (i := 3) (oi := ⟨some 23, _, _, _, _, _⟩) (v := (.int .i64 (J : Int))) rfl (by kernel_rfl) (by kernel_rfl) (by kernel_rfl) (fun _ _ _ h => h) (Or.inl ⟨by rfl, fun W hS => by go_simp⟩) hHeld ?_
  (try simp only [Act.put, List.setIfInBounds_toArray, List.set_cons_zero, List.set_cons_succ])
  refine wpAnyH_take (i := 4) (oi := ⟨some 24, _, _, _, _, _⟩) (v := (.int .i64 (J1 : Int))) rfl (by kernel_rfl) (by kernel_rfl) (by kernel_rfl) (fun _ _ _ h => h) (Or.inl ⟨by rfl, fun W hS => by go_simp⟩) hHeld ?_
  (try simp only [Act.put, List.setIfInBounds_toArray, List.set_cons_zero, List.set_cons_succ])
  refine wpAnyH_take (i := 6) (oi := ⟨some 26, _, _, _, _, _⟩) (v := (.slice (some ad) l.length c)) rfl (by kernel_rfl) (by kernel_rfl) (by kernel_rfl) (fun _ _ _ h => h) (Or.inl ⟨by rfl, fun W hS => by go_simp⟩) hHeld ?_
  (try simp only [Act.put, List.setIfInBounds_toArray, List.set_cons_zero, List.set_cons_succ])
  refine wpAnyH_take (i := 7) (oi := ⟨some 27, _, _, _, _, _⟩) (v := (.int .i64 (J : Int))) rfl (by kernel_rfl) (by kernel_rfl) (by kernel_rfl) (fun _ _ _ h => h) (Or.inl ⟨by rfl, fun W hS => by go_simp⟩) hHeld ?_
  (try simp only [Act.put, List.setIfInBounds_toArray, List.set_cons_zero, List.set_cons_succ])
  refine wpAnyH_take (i := 8) (oi := ⟨some 28, _, _, _, _, _⟩) (v := (.pointer (some (ad.add (J * 2))))) rfl (by kernel_rfl) (by kernel_rfl) (by kernel_rfl) (fun _ _ _ h => h) (Or.inl ⟨by rfl, fun W hS => by go_simp⟩) hHeld ?_
  (try simp only [Act.put, List.setIfInBounds_toArray, List.set_cons_zero, List.set_cons_succ])
  refine wpAnyH_take (i := 9) (oi := ⟨some 29, _, _, _, _, _⟩) (v := (.pointer (some (ad.add (J * 2))))) rfl (by kernel_rfl) (by kernel_rfl) (by kernel_rfl) (fun _ _ _ h => h) (Or.inl ⟨by rfl, fun W hS => by go_simp⟩) hHeld ?_
  (try simp only [Act.put, List.setIfInBounds_toArray, List.set_cons_zero, List.set_cons_succ])
  refine wpAnyH_ready (rs := [1, 10]) (by kernel_rfl) (by simp) ?_
  refine AllReadyH.cons rfl (fun K hK => ?_) (AllReadyH.cons rfl (fun K hK => ?_) (AllReadyH.nil))
  case' refine_1 =>
    go_simp
    refine (clone_any (some ad) c l _ (HR3.out.below hHeld) HL2.out).mono ?_
    rintro e wc ⟨v, rfl, ho, hb⟩
    obtain ⟨g, cap, cur, rfl, _⟩ := own_form ho HL0.out
    have HOC := Aside0.mk (own_less ho hHeld.size)
    dsimp only
    refine hK.out _ _ (below_step hHeld hb) (fun hH => ?_)
    clear hK K hHeld ho hb
    have hHeld := hH
    clear hH
    (try simp only [Act.put, List.setIfInBounds_toArray, List.set_cons_zero, List.set_cons_succ])
    refine wpAnyH_ready (rs := [5, 10]) (by kernel_rfl) (by simp) ?_
    refine AllReadyH.cons rfl (fun K hK => ?_) (AllReadyH.cons rfl (fun K hK => ?_) (AllReadyH.nil))
    case' refine_1 =>
      go_simp
      have hdel := delete_any w3.heap.size g l.length cap J l wc HOC.out rfl HJ.out HL2.out
      rw [← HJ1.out] at hdel
      refine hdel.mono ?_
      rintro e wd ⟨rfl, ho, hg⟩
      dsimp only
      refine hK.out _ _ (hHeld.grown hg hHeld.size (fun k e => by cases e; exact own_base HOC.out _ rfl)) (fun hH => ?_)
      have HOD := Aside0.mk ho
      clear hK K hHeld ho hg hdel
      have hHeld := hH
      clear hH
      (try simp only [Act.put, List.setIfInBounds_toArray, List.set_cons_zero, List.set_cons_succ])
      refine wpAnyH_take (i := 11) (oi := ⟨some 4, _, _, _, _, _⟩) (v := (.slice (some ⟨g, 0, none⟩) (l.length - 1) cap)) rfl (by kernel_rfl) (by kernel_rfl) (by kernel_rfl) (fun _ _ _ h => h) (Or.inl ⟨by rfl, fun W hS => by go_simp⟩) hHeld ?_
      (try simp only [Act.put, List.setIfInBounds_toArray, List.set_cons_zero, List.set_cons_succ])
      refine wpAnyH_ready (rs := [10]) (by kernel_rfl) (by simp) ?_
      refine AllReadyH.cons rfl (fun K hK => ?_) (AllReadyH.nil)
      have cc := pw_cell_below hHeld K3.out
      go_simp
      refine hK.out _ _ hHeld (fun _ => ?_)
      clear hK K cc
      (try simp only [Act.put, List.setIfInBounds_toArray, List.set_cons_zero, List.set_cons_succ])
      refine wpAnyH_take (i := 12) (oi := ⟨some 5, _, _, _, _, _⟩) (v := (.int .i64 ino)) rfl (by kernel_rfl) (by kernel_rfl) (by kernel_rfl) (fun _ _ _ h => h) (Or.inl ⟨by rfl, fun W hS => by go_simp⟩) hHeld ?_
      (try simp only [Act.put, List.setIfInBounds_toArray, List.set_cons_zero, List.set_cons_succ])
      refine wpAnyH_take (i := 13) (oi := ⟨some 6, _, _, _, _, _⟩) (v := (.int .i64 0)) rfl (by kernel_rfl) (by kernel_rfl) (by kernel_rfl) (fun _ _ _ h => h) (Or.inl ⟨by rfl, fun W hS => by go_simp⟩) hHeld ?_
      (try simp only [Act.put, List.setIfInBounds_toArray, List.set_cons_zero, List.set_cons_succ])
      refine wpAnyH_done (by kernel_rfl) ?_ _
      have HF := Aside0.mk (below_step HB3.out hHeld)
      clear hHeld
      (try simp only [Exit.then])
      go_wp2
      refine bodyPost_ret (results_tmp3 rfl _ _ _) rfl ?_
      exact ⟨_, rfl, own_less HOD.out HB3.out.size, HF.out⟩
    case' refine_2 =>
      have cc := pw_cell_below hHeld K3.out
      go_simp
      refine hK.out _ _ hHeld (fun _ => ?_)
      clear hK K cc
      (try simp only [Act.put, List.setIfInBounds_toArray, List.set_cons_zero, List.set_cons_succ])
      refine wpAnyH_ready (rs := [5]) (by kernel_rfl) (by simp) ?_
      refine AllReadyH.cons rfl (fun K hK => ?_) (AllReadyH.nil)
      go_simp
      have hdel := delete_any w3.heap.size g l.length cap J l wc HOC.out rfl HJ.out HL2.out
      rw [← HJ1.out] at hdel
      refine hdel.mono ?_
      rintro e wd ⟨rfl, ho, hg⟩
      dsimp only
      refine hK.out _ _ (hHeld.grown hg hHeld.size (fun k e => by cases e; exact own_base HOC.out _ rfl)) (fun hH => ?_)
      have HOD := Aside0.mk ho
      clear hK K hHeld ho hg hdel
      have hHeld := hH
      clear hH
      (try simp only [Act.put, List.setIfInBounds_toArray, List.set_cons_zero, List.set_cons_succ])
      refine wpAnyH_take (i := 11) (oi := ⟨some 4, _, _, _, _, _⟩) (v := (.slice (some ⟨g, 0, none⟩) (l.length - 1) cap)) rfl (by kernel_rfl) (by kernel_rfl) (by kernel_rfl) (fun _ _ _ h => h) (Or.inl ⟨by rfl, fun W hS => by go_simp⟩) hHeld ?_
      (try simp only [Act.put, List.setIfInBounds_toArray, List.set_cons_zero, List.set_cons_succ])
      refine wpAnyH_take (i := 12) (oi := ⟨some 5, _, _, _, _, _⟩) (v := (.int .i64 ino)) rfl (by kernel_rfl) (by kernel_rfl) (by kernel_rfl) (fun _ _ _ h => h) (Or.inl ⟨by rfl, fun W hS => by go_simp⟩) hHeld ?_
      (try simp only [Act.put, List.setIfInBounds_toArray, List.set_cons_zero, List.set_cons_succ])
      refine wpAnyH_take (i := 13) (oi := ⟨some 6, _, _, _, _, _⟩) (v := (.int .i64 0)) rfl (by kernel_rfl) (by kernel_rfl) (by kernel_rfl) (fun _ _ _ h => h) (Or.inl ⟨by rfl, fun W hS => by go_simp⟩) hHeld ?_
      (try simp only [Act.put, List.setIfInBounds_toArray, List.set_cons_zero, List.set_cons_succ])
      refine wpAnyH_done (by kernel_rfl) ?_ _
      have HF := Aside0.mk (below_step HB3.out hHeld)
      clear hHeld
      (try simp only [Exit.then])
      go_wp2
      refine bodyPost_ret (results_tmp3 rfl _ _ _) rfl ?_
      exact ⟨_, rfl, own_less HOD.out HB3.out.size, HF.out⟩
  case' refine_2 =>
    have cc := pw_cell_below hHeld K3.out
    go_simp
    refine hK.out _ _ hHeld (fun _ => ?_)
    clear hK K cc
    (try simp only [Act.put, List.setIfInBounds_toArray, List.set_cons_zero, List.set_cons_succ])
    refine wpAnyH_ready (rs := [1]) (by kernel_rfl) (by simp) ?_
    refine AllReadyH.cons rfl (fun K hK => ?_) (AllReadyH.nil)
    go_simp
    refine (clone_any (some ad) c l _ (HR3.out.below hHeld) HL2.out).mono ?_
    rintro e wc ⟨v, rfl, ho, hb⟩
    obtain ⟨g, cap, cur, rfl, _⟩ := own_form ho HL0.out
    have HOC := Aside0.mk (own_less ho hHeld.size)
    dsimp only
    refine hK.out _ _ (below_step hHeld hb) (fun hH => ?_)
    clear hK K hHeld ho hb
    have hHeld := hH
    clear hH
    (try simp only [Act.put, List.setIfInBounds_toArray, List.set_cons_zero, List.set_cons_succ])
    refine wpAnyH_ready (rs := [5]) (by kernel_rfl) (by simp) ?_
    refine AllReadyH.cons rfl (fun K hK => ?_) (AllReadyH.nil)
    go_simp
    have hdel := delete_any w3.heap.size g l.length cap J l wc HOC.out rfl HJ.out HL2.out
    rw [← HJ1.out] at hdel
    refine hdel.mono ?_
    rintro e wd ⟨rfl, ho, hg⟩
    dsimp only
    refine hK.out _ _ (hHeld.grown hg hHeld.size (fun k e => by cases e; exact own_base HOC.out _ rfl)) (fun hH => ?_)
    have HOD := Aside0.mk ho
    clear hK K hHeld ho hg hdel
    have hHeld := hH
    clear hH
    (try simp only [Act.put, List.setIfInBounds_toArray, List.set_cons_zero, List.set_cons_succ])
    refine wpAnyH_take (i := 11) (oi := ⟨some 4, _, _, _, _, _⟩) (v := (.slice (some ⟨g, 0, none⟩) (l.length - 1) cap)) rfl (by kernel_rfl) (by kernel_rfl) (by kernel_rfl) (fun _ _ _ h => h) (Or.inl ⟨by rfl, fun W hS => by go_simp⟩) hHeld ?_
    (try simp only [Act.put, List.setIfInBounds_toArray, List.set_cons_zero, List.set_cons_succ])
    refine wpAnyH_take (i := 12) (oi := ⟨some 5, _, _, _, _, _⟩) (v := (.int .i64 ino)) rfl (by kernel_rfl) (by kernel_rfl) (by kernel_rfl) (fun _ _ _ h => h) (Or.inl ⟨by rfl, fun W hS => by go_simp⟩) hHeld ?_
    (try simp only [Act.put, List.setIfInBounds_toArray, List.set_cons_zero, List.set_cons_succ])
    refine wpAnyH_take (i := 13) (oi := ⟨some 6, _, _, _, _, _⟩) (v := (.int .i64 0)) rfl (by kernel_rfl) (by kernel_rfl) (by kernel_rfl) (fun _ _ _ h => h) (Or.inl ⟨by rfl, fun W hS => by go_simp⟩) hHeld ?_
    (try simp only [Act.put, List.setIfInBounds_toArray, List.set_cons_zero, List.set_cons_succ])
    refine wpAnyH_done (by kernel_rfl) ?_ _
    have HF := Aside0.mk (below_step HB3.out hHeld)
    clear hHeld
    (try simp only [Exit.then])
    go_wp2
    refine bodyPost_ret (results_tmp3 rfl _ _ _) rfl ?_
    exact ⟨_, rfl, own_less HOD.out HB3.out.size, HF.out⟩
end Go.Proofs.YtcmcmkfoihlniaaDoor.EN
end

section
namespace Go.Proofs.YtcmcmkfoihlniaaDoor.EN
open Go Go.RowKit Go.Proofs.YtcmcmkfoihlniaaDoorX Go.Proofs.YtcmcmkfoihlniaaDoor.NM Go.Proofs.YtcmcmkfoihlniaaDoorW.PrintWords Go.Proofs.YtcmcmkfoihlniaaDoorW.PrintLast Go.Proofs.YtcmcmkfoihlniaaDoorW.PrintMore Go.Proofs.YtcmcmkfoihlniaaDoor.PModelUndoes
set_option linter.unusedVariables false
set_option linter.unusedSimpArgs false
def insR (l : List S90) (x : S90) : List S90 × Int := match insErr l x with | some y => ([], y) | none => (insE l (atE l x.f1) x, 0)
def remR (l : List S90) (nm : ByteArray) : List S90 × Int × Int := match remErr l nm with | some y => ([], 0, y) | none => (l.eraseIdx (atE l nm), inoAt l (atE l nm), 0)
theorem isE_lt {l : List S90} {nm : ByteArray} (h : isE l nm = true) : atE l nm < l.length := by
  unfold isE at h
  rw [Bool.and_eq_true] at h
  exact of_decide_eq_true h.1
theorem isE_name {l : List S90} {nm : ByteArray} (h : isE l nm = true) : nameAt l (atE l nm) = nm := by
  unfold isE at h
  rw [Bool.and_eq_true, beq_iff_eq] at h
  have h2 := h.2
  rw [Lib.toList_data, Lib.toList_data] at h2
  exact ByteArray.ext (Array.toList_inj.1 h2)
theorem insR_mem {l : List S90} {x y : S90} (h : y ∈ (insR l x).1) : y ∈ l ∨ y = x := by
  unfold insR at h
  split at h
  · cases h
  · simp only [insE, List.mem_append, List.mem_singleton] at h
    rcases h with (h | h) | h
    · exact .inl (List.mem_of_mem_take h)
    · exact .inr h
    · exact .inl (List.mem_of_mem_drop h)
theorem remErr_none {l : List S90} {nm : ByteArray} (h : remErr l nm = none) : mayE l = true ∧ isE l nm = true := by
  unfold remErr at h
  by_cases h1 : mayE l = true
  · rw [if_pos h1] at h
    by_cases h2 : isE l nm = true
    · exact ⟨h1, h2⟩
    · rw [if_neg h2] at h; cases h
  · rw [if_neg h1] at h; cases h
theorem remR_mem {l : List S90} {nm : ByteArray} {y : S90} (h : y ∈ (remR l nm).1) : y ∈ l := by
  unfold remR at h
  split at h
  · cases h
  · exact List.mem_of_mem_eraseIdx h
section
variable (A : Option Addr) (c : Nat) (l : List S90) (w : World) (hr : Row w A l) (hl : l.length ≤ 1048576) (hz : ∀ x ∈ l, x.f1.size ≤ 1048576) (hT : Lib.Utf8Tabs 2 3 w)
include hr hl hz hT
theorem ins_all (a : Int) (s : ByteArray) (hn : s.size ≤ 1048576) :
    Calls Tryd.prog 59 #[.slice A l.length c, .agg (cellsE a s)] w fun e w' => ∃ v, e = .returned (.tuple #[v, .int .i64 (insR l ⟨a, s⟩).2]) ∧ w'.ownsRow w.heap.size 90 2 v (insR l ⟨a, s⟩).1.length (rowsE (insR l ⟨a, s⟩).1) ∧ Below w.heap.size w w' := by
  have hz' : ∀ x ∈ l, x.f1.size ≤ 17592186044416 := fun x hx => Nat.le_trans (hz x hx) (by decide)
  cases he : insErr l ⟨a, s⟩ with
  | some y =>
    have hR : insR l ⟨a, s⟩ = ([], y) := by unfold insR; rw [he]
    rw [hR]
    refine (ins_err A c l a s w hr hz' (Nat.le_trans hn (by decide)) hT (by omega) y he).mono ?_
    rintro e w' ⟨rfl, hb⟩
    exact ⟨_, rfl, own_nil _ _ _ _, hb⟩
  | none =>
    have hR : insR l ⟨a, s⟩ = (insE l (atE l s) ⟨a, s⟩, 0) := by unfold insR; rw [he]
    rw [hR]
    refine (ins_yes A c l a s w hr hz' (Nat.le_trans hn (by decide)) hT he).mono ?_
    rintro e w' ⟨v, rfl, ho, hb⟩
    exact ⟨v, rfl, by rw [insE_length _ (atE_le l s)]; exact ho, hb⟩
theorem rem_all (nm : ByteArray) (hn : nm.size ≤ 1048576) :
    Calls Tryd.prog 57 #[.slice A l.length c, .string nm] w fun e w' => ∃ v, e = .returned (.tuple #[v, .int .i64 (remR l nm).2.1, .int .i64 (remR l nm).2.2]) ∧ w'.ownsRow w.heap.size 90 2 v (remR l nm).1.length (rowsE (remR l nm).1) ∧ Below w.heap.size w w' := by
  have hz' : ∀ x ∈ l, x.f1.size ≤ 17592186044416 := fun x hx => Nat.le_trans (hz x hx) (by decide)
  cases he : remErr l nm with
  | some y =>
    have hR : remR l nm = ([], 0, y) := by unfold remR; rw [he]
    rw [hR]
    refine (rem_err A c l nm w hr (by omega) hz' (Nat.le_trans hn (by decide)) hT y he).mono ?_
    rintro e w' ⟨rfl, hb⟩
    exact ⟨_, rfl, own_nil _ _ _ _, hb⟩
  | none =>
    have hR : remR l nm = (l.eraseIdx (atE l nm), inoAt l (atE l nm), 0) := by unfold remR; rw [he]
    rw [hR]
    refine (rem_yes A c l nm w hr hz' (Nat.le_trans hn (by decide)) hT ⟨(remErr_none he).1⟩ ⟨(remErr_none he).2⟩).mono ?_
    rintro e w' ⟨v, rfl, ho, hb⟩
    exact ⟨v, rfl, by rw [List.length_eraseIdx, if_pos (isE_lt (remErr_none he).2)]; exact ho, hb⟩
end
end Go.Proofs.YtcmcmkfoihlniaaDoor.EN
end

section
namespace Go.Proofs.YtcmcmkfoihlniaaDoor.NM
open Go Go.Lib
set_option linter.unusedVariables false
set_option linter.unusedSimpArgs false
theorem cmp_range : ∀ x y : List Int, cmpI x y = -1 ∨ cmpI x y = 0 ∨ cmpI x y = 1
  | [], [] => by simp [cmpI]
  | [], _ :: _ => by simp [cmpI]
  | _ :: _, [] => by simp [cmpI]
  | a :: x, b :: y => by
    have ih := cmp_range x y
    simp only [cmpI]
    repeat' split
    · simp
    · simp
    · exact ih
theorem cmp_neg : ∀ x y : List Int, cmpI y x = - cmpI x y
  | [], [] => by simp [cmpI]
  | [], _ :: _ => by simp [cmpI]
  | _ :: _, [] => by simp [cmpI]
  | a :: x, b :: y => by
    have ih := cmp_neg x y
    simp only [cmpI]
    by_cases h1 : a < b
    · rw [if_neg (show ¬ b < a by omega), if_pos h1, if_pos h1]; decide
    · by_cases h2 : b < a
      · rw [if_pos h2, if_neg h1, if_pos h2]
      · rw [if_neg h1, if_neg h2, if_neg h2, if_neg h1, ih]
theorem cmp_zero : ∀ {x y : List Int}, cmpI x y = 0 ↔ x = y
  | [], [] => by simp [cmpI]
  | [], _ :: _ => by simp [cmpI]
  | _ :: _, [] => by simp [cmpI]
  | a :: x, b :: y => by
    have ih := @cmp_zero x y
    simp only [cmpI, List.cons.injEq]
    by_cases c1 : a < b
    · rw [if_pos c1]; constructor
      · intro h; exact absurd h (by decide)
      · rintro ⟨rfl, _⟩; omega
    · rw [if_neg c1]
      by_cases c2 : b < a
      · rw [if_pos c2]; constructor
        · intro h; exact absurd h (by decide)
        · rintro ⟨rfl, _⟩; omega
      · rw [if_neg c2, ih]
        constructor
        · intro h; exact ⟨by omega, h⟩
        · intro h; exact h.2
theorem cmp_trans : ∀ x y z : List Int, cmpI x y ≤ 0 → cmpI y z ≤ 0 → cmpI x z ≤ 0
  | [], _, [], _, _ => by simp [cmpI]
  | [], _, _ :: _, _, _ => by simp [cmpI]
  | a :: x, [], _, h, _ => by simp [cmpI] at h
  | a :: x, b :: y, [], _, h => by simp [cmpI] at h
  | a :: x, b :: y, c :: z, h1, h2 => by
    have ih := cmp_trans x y z
    simp only [cmpI] at h1 h2 ⊢
    by_cases p1 : a < b
    · by_cases q1 : b < c
      · rw [if_pos (by omega)]; decide
      · rw [if_neg q1] at h2
        by_cases q2 : c < b
        · rw [if_pos q2] at h2; exact absurd h2 (by decide)
        · rw [if_pos (by omega)]; decide
    · rw [if_neg p1] at h1
      by_cases p2 : b < a
      · rw [if_pos p2] at h1; exact absurd h1 (by decide)
      · rw [if_neg p2] at h1
        by_cases q1 : b < c
        · rw [if_pos (by omega)]; decide
        · rw [if_neg q1] at h2
          by_cases q2 : c < b
          · rw [if_pos q2] at h2; exact absurd h2 (by decide)
          · rw [if_neg q2] at h2
            rw [if_neg (by omega), if_neg (by omega)]
            exact ih h1 h2
def nums (l : List UInt8) : List Int := l.map (fun b => (b.toNat : Int))
theorem nums_inj : ∀ {a b : List UInt8}, nums a = nums b → a = b
  | [], [], _ => rfl
  | [], _ :: _, h => by simp [nums] at h
  | _ :: _, [], h => by simp [nums] at h
  | x :: a, y :: b, h => by
    simp only [nums, List.map_cons, List.cons.injEq] at h
    obtain ⟨h1, h2⟩ := h
    obtain rfl := nums_inj h2
    obtain rfl : x = y := UInt8.toNat_inj.1 (by omega)
    rfl
theorem bytes_nums : ∀ a b : List UInt8, compareBytes a b = cmpI (nums a) (nums b)
  | [], [] => rfl
  | [], _ :: _ => rfl
  | _ :: _, [] => rfl
  | x :: a, y :: b => by
    have ih := bytes_nums a b
    simp only [compareBytes, nums, List.map_cons, cmpI, UInt8.lt_iff_toNat_lt, Int.ofNat_lt]
    rw [ih]
    rfl
theorem ahead_zero {a b : List UInt8} : NM.ahead a b = 0 ↔ a = b := by
  unfold NM.ahead
  constructor
  · intro h
    by_cases c : cmpI (runes a) (runes b) = 0
    · rw [if_neg (by simpa using c), bytes_nums] at h
      exact nums_inj (cmp_zero.1 h)
    · rw [if_pos c] at h
      exact absurd h c
  · rintro rfl
    rw [if_neg (by simp [cmp_zero.2]), bytes_nums]
    exact cmp_zero.2 rfl
theorem ahead_neg (a b : List UInt8) : NM.ahead b a = - NM.ahead a b := by
  unfold NM.ahead
  have h := cmp_neg (runes a) (runes b)
  by_cases c : cmpI (runes a) (runes b) = 0
  · rw [if_neg (by omega), if_neg (by simpa using c), bytes_nums, bytes_nums, cmp_neg]
  · rw [if_pos (by omega), if_pos c, h]
theorem ahead_trans (a b c : List UInt8) (h1 : NM.ahead a b ≤ 0) (h2 : NM.ahead b c ≤ 0) : NM.ahead a c ≤ 0 := by
  have k1 : cmpI (runes a) (runes b) ≤ 0 := by
    unfold NM.ahead at h1
    by_cases c : cmpI (runes a) (runes b) = 0
    · omega
    · rw [if_pos c] at h1; exact h1
  have k2 : cmpI (runes b) (runes c) ≤ 0 := by
    unfold NM.ahead at h2
    by_cases d : cmpI (runes b) (runes c) = 0
    · omega
    · rw [if_pos d] at h2; exact h2
  have k3 := cmp_trans _ _ _ k1 k2
  by_cases e : cmpI (runes a) (runes c) = 0
  · have e1 := cmp_zero.1 e
    have e2 : cmpI (runes b) (runes a) ≤ 0 := by rw [e1]; exact k2
    have e3 := cmp_neg (runes a) (runes b)
    have e4 : cmpI (runes a) (runes b) = 0 := by omega
    have e5 : cmpI (runes b) (runes c) = 0 := by rw [← e1]; omega
    unfold NM.ahead at h1 h2 ⊢
    rw [if_neg (by simpa using e4), bytes_nums] at h1
    rw [if_neg (by simpa using e5), bytes_nums] at h2
    rw [if_neg (by simpa using e), bytes_nums]
    exact cmp_trans _ _ _ h1 h2
  · unfold NM.ahead
    rw [if_pos e]
    exact k3
end Go.Proofs.YtcmcmkfoihlniaaDoor.NM
end

section
namespace Go.Proofs.YtcmcmkfoihlniaaDoor.EN
open Go Go.RowKit Go.Proofs.YtcmcmkfoihlniaaDoorX Go.Proofs.YtcmcmkfoihlniaaDoor.NM Go.Proofs.YtcmcmkfoihlniaaDoorW.PrintWords Go.Proofs.YtcmcmkfoihlniaaDoor.PModelUndoes
set_option linter.unusedVariables false
set_option linter.unusedSimpArgs false
def Lt (x y : S90) : Prop := NM.ahead x.f1.data.toList y.f1.data.toList < 0
def Good (x : S90) : Prop := okIno x.f0 = true ∧ valid x.f1.data.toList = true
theorem Lt.trans {x y z : S90} (h1 : Lt x y) (h2 : Lt y z) : Lt x z := by
  unfold Lt at *
  have h3 := NM.ahead_trans _ _ _ (Int.le_of_lt h1) (Int.le_of_lt h2)
  rcases Int.lt_or_eq_of_le h3 with h | h
  · exact h
  · rw [NM.ahead_zero] at h
    rw [← h] at h2
    have := NM.ahead_neg x.f1.data.toList y.f1.data.toList
    omega
def MayQ (l : List S90) : Prop := l.length ≤ 64 ∧ (∀ x ∈ l, Good x) ∧ l.Pairwise Lt
theorem okAt_get {l : List S90} {i : Nat} (hi : i < l.length) : okAt l i = (okIno l[i].f0 && valid l[i].f1.data.toList && (decide (i = 0) || decide (NM.ahead (nameAt l (i - 1)).data.toList l[i].f1.data.toList < 0))) := okAt_eq (at_get hi).1 (at_get hi).2
theorem mayQ (l : List S90) : mayE l = true ↔ MayQ l := by
  rw [mayE_iff]
  unfold MayP MayQ
  refine and_congr_right fun h64 => ⟨fun h => ⟨fun x hx => ?_, ?_⟩, fun ⟨hg, hp⟩ i hi => ?_⟩
  · obtain ⟨i, hi, rfl⟩ := List.mem_iff_getElem.1 hx
    have := h i hi
    rw [okAt_get hi, Bool.and_eq_true, Bool.and_eq_true] at this
    exact this.1
  · rw [List.pairwise_iff_getElem]
    have step : ∀ i, (hi : i + 1 < l.length) → Lt l[i] l[i + 1] := fun i hi => by
      have := h (i + 1) hi
      rw [okAt_get hi, Bool.and_eq_true, Bool.or_eq_true] at this
      rcases this.2 with h1 | h1
      · exact absurd (of_decide_eq_true h1) (by omega)
      · have h2 := of_decide_eq_true h1
        rw [Nat.add_sub_cancel, (at_get (show i < l.length by omega)).2] at h2
        exact h2
    have key : ∀ (k i : Nat) (hi : i + 1 + k < l.length), Lt (l[i]'(by omega)) l[i + 1 + k] := by
      intro k
      induction k with
      | zero => intro i hi; exact step i hi
      | succ k ih => intro i hi; exact (ih i (by omega)).trans (step (i + 1 + k) hi)
    intro i j hi hj hij
    have := key (j - i - 1) i (by omega)
    simpa [show i + 1 + (j - i - 1) = j by omega] using this
  · rw [okAt_get hi]
    obtain ⟨g1, g2⟩ := hg _ (List.getElem_mem hi)
    rw [g1, g2]
    rcases Nat.eq_zero_or_pos i with h0 | h0
    · simp [h0]
    · have h1 := List.pairwise_iff_getElem.1 hp (i - 1) i (by omega) hi (by omega)
      unfold Lt at h1
      rw [(at_get (show i - 1 < l.length by omega)).2, decide_eq_true h1]
      simp
theorem atE_split {P Q : List S90} {nm : ByteArray} (hP : ∀ y ∈ P, NM.ahead y.f1.data.toList nm.data.toList < 0) (hQ : ∀ y ∈ Q, 0 ≤ NM.ahead y.f1.data.toList nm.data.toList) : atE (P ++ Q) nm = P.length := by
  refine atE_is (by simp) (fun i hi => ?_) (fun h => ?_)
  · have hi' : i < (P ++ Q).length := by rw [List.length_append]; omega
    unfold geAt
    rw [(at_get hi').2, List.getElem_append_left hi, decide_eq_false]
    have := hP _ (List.getElem_mem hi)
    omega
  · unfold geAt
    rw [(at_get h).2, List.getElem_append_right (Nat.le_refl _), decide_eq_true]
    exact hQ _ (List.getElem_mem _)
theorem isE_split_yes {P Q : List S90} {x : S90} (hP : ∀ y ∈ P, NM.ahead y.f1.data.toList x.f1.data.toList < 0) (hQ : ∀ y ∈ Q, Lt x y) : atE (P ++ x :: Q) x.f1 = P.length ∧ isE (P ++ x :: Q) x.f1 = true := by
  have h0 : NM.ahead x.f1.data.toList x.f1.data.toList = 0 := NM.ahead_zero.2 rfl
  have ha : atE (P ++ x :: Q) x.f1 = P.length := atE_split hP (fun y hy => by
    rcases List.mem_cons.1 hy with rfl | h
    · omega
    · have h1 := hQ y h
      unfold Lt at h1
      have := NM.ahead_neg x.f1.data.toList y.f1.data.toList
      omega)
  refine ⟨ha, ?_⟩
  unfold isE
  have hl : P.length < (P ++ x :: Q).length := by simp
  rw [ha, decide_eq_true hl, Bool.true_and, (at_get hl).2]
  simp
theorem may_split {l : List S90} (h : MayQ l) (nm : ByteArray) (hi : isE l nm = false) : (∀ y ∈ l.take (atE l nm), NM.ahead y.f1.data.toList nm.data.toList < 0) ∧ (∀ y ∈ l.drop (atE l nm), 0 < NM.ahead y.f1.data.toList nm.data.toList) := by
  refine ⟨fun y hy => ?_, fun y hy => ?_⟩
  · obtain ⟨i, hi, rfl⟩ := List.mem_take_iff_getElem.1 hy
    have h1 := atE_lt (l := l) (nm := nm) (i := i) (by omega)
    unfold geAt at h1
    rw [(at_get (show i < l.length by omega)).2] at h1
    have := of_decide_eq_false h1
    omega
  · obtain ⟨i, hil, e⟩ := List.mem_drop_iff_getElem.1 hy
    have e' : y = l[i + atE l nm]'(by omega) := by rw [← e]; simp only [Nat.add_comm]
    rw [e']
    clear e e'
    have hlt : atE l nm < l.length := by omega
    have h1 := atE_at hlt
    unfold geAt at h1
    rw [(at_get hlt).2] at h1
    have h2 := of_decide_eq_true h1
    have h3 : 0 < NM.ahead l[atE l nm].f1.data.toList nm.data.toList := by
      rcases Int.lt_or_eq_of_le h2 with h | h
      · exact h
      · have h4 := NM.ahead_zero.1 h.symm
        unfold isE at hi
        rw [decide_eq_true hlt, Bool.true_and, (at_get hlt).2, Lib.toList_data, Lib.toList_data, h4] at hi
        simp at hi
    rcases Nat.eq_zero_or_pos i with h0 | h0
    · subst h0; simpa using h3
    · have h5 := List.pairwise_iff_getElem.1 h.2.2 (atE l nm) (i + atE l nm) hlt hil (by omega)
      have h6 : Lt ⟨0, nm⟩ l[atE l nm] := by
        show NM.ahead nm.data.toList l[atE l nm].f1.data.toList < 0
        have := NM.ahead_neg nm.data.toList l[atE l nm].f1.data.toList
        omega
      have h7 : NM.ahead nm.data.toList l[i + atE l nm].f1.data.toList < 0 := h6.trans h5
      have := NM.ahead_neg nm.data.toList l[i + atE l nm].f1.data.toList
      omega
theorem ins_may_yes {l : List S90} {x : S90} (h : mayE l = true) (he : insErr l x = none) : mayE (insE l (atE l x.f1) x) = true ∧ atE (insE l (atE l x.f1) x) x.f1 = atE l x.f1 ∧ isE (insE l (atE l x.f1) x) x.f1 = true ∧ (insE l (atE l x.f1) x).eraseIdx (atE l x.f1) = l := by
  obtain ⟨hm, hv, ho, hx, hl⟩ := insErr_none he
  have hq := (mayQ l).1 h
  obtain ⟨s1, s2⟩ := may_split hq x.f1 hx
  have hat := atE_le l x.f1
  have hPl : (l.take (atE l x.f1)).length = atE l x.f1 := by rw [List.length_take]; omega
  have e1 : insE l (atE l x.f1) x = l.take (atE l x.f1) ++ x :: l.drop (atE l x.f1) := by simp [insE]
  have hQ : ∀ y ∈ l.drop (atE l x.f1), Lt x y := fun y hy => by
    have h1 := s2 y hy
    unfold Lt
    have := NM.ahead_neg x.f1.data.toList y.f1.data.toList
    omega
  have hp := hq.2.2
  rw [← List.take_append_drop (atE l x.f1) l, List.pairwise_append] at hp
  refine ⟨(mayQ _).2 ⟨by rw [insE_length _ hat]; omega, fun y hy => ?_, ?_⟩, ?_, ?_, ?_⟩
  · rw [e1] at hy
    rcases List.mem_append.1 hy with h | h
    · exact hq.2.1 y (List.mem_of_mem_take h)
    · rcases List.mem_cons.1 h with rfl | h
      · exact ⟨ho, hv⟩
      · exact hq.2.1 y (List.mem_of_mem_drop h)
  · rw [e1, List.pairwise_append]
    refine ⟨hp.1, List.pairwise_cons.2 ⟨hQ, hp.2.1⟩, fun a ha b hb => ?_⟩
    rcases List.mem_cons.1 hb with rfl | hb
    · exact s1 a ha
    · exact hp.2.2 a ha b hb
  · rw [e1, (isE_split_yes s1 hQ).1, hPl]
  · rw [e1]; exact (isE_split_yes s1 hQ).2
  · rw [e1, List.eraseIdx_append_of_length_le (by omega), hPl, Nat.sub_self, List.eraseIdx_cons_zero, List.take_append_drop]
theorem may_at {l : List S90} (h : mayE l = true) {k : Nat} (hk : k < l.length) : l = l.take k ++ l[k] :: l.drop (k + 1) ∧ (∀ y ∈ l.take k, Lt y l[k]) ∧ (∀ y ∈ l.drop (k + 1), Lt l[k] y) ∧ (l.take k).length = k := by
  have hq := (mayQ l).1 h
  have e : l = l.take k ++ l[k] :: l.drop (k + 1) := by rw [← List.drop_eq_getElem_cons hk, List.take_append_drop]
  have hp := hq.2.2
  rw [e, List.pairwise_append, List.pairwise_cons] at hp
  exact ⟨e, fun y hy => hp.2.2 y hy _ (List.mem_cons_self ..), hp.2.1.1, by rw [List.length_take]; omega⟩
theorem find_own {l : List S90} (h : mayE l = true) {k : Nat} (hk : k < l.length) : atE l (nameAt l k) = k ∧ isE l (nameAt l k) = true := by
  obtain ⟨e, h1, h2, h3⟩ := may_at h hk
  rw [(at_get hk).2]
  have := isE_split_yes (P := l.take k) (Q := l.drop (k + 1)) (x := l[k]) h1 h2
  rw [← e, h3] at this
  exact this
theorem good_at {l : List S90} (h : mayE l = true) {k : Nat} (hk : k < l.length) : Good l[k] := ((mayQ l).1 h).2.1 _ (List.getElem_mem hk)
end Go.Proofs.YtcmcmkfoihlniaaDoor.EN
end

section
namespace Go.Proofs.YtcmcmkfoihlniaaDoor.EN
open Go Go.RowKit Go.Proofs.YtcmcmkfoihlniaaDoorX Go.Proofs.YtcmcmkfoihlniaaDoor.NM Go.Proofs.YtcmcmkfoihlniaaDoorW.PrintWords Go.Proofs.YtcmcmkfoihlniaaDoor.PModelUndoes
set_option linter.unusedVariables false
set_option linter.unusedSimpArgs false
theorem insR_yes {l : List S90} {x : S90} (he : insErr l x = none) : insR l x = (insE l (atE l x.f1) x, 0) := by unfold insR; rw [he]
end Go.Proofs.YtcmcmkfoihlniaaDoor.EN
end

section
namespace Go.Proofs.YtcmcmkfoihlniaaDoor.MM
open Go Go.RowKit Go.Maps Go.Proofs.YtcmcmkfoihlniaaDoorX Go.Proofs.YtcmcmkfoihlniaaDoor.NM Go.Proofs.YtcmcmkfoihlniaaDoor.EN Go.Proofs.YtcmcmkfoihlniaaDoorW.PrintWords Go.Proofs.YtcmcmkfoihlniaaDoorW.PrintLast Go.Proofs.YtcmcmkfoihlniaaDoorW.PrintMore Go.Proofs.YtcmcmkfoihlniaaDoor.PModelUndoes
set_option linter.unusedVariables false
set_option linter.unusedSimpArgs false
inductive Nd where
  | file (b : List Int) (k : Int)
  | dir (l : List S90)
abbrev Tree := Int → Option Nd
def upd (T : Tree) (k : Int) (o : Option Nd) : Tree := fun j => if j = k then o else T j
theorem upd_same (T : Tree) (k : Int) (o : Option Nd) : upd T k o k = o := by simp [upd]
theorem upd_other (T : Tree) {k j : Int} (o : Option Nd) (h : j ≠ k) : upd T k o j = T j := by simp [upd, h]
structure Turn (S : Nat → Prop) (w w' : World) : Prop where
  os : w'.os = w.os
  tape : w'.tape = w.tape
  output : w'.output = w.output
  size : w.heap.size ≤ w'.heap.size
  block : ∀ k, k < w.heap.size → ¬ S k → w'.heap[k]? = w.heap[k]?
theorem Turn.of_below {S : Nat → Prop} {w w' : World} (h : Below w.heap.size w w') : Turn S w w' := ⟨h.os, h.tape, h.output, h.size, fun k hk _ => h.block k hk⟩
theorem Turn.of_grown {S : Nat → Prop} {w w' : World} {r : Option Nat} (h : w.grownBy w' r) (hS : ∀ k, r = some k → S k) : Turn S w w' := ⟨h.os, h.tape, h.output, h.size, fun k hk hn => h.block k hk (fun e => hn (hS k e.symm))⟩
theorem Turn.trans {S S' : Nat → Prop} {a b c : World} (h : Turn S a b) (h' : Turn S' b c) (hS : ∀ k, k < a.heap.size → S' k → S k) : Turn S a c :=
  ⟨h'.os.trans h.os, h'.tape.trans h.tape, h'.output.trans h.output, Nat.le_trans h.size h'.size, fun k hk hn => (h'.block k (Nat.lt_of_lt_of_le hk h.size) (fun s => hn (hS k hk s))).trans (h.block k hk hn)⟩
theorem Turn.mono {S S' : Nat → Prop} {a b : World} (h : Turn S a b) (hS : ∀ k, k < a.heap.size → S k → S' k) : Turn S' a b := ⟨h.os, h.tape, h.output, h.size, fun k hk hn => h.block k hk (fun s => hn (hS k hk s))⟩
theorem Turn.below {S : Nat → Prop} {w w' : World} {B : Nat} (h : Turn S w w') (hB : B ≤ w.heap.size) (hS : ∀ k, S k → B ≤ k) : Below B w w' := ⟨h.os, h.tape, h.output, h.size, fun k hk => h.block k (Nat.lt_of_lt_of_le hk hB) (fun s => absurd (hS k s) (by omega))⟩
theorem Turn.cell {S : Nat → Prop} {w w' : World} (h : Turn S w w') {ad : Addr} {u : Value} (hc : w.cell? ad = some u) (hn : ¬ S ad.block) : w'.cell? ad = some u :=
  (World.cell?_of_block (h.block ad.block (World.block_lt_of_cell? w ad hc) hn)).trans hc
def Inner (w : World) (k : Nat) : Prop := (∃ es c, w.heap[k]? = some (.map es c)) ∨ ∃ q m, w.heap[k]? = some (.cells #[.int .i64 q, .map m] 60 (0, 0))
theorem inner_cell {w : World} {ad : Addr} {u : Value} (hc : w.cell? ad = some u) (hi : Inner w ad.block) : (∃ q, u = .int .i64 q) ∨ ∃ m, u = .map m := by
  rcases hi with ⟨es, c, h⟩ | ⟨q, m, h⟩
  · simp [World.cell?, h] at hc
  · simp only [World.cell?, h] at hc
    split at hc
    · cases hc
    · match hz : ad.off, hc with
      | 0, hc => simp at hc; exact .inl ⟨q, hc.symm⟩
      | 1, hc => simp at hc; exact .inr ⟨m, hc.symm⟩
      | n + 2, hc => simp at hc
theorem reads_turn {S : Nat → Prop} {w w' : World} {A : Option Addr} {n : Nat} {xs : List Int} (h : ReadsInt w .u8 A n xs) (ht : Turn S w w') (hS : ∀ k, S k → Inner w k) : ReadsInt w' .u8 A n xs := by
  refine ⟨h.1, h.2.1, fun hn => ?_⟩
  obtain ⟨ad, e, hc⟩ := h.2.2 hn
  refine ⟨ad, e, fun j hj => ht.cell (hc j hj) (fun s => ?_)⟩
  rcases inner_cell (hc j hj) (hS _ s) with ⟨q, e⟩ | ⟨m, e⟩ <;> cases e
theorem row_turn {S : Nat → Prop} {w w' : World} {A : Option Addr} {l : List S90} (h : Row w A l) (ht : Turn S w w') (hS : ∀ k, S k → Inner w k) : Row w' A l := by
  refine ⟨?_, h.z⟩
  rcases Nat.eq_zero_or_pos l.length with h0 | h0
  · refine ⟨h.c.1, h.c.2.1, fun hp => absurd hp (by omega)⟩
  · obtain ⟨ad0, e0, c0, c1⟩ := h.at_ (j := 0) h0
    have hns : ¬ S ad0.block := fun s => by
      rcases inner_cell c1 (hS _ s) with ⟨q, e⟩ | ⟨m, e⟩ <;> cases e
    refine ⟨h.c.1, h.c.2.1, fun hp => ?_⟩
    obtain ⟨ad, e, hc⟩ := h.c.2.2 hp
    rw [e0] at e
    cases e
    refine ⟨ad0, e0, fun j p hj => ?_⟩
    obtain ⟨c, h1, h2, h3⟩ := hc j p hj
    exact ⟨c, h1, h2, fun i u hu => ht.cell (h3 i u hu) (by rw [show (ad0.add (j * k90.sz + i)).block = ad0.block from by unfold Addr.add; split <;> rfl]; exact hns)⟩
theorem tabs_turn {S : Nat → Prop} {w w' : World} {g h : Nat} (hT : Lib.Utf8Tabs g h w) (ht : Turn S w w') (hS : ∀ k, S k → Inner w k) : Lib.Utf8Tabs g h w' := by
  refine ⟨fun c hc => ht.cell (hT.1 c hc) (fun s => ?_), fun i hi => ⟨ht.cell (hT.2 i hi).1 (fun s => ?_), ht.cell (hT.2 i hi).2 (fun s => ?_)⟩⟩
  · rcases inner_cell (hT.1 c hc) (hS _ s) with ⟨q, e⟩ | ⟨m, e⟩ <;> cases e
  · rcases inner_cell (hT.2 i hi).1 (hS _ s) with ⟨q, e⟩ | ⟨m, e⟩ <;> cases e
  · rcases inner_cell (hT.2 i hi).2 (hS _ s) with ⟨q, e⟩ | ⟨m, e⟩ <;> cases e
def Holds (w : World) (v : Value) : Option Nd → Prop
  | none => v = .nilIface
  | some (.file b k) => ∃ A c, v = .iface 62 (.agg #[.slice A b.length c, .int .i64 k]) ∧ ReadsInt w .u8 A b.length b ∧ b.length ≤ c
  | some (.dir l) => ∃ A c, v = .iface 81 (.slice A l.length c) ∧ Row w A l ∧ l.length ≤ c
theorem Holds.turn {S : Nat → Prop} {w w' : World} {v : Value} {o : Option Nd} (h : Holds w v o) (ht : Turn S w w') (hS : ∀ k, S k → Inner w k) : Holds w' v o := by
  cases o with
  | none => exact h
  | some x =>
    cases x with
    | file b k => obtain ⟨A, c, e, hr, hc⟩ := h; exact ⟨A, c, e, reads_turn hr ht hS, hc⟩
    | dir l => obtain ⟨A, c, e, hr, hc⟩ := h; exact ⟨A, c, e, row_turn hr ht hS, hc⟩
theorem Holds.below {w w' : World} {v : Value} {o : Option Nd} (h : Holds w v o) (hb : Below w.heap.size w w') : Holds w' v o :=
  h.turn (S := fun _ => False) (Turn.of_below hb) (fun _ s => s.elim)
abbrev key (k : Int) : Lit := .int .i64 k
def RV (v : Value) : Option (DataW Value × List MemPlace) := some (.held v, [])
def inR (k : Int) : Prop := -9223372036854775808 ≤ k ∧ k ≤ 9223372036854775807
theorem wf_key {k : Int} (h : inR k) : (Lit.int .i64 k).wf = true := WalkArith.wf_i64 h
theorem law3 : Keyed Tryd.prog 3 := int_keyed Tryd.underlying3
theorem hkey {k : Int} (h : inR k) : keyOf Tryd.prog 3 (.int .i64 k) = some (key k) := keyOf_int_mk Tryd.underlying3 (wf_key h)
theorem zeroI (w : World) : (zeroValue 57).run Tryd.prog w = .ok .nilIface w := by kernel_rfl
def MapT (w : World) (mb : Nat) (T : Tree) : Prop :=
  (∀ k, T k ≠ none → 1 ≤ k ∧ k ≤ 64) ∧ ∃ (D : DataW Value) (V : Int → Value), w.ownsMap Tryd.prog 3 RV mb 64 D ∧ ∀ k, inR k → D.atKey (key k) (.held .nilIface) = .held (V k) ∧ Holds w (V k) (T k) ∧ (Maps.has D (key k) = true ↔ T k ≠ none)
theorem MapT.obj {w : World} {mb : Nat} {T : Tree} (h : MapT w mb T) : ∃ es c, w.heap[mb]? = some (.map es c) := by
  obtain ⟨_, D, V, ⟨es, c, hb, _⟩, _⟩ := h
  exact ⟨es, c, hb⟩
theorem MapT.lt {w : World} {mb : Nat} {T : Tree} (h : MapT w mb T) : mb < w.heap.size := by
  obtain ⟨es, c, hb⟩ := h.obj
  exact (Array.getElem?_eq_some_iff.1 hb).1
theorem MapT.inner {w : World} {mb : Nat} {T : Tree} (h : MapT w mb T) : Inner w mb := .inl h.obj
theorem MapT.turn {S : Nat → Prop} {w w' : World} {mb : Nat} {T : Tree} (h : MapT w mb T) (ht : Turn S w w') (hS : ∀ k, S k → Inner w k) (hn : ¬ S mb) : MapT w' mb T := by
  have hlt := h.lt
  obtain ⟨hd, D, V, ⟨es, c, hb, F, hs, hD⟩, hv⟩ := h
  refine ⟨hd, D, V, ⟨es, c, (ht.block mb hlt hn).trans hb, F, hs, hD⟩, fun k hk => ?_⟩
  obtain ⟨h1, h2, h3⟩ := hv k hk
  exact ⟨h1, h2.turn ht hS, h3⟩
theorem MapT.below {w w' : World} {mb : Nat} {T : Tree} (h : MapT w mb T) (hb : Below w.heap.size w w') : MapT w' mb T :=
  h.turn (S := fun _ => False) (Turn.of_below hb) (fun _ s => s.elim) (fun s => s)
theorem MapT.look {w : World} {mb : Nat} {T : Tree} (h : MapT w mb T) {k : Int} (hk : inR k) : ∃ v, (Instr.lookup 58 (.map (some mb)) (.int .i64 k) false).run Tryd.prog w = .ok v w ∧ Holds w v (T k) := by
  obtain ⟨_, D, V, ho, hv⟩ := h
  obtain ⟨h1, h2, _⟩ := hv k hk
  obtain ⟨v, ps, hrun, hR⟩ := ho.lookup law3 Tryd.underlying58 (zeroI w) (zd := .held .nilIface) (zp := []) rfl (hkey hk)
  rw [h1] at hR
  simp only [RV, Option.some.injEq, Prod.mk.injEq, DataW.held.injEq] at hR
  exact ⟨v, hrun, hR.1 ▸ h2⟩
theorem MapT.looks {w : World} {mb : Nat} {T : Tree} (h : MapT w mb T) {k : Int} (hk : inR k) : ∃ v, Holds w v (T k) ∧ ∀ W : World, W.heap[mb]? = w.heap[mb]? → (Instr.lookup 58 (.map (some mb)) (.int .i64 k) false).run Tryd.prog W = .ok v W := by
  obtain ⟨_, D, V, ⟨es, c, hb, F, hs, hD⟩, hv⟩ := h
  obtain ⟨h1, h2, _⟩ := hv k hk
  refine ⟨V k, h2, fun W hW => ?_⟩
  have ho : W.ownsMap Tryd.prog 3 RV mb 64 D := ⟨es, c, hW.trans hb, F, hs, hD⟩
  obtain ⟨v, ps, hrun, hR⟩ := ho.lookup law3 Tryd.underlying58 (zeroI W) (zd := .held .nilIface) (zp := []) rfl (hkey hk)
  rw [h1] at hR
  simp only [RV, Option.some.injEq, Prod.mk.injEq, DataW.held.injEq] at hR
  rw [hrun, hR.1]
theorem ints_few : ∀ (n : Nat) (l : List Int), l.Pairwise (· ≠ ·) → (∀ k ∈ l, 1 ≤ k ∧ k ≤ (n : Int)) → l.length ≤ n
  | 0, l, _, h => by
    cases l with
    | nil => simp
    | cons a l => have := h a (by simp); omega
  | n + 1, l, hp, h => by
    have h1 := ints_few n (l.filter (fun k => decide (k ≠ ((n + 1 : Nat) : Int)))) (hp.filter _) (fun k hk => by
      have h2 := List.mem_filter.1 hk
      have h3 := h k h2.1
      have h4 : k ≠ ((n + 1 : Nat) : Int) := by simpa using h2.2
      omega)
    have h2 : ∀ (l : List Int), l.Pairwise (· ≠ ·) → l.length ≤ (l.filter (fun k => decide (k ≠ ((n + 1 : Nat) : Int)))).length + 1 := by
      intro l
      induction l with
      | nil => intro _; simp
      | cons a l ih =>
        intro hp
        obtain ⟨ha, hl⟩ := List.pairwise_cons.1 hp
        by_cases e : a = ((n + 1 : Nat) : Int)
        · have h5 : l.filter (fun k => decide (k ≠ ((n + 1 : Nat) : Int))) = l := List.filter_eq_self.2 (fun x hx => by simpa [← e] using (ha x hx).symm)
          rw [List.filter_cons_of_neg (by simpa using e), h5]; simp
        · rw [List.filter_cons_of_pos (by simpa using e)]
          have := ih hl
          simp only [List.length_cons]; omega
    have := h2 l hp
    omega
theorem key_int' {P : Program} {t : TypeId} {q : IntKind} (hk : P.underlying t = some (.int q)) {v : Value} {l : Lit} (h : keyOf P t v = some l) : ∃ k, l = .int q k ∧ (Lit.int q k).wf = true := by
  have e : keyOf P t v = mapKey P t v := by simp [keyOf, hk]
  rw [e] at h
  cases v <;> simp [mapKey, hk] at h
  obtain ⟨⟨rfl, hw⟩, rfl⟩ := h
  exact ⟨_, rfl, hw⟩
theorem key_int {v : Value} {l : Lit} (h : keyOf Tryd.prog 3 v = some l) : ∃ k, l = key k ∧ inR k := by
  obtain ⟨k, rfl, hw⟩ := key_int' Tryd.underlying3 h
  refine ⟨k, rfl, ?_⟩
  unfold Lit.wf at hw
  rw [Bool.and_eq_true, decide_eq_true_eq, decide_eq_true_eq, show IntKind.min .i64 = -9223372036854775808 from by kernel_rfl, show IntKind.max .i64 = 9223372036854775807 from by kernel_rfl] at hw
  exact hw
theorem size_few {w : World} {mb n : Nat} {D : DataW Value} (h : w.ownsMap Tryd.prog 3 RV mb n D) (hk : ∀ k, inR k → Maps.has D (key k) = true → 1 ≤ k ∧ k ≤ 64) : w.ownsMap Tryd.prog 3 RV mb 64 D := by
  obtain ⟨E, hE, hP⟩ := h.tidy law3
  obtain ⟨es, c, hb, F, hs, hD⟩ := h
  refine ⟨es, c, hb, F, ?_, hD⟩
  have hlen : E.length = es.size := by
    have := hE.symm.trans hD
    injection this with this
    rw [this, length_sorted]; simp
  have hkeys : ∀ x ∈ E, ∃ k, x.1 = key k ∧ inR k := by
    intro x hx
    have e2 := hE.symm.trans hD
    injection e2 with e2
    rw [e2] at hx
    obtain ⟨v, hv⟩ := Go.Maps.fit_keys F x ((WideShapes.sorted_perm _).mem_iff.1 hx)
    exact key_int hv
  have hb2 : ∀ x ∈ E, ∃ k : Int, x.1 = key k ∧ 1 ≤ k ∧ k ≤ 64 := by
    intro x hx
    obtain ⟨k, e, hr⟩ := hkeys x hx
    refine ⟨k, e, hk k hr ?_⟩
    rw [hE, Maps.has_eq, List.any_eq_true]
    exact ⟨x, hx, by rw [e]; exact WideAt.sameKey_self trivial⟩
  rw [← hlen]
  have := ints_few 64 (E.map fun x => match x.1 with | .int _ k => k | _ => 0) (by
    rw [List.pairwise_map]
    refine hP.imp_of_mem (fun {a b} ha hb hne => ?_)
    obtain ⟨k, ea, _⟩ := hb2 a ha
    obtain ⟨j, eb, _⟩ := hb2 b hb
    rw [ea, eb] at hne ⊢
    exact fun e => hne (by rw [show k = j from e])) (fun k hk' => by
    obtain ⟨x, hx, rfl⟩ := List.mem_map.1 hk'
    obtain ⟨k, e, h1, h2⟩ := hb2 x hx
    rw [e]; exact ⟨h1, h2⟩)
  simpa using this
theorem has_put {D : DataW Value} (hD : IsMap D) (k j : Int) (d : DataW Value) : Maps.has (D.put (key k) d) (key j) = true ↔ (j = k ∨ Maps.has D (key j) = true) := by
  by_cases e : j = k
  · subst e; rw [has_put_same (k := key j) hD (show WideAt.IsKeyLit (key j) from trivial)]; simp
  · rw [has_put_other (fun h => e (by injection h))]; simp [e]
theorem inR_of {k : Int} (h : 1 ≤ k ∧ k ≤ 64) : inR k := ⟨by omega, by omega⟩
theorem MapT.store {w : World} {mb : Nat} {T : Tree} (h : MapT w mb T) {k : Int} (hk : 1 ≤ k ∧ k ≤ 64) {v : Value} {x : Nd} (hv : Holds w v (some x)) :
    ∃ w', (Instr.mapUpdate 58 (.map (some mb)) (.int .i64 k) v).run Tryd.prog w = .ok () w' ∧ MapT w' mb (upd T k (some x)) ∧ w.grownBy w' (some mb) := by
  have hin := h.inner
  obtain ⟨hd, D, V, ho, hV⟩ := h
  obtain ⟨w', hrun, ho', hg⟩ := ho.update law3 Tryd.underlying58 (show 64 < maxLen by unfold maxLen; omega) (hkey (inR_of hk)) (val := v) (d := .held v) (ps := []) rfl
  have ht : Turn (fun b => b = mb) w w' := Turn.of_grown hg (fun b e => (Option.some.inj e).symm)
  have hS : ∀ b, b = mb → Inner w b := fun b e => e ▸ hin
  have hdom : ∀ j, upd T k (some x) j ≠ none → 1 ≤ j ∧ j ≤ 64 := by
    intro j hj
    by_cases e : j = k
    · subst e; exact hk
    · rw [upd_other _ _ e] at hj; exact hd j hj
  refine ⟨w', hrun, ⟨hdom, D.put (key k) (.held v), fun j => if j = k then v else V j, size_few ho' ?_, ?_⟩, hg⟩
  · intro j hj hh
    rcases (has_put ho.isMap k j _).1 hh with rfl | hh
    · exact hk
    · exact hd j ((hV j hj).2.2.1 hh)
  · intro j hj
    obtain ⟨h1, h2, h3⟩ := hV j hj
    by_cases e : j = k
    · subst e
      refine ⟨?_, ?_, ?_⟩
      · rw [atKey_put_same (k := key j) ho.isMap (show WideAt.IsKeyLit (key j) from trivial)]; simp
      · simp only [if_true, upd_same]; exact hv.turn ht hS
      · rw [has_put ho.isMap, upd_same]; simp
    · refine ⟨?_, ?_, ?_⟩
      · rw [atKey_put_other (fun h => e (by injection h))]; simp only [if_neg e]; exact h1
      · simp only [if_neg e, upd_other _ _ e]; exact h2.turn ht hS
      · rw [has_put ho.isMap, upd_other _ _ e, h3]; simp [e]
theorem MapT.drop {w : World} {mb : Nat} {T : Tree} (h : MapT w mb T) {k : Int} (hk : inR k) (ty : TypeId) :
    ∃ w', (Builtin.delete_ #[58, 3] ty #[.map (some mb), .int .i64 k]).run Tryd.prog w = .ok (.tuple #[]) w' ∧ MapT w' mb (upd T k none) ∧ w.grownBy w' (some mb) := by
  have hin := h.inner
  obtain ⟨hd, D, V, ho, hV⟩ := h
  obtain ⟨w', hrun, ho', hm⟩ := ho.drop law3 Tryd.underlying58 (hkey hk) ty
  have hg := hm.grown
  have ht : Turn (fun b => b = mb) w w' := Turn.of_grown hg (fun b e => (Option.some.inj e).symm)
  have hS : ∀ b, b = mb → Inner w b := fun b e => e ▸ hin
  refine ⟨w', hrun, ⟨?_, D.del (key k), fun j => if j = k then .nilIface else V j, ho', ?_⟩, hg⟩
  · intro j hj
    by_cases e : j = k
    · subst e; rw [upd_same] at hj; exact absurd rfl hj
    · rw [upd_other _ _ e] at hj; exact hd j hj
  · intro j hj
    obtain ⟨h1, h2, h3⟩ := hV j hj
    by_cases e : j = k
    · subst e
      refine ⟨?_, ?_, ?_⟩
      · rw [atKey_del_same]; simp
      · simp only [if_true, upd_same]; rfl
      · rw [has_del_same, upd_same]; simp
    · refine ⟨?_, ?_, ?_⟩
      · rw [atKey_del_other (fun h => e (by injection h))]; simp only [if_neg e]; exact h1
      · simp only [if_neg e, upd_other _ _ e]; exact h2.turn ht hS
      · rw [has_del_other (fun h => e (by injection h)), upd_other _ _ e, h3]
def Mdl (w : World) (pb mb : Nat) (q : Int) (T : Tree) : Prop := w.heap[pb]? = some (.cells #[.int .i64 q, .map (some mb)] 60 (0, 0)) ∧ MapT w mb T
section
variable {w : World} {pb mb : Nat} {q : Int} {T : Tree} (h : Mdl w pb mb q T)
include h
theorem Mdl.lt : pb < w.heap.size := (Array.getElem?_eq_some_iff.1 h.1).1
theorem Mdl.inner : Inner w pb := .inr ⟨q, some mb, h.1⟩
theorem Mdl.ne : pb ≠ mb := by
  rintro rfl
  obtain ⟨es, c, e⟩ := h.2.obj
  rw [h.1] at e; cases e
theorem Mdl.quota : w.cell? ⟨pb, 0, none⟩ = some (.int .i64 q) := by simp [World.cell?, h.1]
theorem Mdl.at_ : w.cell? ⟨pb, 1, none⟩ = some (.map (some mb)) := by simp [World.cell?, h.1]
theorem Mdl.both : ∀ k, (k = pb ∨ k = mb) → Inner w k := by
  rintro k (rfl | rfl)
  · exact h.inner
  · exact h.2.inner
theorem Mdl.turn {S : Nat → Prop} {w' : World} (ht : Turn S w w') (hS : ∀ k, S k → Inner w k) (h1 : ¬ S pb) (h2 : ¬ S mb) : Mdl w' pb mb q T :=
  ⟨(ht.block pb h.lt h1).trans h.1, h.2.turn ht hS h2⟩
theorem Mdl.below {w' : World} (hb : Below w.heap.size w w') : Mdl w' pb mb q T := h.turn (S := fun _ => False) (Turn.of_below hb) (fun _ s => s.elim) (fun s => s) (fun s => s)
end
end Go.Proofs.YtcmcmkfoihlniaaDoor.MM
end

section
namespace Go.Proofs.YtcmcmkfoihlniaaDoor.MM
open Go Go.RowKit Go.Maps Go.Proofs.YtcmcmkfoihlniaaDoorX Go.Proofs.YtcmcmkfoihlniaaDoor.NM Go.Proofs.YtcmcmkfoihlniaaDoor.EN Go.Proofs.YtcmcmkfoihlniaaDoorW.PrintWords Go.Proofs.YtcmcmkfoihlniaaDoorW.PrintLast Go.Proofs.YtcmcmkfoihlniaaDoorW.PrintMore Go.Proofs.YtcmcmkfoihlniaaDoor.PModelUndoes
set_option linter.unusedVariables false
set_option linter.unusedSimpArgs false
set_option maxRecDepth 100000
set_option maxHeartbeats 1000000
@[go_sem] theorem as81_81 (v : Value) (w : World) : (Instr.typeAssert (.iface 81 v) 57 81 true).run Tryd.prog w = .ok (.tuple #[v, .bool true]) w := by kernel_rfl
@[go_sem] theorem as81_62 (v : Value) (w : World) : (Instr.typeAssert (.iface 62 v) 57 81 true).run Tryd.prog w = .ok (.tuple #[.slice none 0 0, .bool false]) w := by kernel_rfl
@[go_sem] theorem as81_nil (w : World) : (Instr.typeAssert .nilIface 57 81 true).run Tryd.prog w = .ok (.tuple #[.slice none 0 0, .bool false]) w := by kernel_rfl
@[go_sem] theorem as62_62 (v : Value) (w : World) : (Instr.typeAssert (.iface 62 v) 57 62 true).run Tryd.prog w = .ok (.tuple #[v, .bool true]) w := by kernel_rfl
@[go_sem] theorem as62_81 (v : Value) (w : World) : (Instr.typeAssert (.iface 81 v) 57 62 true).run Tryd.prog w = .ok (.tuple #[.agg #[.slice none 0 0, .int .i64 0], .bool false]) w := by kernel_rfl
@[go_sem] theorem as62_nil (w : World) : (Instr.typeAssert .nilIface 57 62 true).run Tryd.prog w = .ok (.tuple #[.agg #[.slice none 0 0, .int .i64 0], .bool false]) w := by kernel_rfl
@[go_sem] theorem as81_81' (v : Value) (w : World) : (Instr.typeAssert (.iface 81 v) 57 81 false).run Tryd.prog w = .ok v w := by kernel_rfl
@[go_sem] theorem map_nil (mb : Nat) (w : World) : (binOp .eql 58 (.map (some mb)) (.map none)).run Tryd.prog w = .ok (.bool false) w := by kernel_rfl
abbrev mp (pb : Nat) : Value := .pointer (some ⟨pb, 0, none⟩)
theorem none_any {w : World} {pb mb : Nat} {q : Int} {T : Tree} (h : Mdl w pb mb q T) : Calls Tryd.prog 28 #[mp pb] w fun e w' => e = .returned (.bool false) ∧ Below w.heap.size w w' := by
  have h1 := h.at_
  clear h
  go_enter Tryd.func28, Tryd.ntmps28
  go_wp2
  go_ret
  exact ⟨rfl, Below.refl _ _⟩
def dirR (o : Option Nd) : List S90 × Int := match o with | some (.dir l) => (l, 0) | _ => ([], 34)
theorem dir_any {w : World} {pb mb : Nat} {q : Int} {T : Tree} (h : Mdl w pb mb q T) {k : Int} (hk : inR k) : Calls Tryd.prog 38 #[mp pb, .int .i64 k] w fun e w' =>
    ∃ A c, e = .returned (.tuple #[.slice A (dirR (T k)).1.length c, .int .i64 (dirR (T k)).2]) ∧ Row w' A (dirR (T k)).1 ∧ (dirR (T k)).1.length ≤ c ∧ Below w.heap.size w w' := by
  have h1 := h.at_
  obtain ⟨v, hl, hv⟩ := h.2.look hk
  clear h
  rcases hT : T k with _ | (⟨b, n⟩ | l)
  · rw [hT] at hv
    obtain rfl : v = .nilIface := hv
    clear hT
    go_enter Tryd.func38, Tryd.ntmps38
    go_wp2
    go_ret2
    exact ⟨none, 0, rfl, row_none _, Nat.le_refl _, Below.refl _ _⟩
  · rw [hT] at hv
    obtain ⟨A, c, rfl, hr, hc⟩ := hv
    clear hT hr hc
    go_enter Tryd.func38, Tryd.ntmps38
    go_wp2
    go_ret2
    exact ⟨none, 0, rfl, row_none _, Nat.le_refl _, Below.refl _ _⟩
  · rw [hT] at hv
    obtain ⟨A, c, rfl, hr, hc⟩ := hv
    have HR := Aside0.mk hr
    have HC := Aside0.mk hc
    clear hT hr hc
    go_enter Tryd.func38, Tryd.ntmps38
    go_wp2
    go_ret2
    exact ⟨A, c, rfl, HR.out, HC.out, Below.refl _ _⟩
end Go.Proofs.YtcmcmkfoihlniaaDoor.MM
end

section
namespace Go.Proofs.YtcmcmkfoihlniaaDoor.MM
open Go Go.RowKit Go.Maps Go.Proofs.YtcmcmkfoihlniaaDoorX Go.Proofs.YtcmcmkfoihlniaaDoor.NM Go.Proofs.YtcmcmkfoihlniaaDoor.EN Go.Proofs.YtcmcmkfoihlniaaDoorW.PrintWords Go.Proofs.YtcmcmkfoihlniaaDoorW.PrintLast Go.Proofs.YtcmcmkfoihlniaaDoorW.PrintMore Go.Proofs.YtcmcmkfoihlniaaDoor.PModelUndoes
set_option linter.unusedVariables false
set_option linter.unusedSimpArgs false
set_option maxRecDepth 100000
set_option maxHeartbeats 1000000
structure Ok (T : Tree) : Prop where
  dirs : ∀ k l, T k = some (.dir l) → mayE l = true
  files : ∀ k b n, T k = some (.file b n) → b.length ≤ 3808 ∧ 1 ≤ n ∧ n ≤ 64
theorem may_sizes {l : List S90} (h : mayE l = true) : ∀ x ∈ l, x.f1.size ≤ 24 := fun x hx => valid_size (((mayQ l).1 h).2.1 x hx).2
theorem may_len {l : List S90} (h : mayE l = true) : l.length ≤ 64 := ((mayQ l).1 h).1
def stepR (o : Option Nd) (nm : ByteArray) : Int × Int := match o with
  | some (.dir l) => if isE l nm = true then (inoAt l (atE l nm), 0) else (0, 32)
  | _ => (0, 34)
theorem dirR_or (o : Option Nd) : (∃ l, o = some (.dir l)) ∨ dirR o = ([], 34) ∧ ∀ nm, stepR o nm = (0, 34) := by
  rcases o with _ | (⟨b, n⟩ | l)
  · exact .inr ⟨rfl, fun _ => rfl⟩
  · exact .inr ⟨rfl, fun _ => rfl⟩
  · exact .inl ⟨l, rfl⟩
theorem step_any {w : World} {pb mb : Nat} {q : Int} {T : Tree} (h : Mdl w pb mb q T) (hO : Ok T) {k : Int} (hk : inR k) (nm : ByteArray) (hn : nm.size ≤ 1048576) : Calls Tryd.prog 41 #[mp pb, .int .i64 k, .string nm] w fun e w' =>
    e = .returned (.tuple #[.int .i64 (stepR (T k) nm).1, .int .i64 (stepR (T k) nm).2]) ∧ Below w.heap.size w w' := by
  have HD := dir_any h hk
  rcases dirR_or (T k) with ⟨l, hT⟩ | ⟨hT, hS⟩
  · have hm := hO.dirs k l hT
    rw [hT] at HD ⊢
    have HD := Aside0.mk HD
    have HM := Aside0.mk hm
    have HN := Aside0.mk (show nm.size ≤ 17592186044416 by omega)
    have HZ := Aside0.mk (show ∀ x ∈ l, x.f1.size ≤ 17592186044416 from fun x hx => by have := may_sizes hm x hx; omega)
    have HL := Aside0.mk (show l.length ≤ 9223372036854775807 by have := may_len hm; omega)
    clear h hO hk hT hm hn
    simp only [stepR]
    obtain ⟨J, HAT⟩ : ∃ J, Aside0 (atE l nm = J) := ⟨_, ⟨rfl⟩⟩
    cases hi : isE l nm with
    | false =>
      have HI := Aside0.mk hi
      clear hi
      simp only [Bool.false_eq_true, if_false]
      go_enter Tryd.func41, Tryd.ntmps41
      go_wp2_with (first
        | (have hz := HR1.out; clear hz; go_at_call 58; refine (find_any A c l nm w1 HR1.out HL.out HZ.out HN.out).mono ?_; rw [HI.out, HAT.out]; rintro e w2 ⟨rfl, hb2⟩; have HB2 := Aside0.mk (below_step HB1.out hb2); clear hb2)
        | (go_at_call 38; refine Calls.mono HD.out ?_; rintro e w1 ⟨A, c, rfl, hr, hc, hb⟩; simp only [dirR] at hr hc ⊢; have HR1 := Aside0.mk hr; have HB1 := Aside0.mk hb; clear hr hc hb))
      go_ret2
      exact ⟨rfl, HB2.out⟩
    | true =>
      have HI := Aside0.mk hi
      have HJ := Aside0.mk (show J < l.length by rw [← HAT.out]; exact isE_lt hi)
      have j0 : (0 : Int) ≤ (J : Int) := Int.natCast_nonneg _
      have j1 : (J : Int) < (l.length : Int) := by have := HJ.out; omega
      clear hi
      rw [HAT.out]
      simp only [if_true]
      obtain ⟨ino, hino⟩ : ∃ x, inoAt l J = x := ⟨_, rfl⟩
      rw [hino]
      have HINO := Aside0.mk hino
      clear hino
      go_enter Tryd.func41, Tryd.ntmps41
      go_wp2_with (first
        | (have hz := HR1.out; clear hz; go_at_call 58; refine (find_any A c l nm w1 HR1.out HL.out HZ.out HN.out).mono ?_; rw [HI.out, HAT.out]; rintro e w2 ⟨rfl, hb2⟩; have HB2 := Aside0.mk (below_step HB1.out hb2); obtain ⟨ad, rfl, k1, _⟩ := (HR1.out.below hb2).at_ HJ.out; rw [HINO.out] at k1; clear hb2)
        | (go_at_call 38; refine Calls.mono HD.out ?_; rintro e w1 ⟨A, c, rfl, hr, hc, hb⟩; simp only [dirR] at hr hc ⊢; have HR1 := Aside0.mk hr; have HB1 := Aside0.mk hb; clear hr hc hb))
      go_ret2
      exact ⟨rfl, HB2.out⟩
  · rw [hT] at HD
    rw [hS]
    have HD := Aside0.mk HD
    clear h hO hk hT hS
    go_enter Tryd.func41, Tryd.ntmps41
    go_wp2_with (go_at_call 38; refine Calls.mono HD.out ?_; rintro e w1 ⟨A, c, rfl, hr, hc, hb⟩; have HB1 := Aside0.mk hb; clear hr hc hb)
    go_ret2
    exact ⟨rfl, HB1.out⟩
end Go.Proofs.YtcmcmkfoihlniaaDoor.MM
end

section
namespace Go.Proofs.YtcmcmkfoihlniaaDoor.MM
open Go Go.RowKit Go.Maps Go.Proofs.YtcmcmkfoihlniaaDoorX Go.Proofs.YtcmcmkfoihlniaaDoor.NM Go.Proofs.YtcmcmkfoihlniaaDoor.EN Go.Proofs.YtcmcmkfoihlniaaDoorW.PrintWords Go.Proofs.YtcmcmkfoihlniaaDoorW.PrintLast Go.Proofs.YtcmcmkfoihlniaaDoorW.PrintMore Go.Proofs.YtcmcmkfoihlniaaDoor.PModelUndoes
set_option linter.unusedVariables false
set_option linter.unusedSimpArgs false
set_option maxRecDepth 100000
set_option maxHeartbeats 1000000
def wayR (T : Tree) : Int → List ByteArray → List Int × Int
  | a, [] => ([a], 0)
  | a, n :: l => if (stepR (T a) n).2 = 0 then (if (wayR T (stepR (T a) n).1 l).2 = 0 then (a :: (wayR T (stepR (T a) n).1 l).1, 0) else ([], (wayR T (stepR (T a) n).1 l).2)) else ([], (stepR (T a) n).2)
def finR (acc : List Int) (r : List Int × Int) : List Int × Int := if r.2 = 0 then (acc ++ r.1, 0) else ([], r.2)
theorem wayR_err {T : Tree} : ∀ {l : List ByteArray} {a : Int}, (wayR T a l).2 ≠ 0 → (wayR T a l).1 = []
  | [], a, h => absurd rfl h
  | n :: l, a, h => by
    rw [wayR] at h ⊢
    split at h
    · split at h
      · exact absurd rfl h
      · next h1 h2 => rw [if_pos h1, if_neg h2]
    · next h1 => rw [if_neg h1]
theorem finR_nil {T : Tree} {l : List ByteArray} {a : Int} : finR [] (wayR T a l) = wayR T a l := by
  unfold finR
  split
  · next h => exact Prod.ext rfl h.symm
  · next h => exact Prod.ext (wayR_err h).symm rfl
theorem finR_ok {T : Tree} {a : Int} {n : ByteArray} {l : List ByteArray} (acc : List Int) (h : (stepR (T a) n).2 = 0) : finR acc (wayR T a (n :: l)) = finR (acc ++ [a]) (wayR T (stepR (T a) n).1 l) := by
  rw [wayR, if_pos h]
  by_cases h2 : (wayR T (stepR (T a) n).1 l).2 = 0
  · rw [if_pos h2]; unfold finR; rw [if_pos rfl, if_pos h2]; simp
  · rw [if_neg h2]; unfold finR; rw [if_neg h2, if_neg h2]
theorem finR_err {T : Tree} {a : Int} {n : ByteArray} {l : List ByteArray} (acc : List Int) (h : (stepR (T a) n).2 ≠ 0) : finR acc (wayR T a (n :: l)) = ([], (stepR (T a) n).2) := by
  rw [wayR, if_neg h]; unfold finR; rw [if_neg h]
theorem okIno_in {a : Int} (h : okIno a = true) : 1 ≤ a ∧ a ≤ 64 := by
  unfold okIno at h
  rw [Bool.and_eq_true, decide_eq_true_eq, decide_eq_true_eq] at h
  exact h
theorem step_in {T : Tree} (hO : Ok T) {a : Int} {n : ByteArray} (h : (stepR (T a) n).2 = 0) : 1 ≤ (stepR (T a) n).1 ∧ (stepR (T a) n).1 ≤ 64 := by
  revert h
  rcases hT : T a with _ | (⟨b, k⟩ | l)
  · intro h; cases h
  · intro h; cases h
  · simp only [stepR]
    by_cases hi : isE l n = true
    · rw [if_pos hi]
      intro _
      have := good_at (hO.dirs a l hT) (isE_lt hi)
      rw [(at_get (isE_lt hi)).1]
      exact okIno_in this.1
    · rw [if_neg hi]; intro h; cases h
abbrev St (w : World) (A : Option Addr) (l : List ByteArray) : Prop := Kd.C Kd.string w A l.length l
theorem infoI : (Tryd.prog.info? 3).map (fun i => (i.zero, i.size, i.bytes)) = some (some (.int .i64 0), 1, 8) := by kernel_rfl
theorem repsI (w : World) (base : Nat) (ok : Nat → Prop) (a : Int) : Reps ((Kd.int .i64).M w base ok) 1 [a] [.int .i64 a] := by
  have := Reps.snoc (Reps.none ((Kd.int .i64).M w base ok) 1) (p := a) (c := [.int .i64 a]) rfl rfl
  simpa using this
theorem nilC (w : World) : Kd.C (Kd.int .i64) w none ([] : List Int).length [] := ⟨rfl, by decide, fun h => absurd h (by decide)⟩
theorem way_any {w : World} {pb mb : Nat} {q : Int} {T : Tree} (h : Mdl w pb mb q T) (hO : Ok T) (A : Option Addr) (c : Nat) (l : List ByteArray) (hl : St w A l) (hc : l.length ≤ c) (hn : ∀ n ∈ l, n.size ≤ 1048576) (hlen : l.length ≤ 1048576) :
    Calls Tryd.prog 31 #[mp pb, .slice A l.length c] w fun e w' =>
    ∃ A' c', e = .returned (.tuple #[.slice A' (wayR T 1 l).1.length c', .int .i64 (wayR T 1 l).2]) ∧ Kd.C (Kd.int .i64) w' A' (wayR T 1 l).1.length (wayR T 1 l).1 ∧ (wayR T 1 l).1.length ≤ c' ∧ Below w.heap.size w w' := by
  obtain ⟨F, hF⟩ : ∃ F, wayR T 1 l = F := ⟨_, rfl⟩
  rw [hF]
  have HF := Aside0.mk hF
  have HM := Aside0.mk h
  have HO := Aside0.mk hO
  have HS := Aside0.mk hl
  have HN := Aside0.mk hn
  have HL := Aside0.mk hlen
  clear hF h hO hl hn
  go_enter Tryd.func31, Tryd.ntmps31
  go_wp2
  go_loopw [6, 14] (fun v6 v14 wr => ∃ (k : Nat) (acc : List Int) (a : Int), v14 = .int .i64 k ∧ Aside0 (k ≤ l.length) ∧ Aside0 (acc.length = k) ∧ Aside0 (Kd.R (Kd.int .i64) 3 wr w.heap.size (fun _ => True) v6 (acc ++ [a])) ∧ Aside0 (finR acc (wayR T a (l.drop k)) = F) ∧ Aside0 (inR a) ∧ Aside0 (Below w.heap.size w wr)) (fun _ v14 _ => l.length - (intOf v14).toNat)
  case atStart =>
    refine ⟨0, [], 1, rfl, ⟨Nat.zero_le _⟩, ⟨rfl⟩, ⟨⟨fun _ _ => trivial, OwnRow.lit w w.heap.size (repsI _ _ _ 1) (Nat.le_refl _) (by decide)⟩⟩, ⟨?_⟩, ⟨⟨by decide, by decide⟩⟩, ⟨below_alloc (Below.refl _ _) _⟩⟩
    rw [List.drop_zero, finR_nil, HF.out]
  case round =>
    obtain ⟨k, acc, a, rfl, HK, HA, HR, HG, HI, HB⟩ := hrel
    by_cases hk : k < l.length
    · have k0 : (0 : Int) ≤ (k : Int) := Int.natCast_nonneg _
      have k1 : (k : Int) < (l.length : Int) := by omega
      obtain ⟨ad, rfl, hc1⟩ := Kd.at_string (Kd.C_below HS.out HB.out) (k : Int) k0 k1
      obtain ⟨G, hG⟩ : ∃ G, acc ++ [a] = G := ⟨_, rfl⟩
      have hmk : G.length = k + 1 := by rw [← hG, List.length_append, HA.out]; rfl
      have hga : rd G (k : Int) = a := by
        rw [← hG]
        unfold rd
        rw [Int.toNat_natCast, List.getD_eq_getElem?_getD, ← HA.out, List.getElem?_concat_length]; rfl
      rw [hG] at HR
      obtain ⟨A2, c2, rfl, hc2, hr2⟩ := Kd.R_reads HR.out
      have k2 : (k : Int) < (G.length : Int) := by omega
      obtain ⟨ad2, rfl, hx2⟩ := Kd.at_int hr2 (k : Int) k0 k2
      rw [hga] at hx2
      obtain ⟨nm, hnm⟩ : ∃ nm, rdOf ByteArray.empty l (k : Int) = nm := ⟨_, rfl⟩
      rw [hnm] at hc1
      rw [Int.toNat_natCast] at hc1 hx2
      have hget : l[k] = nm := by rw [← hnm]; unfold rdOf; simp [hk]
      have hdr : l.drop k = nm :: l.drop (k + 1) := by rw [List.drop_eq_getElem_cons hk, hget]
      have hg := HG.out
      rw [hdr] at hg
      have HNM := Aside0.mk (show nm.size ≤ 1048576 from HN.out nm (by rw [← hget]; exact List.getElem_mem hk))
      have HSt := Aside0.mk (step_any (HM.out.below HB.out) HO.out HI.out nm HNM.out)
      have hsin := step_in HO.out (a := a) (n := nm)
      have HGG := Aside0.mk hG
      have HKL := Aside0.mk hk
      have HMK := Aside0.mk hmk
      obtain ⟨i1, hi1⟩ : ∃ i, (stepR (T a) nm).1 = i := ⟨_, rfl⟩
      obtain ⟨y1, hy1⟩ : ∃ i, (stepR (T a) nm).2 = i := ⟨_, rfl⟩
      by_cases hy : y1 = 0
      · rw [finR_ok acc (hy1.trans hy), hi1] at hg
        rw [hi1, hy1] at hsin HSt
        have HIN := Aside0.mk (hsin hy)
        have HG2 := Aside0.mk hg
        have HC1 := Aside0.mk hc1
        have HX2 := Aside0.mk hx2
        subst hy
        clear hg hsin hi1 hy1 hdr hget hnm hga hr2 hc2 HG hmk hG hk
        have LM := Aside0.mk (show G.length < 17592186044000 by have := HMK.out; have := HL.out; have := HK.out; omega)
        go_wp2_with (first
          | (go_at_call 41; refine Calls.mono HSt.out ?_; rintro e w1 ⟨rfl, hb⟩; have HB1 := Aside0.mk (below_step HB.out hb); have HO1 := Aside0.mk (Kd.R_below HR.out hb); clear hb)
          | ((with_reducible refine gate_builtin (b := .append) (xs := #[.tmp 32, .tmp 34]) rfl ?_); at_builtin; refine Kd.R_append (Kd.int .i64) (w0 := w) w.heap.size rfl (.tmp 32) (.tmp 34) 70 3 (.int .i64 0) 8 rfl Tryd.underlying70 infoI rfl (by decide) (by omega) (.slice (some ad2) G.length c2) G i1 [.int .i64 i1] (fun _ => True) (fun _ => False) rfl rfl ?aP (fun _ hk => hk.elim) ?aF ?aO ?aB ?aS ?aL ?_; (case aP => exact rfl); (case aB => exact HB1.out); (case aF => exact (fun _ _ => trivial)); (case aO => exact HO1.out); (case aS => exact HB1.out.size); (case aL => have := LM.out; omega); intro v1 w7 ho hb hg hat; have HO2 := Aside0.mk ho; have HB2 := Aside0.mk hb; clear ho hb hg hat))
        go_roundw
        case rel =>
          have hk := HKL.out
          refine ⟨k + 1, G, i1, ?_, ⟨hk⟩, ⟨HMK.out⟩, HO2, ⟨?_⟩, ⟨inR_of HIN.out⟩, HB2⟩
          · first | rfl | (simp; done) | (congr 1; omega)
          · rw [← HGG.out]; exact HG2.out
        case measure => have hk := HKL.out; simp [intOf]; omega
      · rw [finR_err acc (by rw [hy1]; exact hy), hy1] at hg
        rw [hi1, hy1] at HSt
        have HF2 := Aside0.mk hg.symm
        have y0 : (y1 == 0) = false := beq_eq_false_iff_ne.2 hy
        have y2 : (y1 != 0) = true := by simp [hy]
        clear hg hsin hi1 hy1 hdr hget hnm hga hr2 hc2 HG hmk hG hk hy
        go_wp2_with (go_at_call 41; refine Calls.mono HSt.out ?_; rintro e w1 ⟨rfl, hb⟩; have HB1 := Aside0.mk (below_step HB.out hb); clear hb)
        go_ret2
        rw [HF2.out]
        exact ⟨none, 0, rfl, nilC _, Nat.le_refl _, HB1.out⟩
    · have hdr : l.drop k = [] := List.drop_eq_nil_of_le (by omega)
      have hg := HG.out
      rw [hdr] at hg
      have k1 : ¬ (k : Int) < (l.length : Int) := by omega
      obtain ⟨G, hG⟩ : ∃ G, acc ++ [a] = G := ⟨_, rfl⟩
      have HF2 := Aside0.mk (show F = (G, 0) by rw [← hg, ← hG]; rfl)
      rw [hG] at HR
      obtain ⟨A2, c2, rfl, hc2, hr2⟩ := Kd.R_reads HR.out
      have HR2 := Aside0.mk hr2
      have HC2 := Aside0.mk hc2
      clear hr2 hc2 hg hdr HG HR hG
      go_wp2
      go_ret2
      rw [HF2.out]
      exact ⟨A2, c2, rfl, HR2.out, HC2.out, HB.out⟩
end Go.Proofs.YtcmcmkfoihlniaaDoor.MM
end
