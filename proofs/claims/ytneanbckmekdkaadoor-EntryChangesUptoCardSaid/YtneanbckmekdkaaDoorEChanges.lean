/- EntryChanges: the law's own walk. -/
import Derived.Test.YtneanbckmekdkaaDoorECPl
import Derived.Test.YtneanbckmekdkaaDoorMWk
import Derived.Test.YtneanbckmekdkaaDoorMRef
namespace Go.Proofs.YtneanbckmekdkaaDoor.EN
open Go Go.RowKit Go.Proofs.YtneanbckmekdkaaDoorX Go.Proofs.YtneanbckmekdkaaDoor.NM Go.Proofs.YtneanbckmekdkaaDoorW.PrintWords Go.Proofs.YtneanbckmekdkaaDoorW.PrintLast Go.Proofs.YtneanbckmekdkaaDoorW.PrintMore Go.Proofs.YtneanbckmekdkaaDoor.PEntryForms
set_option linter.unusedVariables false
set_option linter.unusedSimpArgs false
theorem insR_len (l : List S42) (x : S42) : (insR l x).1.length ≤ l.length + 1 := by
  unfold insR
  split
  · exact Nat.zero_le _
  · rw [insE_length _ (atE_le l x.f1)]; exact Nat.le_refl _
theorem remR_len (l : List S42) (nm : ByteArray) : (remR l nm).1.length ≤ l.length := by
  unfold remR
  split
  · exact Nat.zero_le _
  · exact List.length_eraseIdx_le l _
theorem setR_len (l : List S42) (nm : ByteArray) (x : Int) : (setR l nm x).1.length ≤ l.length := by
  unfold setR
  split
  · exact Nat.zero_le _
  · rw [List.length_set]; exact Nat.le_refl _
set_option maxHeartbeats 8000000 in
set_option maxRecDepth 100000 in
theorem changes_walk (A : Option Addr) (c : Nat) (l : List S42) (a : Int) (s nm : ByteArray) (x : Int) (w : World) (hr : Row w A l) (hc : l.length ≤ c) (hl : l.length ≤ 1048576) (hz : ∀ x ∈ l, x.f1.size ≤ 1048576) (hs : s.size ≤ 1048576) (hn : nm.size ≤ 1048576) (hT : Lib.Utf8Tabs 1 2 w) :
    Calls Tryd.prog 7 #[.slice A l.length c, .agg (cellsE a s), .string nm, .int .i64 x] w fun e w' => e = .returned (.bool true) ∧ Below w.heap.size w w' := by
  have HR := Aside0.mk hr
  have HC := Aside0.mk hc
  have HL1 := Aside0.mk hl
  have HZ := Aside0.mk hz
  have HS := Aside0.mk hs
  have HN := Aside0.mk hn
  have HT := Aside0.mk hT
  have HLO := Aside0.mk (show l.length ≤ 5864062014700 by omega)
  have HL2 := Aside0.mk (show l.length ≤ 9223372036854775806 by omega)
  have hu42 := Aside0.mk Tryd.underlying42
  have hiz : ∀ y ∈ (insR l ⟨a, s⟩).1, y.f1.size ≤ 140737488351232 := fun y hy => by rcases insR_mem hy with h | rfl; exact Nat.le_trans (hz y h) (by decide); exact Nat.le_trans hs (by decide)
  have hmz : ∀ y ∈ (remR l nm).1, y.f1.size ≤ 140737488351232 := fun y hy => Nat.le_trans (hz y (remR_mem hy)) (by decide)
  have htz : ∀ y ∈ (setR l nm x).1, y.f1.size ≤ 140737488351232 := fun y hy => by obtain ⟨z, h, e⟩ := setR_mem hy; rw [e]; exact Nat.le_trans (hz z h) (by decide)
  have hil := insR_len l ⟨a, s⟩
  have hml := remR_len l nm
  have htl := setR_len l nm x
  obtain ⟨IR, HIR⟩ : ∃ q, Aside0 ((insR l ⟨a, s⟩).1 = q) := ⟨_, ⟨rfl⟩⟩
  obtain ⟨IX, HIX⟩ : ∃ q, Aside0 ((insR l ⟨a, s⟩).2 = q) := ⟨_, ⟨rfl⟩⟩
  obtain ⟨MR, HMR⟩ : ∃ q, Aside0 ((remR l nm).1 = q) := ⟨_, ⟨rfl⟩⟩
  obtain ⟨MI, HMI⟩ : ∃ q, Aside0 ((remR l nm).2.1 = q) := ⟨_, ⟨rfl⟩⟩
  obtain ⟨MX, HMX⟩ : ∃ q, Aside0 ((remR l nm).2.2 = q) := ⟨_, ⟨rfl⟩⟩
  obtain ⟨TR, HTR⟩ : ∃ q, Aside0 ((setR l nm x).1 = q) := ⟨_, ⟨rfl⟩⟩
  obtain ⟨TI, HTI⟩ : ∃ q, Aside0 ((setR l nm x).2.1 = q) := ⟨_, ⟨rfl⟩⟩
  obtain ⟨TX, HTX⟩ : ∃ q, Aside0 ((setR l nm x).2.2 = q) := ⟨_, ⟨rfl⟩⟩
  rw [HIR.out] at hiz hil
  rw [HMR.out] at hmz hml
  rw [HTR.out] at htz htl
  have HIZ := Aside0.mk hiz
  have HMZ := Aside0.mk hmz
  have HTZ := Aside0.mk htz
  have HIL := Aside0.mk (show IR.length ≤ 9223372036854775806 by omega)
  have HML := Aside0.mk (show MR.length ≤ 9223372036854775806 by omega)
  have HTL := Aside0.mk (show TR.length ≤ 9223372036854775806 by omega)
  clear hr hc hl hz hs hn hT hiz hmz htz hil hml htl
  go_enter Tryd.func7, Tryd.ntmps7
  go_wp2_with (first
    | (have hz := HB10.out; clear hz; go_at_call 14; refine (Calls.mono (same_call w10 A9 A10 c9 c10 TR HTL.out R910.out R10.out D9.out D10.out) ?_); rintro e w11 ⟨rfl, hb⟩; have HB11 := Aside0.mk (below_step HB10.out hb); have S11 := Aside0.mk (below_then S10.out S10.out.size hb); have OA11 := Aside0.mk (pw_own_below OA10.out hb); have OC11 := Aside0.mk (pw_own_below OC10.out hb); clear hb)
    | (have hz := HB9.out; clear hz; go_at_call 25; refine (Calls.mono (refSet_all A c l w9 (HR.out.below HB9.out) HC.out HL1.out HZ.out nm x HN.out) ?_); rw [HTI.out, HTX.out, HTR.out]; rintro e w10 ⟨v, rfl, ho, hb⟩; obtain ⟨A10, c10, rfl⟩ := own_slice ho; have R10 := Aside0.mk (own_row ho HTZ.out); have D10 := Aside0.mk (own_cap ho); have R910 := Aside0.mk (R9.out.below hb); clear ho; have HB10 := Aside0.mk (below_step HB9.out hb); have S10 := Aside0.mk (below_then S9.out S9.out.size hb); have OA10 := Aside0.mk (pw_own_below OA9.out hb); have OC10 := Aside0.mk (pw_own_below OC9.out hb); clear hb)
    | (have hz := HB8.out; clear hz; go_at_call 21; refine (Calls.mono (set_all B1 d1 l w8 (M2.out.below S8.out) HL1.out HZ.out (Utf8Tabs_below HT.out HB8.out) nm x HN.out) ?_); rw [HTI.out, HTX.out, HTR.out]; rintro e w9 ⟨v, rfl, ho, hb⟩; obtain ⟨A9, c9, rfl⟩ := own_slice ho; have R9 := Aside0.mk (own_row ho HTZ.out); have D9 := Aside0.mk (own_cap ho); clear ho; have HB9 := Aside0.mk (below_step HB8.out hb); have S9 := Aside0.mk (below_then S8.out S8.out.size hb); have OA9 := Aside0.mk (pw_own_below OA8.out hb); have OC9 := Aside0.mk (pw_own_below OC8.out hb); clear hb)
    | (have hz := HB7.out; clear hz; go_at_call 14; refine (Calls.mono (same_call w7 A6 A7 c6 c7 MR HML.out R67.out R7.out D6.out D7.out) ?_); rintro e w8 ⟨rfl, hb⟩; have HB8 := Aside0.mk (below_step HB7.out hb); have S8 := Aside0.mk (below_then S7.out S7.out.size hb); have OA8 := Aside0.mk (pw_own_below OA7.out hb); have OC8 := Aside0.mk (pw_own_below OC7.out hb); clear hb)
    | (have hz := HB6.out; clear hz; go_at_call 24; refine (Calls.mono (refRem_all A c l w6 (HR.out.below HB6.out) HC.out HL1.out HZ.out nm HN.out) ?_); rw [HMI.out, HMX.out, HMR.out]; rintro e w7 ⟨v, rfl, ho, hb⟩; obtain ⟨A7, c7, rfl⟩ := own_slice ho; have R7 := Aside0.mk (own_row ho HMZ.out); have D7 := Aside0.mk (own_cap ho); have R67 := Aside0.mk (R6.out.below hb); clear ho; have HB7 := Aside0.mk (below_step HB6.out hb); have S7 := Aside0.mk (below_then S6.out S6.out.size hb); have OA7 := Aside0.mk (pw_own_below OA6.out hb); have OC7 := Aside0.mk (pw_own_below OC6.out hb); clear hb)
    | (have hz := HB5.out; clear hz; go_at_call 23; refine (Calls.mono (rem_all B1 d1 l w5 (M2.out.below S5.out) HL1.out HZ.out (Utf8Tabs_below HT.out HB5.out) nm HN.out) ?_); rw [HMI.out, HMX.out, HMR.out]; rintro e w6 ⟨v, rfl, ho, hb⟩; obtain ⟨A6, c6, rfl⟩ := own_slice ho; have R6 := Aside0.mk (own_row ho HMZ.out); have D6 := Aside0.mk (own_cap ho); have OC6 := Aside0.mk (ho); clear ho; have HB6 := Aside0.mk (below_step HB5.out hb); have S6 := Aside0.mk (below_then S5.out S5.out.size hb); have OA6 := Aside0.mk (pw_own_below OA5.out hb); clear hb)
    | (have hz := HB4.out; clear hz; go_at_call 14; refine (Calls.mono (same_call w4 A3 A4 c3 c4 IR HIL.out R34.out R4.out D3.out D4.out) ?_); rintro e w5 ⟨rfl, hb⟩; have W35 := Aside0.mk (Nat.le_trans W34.out hb.size); have W25 := Aside0.mk (Nat.le_trans S4.out.size hb.size); have HB5 := Aside0.mk (below_step HB4.out hb); have S5 := Aside0.mk (below_then S4.out S4.out.size hb); have OA5 := Aside0.mk (pw_own_below OA4.out hb); clear hb)
    | (have hz := HB3.out; clear hz; go_at_call 22; refine (Calls.mono (refIns_all A c l w3 (HR.out.below HB3.out) HC.out HL1.out HZ.out a s HS.out) ?_); rw [HIX.out, HIR.out]; rintro e w4 ⟨v, rfl, ho, hb⟩; obtain ⟨A4, c4, rfl⟩ := own_slice ho; have R4 := Aside0.mk (own_row ho HIZ.out); have D4 := Aside0.mk (own_cap ho); have R34 := Aside0.mk (R3.out.below hb); have W34 := Aside0.mk (show w3.heap.size ≤ w4.heap.size from hb.size); clear ho; have HB4 := Aside0.mk (below_step HB3.out hb); have S4 := Aside0.mk (below_then S3.out S3.out.size hb); have OA4 := Aside0.mk (pw_own_below OA3.out hb); clear hb)
    | (have hz := HB3.out; clear hz; (with_reducible refine gate_dst (N := 32) rfl ?_); refine wpList_load_row rfl 42 (.tmp 5) (by kernel_rfl) gg (by kernel_rfl) _ _ _ _ BG3.out hu42.out rfl (sizeEntry a s) ?_)
    | (have hz := HB2.out; clear hz; go_at_call 20; refine (Calls.mono (ins_all B1 d1 l w2 M2.out HL1.out HZ.out (Utf8Tabs_below HT.out HB2.out) a s HS.out) ?_); rw [HIX.out, HIR.out]; rintro e w3 ⟨v, rfl, ho, hb⟩; obtain ⟨A3, c3, rfl⟩ := own_slice ho; have R3 := Aside0.mk (own_row ho HIZ.out); have D3 := Aside0.mk (own_cap ho); have LT3 := Aside0.mk (show ∀ k, (Value.slice A3 IR.length c3).ownBlock = some k → k < w3.heap.size from own_lt ho); have OA3 := Aside0.mk (ho); clear ho; have HB3 := Aside0.mk (below_step HB2.out hb); have S3 := Aside0.mk (below_then S2.out S2.out.size hb); have BG3 := Aside0.mk (blk_below BG2.out hb); clear hb)
    | (have hz := HB2.out; clear hz; (with_reducible refine gate_dst (N := 26) rfl ?_); refine wpList_load_row rfl 42 (.tmp 5) (by kernel_rfl) gg (by kernel_rfl) _ _ _ _ BG2.out hu42.out rfl (sizeEntry a s) ?_)
    | (have hz := HB1.out; clear hz; go_at_call 9; refine (Calls.mono (own_any A c l w1 (HR.out.below HB1.out) HLO.out) ?_); rintro e w2 ⟨B1, d1, rfl, ho, hb⟩; have M2 := Aside0.mk (own_row ho HR.out.z); have D1 := Aside0.mk (own_cap ho); have S2 := Aside0.mk (Below.refl w2.heap.size w2); clear ho; have HB2 := Aside0.mk (below_step HB1.out hb); have BG2 := Aside0.mk (blk_below BG1.out hb); clear hb)
    | ((with_reducible refine gate_dst (N := 5) rfl ?_); refine box_event ?hg (N := 5) ?hd (cs := cellsE a s) (t := 42) ?hr ?_; (case hd => rfl); (case hg => rfl); (case hr => first | (go_simp; done) | (go_simp; rfl) | kernel_rfl); intro gg hg w1 hbox hb; have HB1 := Aside0.mk (hb); have BG1 := Aside0.mk (hbox); clear hb hbox hg))
  have LA := Aside0.mk (show ∀ k, (Value.slice A3 IR.length c3).ownBlock = some k → k < w5.heap.size from fun k e => Nat.lt_of_lt_of_le (LT3.out k e) W35.out)
  go_loopw [20] (fun i wr => ∃ j : Nat, j ≤ IR.length ∧ i = .int .i64 j ∧ Aside0 (∃ la : List S42, la.length = IR.length ∧ wr.ownsRow w2.heap.size 42 2 (.slice A3 IR.length c3) IR.length (rowsE la)) ∧ Aside0 (wr.ownsRow w5.heap.size 42 2 (.slice A6 MR.length c6) MR.length (rowsE MR)) ∧ Aside0 (Below w2.heap.size w2 wr)) (fun i _ => IR.length - (intOf i).toNat)
  case atStart => exact ⟨0, Nat.zero_le _, rfl, ⟨IR, rfl, OA11.out⟩, OC11, S11⟩
  case round =>
    obtain ⟨j, hj, rfl, P, X, K⟩ := hrel
    clear OA11 OC11 S11
    by_cases hlt : j < IR.length
    · have hIL := HIL.out
      obtain ⟨la, hla, ho⟩ := P.out
      obtain ⟨g, cap, cur0, hv, _⟩ := own_form (v := .slice A3 IR.length c3) (l := la) (by rw [hla]; exact ho) (by omega)
      injection hv with h1 h2 h3
      subst h1 h3
      rw [← hla] at ho
      obtain ⟨hgb, cur, hh, hnc, hcm, hcs, htk⟩ := own_form2 (show _ from ho)
      have GB := Aside0.mk hgb
      have BG := Aside0.mk hh
      have CN := Aside0.mk hnc
      have CM := Aside0.mk hcm
      have CS := Aside0.mk hcs
      have CT := Aside0.mk htk
      have HLA := Aside0.mk hla
      have HJ := Aside0.mk (show j < la.length by omega)
      have hlt' : (j : Int) < (IR.length : Int) := by omega
      have hj0 : (0 : Int) ≤ (j : Int) := Int.natCast_nonneg _
      clear ho hgb hh hnc hcm hcs htk hla h2
      go_wp2_with ((with_reducible refine gate_store (t := 3) (p := 112) (v := .const (.int .i64 99)) rfl ?_); refine ev_store (by rfl) 3 (.tmp 112) (.const (.int .i64 99)) (by rfl) g (j * 2) cur [.int .i64 99] (.int .i64 99) (by kernel_rfl) (by kernel_rfl) (by rfl) 42 BG.out sizeInt (by have := CS.out; have := CN.out; have := HJ.out; simp only [List.length_cons, List.length_nil]; omega) (by simp [Value.oneCell']) ?_; intro wn hbox hg; rw [show [Value.int .i64 99].length = 1 from rfl, list_set (by have := CS.out; have := CN.out; have := HJ.out; omega)] at hbox; have HO5 := Aside0.mk (own_of (l := la.set j ⟨99, nameAt la j⟩) GB.out hbox (by rw [List.length_set]; exact CN.out) CM.out (by rw [List.length_set]; exact CS.out) (by rw [List.length_set, List.take_set, CT.out, rowsE_set 99 (nameAt la j) la j HJ.out rfl])); have HG5 := Aside0.mk hg; clear hbox hg)
      go_roundw
      case rel =>
        exact ⟨j + 1, by omega, by go_num, ⟨la.set j ⟨99, nameAt la j⟩, by rw [List.length_set]; exact HLA.out, by have := HO5.out; rw [List.length_set, HLA.out] at this; exact this⟩, ⟨own_other X.out HG5.out (.inr fun e => by have h1 := own_base X.out g e; have h2 := LA.out g rfl; omega)⟩, ⟨K.out.grown HG5.out K.out.size (fun k e => by cases e; exact GB.out)⟩⟩
      case measure => simp [intOf]; omega
    · have hjn : j = IR.length := by omega
      subst hjn
      clear hlt hj
      have hML := HML.out
      go_wp2
      go_loopw [21] (fun i wq => ∃ j : Nat, j ≤ MR.length ∧ i = .int .i64 j ∧ Aside0 (∃ la : List S42, la.length = MR.length ∧ wq.ownsRow w5.heap.size 42 2 (.slice A6 MR.length c6) MR.length (rowsE la)) ∧ Aside0 (Below w2.heap.size w2 wq)) (fun i _ => MR.length - (intOf i).toNat)
      case atStart => exact ⟨0, Nat.zero_le _, rfl, ⟨MR, rfl, X.out⟩, K⟩
      case round =>
        obtain ⟨j, hj, rfl, Y, SQ⟩ := hrel
        clear P X K
        by_cases hlt : j < MR.length
        · have hML := HML.out
          obtain ⟨la, hla, ho⟩ := Y.out
          obtain ⟨g, cap, cur0, hv, _⟩ := own_form (v := .slice A6 MR.length c6) (l := la) (by rw [hla]; exact ho) (by omega)
          injection hv with h1 h2 h3
          subst h1 h3
          rw [← hla] at ho
          obtain ⟨hgb, cur, hh, hnc, hcm, hcs, htk⟩ := own_form2 (show _ from ho)
          have GB := Aside0.mk hgb
          have BG := Aside0.mk hh
          have CN := Aside0.mk hnc
          have CM := Aside0.mk hcm
          have CS := Aside0.mk hcs
          have CT := Aside0.mk htk
          have HLA := Aside0.mk hla
          have HJ := Aside0.mk (show j < la.length by omega)
          have hlt' : (j : Int) < (MR.length : Int) := by omega
          have hj0 : (0 : Int) ≤ (j : Int) := Int.natCast_nonneg _
          clear ho hgb hh hnc hcm hcs htk hla h2
          go_wp2_with ((with_reducible refine gate_store (t := 3) (p := 122) (v := .const (.int .i64 99)) rfl ?_); refine ev_store (by rfl) 3 (.tmp 122) (.const (.int .i64 99)) (by rfl) g (j * 2) cur [.int .i64 99] (.int .i64 99) (by kernel_rfl) (by kernel_rfl) (by rfl) 42 BG.out sizeInt (by have := CS.out; have := CN.out; have := HJ.out; simp only [List.length_cons, List.length_nil]; omega) (by simp [Value.oneCell']) ?_; intro wn hbox hg; rw [show [Value.int .i64 99].length = 1 from rfl, list_set (by have := CS.out; have := CN.out; have := HJ.out; omega)] at hbox; have HO5 := Aside0.mk (own_of (l := la.set j ⟨99, nameAt la j⟩) GB.out hbox (by rw [List.length_set]; exact CN.out) CM.out (by rw [List.length_set]; exact CS.out) (by rw [List.length_set, List.take_set, CT.out, rowsE_set 99 (nameAt la j) la j HJ.out rfl])); have HG5 := Aside0.mk hg; clear hbox hg)
          go_roundw
          case rel =>
            exact ⟨j + 1, by omega, by go_num, ⟨la.set j ⟨99, nameAt la j⟩, by rw [List.length_set]; exact HLA.out, by have := HO5.out; rw [List.length_set, HLA.out] at this; exact this⟩, ⟨SQ.out.grown HG5.out SQ.out.size (fun k e => by cases e; exact Nat.le_trans W25.out GB.out)⟩⟩
          case measure => simp [intOf]; omega
        · have hil : j = MR.length := by omega
          subst hil
          clear hlt hj
          go_wp2_with (first
    | (have hz := HBS.out; clear hz; go_at_call 17; refine (Calls.mono (wakes_true ws (Utf8Tabs_below HT.out HBS.out)) ?_); rintro e wz ⟨rfl, hb⟩; have HBZ := Aside0.mk (below_step HBS.out hb); clear hb)
    | (go_at_call 14; refine (Calls.mono (same_call _ B1 A d1 c l HL2.out (M2.out.below SQ.out) (HR.out.below (below_then HB2.out HB2.out.size SQ.out)) D1.out HC.out) ?_); rintro e ws ⟨rfl, hb⟩; have HBS := Aside0.mk (below_step (below_then HB2.out HB2.out.size SQ.out) hb); clear hb))
          go_ret
          exact ⟨rfl, HBZ.out⟩
end Go.Proofs.YtneanbckmekdkaaDoor.EN
