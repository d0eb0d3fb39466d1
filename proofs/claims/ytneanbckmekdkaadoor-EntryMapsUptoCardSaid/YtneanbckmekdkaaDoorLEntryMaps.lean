/- EntryMaps: the row, for entries and names of bulk up to the form's bound. -/
import Derived.Test.YtneanbckmekdkaaDoorCards
import Derived.Test.YtneanbckmekdkaaDoorTie
import Derived.Test.YtneanbckmekdkaaDoorMOpen
import Derived.Test.YtneanbckmekdkaaDoorWSized
import Derived.Below
import Derived.SizedLaws
import Derived.ChangeOld
import Derived.Test.YtneanbckmekdkaaDoorEMaps
import Derived.Test.YtneanbckmekdkaaDoorShelf
import Derived.WalkKit
import Derived.ProofKit
import Derived.OpenShut
import Derived.ShutString
import Derived.JoinedCond
import Derived.Deep.DeepHandedRow
import Derived.Lib.LaidTab
import Derived.Lib.LaidIn
import Derived.Lib.LaidU8
import Derived.Below
import Derived.Lib.SmallJoins
namespace Go.Proofs.YtneanbckmekdkaaDoor.entryMaps
open Go.ChangeShapes Go.WideShapes Go.ChangeAt Go.RowKit Go.Joins Go.Lib
open Go.ChangeMaps (open_string shut_string)
set_option linter.unusedVariables false
theorem laidOut : laidOutB Tryd.prog = true := by kernel_rfl
theorem own : ownKnob Tryd.prog.godebug = none := by kernel_rfl
theorem eFirst : Rows.laid_unicode_utf8_first = Lib.firstData := by kernel_rfl
theorem eAcc : (Rows.laid_unicode_utf8_acceptRanges : DataW Unit) = Lib.acceptData := by kernel_rfl
theorem readFirst {W : World} (hL : laidMet Tryd.prog Rows.entryMapsUptoRow.laid W) : Lib.VarReads Tryd.prog W "unicode/utf8.first" Rows.laid_unicode_utf8_first :=
  Lib.laidMet.reads hL (List.mem_cons_of_mem _ List.mem_cons_self)
theorem readAcc {W : World} (hL : laidMet Tryd.prog Rows.entryMapsUptoRow.laid W) : Lib.VarReads Tryd.prog W "unicode/utf8.acceptRanges" Rows.laid_unicode_utf8_acceptRanges :=
  Lib.laidMet.reads hL List.mem_cons_self
theorem tabs {W : World} (hL : laidMet Tryd.prog Rows.entryMapsUptoRow.laid W) : Lib.Utf8Tabs 1 2 W := by
  have h1 := readFirst hL
  have h2 := readAcc hL
  rw [eFirst] at h1
  rw [eAcc] at h2
  exact utf8Tabs_of_reads Tryd.lays260 ⟨by kernel_rfl, by kernel_rfl, by kernel_rfl, by kernel_rfl, by kernel_rfl, by kernel_rfl, by kernel_rfl⟩ h1 h2
/-- The witness: the settled world, the two tables as their initialisers lay them. -/
noncomputable def laidWorld (os : Os) : World :=
  let w0 := World.holding Tryd.prog os ⟨#[], #[], []⟩
  let put (h : Array Obj) (g : Nat) (cs : Array Value) : Array Obj := h.modify g fun
    | .cells _ t frozen => .cells cs t frozen
    | o => o
  let h1 := put w0.heap 1 (Lib.firstTab.map fun z => Value.int .u8 z).toArray
  let h2 := put h1 2 ((List.range 16).flatMap fun i => [Value.int .u8 (Lib.accLo i), Value.int .u8 (Lib.accHi i)]).toArray
  { w0 with heap := h2 }
theorem laid_met (os : Os) : laidMet Tryd.prog Rows.entryMapsUptoRow.laid ((laidWorld os).forCall (fun _ _ => 0) ⟨#[], #[.slice none 0 0, .agg #[.int .i64 0, .string ByteArray.empty], .int .u8 0], []⟩).memory :=
  (LaidIn.of_run (l := Rows.entryMapsUptoRow.laid) [1, 2] 8 (by kernel_rfl) (by kernel_rfl) (by kernel_rfl) (by kernel_rfl)).met
theorem reads (os : Os) {H : Type} (enc : TypeId × Value → H) : ∃ places, DataW.whole enc Tryd.prog ((laidWorld os).forCall (fun _ _ => 0) ⟨#[], #[.slice none 0 0, .agg #[.int .i64 0, .string ByteArray.empty], .int .u8 0], []⟩).memory Tryd.f8.params.toList Rows.entryMapsSpec.vars false (#[.slice none 0 0, .agg #[.int .i64 0, .string ByteArray.empty], .int .u8 0] : Array Value).toList 8 = some ([.nil, .agg [.lit (.int .i64 0), .lit (.string [])], .lit (.int .u8 0)], [], places) :=
  ⟨[], by kernel_rfl⟩
set_option maxRecDepth 100000 in
theorem lifted (os : Os) (started : os.Started) (H : Type) (enc : TypeId × Value → H) (F : Stop.Interp) :
    ReturnsInHanded {} Tryd.checked os 8 .any ((Rows.OpenSpec.upto Rows.entryMapsSpec).preRow enc Tryd.prog Tryd.f8 Rows.entryMapsUptoRow.domain false Rows.entryMapsUptoRow.laid) (((Rows.OpenSpec.upto Rows.entryMapsSpec).at F).post enc Tryd.prog Tryd.f8 false true false false) := by
  obtain ⟨places, hx⟩ := reads os enc
  refine returnsInHanded_of_row (C := Tryd.checked) (s := Rows.OpenSpec.upto Rows.entryMapsSpec) own started (by kernel_rfl) Tryd.func8
    (witness_row_at (enc := enc) (C := Tryd.checked) false (laidWorld os) #[.slice none 0 0, .agg #[.int .i64 0, .string ByteArray.empty], .int .u8 0] rfl (by kernel_rfl) (by kernel_rfl) (by kernel_rfl)
      (OpenSpec.preRow_of_cond 8 hx (by kernel_rfl) (fun k hk => by cases hk; kernel_rfl) (by kernel_rfl) (laid_met os))) ?_
  intro W base args ds gs before hval0 hW hcnd hcond hx6 hL hx7 hx8
  have hval : ∀ (j : Nat) t v, Tryd.f8.params[j]? = some t → args[j]? = some v → Value.okWide Tryd.prog W .any base t v := hval0
  have hW' := hW
  obtain ⟨p, q, hA0, hV, rfl, hfz, hnd⟩ := hW
  have hA : DataW.TrodAll enc Tryd.prog W 0 (fun _ => true) true Tryd.f8.params.toList args.toList ds p := hA0
  rw [Tryd.params8] at hA hval
  obtain ⟨v0, vs0, d0, ds0, p0, q0, hargs, rfl, rfl, h0, r0⟩ := trodAll_cons hA
  obtain ⟨v1, vs1, d1, ds1, p1, q1, rfl, rfl, rfl, h1, r1⟩ := trodAll_cons r0
  obtain ⟨v2, vs2, d2, ds2, p2, q2, rfl, rfl, rfl, h2, r2⟩ := trodAll_cons r1
  obtain ⟨rfl, rfl, rfl⟩ := trodAll_nil r2
  obtain rfl : args = #[v0, v1, v2] := by cases args; simp_all
  obtain ⟨rfl, rfl⟩ := trodVars_none hV
  have hsz : (DataW.weightsEach Tryd.prog _ _).all (· ≤ reachBytes) = true := hx6
  rw [Tryd.params8] at hsz
  have lt0 : ∀ x ∈ p0, x.block < W.heap.size := by obtain ⟨m, hm⟩ := h0; exact DataW.trod_lt m _ _ _ hm
  obtain ⟨A0, c0, l0, rfl, lc0, R0, ll0, u0, sb0, lb0⟩ := Go.Proofs.YtneanbckmekdkaaDoor.EN.open_ents (hval 0 22 v0 rfl rfl) h0 hsz (j := 0) rfl rfl
  simp only [reachBytes] at ll0
  obtain ⟨x1, s1, rfl, rfl, wf1, hs1, sb1, st1⟩ := Go.Proofs.YtneanbckmekdkaaDoor.EN.open_ent (hval 1 42 v1 rfl rfl) h1 hsz (j := 1) rfl rfl
  obtain ⟨x2, rfl, rfl, rfl, wf2⟩ := open_int Tryd.underlying5 (hval 2 5 v2 rfl rfl) h2
  have hk : Rows.uptoBulkAll (H := H) [d0, d1, .lit (.int .u8 x2)] ≤ 1048576 := of_decide_eq_true (hcond _ rfl)
  simp only [Rows.uptoBulkAll, Rows.uptoBulk] at hk
  have hq0 : ∀ p ∈ l0, p.f1.size ≤ 1048576 := fun p hp => by have := sb0 p hp; omega
  have hn0 : l0.length ≤ 1048576 := by omega
  have hq1 : s1.size ≤ 1048576 := by omega
  have hT := tabs hL
  clear hA0 hval0
  refine (Go.Proofs.YtneanbckmekdkaaDoor.EN.maps_u8 A0 c0 l0 x1 s1 x2 W R0 hn0 hq0 hq1 wf2 hT).mono fun e W' ⟨he, bel⟩ => ?_
  subst he
  exact ⟨_, rfl, _, _, _, [], _, [], hW', trodAll_mk1 (shut_bool Tryd.underlying4 _), (trodAll_cons_mk ((Below.trod laidOut (by kernel_rfl) (of_decide_eq_true (by kernel_rfl)) h0 bel lt0)) (trodAll_cons_mk (st1 _ _ _ _) (trodAll_cons_mk (shut_int Tryd.underlying5 wf2) trodAll_mk0))), rfl, bel.frame _, fun h => by cases h⟩
theorem proved : Rows.EntryMapsUptoSaid :=
  OpenClaim.holds_of_cond 8 Tryd.f8 rfl rfl rfl rfl rfl rfl rfl ⟨rfl, rfl, rfl, rfl, rfl⟩ rfl rfl rfl rfl rfl (by kernel_rfl) Tryd.func8 (by kernel_rfl)
    (of_decide_eq_true (by kernel_rfl)) (by unfold Func.isWrapper; first | (rw [if_pos (by decide +kernel)]; kernel_rfl) | (rw [if_neg (by decide +kernel)]; exact ⟨rfl, rfl⟩))
    (fun os started H enc _ F => by rw [OpenClaim.pre_eq_preRow]; exact lifted os started H enc F)
theorem plain (f : FuncId) (fn : Func) (hf : Tryd.pinned.checked.prog.funcNamed "hayrick/hayricklaw12.EntryMaps" = some f) (hfn : Tryd.pinned.checked.prog.funcs[f]? = some fn) :
    false = Tryd.pinned.checked.prog.looks [] ∧ ∀ (j : Nat) t, fn.params[j]? = some t → Tryd.pinned.checked.prog.wantsStandIn t = false := by
  obtain rfl : f = 8 := Option.some.inj ((show Tryd.prog.funcNamed "hayrick/hayricklaw12.EntryMaps" = some 8 by kernel_rfl).symm.trans hf) |>.symm
  obtain rfl : fn = Tryd.f8 := (Option.some.inj (Tryd.func8.symm.trans hfn)).symm
  refine ⟨by kernel_rfl, fun j t ht => ?_⟩
  rw [Tryd.params8] at ht
  have hm : t ∈ [22, 42, 5] := by simpa using Array.mem_of_getElem? ht
  have w5 : Tryd.prog.wantsStandIn 5 = false := by kernel_rfl
  have w22 : Tryd.prog.wantsStandIn 22 = false := by kernel_rfl
  have w42 : Tryd.prog.wantsStandIn 42 = false := by kernel_rfl
  simp only [List.mem_cons, List.not_mem_nil, or_false] at hm
  rcases hm with rfl | rfl | rfl
  · exact w22
  · exact w42
  · exact w5
theorem card : Rows.EntryMapsUptoCardSaid :=
  Claim7.holds_tied_plain_at .later [] _ _ _ _ proved (fun _ h => by cases h) (by kernel_rfl) (fun _ h => by cases h) entryMapsUpto_row_tie rfl ⟨rfl, rfl⟩ (by kernel_rfl) rfl plain (by kernel_rfl)
#print axioms card
end Go.Proofs.YtneanbckmekdkaaDoor.entryMaps
namespace Go.Proofs.YtneanbckmekdkaaDoor
/-- The card, under a short name, for the claim. -/
theorem entryMaps_holds : Rows.EntryMapsUptoCardSaid := entryMaps.card
end Go.Proofs.YtneanbckmekdkaaDoor
