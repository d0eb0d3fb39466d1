/- EntryFinds: the law's own walk. -/
import Derived.Test.YtneanbckmekdkaaDoorEWakes
import Derived.Test.YtneanbckmekdkaaDoorERefF
namespace Go.Proofs.YtneanbckmekdkaaDoor.EN
open Go Go.RowKit Go.Proofs.YtneanbckmekdkaaDoorX Go.Proofs.YtneanbckmekdkaaDoor.NM Go.Proofs.YtneanbckmekdkaaDoorW.PrintWords Go.Proofs.YtneanbckmekdkaaDoorW.PrintLast Go.Proofs.YtneanbckmekdkaaDoorW.PrintMore Go.Proofs.YtneanbckmekdkaaDoor.PEntryForms
set_option linter.unusedVariables false
set_option maxHeartbeats 2000000 in
theorem finds_walk (A : Option Addr) (c : Nat) (l : List S42) (nm : ByteArray) (w : World) (hr : Row w A l) (hc : l.length ≤ c) (hl : l.length ≤ 1048576) (hz : ∀ x ∈ l, x.f1.size ≤ 1048576) (hn : nm.size ≤ 1048576) (hT : Lib.Utf8Tabs 1 2 w) :
    Calls Tryd.prog 4 #[.slice A l.length c, .string nm] w fun e w' => e = .returned (.bool true) ∧ Below w.heap.size w w' := by
  have HR := Aside0.mk hr
  have HC := Aside0.mk hc
  have HL := Aside0.mk hl
  have HZ := Aside0.mk hz
  have HN := Aside0.mk hn
  have HT := Aside0.mk hT
  obtain ⟨J, HJ⟩ : ∃ J, Aside0 (atE l nm = J) := ⟨_, ⟨rfl⟩⟩
  obtain ⟨B, HB⟩ : ∃ B, Aside0 (isE l nm = B) := ⟨_, ⟨rfl⟩⟩
  clear hr hc hl hz hn hT
  go_enter Tryd.func4, Tryd.ntmps4
  go_wp2_with (first
    | (have hz := HB2.out; clear hz; go_at_call 17; refine (wakes_true w2 (Utf8Tabs_below HT.out HB2.out)).mono ?_; rintro e w3 ⟨rfl, hb⟩; have HB3 := Aside0.mk (below_step HB2.out hb); clear hb)
    | (have hz := HB1.out; clear hz; go_at_call 19; refine (refFind_any A c l nm w1 (HR.out.below HB1.out) HC.out (by have := HL.out; omega) (fun x hx => by have := HZ.out x hx; omega) (by have := HN.out; omega)).mono ?_; rw [HJ.out, HB.out]; rintro e w2 ⟨rfl, hb⟩; have HB2 := Aside0.mk (below_step HB1.out hb); clear hb)
    | (go_at_call 18; refine (find_any A c l nm w HR.out (by have := HL.out; omega) (fun x hx => by have := HZ.out x hx; omega) (by have := HN.out; omega)).mono ?_; rw [HJ.out, HB.out]; rintro e w1 ⟨rfl, hb⟩; have HB1 := Aside0.mk hb; clear hb))
  go_ret
  exact ⟨rfl, HB3.out⟩
end Go.Proofs.YtneanbckmekdkaaDoor.EN
