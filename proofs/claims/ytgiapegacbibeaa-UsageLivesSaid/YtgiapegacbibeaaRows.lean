/-
  No cell of these rows narrows 'for every input' (looked for: loops, veiled, ifaces, maps, wideKeys, modest, calm, conditions, laid).
  DERIVED. THE GIVEN ROWS OF THIS SEAT. 4 by the template 'for every input the law returns true; each argument reads behind the call as it read before'; 0 by the template 'total and deterministic' (their statements: YtgiapegacbibeaaTotals.lean).
  GIVEN WITH THE SEED: the statements are not yours to turn. If you find one false, say at which input.
  Laid BY PROGRAM, IN A SANDBOX (cutbox-rows.mjs): the forced cells as the released guide's own fill.sh prints them over the translation ec69788426248879… (all of the seat's roots in one cut). By AI agents, Wed Nov 11 2026. No macro, syntax, notation, axiom, sorry.
-/
import Derived.Test.YtgiapegacbibeaaChecked
import GoSem.Claim
import GoSem.ClaimJoined
import GoSem.ClaimMapViews
import Derived.JoinedTies
import Derived.KernelRfl
namespace Go.Proofs.Ytgiapegacbibeaa
/- THE CELL 'sum', in the pinned program and in every row, IS THE sha256 OF THE DUMP (.gsa) THAT YtgiapegacbibeaaProg.lean LOADS. Nothing in Lean hashes anything: it is a label: what it is worth is what the hold of that sum in a sandbox is worth. -/
noncomputable def Try.pinned : Pinned := { name := "ytgiapegacbibeaa", sum := "ec69788426248879b5c3fc8fe29f87ca94f25f1a6c68bc17d9964173bb82eb91", checked := Try.checked }
namespace Rows
def none {H : Type} : Left H := { results := [], args := [] }

/-- 'hayricklaw15.UsagePlaces': WHATEVER THE INPUT: true; the input reads as it did. -/
def usagePlacesSpec : ChangeSpec := { name := "usagePlaces", fn := fun _ => fun
  | [d1, d2, d3, d4] => { results := [.lit (.bool true)], args := [d1, d2, d3, d4] }
  | _ => none }
def usagePlacesRow : OpenClaim := { program := "ytgiapegacbibeaa", sum := "ec69788426248879b5c3fc8fe29f87ca94f25f1a6c68bc17d9964173bb82eb91", func := "hayrick/hayricklaw15.UsagePlaces", spec := "usagePlaces", unfollowed := true, recurses := true, apart := false }
def UsagePlacesSaid : Prop := usagePlacesRow.holds Try.pinned (OpenSpec.ofChange usagePlacesSpec)

/-- ITS FALSE NEIGHBOUR: 'it returns false'. Refute it at one input. -/
def usagePlacesWrong : ChangeSpec := { name := "usagePlaces", fn := fun _ => fun
  | [d1, d2, d3, d4] => { results := [.lit (.bool false)], args := [d1, d2, d3, d4] }
  | _ => none }
def UsagePlacesWrongFalsely : Prop := usagePlacesRow.holds Try.pinned (OpenSpec.ofChange usagePlacesWrong)

/-- 'hayricklaw15.UsageLives': WHATEVER THE INPUT: true; the input reads as it did. -/
def usageLivesSpec : ChangeSpec := { name := "usageLives", fn := fun _ => fun
  | [d1, d2, d3] => { results := [.lit (.bool true)], args := [d1, d2, d3] }
  | _ => none }
def usageLivesRow : OpenClaim := { program := "ytgiapegacbibeaa", sum := "ec69788426248879b5c3fc8fe29f87ca94f25f1a6c68bc17d9964173bb82eb91", func := "hayrick/hayricklaw15.UsageLives", spec := "usageLives", unfollowed := true, recurses := true, apart := false }
def UsageLivesSaid : Prop := usageLivesRow.holds Try.pinned (OpenSpec.ofChange usageLivesSpec)

/-- ITS FALSE NEIGHBOUR: 'it returns false'. Refute it at one input. -/
def usageLivesWrong : ChangeSpec := { name := "usageLives", fn := fun _ => fun
  | [d1, d2, d3] => { results := [.lit (.bool false)], args := [d1, d2, d3] }
  | _ => none }
def UsageLivesWrongFalsely : Prop := usageLivesRow.holds Try.pinned (OpenSpec.ofChange usageLivesWrong)

/-- 'hayricklaw15.UsageBack': WHATEVER THE INPUT: true; the input reads as it did. -/
def usageBackSpec : ChangeSpec := { name := "usageBack", fn := fun _ => fun
  | [d1, d2, d3] => { results := [.lit (.bool true)], args := [d1, d2, d3] }
  | _ => none }
def usageBackRow : OpenClaim := { program := "ytgiapegacbibeaa", sum := "ec69788426248879b5c3fc8fe29f87ca94f25f1a6c68bc17d9964173bb82eb91", func := "hayrick/hayricklaw15.UsageBack", spec := "usageBack", unfollowed := true, recurses := true, apart := false }
def UsageBackSaid : Prop := usageBackRow.holds Try.pinned (OpenSpec.ofChange usageBackSpec)

/-- ITS FALSE NEIGHBOUR: 'it returns false'. Refute it at one input. -/
def usageBackWrong : ChangeSpec := { name := "usageBack", fn := fun _ => fun
  | [d1, d2, d3] => { results := [.lit (.bool false)], args := [d1, d2, d3] }
  | _ => none }
def UsageBackWrongFalsely : Prop := usageBackRow.holds Try.pinned (OpenSpec.ofChange usageBackWrong)

/-- 'hayricklaw15.UsageKnown': WHATEVER THE INPUT: true; the input reads as it did. -/
def usageKnownSpec : ChangeSpec := { name := "usageKnown", fn := fun _ => fun
  | [] => { results := [.lit (.bool true)], args := [] }
  | _ => none }
def usageKnownRow : OpenClaim := { program := "ytgiapegacbibeaa", sum := "ec69788426248879b5c3fc8fe29f87ca94f25f1a6c68bc17d9964173bb82eb91", func := "hayrick/hayricklaw15.UsageKnown", spec := "usageKnown", unfollowed := true, recurses := true, apart := false }
def UsageKnownSaid : Prop := usageKnownRow.holds Try.pinned (OpenSpec.ofChange usageKnownSpec)

/-- ITS FALSE NEIGHBOUR: 'it returns false'. Refute it at one input. -/
def usageKnownWrong : ChangeSpec := { name := "usageKnown", fn := fun _ => fun
  | [] => { results := [.lit (.bool false)], args := [] }
  | _ => none }
def UsageKnownWrongFalsely : Prop := usageKnownRow.holds Try.pinned (OpenSpec.ofChange usageKnownWrong)

/- THE SECOND FORM. 'bulk': how many values and letters a reading holds, each counted each time it is reached (what is shared counts as often as it is met; a slice's spare places count too). A statement '..UptoSaid' is the law's where the arguments, and the package variables that the reading takes, are together of bulk at most 1048576: NARROWER than '..Said'. Prove '..Said' where nothing that the law and all that it calls make is longer than what came in: it says more and counts as full. Else prove '..UptoSaid'. A law counts once. -/
mutual
def uptoBulk {H : Type} : DataW H → Nat
  | .lit (.string bytes) => bytes.length + 1
  | .lit _ => 1
  | .nil => 1
  | .ptr d => uptoBulk d + 1
  | .slice elems spare => uptoBulkAll elems + uptoBulkAll spare + 1
  | .agg parts => uptoBulkAll parts + 1
  | .iface _ d => uptoBulk d + 1
  | .map entries => uptoBulkEntries entries + 1
  | .held _ => 1
def uptoBulkAll {H : Type} : List (DataW H) → Nat
  | [] => 0
  | d :: r => uptoBulk d + uptoBulkAll r
def uptoBulkEntries {H : Type} : List (Lit × DataW H) → Nat
  | [] => 0
  | x :: r => uptoBulkEntry x + uptoBulkEntries r
def uptoBulkEntry {H : Type} : Lit × DataW H → Nat
  | (.string bytes, d) => bytes.length + uptoBulk d + 1
  | (_, d) => uptoBulk d + 1
 end
def uptoSmall : (H : Type) → List (DataW H) → Bool := fun _ ds => decide (uptoBulkAll ds ≤ 1048576)
def OpenSpec.upto (s : _root_.Go.ChangeSpec) : _root_.Go.OpenSpec := { _root_.Go.OpenSpec.ofChange s with cond := some uptoSmall }

/-- 'hayricklaw15.UsagePlaces', WHERE WHAT IT READS IS OF BULK AT MOST 1048576: true; the input reads as it did. -/
def usagePlacesUptoRow : OpenClaim := { program := "ytgiapegacbibeaa", sum := "ec69788426248879b5c3fc8fe29f87ca94f25f1a6c68bc17d9964173bb82eb91", func := "hayrick/hayricklaw15.UsagePlaces", spec := "usagePlaces", unfollowed := true, recurses := true, apart := false, narrowed := true }
def UsagePlacesUptoSaid : Prop := usagePlacesUptoRow.holds Try.pinned (OpenSpec.upto usagePlacesSpec)

/-- 'hayricklaw15.UsageLives', WHERE WHAT IT READS IS OF BULK AT MOST 1048576: true; the input reads as it did. -/
def usageLivesUptoRow : OpenClaim := { program := "ytgiapegacbibeaa", sum := "ec69788426248879b5c3fc8fe29f87ca94f25f1a6c68bc17d9964173bb82eb91", func := "hayrick/hayricklaw15.UsageLives", spec := "usageLives", unfollowed := true, recurses := true, apart := false, narrowed := true }
def UsageLivesUptoSaid : Prop := usageLivesUptoRow.holds Try.pinned (OpenSpec.upto usageLivesSpec)

/-- 'hayricklaw15.UsageBack', WHERE WHAT IT READS IS OF BULK AT MOST 1048576: true; the input reads as it did. -/
def usageBackUptoRow : OpenClaim := { program := "ytgiapegacbibeaa", sum := "ec69788426248879b5c3fc8fe29f87ca94f25f1a6c68bc17d9964173bb82eb91", func := "hayrick/hayricklaw15.UsageBack", spec := "usageBack", unfollowed := true, recurses := true, apart := false, narrowed := true }
def UsageBackUptoSaid : Prop := usageBackUptoRow.holds Try.pinned (OpenSpec.upto usageBackSpec)

/-- 'hayricklaw15.UsageKnown', WHERE WHAT IT READS IS OF BULK AT MOST 1048576: true; the input reads as it did. -/
def usageKnownUptoRow : OpenClaim := { program := "ytgiapegacbibeaa", sum := "ec69788426248879b5c3fc8fe29f87ca94f25f1a6c68bc17d9964173bb82eb91", func := "hayrick/hayricklaw15.UsageKnown", spec := "usageKnown", unfollowed := true, recurses := true, apart := false, narrowed := true }
def UsageKnownUptoSaid : Prop := usageKnownUptoRow.holds Try.pinned (OpenSpec.upto usageKnownSpec)

end Rows
end Go.Proofs.Ytgiapegacbibeaa
