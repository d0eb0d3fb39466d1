/-
  No cell of these rows narrows 'for every input' (looked for: loops, veiled, ifaces, maps, wideKeys, modest, calm, conditions, laid).
  DERIVED. THE GIVEN ROWS OF THIS SEAT. 6 by the template 'for every input the law returns true; each argument reads behind the call as it read before'; 0 by the template 'total and deterministic' (their statements: YtgekdenhkgkpiaaTotals.lean).
  GIVEN WITH THE SEED: the statements are not yours to turn. If you find one false, say at which input.
  Laid BY PROGRAM, IN A SANDBOX (cutbox-rows.mjs): the forced cells as the released guide's own fill.sh prints them over the translation 9b2bbc1a9a6aea9f… (all of the seat's roots in one cut). By AI agents, Wed Nov 11 2026. No macro, syntax, notation, axiom, sorry.
-/
import Derived.Test.YtgekdenhkgkpiaaChecked
import GoSem.Claim
import GoSem.ClaimJoined
import GoSem.ClaimMapViews
import Derived.JoinedTies
import Derived.KernelRfl
namespace Go.Proofs.Ytgekdenhkgkpiaa
/- THE CELL 'sum', in the pinned program and in every row, IS THE sha256 OF THE DUMP (.gsa) THAT YtgekdenhkgkpiaaProg.lean LOADS. Nothing in Lean hashes anything: it is a label: what it is worth is what the hold of that sum in a sandbox is worth. -/
noncomputable def Try.pinned : Pinned := { name := "ytgekdenhkgkpiaa", sum := "9b2bbc1a9a6aea9fb51a6c86f91afc422e5ba8b598dc953c41046501dba3d539", checked := Try.checked }
namespace Rows
def none {H : Type} : Left H := { results := [], args := [] }

/-- 'hayricklaw21.RoomCounts': WHATEVER THE INPUT: true; the input reads as it did. -/
def roomCountsSpec : ChangeSpec := { name := "roomCounts", fn := fun _ => fun
  | [d1, d2, d3] => { results := [.lit (.bool true)], args := [d1, d2, d3] }
  | _ => none }
def roomCountsRow : OpenClaim := { program := "ytgekdenhkgkpiaa", sum := "9b2bbc1a9a6aea9fb51a6c86f91afc422e5ba8b598dc953c41046501dba3d539", func := "hayrick/hayricklaw21.RoomCounts", spec := "roomCounts", apart := false }
def RoomCountsSaid : Prop := roomCountsRow.holds Try.pinned (OpenSpec.ofChange roomCountsSpec)

/-- ITS FALSE NEIGHBOUR: 'it returns false'. Refute it at one input. -/
def roomCountsWrong : ChangeSpec := { name := "roomCounts", fn := fun _ => fun
  | [d1, d2, d3] => { results := [.lit (.bool false)], args := [d1, d2, d3] }
  | _ => none }
def RoomCountsWrongFalsely : Prop := roomCountsRow.holds Try.pinned (OpenSpec.ofChange roomCountsWrong)

/-- 'hayricklaw21.RoomParts': WHATEVER THE INPUT: true; the input reads as it did. -/
def roomPartsSpec : ChangeSpec := { name := "roomParts", fn := fun _ => fun
  | [d1, d2] => { results := [.lit (.bool true)], args := [d1, d2] }
  | _ => none }
def roomPartsRow : OpenClaim := { program := "ytgekdenhkgkpiaa", sum := "9b2bbc1a9a6aea9fb51a6c86f91afc422e5ba8b598dc953c41046501dba3d539", func := "hayrick/hayricklaw21.RoomParts", spec := "roomParts", apart := false }
def RoomPartsSaid : Prop := roomPartsRow.holds Try.pinned (OpenSpec.ofChange roomPartsSpec)

/-- ITS FALSE NEIGHBOUR: 'it returns false'. Refute it at one input. -/
def roomPartsWrong : ChangeSpec := { name := "roomParts", fn := fun _ => fun
  | [d1, d2] => { results := [.lit (.bool false)], args := [d1, d2] }
  | _ => none }
def RoomPartsWrongFalsely : Prop := roomPartsRow.holds Try.pinned (OpenSpec.ofChange roomPartsWrong)

/-- 'hayricklaw21.RoomQuotas': WHATEVER THE INPUT: true; the input reads as it did. -/
def roomQuotasSpec : ChangeSpec := { name := "roomQuotas", fn := fun _ => fun
  | [d1, d2, d3] => { results := [.lit (.bool true)], args := [d1, d2, d3] }
  | _ => none }
def roomQuotasRow : OpenClaim := { program := "ytgekdenhkgkpiaa", sum := "9b2bbc1a9a6aea9fb51a6c86f91afc422e5ba8b598dc953c41046501dba3d539", func := "hayrick/hayricklaw21.RoomQuotas", spec := "roomQuotas", apart := false }
def RoomQuotasSaid : Prop := roomQuotasRow.holds Try.pinned (OpenSpec.ofChange roomQuotasSpec)

/-- ITS FALSE NEIGHBOUR: 'it returns false'. Refute it at one input. -/
def roomQuotasWrong : ChangeSpec := { name := "roomQuotas", fn := fun _ => fun
  | [d1, d2, d3] => { results := [.lit (.bool false)], args := [d1, d2, d3] }
  | _ => none }
def RoomQuotasWrongFalsely : Prop := roomQuotasRow.holds Try.pinned (OpenSpec.ofChange roomQuotasWrong)

/-- 'hayricklaw21.RoomSafe': WHATEVER THE INPUT: true; the input reads as it did. -/
def roomSafeSpec : ChangeSpec := { name := "roomSafe", fn := fun _ => fun
  | [d1, d2] => { results := [.lit (.bool true)], args := [d1, d2] }
  | _ => none }
def roomSafeRow : OpenClaim := { program := "ytgekdenhkgkpiaa", sum := "9b2bbc1a9a6aea9fb51a6c86f91afc422e5ba8b598dc953c41046501dba3d539", func := "hayrick/hayricklaw21.RoomSafe", spec := "roomSafe", apart := false }
def RoomSafeSaid : Prop := roomSafeRow.holds Try.pinned (OpenSpec.ofChange roomSafeSpec)

/-- ITS FALSE NEIGHBOUR: 'it returns false'. Refute it at one input. -/
def roomSafeWrong : ChangeSpec := { name := "roomSafe", fn := fun _ => fun
  | [d1, d2] => { results := [.lit (.bool false)], args := [d1, d2] }
  | _ => none }
def RoomSafeWrongFalsely : Prop := roomSafeRow.holds Try.pinned (OpenSpec.ofChange roomSafeWrong)

/-- 'hayricklaw21.RoomGrows': WHATEVER THE INPUT: true; the input reads as it did. -/
def roomGrowsSpec : ChangeSpec := { name := "roomGrows", fn := fun _ => fun
  | [d1, d2, d3, d4, d5, d6, d7] => { results := [.lit (.bool true)], args := [d1, d2, d3, d4, d5, d6, d7] }
  | _ => none }
def roomGrowsRow : OpenClaim := { program := "ytgekdenhkgkpiaa", sum := "9b2bbc1a9a6aea9fb51a6c86f91afc422e5ba8b598dc953c41046501dba3d539", func := "hayrick/hayricklaw21.RoomGrows", spec := "roomGrows", apart := false }
def RoomGrowsSaid : Prop := roomGrowsRow.holds Try.pinned (OpenSpec.ofChange roomGrowsSpec)

/-- ITS FALSE NEIGHBOUR: 'it returns false'. Refute it at one input. -/
def roomGrowsWrong : ChangeSpec := { name := "roomGrows", fn := fun _ => fun
  | [d1, d2, d3, d4, d5, d6, d7] => { results := [.lit (.bool false)], args := [d1, d2, d3, d4, d5, d6, d7] }
  | _ => none }
def RoomGrowsWrongFalsely : Prop := roomGrowsRow.holds Try.pinned (OpenSpec.ofChange roomGrowsWrong)

/-- 'hayricklaw21.RoomKnown': WHATEVER THE INPUT: true; the input reads as it did. -/
def roomKnownSpec : ChangeSpec := { name := "roomKnown", fn := fun _ => fun
  | [] => { results := [.lit (.bool true)], args := [] }
  | _ => none }
def roomKnownRow : OpenClaim := { program := "ytgekdenhkgkpiaa", sum := "9b2bbc1a9a6aea9fb51a6c86f91afc422e5ba8b598dc953c41046501dba3d539", func := "hayrick/hayricklaw21.RoomKnown", spec := "roomKnown", apart := false }
def RoomKnownSaid : Prop := roomKnownRow.holds Try.pinned (OpenSpec.ofChange roomKnownSpec)

/-- ITS FALSE NEIGHBOUR: 'it returns false'. Refute it at one input. -/
def roomKnownWrong : ChangeSpec := { name := "roomKnown", fn := fun _ => fun
  | [] => { results := [.lit (.bool false)], args := [] }
  | _ => none }
def RoomKnownWrongFalsely : Prop := roomKnownRow.holds Try.pinned (OpenSpec.ofChange roomKnownWrong)

/- THE SECOND FORM. 'bulk': how many values and letters a reading holds, each counted each time it is reached (what is shared counts as often as it is met; a slice's spare places count too). A statement '..UptoSaid' is the law's where the arguments, and the package variables that the reading takes, are together of bulk at most 1048576: NARROWER than '..Said'. Prove '..Said' where nothing that the law and all that it calls make is longer than what came in: it says more and counts as full. Else prove '..UptoSaid'. A law counts once. -/
mutual
def uptoBulk {H : Type} : DataW H → Nat
  | .lit (.string bytes) => bytes.length + 1
  | .lit _ => 1
  | .nil => 1
  | .ptr d => uptoBulk d + 1
  | .slice elems spare => uptoBulkAll elems + uptoBulkAll spare + 1
  | .agg parts => uptoBulkAll parts + 1
  | .iface _ d => uptoBulk d + 1
  | .map entries => uptoBulkEntries entries + 1
  | .held _ => 1
def uptoBulkAll {H : Type} : List (DataW H) → Nat
  | [] => 0
  | d :: r => uptoBulk d + uptoBulkAll r
def uptoBulkEntries {H : Type} : List (Lit × DataW H) → Nat
  | [] => 0
  | x :: r => uptoBulkEntry x + uptoBulkEntries r
def uptoBulkEntry {H : Type} : Lit × DataW H → Nat
  | (.string bytes, d) => bytes.length + uptoBulk d + 1
  | (_, d) => uptoBulk d + 1
 end
def uptoSmall : (H : Type) → List (DataW H) → Bool := fun _ ds => decide (uptoBulkAll ds ≤ 1048576)
def OpenSpec.upto (s : _root_.Go.ChangeSpec) : _root_.Go.OpenSpec := { _root_.Go.OpenSpec.ofChange s with cond := some uptoSmall }

/-- 'hayricklaw21.RoomCounts', WHERE WHAT IT READS IS OF BULK AT MOST 1048576: true; the input reads as it did. -/
def roomCountsUptoRow : OpenClaim := { program := "ytgekdenhkgkpiaa", sum := "9b2bbc1a9a6aea9fb51a6c86f91afc422e5ba8b598dc953c41046501dba3d539", func := "hayrick/hayricklaw21.RoomCounts", spec := "roomCounts", apart := false, narrowed := true }
def RoomCountsUptoSaid : Prop := roomCountsUptoRow.holds Try.pinned (OpenSpec.upto roomCountsSpec)

/-- 'hayricklaw21.RoomParts', WHERE WHAT IT READS IS OF BULK AT MOST 1048576: true; the input reads as it did. -/
def roomPartsUptoRow : OpenClaim := { program := "ytgekdenhkgkpiaa", sum := "9b2bbc1a9a6aea9fb51a6c86f91afc422e5ba8b598dc953c41046501dba3d539", func := "hayrick/hayricklaw21.RoomParts", spec := "roomParts", apart := false, narrowed := true }
def RoomPartsUptoSaid : Prop := roomPartsUptoRow.holds Try.pinned (OpenSpec.upto roomPartsSpec)

/-- 'hayricklaw21.RoomQuotas', WHERE WHAT IT READS IS OF BULK AT MOST 1048576: true; the input reads as it did. -/
def roomQuotasUptoRow : OpenClaim := { program := "ytgekdenhkgkpiaa", sum := "9b2bbc1a9a6aea9fb51a6c86f91afc422e5ba8b598dc953c41046501dba3d539", func := "hayrick/hayricklaw21.RoomQuotas", spec := "roomQuotas", apart := false, narrowed := true }
def RoomQuotasUptoSaid : Prop := roomQuotasUptoRow.holds Try.pinned (OpenSpec.upto roomQuotasSpec)

/-- 'hayricklaw21.RoomSafe', WHERE WHAT IT READS IS OF BULK AT MOST 1048576: true; the input reads as it did. -/
def roomSafeUptoRow : OpenClaim := { program := "ytgekdenhkgkpiaa", sum := "9b2bbc1a9a6aea9fb51a6c86f91afc422e5ba8b598dc953c41046501dba3d539", func := "hayrick/hayricklaw21.RoomSafe", spec := "roomSafe", apart := false, narrowed := true }
def RoomSafeUptoSaid : Prop := roomSafeUptoRow.holds Try.pinned (OpenSpec.upto roomSafeSpec)

/-- 'hayricklaw21.RoomGrows', WHERE WHAT IT READS IS OF BULK AT MOST 1048576: true; the input reads as it did. -/
def roomGrowsUptoRow : OpenClaim := { program := "ytgekdenhkgkpiaa", sum := "9b2bbc1a9a6aea9fb51a6c86f91afc422e5ba8b598dc953c41046501dba3d539", func := "hayrick/hayricklaw21.RoomGrows", spec := "roomGrows", apart := false, narrowed := true }
def RoomGrowsUptoSaid : Prop := roomGrowsUptoRow.holds Try.pinned (OpenSpec.upto roomGrowsSpec)

/-- 'hayricklaw21.RoomKnown', WHERE WHAT IT READS IS OF BULK AT MOST 1048576: true; the input reads as it did. -/
def roomKnownUptoRow : OpenClaim := { program := "ytgekdenhkgkpiaa", sum := "9b2bbc1a9a6aea9fb51a6c86f91afc422e5ba8b598dc953c41046501dba3d539", func := "hayrick/hayricklaw21.RoomKnown", spec := "roomKnown", apart := false, narrowed := true }
def RoomKnownUptoSaid : Prop := roomKnownUptoRow.holds Try.pinned (OpenSpec.upto roomKnownSpec)

end Rows
end Go.Proofs.Ytgekdenhkgkpiaa
