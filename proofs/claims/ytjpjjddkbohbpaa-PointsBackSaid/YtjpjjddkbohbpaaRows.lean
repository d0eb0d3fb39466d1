/-
  No cell of these rows narrows 'for every input' (looked for: loops, veiled, ifaces, maps, wideKeys, modest, calm, conditions, laid).
  DERIVED. THE GIVEN ROWS OF THIS SEAT. 7 by the template 'for every input the law returns true; each argument reads behind the call as it read before'; 0 by the template 'total and deterministic' (their statements: YtjpjjddkbohbpaaTotals.lean).
  GIVEN WITH THE SEED: the statements are not yours to turn. If you find one false, say at which input.
  Laid BY PROGRAM, IN A SANDBOX (cutbox-rows.mjs): the forced cells as the released guide's own fill.sh prints them over the translation f2218d9c3c2d55f1… (all of the seat's roots in one cut). By AI agents, Wed Nov 11 2026. No macro, syntax, notation, axiom, sorry.
-/
import Derived.Test.YtjpjjddkbohbpaaChecked
import GoSem.Claim
import GoSem.ClaimJoined
import GoSem.ClaimMapViews
import Derived.JoinedTies
import Derived.KernelRfl
namespace Go.Proofs.Ytjpjjddkbohbpaa
/- THE CELL 'sum', in the pinned program and in every row, IS THE sha256 OF THE DUMP (.gsa) THAT YtjpjjddkbohbpaaProg.lean LOADS. Nothing in Lean hashes anything: it is a label: what it is worth is what the hold of that sum in a sandbox is worth. -/
noncomputable def Try.pinned : Pinned := { name := "ytjpjjddkbohbpaa", sum := "f2218d9c3c2d55f1d1610e496c991c397c57ef8cb627485de5a65f09b67dfb16", checked := Try.checked }
namespace Rows
def none {H : Type} : Left H := { results := [], args := [] }

/-- 'hayricklaw13.PointsCut': WHATEVER THE INPUT: true; the input reads as it did. -/
def pointsCutSpec : ChangeSpec := { name := "pointsCut", fn := fun _ => fun
  | [d1, d2] => { results := [.lit (.bool true)], args := [d1, d2] }
  | _ => none }
def pointsCutRow : OpenClaim := { program := "ytjpjjddkbohbpaa", sum := "f2218d9c3c2d55f1d1610e496c991c397c57ef8cb627485de5a65f09b67dfb16", func := "hayrick/hayricklaw13.PointsCut", spec := "pointsCut", unfollowed := true, recurses := true, apart := false }
def PointsCutSaid : Prop := pointsCutRow.holds Try.pinned (OpenSpec.ofChange pointsCutSpec)

/-- ITS FALSE NEIGHBOUR: 'it returns false'. Refute it at one input. -/
def pointsCutWrong : ChangeSpec := { name := "pointsCut", fn := fun _ => fun
  | [d1, d2] => { results := [.lit (.bool false)], args := [d1, d2] }
  | _ => none }
def PointsCutWrongFalsely : Prop := pointsCutRow.holds Try.pinned (OpenSpec.ofChange pointsCutWrong)

/-- 'hayricklaw13.PointsWhole': WHATEVER THE INPUT: true; the input reads as it did. -/
def pointsWholeSpec : ChangeSpec := { name := "pointsWhole", fn := fun _ => fun
  | [d1, d2, d3] => { results := [.lit (.bool true)], args := [d1, d2, d3] }
  | _ => none }
def pointsWholeRow : OpenClaim := { program := "ytjpjjddkbohbpaa", sum := "f2218d9c3c2d55f1d1610e496c991c397c57ef8cb627485de5a65f09b67dfb16", func := "hayrick/hayricklaw13.PointsWhole", spec := "pointsWhole", unfollowed := true, recurses := true, apart := false }
def PointsWholeSaid : Prop := pointsWholeRow.holds Try.pinned (OpenSpec.ofChange pointsWholeSpec)

/-- ITS FALSE NEIGHBOUR: 'it returns false'. Refute it at one input. -/
def pointsWholeWrong : ChangeSpec := { name := "pointsWhole", fn := fun _ => fun
  | [d1, d2, d3] => { results := [.lit (.bool false)], args := [d1, d2, d3] }
  | _ => none }
def PointsWholeWrongFalsely : Prop := pointsWholeRow.holds Try.pinned (OpenSpec.ofChange pointsWholeWrong)

/-- 'hayricklaw13.PointsPlaces': WHATEVER THE INPUT: true; the input reads as it did. -/
def pointsPlacesSpec : ChangeSpec := { name := "pointsPlaces", fn := fun _ => fun
  | [d1, d2] => { results := [.lit (.bool true)], args := [d1, d2] }
  | _ => none }
def pointsPlacesRow : OpenClaim := { program := "ytjpjjddkbohbpaa", sum := "f2218d9c3c2d55f1d1610e496c991c397c57ef8cb627485de5a65f09b67dfb16", func := "hayrick/hayricklaw13.PointsPlaces", spec := "pointsPlaces", unfollowed := true, recurses := true, apart := false }
def PointsPlacesSaid : Prop := pointsPlacesRow.holds Try.pinned (OpenSpec.ofChange pointsPlacesSpec)

/-- ITS FALSE NEIGHBOUR: 'it returns false'. Refute it at one input. -/
def pointsPlacesWrong : ChangeSpec := { name := "pointsPlaces", fn := fun _ => fun
  | [d1, d2] => { results := [.lit (.bool false)], args := [d1, d2] }
  | _ => none }
def PointsPlacesWrongFalsely : Prop := pointsPlacesRow.holds Try.pinned (OpenSpec.ofChange pointsPlacesWrong)

/-- 'hayricklaw13.PointsFiles': WHATEVER THE INPUT: true; the input reads as it did. -/
def pointsFilesSpec : ChangeSpec := { name := "pointsFiles", fn := fun _ => fun
  | [d1, d2, d3] => { results := [.lit (.bool true)], args := [d1, d2, d3] }
  | _ => none }
def pointsFilesRow : OpenClaim := { program := "ytjpjjddkbohbpaa", sum := "f2218d9c3c2d55f1d1610e496c991c397c57ef8cb627485de5a65f09b67dfb16", func := "hayrick/hayricklaw13.PointsFiles", spec := "pointsFiles", unfollowed := true, recurses := true, apart := false }
def PointsFilesSaid : Prop := pointsFilesRow.holds Try.pinned (OpenSpec.ofChange pointsFilesSpec)

/-- ITS FALSE NEIGHBOUR: 'it returns false'. Refute it at one input. -/
def pointsFilesWrong : ChangeSpec := { name := "pointsFiles", fn := fun _ => fun
  | [d1, d2, d3] => { results := [.lit (.bool false)], args := [d1, d2, d3] }
  | _ => none }
def PointsFilesWrongFalsely : Prop := pointsFilesRow.holds Try.pinned (OpenSpec.ofChange pointsFilesWrong)

/-- 'hayricklaw13.PointsKnown': WHATEVER THE INPUT: true; the input reads as it did. -/
def pointsKnownSpec : ChangeSpec := { name := "pointsKnown", fn := fun _ => fun
  | [] => { results := [.lit (.bool true)], args := [] }
  | _ => none }
def pointsKnownRow : OpenClaim := { program := "ytjpjjddkbohbpaa", sum := "f2218d9c3c2d55f1d1610e496c991c397c57ef8cb627485de5a65f09b67dfb16", func := "hayrick/hayricklaw13.PointsKnown", spec := "pointsKnown", unfollowed := true, recurses := true, apart := false }
def PointsKnownSaid : Prop := pointsKnownRow.holds Try.pinned (OpenSpec.ofChange pointsKnownSpec)

/-- ITS FALSE NEIGHBOUR: 'it returns false'. Refute it at one input. -/
def pointsKnownWrong : ChangeSpec := { name := "pointsKnown", fn := fun _ => fun
  | [] => { results := [.lit (.bool false)], args := [] }
  | _ => none }
def PointsKnownWrongFalsely : Prop := pointsKnownRow.holds Try.pinned (OpenSpec.ofChange pointsKnownWrong)

/-- 'hayricklaw13.PointsForms': WHATEVER THE INPUT: true; the input reads as it did. -/
def pointsFormsSpec : ChangeSpec := { name := "pointsForms", fn := fun _ => fun
  | [d1, d2, d3] => { results := [.lit (.bool true)], args := [d1, d2, d3] }
  | _ => none }
def pointsFormsRow : OpenClaim := { program := "ytjpjjddkbohbpaa", sum := "f2218d9c3c2d55f1d1610e496c991c397c57ef8cb627485de5a65f09b67dfb16", func := "hayrick/hayricklaw13.PointsForms", spec := "pointsForms", unfollowed := true, recurses := true, apart := false }
def PointsFormsSaid : Prop := pointsFormsRow.holds Try.pinned (OpenSpec.ofChange pointsFormsSpec)

/-- ITS FALSE NEIGHBOUR: 'it returns false'. Refute it at one input. -/
def pointsFormsWrong : ChangeSpec := { name := "pointsForms", fn := fun _ => fun
  | [d1, d2, d3] => { results := [.lit (.bool false)], args := [d1, d2, d3] }
  | _ => none }
def PointsFormsWrongFalsely : Prop := pointsFormsRow.holds Try.pinned (OpenSpec.ofChange pointsFormsWrong)

/-- 'hayricklaw13.PointsBack': WHATEVER THE INPUT: true; the input reads as it did. -/
def pointsBackSpec : ChangeSpec := { name := "pointsBack", fn := fun _ => fun
  | [d1, d2, d3] => { results := [.lit (.bool true)], args := [d1, d2, d3] }
  | _ => none }
def pointsBackRow : OpenClaim := { program := "ytjpjjddkbohbpaa", sum := "f2218d9c3c2d55f1d1610e496c991c397c57ef8cb627485de5a65f09b67dfb16", func := "hayrick/hayricklaw13.PointsBack", spec := "pointsBack", unfollowed := true, recurses := true, apart := false }
def PointsBackSaid : Prop := pointsBackRow.holds Try.pinned (OpenSpec.ofChange pointsBackSpec)

/-- ITS FALSE NEIGHBOUR: 'it returns false'. Refute it at one input. -/
def pointsBackWrong : ChangeSpec := { name := "pointsBack", fn := fun _ => fun
  | [d1, d2, d3] => { results := [.lit (.bool false)], args := [d1, d2, d3] }
  | _ => none }
def PointsBackWrongFalsely : Prop := pointsBackRow.holds Try.pinned (OpenSpec.ofChange pointsBackWrong)

/- THE SECOND FORM. 'bulk': how many values and letters a reading holds, each counted each time it is reached (what is shared counts as often as it is met; a slice's spare places count too). A statement '..UptoSaid' is the law's where the arguments, and the package variables that the reading takes, are together of bulk at most 1048576: NARROWER than '..Said'. Prove '..Said' where nothing that the law and all that it calls make is longer than what came in: it says more and counts as full. Else prove '..UptoSaid'. A law counts once. -/
mutual
def uptoBulk {H : Type} : DataW H → Nat
  | .lit (.string bytes) => bytes.length + 1
  | .lit _ => 1
  | .nil => 1
  | .ptr d => uptoBulk d + 1
  | .slice elems spare => uptoBulkAll elems + uptoBulkAll spare + 1
  | .agg parts => uptoBulkAll parts + 1
  | .iface _ d => uptoBulk d + 1
  | .map entries => uptoBulkEntries entries + 1
  | .held _ => 1
def uptoBulkAll {H : Type} : List (DataW H) → Nat
  | [] => 0
  | d :: r => uptoBulk d + uptoBulkAll r
def uptoBulkEntries {H : Type} : List (Lit × DataW H) → Nat
  | [] => 0
  | x :: r => uptoBulkEntry x + uptoBulkEntries r
def uptoBulkEntry {H : Type} : Lit × DataW H → Nat
  | (.string bytes, d) => bytes.length + uptoBulk d + 1
  | (_, d) => uptoBulk d + 1
 end
def uptoSmall : (H : Type) → List (DataW H) → Bool := fun _ ds => decide (uptoBulkAll ds ≤ 1048576)
def OpenSpec.upto (s : _root_.Go.ChangeSpec) : _root_.Go.OpenSpec := { _root_.Go.OpenSpec.ofChange s with cond := some uptoSmall }

/-- 'hayricklaw13.PointsCut', WHERE WHAT IT READS IS OF BULK AT MOST 1048576: true; the input reads as it did. -/
def pointsCutUptoRow : OpenClaim := { program := "ytjpjjddkbohbpaa", sum := "f2218d9c3c2d55f1d1610e496c991c397c57ef8cb627485de5a65f09b67dfb16", func := "hayrick/hayricklaw13.PointsCut", spec := "pointsCut", unfollowed := true, recurses := true, apart := false, narrowed := true }
def PointsCutUptoSaid : Prop := pointsCutUptoRow.holds Try.pinned (OpenSpec.upto pointsCutSpec)

/-- 'hayricklaw13.PointsWhole', WHERE WHAT IT READS IS OF BULK AT MOST 1048576: true; the input reads as it did. -/
def pointsWholeUptoRow : OpenClaim := { program := "ytjpjjddkbohbpaa", sum := "f2218d9c3c2d55f1d1610e496c991c397c57ef8cb627485de5a65f09b67dfb16", func := "hayrick/hayricklaw13.PointsWhole", spec := "pointsWhole", unfollowed := true, recurses := true, apart := false, narrowed := true }
def PointsWholeUptoSaid : Prop := pointsWholeUptoRow.holds Try.pinned (OpenSpec.upto pointsWholeSpec)

/-- 'hayricklaw13.PointsPlaces', WHERE WHAT IT READS IS OF BULK AT MOST 1048576: true; the input reads as it did. -/
def pointsPlacesUptoRow : OpenClaim := { program := "ytjpjjddkbohbpaa", sum := "f2218d9c3c2d55f1d1610e496c991c397c57ef8cb627485de5a65f09b67dfb16", func := "hayrick/hayricklaw13.PointsPlaces", spec := "pointsPlaces", unfollowed := true, recurses := true, apart := false, narrowed := true }
def PointsPlacesUptoSaid : Prop := pointsPlacesUptoRow.holds Try.pinned (OpenSpec.upto pointsPlacesSpec)

/-- 'hayricklaw13.PointsFiles', WHERE WHAT IT READS IS OF BULK AT MOST 1048576: true; the input reads as it did. -/
def pointsFilesUptoRow : OpenClaim := { program := "ytjpjjddkbohbpaa", sum := "f2218d9c3c2d55f1d1610e496c991c397c57ef8cb627485de5a65f09b67dfb16", func := "hayrick/hayricklaw13.PointsFiles", spec := "pointsFiles", unfollowed := true, recurses := true, apart := false, narrowed := true }
def PointsFilesUptoSaid : Prop := pointsFilesUptoRow.holds Try.pinned (OpenSpec.upto pointsFilesSpec)

/-- 'hayricklaw13.PointsKnown', WHERE WHAT IT READS IS OF BULK AT MOST 1048576: true; the input reads as it did. -/
def pointsKnownUptoRow : OpenClaim := { program := "ytjpjjddkbohbpaa", sum := "f2218d9c3c2d55f1d1610e496c991c397c57ef8cb627485de5a65f09b67dfb16", func := "hayrick/hayricklaw13.PointsKnown", spec := "pointsKnown", unfollowed := true, recurses := true, apart := false, narrowed := true }
def PointsKnownUptoSaid : Prop := pointsKnownUptoRow.holds Try.pinned (OpenSpec.upto pointsKnownSpec)

/-- 'hayricklaw13.PointsForms', WHERE WHAT IT READS IS OF BULK AT MOST 1048576: true; the input reads as it did. -/
def pointsFormsUptoRow : OpenClaim := { program := "ytjpjjddkbohbpaa", sum := "f2218d9c3c2d55f1d1610e496c991c397c57ef8cb627485de5a65f09b67dfb16", func := "hayrick/hayricklaw13.PointsForms", spec := "pointsForms", unfollowed := true, recurses := true, apart := false, narrowed := true }
def PointsFormsUptoSaid : Prop := pointsFormsUptoRow.holds Try.pinned (OpenSpec.upto pointsFormsSpec)

/-- 'hayricklaw13.PointsBack', WHERE WHAT IT READS IS OF BULK AT MOST 1048576: true; the input reads as it did. -/
def pointsBackUptoRow : OpenClaim := { program := "ytjpjjddkbohbpaa", sum := "f2218d9c3c2d55f1d1610e496c991c397c57ef8cb627485de5a65f09b67dfb16", func := "hayrick/hayricklaw13.PointsBack", spec := "pointsBack", unfollowed := true, recurses := true, apart := false, narrowed := true }
def PointsBackUptoSaid : Prop := pointsBackUptoRow.holds Try.pinned (OpenSpec.upto pointsBackSpec)

end Rows
end Go.Proofs.Ytjpjjddkbohbpaa
