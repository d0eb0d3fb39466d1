/-
  No cell of these rows narrows 'for every input' (looked for: loops, veiled, ifaces, maps, wideKeys, modest, calm, conditions, laid).
  DERIVED. THE GIVEN ROWS OF THIS SEAT. 5 by the template 'for every input the law returns true; each argument reads behind the call as it read before'; 0 by the template 'total and deterministic' (their statements: YtencgnhgjegknaaTotals.lean).
  GIVEN WITH THE SEED: the statements are not yours to turn. If you find one false, say at which input.
  Laid BY PROGRAM, IN A SANDBOX (cutbox-rows.mjs): the forced cells as the released guide's own fill.sh prints them over the translation 545140449c39ff63… (all of the seat's roots in one cut). By AI agents, Wed Nov 11 2026. No macro, syntax, notation, axiom, sorry.
-/
import Derived.Test.YtencgnhgjegknaaChecked
import GoSem.Claim
import GoSem.ClaimJoined
import GoSem.ClaimMapViews
import Derived.JoinedTies
import Derived.KernelRfl
namespace Go.Proofs.Ytencgnhgjegknaa
/- THE CELL 'sum', in the pinned program and in every row, IS THE sha256 OF THE DUMP (.gsa) THAT YtencgnhgjegknaaProg.lean LOADS. Nothing in Lean hashes anything: it is a label: what it is worth is what the hold of that sum in a sandbox is worth. -/
noncomputable def Try.pinned : Pinned := { name := "ytencgnhgjegknaa", sum := "545140449c39ff6358c4213e8e212f15d2be7624594b622a7121e4611b989281", checked := Try.checked }
namespace Rows
def none {H : Type} : Left H := { results := [], args := [] }

/-- 'hayricklaw11.InodePuts': WHATEVER THE INPUT: true; the input reads as it did. -/
def inodePutsSpec : ChangeSpec := { name := "inodePuts", fn := fun _ => fun
  | [d1, d2] => { results := [.lit (.bool true)], args := [d1, d2] }
  | _ => none }
def inodePutsRow : OpenClaim := { program := "ytencgnhgjegknaa", sum := "545140449c39ff6358c4213e8e212f15d2be7624594b622a7121e4611b989281", func := "hayrick/hayricklaw11.InodePuts", spec := "inodePuts", unfollowed := true, recurses := true, apart := false }
def InodePutsSaid : Prop := inodePutsRow.holds Try.pinned (OpenSpec.ofChange inodePutsSpec)

/-- ITS FALSE NEIGHBOUR: 'it returns false'. Refute it at one input. -/
def inodePutsWrong : ChangeSpec := { name := "inodePuts", fn := fun _ => fun
  | [d1, d2] => { results := [.lit (.bool false)], args := [d1, d2] }
  | _ => none }
def InodePutsWrongFalsely : Prop := inodePutsRow.holds Try.pinned (OpenSpec.ofChange inodePutsWrong)

/-- 'hayricklaw11.InodeTakes': WHATEVER THE INPUT: true; the input reads as it did. -/
def inodeTakesSpec : ChangeSpec := { name := "inodeTakes", fn := fun _ => fun
  | [d] => { results := [.lit (.bool true)], args := [d] }
  | _ => none }
def inodeTakesRow : OpenClaim := { program := "ytencgnhgjegknaa", sum := "545140449c39ff6358c4213e8e212f15d2be7624594b622a7121e4611b989281", func := "hayrick/hayricklaw11.InodeTakes", spec := "inodeTakes", unfollowed := true, recurses := true, apart := false }
def InodeTakesSaid : Prop := inodeTakesRow.holds Try.pinned (OpenSpec.ofChange inodeTakesSpec)

/-- ITS FALSE NEIGHBOUR: 'it returns false'. Refute it at one input. -/
def inodeTakesWrong : ChangeSpec := { name := "inodeTakes", fn := fun _ => fun
  | [d] => { results := [.lit (.bool false)], args := [d] }
  | _ => none }
def InodeTakesWrongFalsely : Prop := inodeTakesRow.holds Try.pinned (OpenSpec.ofChange inodeTakesWrong)

/-- 'hayricklaw11.InodeBack': WHATEVER THE INPUT: true; the input reads as it did. -/
def inodeBackSpec : ChangeSpec := { name := "inodeBack", fn := fun _ => fun
  | [d1, d2] => { results := [.lit (.bool true)], args := [d1, d2] }
  | _ => none }
def inodeBackRow : OpenClaim := { program := "ytencgnhgjegknaa", sum := "545140449c39ff6358c4213e8e212f15d2be7624594b622a7121e4611b989281", func := "hayrick/hayricklaw11.InodeBack", spec := "inodeBack", unfollowed := true, recurses := true, apart := false }
def InodeBackSaid : Prop := inodeBackRow.holds Try.pinned (OpenSpec.ofChange inodeBackSpec)

/-- ITS FALSE NEIGHBOUR: 'it returns false'. Refute it at one input. -/
def inodeBackWrong : ChangeSpec := { name := "inodeBack", fn := fun _ => fun
  | [d1, d2] => { results := [.lit (.bool false)], args := [d1, d2] }
  | _ => none }
def InodeBackWrongFalsely : Prop := inodeBackRow.holds Try.pinned (OpenSpec.ofChange inodeBackWrong)

/-- 'hayricklaw11.InodeCounts': WHATEVER THE INPUT: true; the input reads as it did. -/
def inodeCountsSpec : ChangeSpec := { name := "inodeCounts", fn := fun _ => fun
  | [d1, d2] => { results := [.lit (.bool true)], args := [d1, d2] }
  | _ => none }
def inodeCountsRow : OpenClaim := { program := "ytencgnhgjegknaa", sum := "545140449c39ff6358c4213e8e212f15d2be7624594b622a7121e4611b989281", func := "hayrick/hayricklaw11.InodeCounts", spec := "inodeCounts", unfollowed := true, recurses := true, apart := false }
def InodeCountsSaid : Prop := inodeCountsRow.holds Try.pinned (OpenSpec.ofChange inodeCountsSpec)

/-- ITS FALSE NEIGHBOUR: 'it returns false'. Refute it at one input. -/
def inodeCountsWrong : ChangeSpec := { name := "inodeCounts", fn := fun _ => fun
  | [d1, d2] => { results := [.lit (.bool false)], args := [d1, d2] }
  | _ => none }
def InodeCountsWrongFalsely : Prop := inodeCountsRow.holds Try.pinned (OpenSpec.ofChange inodeCountsWrong)

/-- 'hayricklaw11.InodeKnown': WHATEVER THE INPUT: true; the input reads as it did. -/
def inodeKnownSpec : ChangeSpec := { name := "inodeKnown", fn := fun _ => fun
  | [] => { results := [.lit (.bool true)], args := [] }
  | _ => none }
def inodeKnownRow : OpenClaim := { program := "ytencgnhgjegknaa", sum := "545140449c39ff6358c4213e8e212f15d2be7624594b622a7121e4611b989281", func := "hayrick/hayricklaw11.InodeKnown", spec := "inodeKnown", unfollowed := true, recurses := true, apart := false }
def InodeKnownSaid : Prop := inodeKnownRow.holds Try.pinned (OpenSpec.ofChange inodeKnownSpec)

/-- ITS FALSE NEIGHBOUR: 'it returns false'. Refute it at one input. -/
def inodeKnownWrong : ChangeSpec := { name := "inodeKnown", fn := fun _ => fun
  | [] => { results := [.lit (.bool false)], args := [] }
  | _ => none }
def InodeKnownWrongFalsely : Prop := inodeKnownRow.holds Try.pinned (OpenSpec.ofChange inodeKnownWrong)

/- THE SECOND FORM. 'bulk': how many values and letters a reading holds, each counted each time it is reached (what is shared counts as often as it is met; a slice's spare places count too). A statement '..UptoSaid' is the law's where the arguments, and the package variables that the reading takes, are together of bulk at most 1048576: NARROWER than '..Said'. Prove '..Said' where nothing that the law and all that it calls make is longer than what came in: it says more and counts as full. Else prove '..UptoSaid'. A law counts once. -/
mutual
def uptoBulk {H : Type} : DataW H → Nat
  | .lit (.string bytes) => bytes.length + 1
  | .lit _ => 1
  | .nil => 1
  | .ptr d => uptoBulk d + 1
  | .slice elems spare => uptoBulkAll elems + uptoBulkAll spare + 1
  | .agg parts => uptoBulkAll parts + 1
  | .iface _ d => uptoBulk d + 1
  | .map entries => uptoBulkEntries entries + 1
  | .held _ => 1
def uptoBulkAll {H : Type} : List (DataW H) → Nat
  | [] => 0
  | d :: r => uptoBulk d + uptoBulkAll r
def uptoBulkEntries {H : Type} : List (Lit × DataW H) → Nat
  | [] => 0
  | x :: r => uptoBulkEntry x + uptoBulkEntries r
def uptoBulkEntry {H : Type} : Lit × DataW H → Nat
  | (.string bytes, d) => bytes.length + uptoBulk d + 1
  | (_, d) => uptoBulk d + 1
 end
def uptoSmall : (H : Type) → List (DataW H) → Bool := fun _ ds => decide (uptoBulkAll ds ≤ 1048576)
def OpenSpec.upto (s : _root_.Go.ChangeSpec) : _root_.Go.OpenSpec := { _root_.Go.OpenSpec.ofChange s with cond := some uptoSmall }

/-- 'hayricklaw11.InodePuts', WHERE WHAT IT READS IS OF BULK AT MOST 1048576: true; the input reads as it did. -/
def inodePutsUptoRow : OpenClaim := { program := "ytencgnhgjegknaa", sum := "545140449c39ff6358c4213e8e212f15d2be7624594b622a7121e4611b989281", func := "hayrick/hayricklaw11.InodePuts", spec := "inodePuts", unfollowed := true, recurses := true, apart := false, narrowed := true }
def InodePutsUptoSaid : Prop := inodePutsUptoRow.holds Try.pinned (OpenSpec.upto inodePutsSpec)

/-- 'hayricklaw11.InodeTakes', WHERE WHAT IT READS IS OF BULK AT MOST 1048576: true; the input reads as it did. -/
def inodeTakesUptoRow : OpenClaim := { program := "ytencgnhgjegknaa", sum := "545140449c39ff6358c4213e8e212f15d2be7624594b622a7121e4611b989281", func := "hayrick/hayricklaw11.InodeTakes", spec := "inodeTakes", unfollowed := true, recurses := true, apart := false, narrowed := true }
def InodeTakesUptoSaid : Prop := inodeTakesUptoRow.holds Try.pinned (OpenSpec.upto inodeTakesSpec)

/-- 'hayricklaw11.InodeBack', WHERE WHAT IT READS IS OF BULK AT MOST 1048576: true; the input reads as it did. -/
def inodeBackUptoRow : OpenClaim := { program := "ytencgnhgjegknaa", sum := "545140449c39ff6358c4213e8e212f15d2be7624594b622a7121e4611b989281", func := "hayrick/hayricklaw11.InodeBack", spec := "inodeBack", unfollowed := true, recurses := true, apart := false, narrowed := true }
def InodeBackUptoSaid : Prop := inodeBackUptoRow.holds Try.pinned (OpenSpec.upto inodeBackSpec)

/-- 'hayricklaw11.InodeCounts', WHERE WHAT IT READS IS OF BULK AT MOST 1048576: true; the input reads as it did. -/
def inodeCountsUptoRow : OpenClaim := { program := "ytencgnhgjegknaa", sum := "545140449c39ff6358c4213e8e212f15d2be7624594b622a7121e4611b989281", func := "hayrick/hayricklaw11.InodeCounts", spec := "inodeCounts", unfollowed := true, recurses := true, apart := false, narrowed := true }
def InodeCountsUptoSaid : Prop := inodeCountsUptoRow.holds Try.pinned (OpenSpec.upto inodeCountsSpec)

/-- 'hayricklaw11.InodeKnown', WHERE WHAT IT READS IS OF BULK AT MOST 1048576: true; the input reads as it did. -/
def inodeKnownUptoRow : OpenClaim := { program := "ytencgnhgjegknaa", sum := "545140449c39ff6358c4213e8e212f15d2be7624594b622a7121e4611b989281", func := "hayrick/hayricklaw11.InodeKnown", spec := "inodeKnown", unfollowed := true, recurses := true, apart := false, narrowed := true }
def InodeKnownUptoSaid : Prop := inodeKnownUptoRow.holds Try.pinned (OpenSpec.upto inodeKnownSpec)

end Rows
end Go.Proofs.Ytencgnhgjegknaa
