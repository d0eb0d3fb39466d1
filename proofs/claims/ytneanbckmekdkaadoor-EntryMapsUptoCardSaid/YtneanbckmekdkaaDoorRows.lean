/-
  NARROWER THAN 'FOR EVERY INPUT', by the rows' own cells (each row's printed sentence says how): EntryForms: laid · EntryFinds: laid · EntryBack: laid · EntryKnown: laid · EntryChanges: laid · EntryMaps: laid.
  DERIVED. THE GIVEN ROWS OF THIS SEAT. 6 by the template 'for every input the law returns true; each argument reads behind the call as it read before'; 0 by the template 'total and deterministic' (their statements: YtneanbckmekdkaaDoorTotals.lean).
  GIVEN WITH THE SEED: the statements are not yours to turn. If you find one false, say at which input.
  Laid BY PROGRAM, IN A SANDBOX (cutbox-rows.mjs): the forced cells as the released guide's own fill.sh prints them over the translation a8c1d2e2c8223ee4… (all of the seat's roots in one cut). By AI agents, Wed Nov 11 2026. No macro, syntax, notation, axiom, sorry.
-/
import Derived.Test.YtneanbckmekdkaaDoorChecked
import GoSem.PinnedTables
import GoSem.Claim
import GoSem.ClaimJoined
import GoSem.ClaimMapViews
import Derived.JoinedTies
import Derived.KernelRfl
namespace Go.Proofs.YtneanbckmekdkaaDoor
/- THE CELL 'sum', in the pinned program and in every row, IS THE sha256 OF THE DUMP (.gsa) THAT YtneanbckmekdkaaDoorProg.lean LOADS. Nothing in Lean hashes anything: it is a label: what it is worth is what the hold of that sum in a sandbox is worth. -/
noncomputable def Tryd.pinned : Pinned := { name := "ytneanbckmekdkaadoor", sum := "a8c1d2e2c8223ee445c09c0b5f442712343bf4c31bf63e3dee33167929fda66a", checked := Tryd.checked }
namespace Rows
def none {H : Type} : Left H := { results := [], args := [] }

/- WHAT THE LISTED PACKAGE-LEVEL VARIABLES READ AS WHEN THE CALL BEGINS. Each datum BY PROGRAM (the guide's laid-datum.mjs) off the statement by which the dump's own 'gosem.cut.vars' lays the variable. In a bare row this is a premise. The card (YtneanbckmekdkaaDoorCards.lean) ties it to the program's text. -/
def laid_unicode_utf8_acceptRanges {H : Type} : DataW H := .agg [.agg [.lit (.int .u8 128), .lit (.int .u8 191)], .agg [.lit (.int .u8 160), .lit (.int .u8 191)], .agg [.lit (.int .u8 128), .lit (.int .u8 159)], .agg [.lit (.int .u8 144), .lit (.int .u8 191)], .agg [.lit (.int .u8 128), .lit (.int .u8 143)], .agg [.lit (.int .u8 0), .lit (.int .u8 0)], .agg [.lit (.int .u8 0), .lit (.int .u8 0)], .agg [.lit (.int .u8 0), .lit (.int .u8 0)], .agg [.lit (.int .u8 0), .lit (.int .u8 0)], .agg [.lit (.int .u8 0), .lit (.int .u8 0)], .agg [.lit (.int .u8 0), .lit (.int .u8 0)], .agg [.lit (.int .u8 0), .lit (.int .u8 0)], .agg [.lit (.int .u8 0), .lit (.int .u8 0)], .agg [.lit (.int .u8 0), .lit (.int .u8 0)], .agg [.lit (.int .u8 0), .lit (.int .u8 0)], .agg [.lit (.int .u8 0), .lit (.int .u8 0)]]
/-- One of Go's own tables, pinned by name: the form's constant. -/
def laid_unicode_utf8_first : DataW Unit := Go.Pinned.utf8First

/-- 'hayricklaw12.EntryForms': WHATEVER THE INPUT: true; the input reads as it did. -/
def entryFormsSpec : ChangeSpec := { name := "entryForms", fn := fun _ => fun
  | [d1, d2] => { results := [.lit (.bool true)], args := [d1, d2] }
  | _ => none }
def entryFormsRow : OpenClaim := { program := "ytneanbckmekdkaadoor", sum := "a8c1d2e2c8223ee445c09c0b5f442712343bf4c31bf63e3dee33167929fda66a", func := "hayrick/hayricklaw12.EntryForms", spec := "entryForms", inPlace := ["internal/bytealg.abigen_runtime_cmpstring", "slices.overlaps[hayrick/api.Entry]"], unfollowed := true, recurses := true, named := ["unicode/utf8.first", "unicode/utf8.acceptRanges"], apart := false, laid := [("unicode/utf8.acceptRanges", laid_unicode_utf8_acceptRanges), ("unicode/utf8.first", laid_unicode_utf8_first)] }
def EntryFormsSaid : Prop := entryFormsRow.holds Tryd.pinned (OpenSpec.ofChange entryFormsSpec)

/-- ITS FALSE NEIGHBOUR: 'it returns false'. Refute it at one input. -/
def entryFormsWrong : ChangeSpec := { name := "entryForms", fn := fun _ => fun
  | [d1, d2] => { results := [.lit (.bool false)], args := [d1, d2] }
  | _ => none }
def EntryFormsWrongFalsely : Prop := entryFormsRow.holds Tryd.pinned (OpenSpec.ofChange entryFormsWrong)

/-- 'hayricklaw12.EntryFinds': WHATEVER THE INPUT: true; the input reads as it did. -/
def entryFindsSpec : ChangeSpec := { name := "entryFinds", fn := fun _ => fun
  | [d1, d2] => { results := [.lit (.bool true)], args := [d1, d2] }
  | _ => none }
def entryFindsRow : OpenClaim := { program := "ytneanbckmekdkaadoor", sum := "a8c1d2e2c8223ee445c09c0b5f442712343bf4c31bf63e3dee33167929fda66a", func := "hayrick/hayricklaw12.EntryFinds", spec := "entryFinds", inPlace := ["internal/bytealg.abigen_runtime_cmpstring", "slices.overlaps[hayrick/api.Entry]"], unfollowed := true, recurses := true, named := ["unicode/utf8.first", "unicode/utf8.acceptRanges"], apart := false, laid := [("unicode/utf8.acceptRanges", laid_unicode_utf8_acceptRanges), ("unicode/utf8.first", laid_unicode_utf8_first)] }
def EntryFindsSaid : Prop := entryFindsRow.holds Tryd.pinned (OpenSpec.ofChange entryFindsSpec)

/-- ITS FALSE NEIGHBOUR: 'it returns false'. Refute it at one input. -/
def entryFindsWrong : ChangeSpec := { name := "entryFinds", fn := fun _ => fun
  | [d1, d2] => { results := [.lit (.bool false)], args := [d1, d2] }
  | _ => none }
def EntryFindsWrongFalsely : Prop := entryFindsRow.holds Tryd.pinned (OpenSpec.ofChange entryFindsWrong)

/-- 'hayricklaw12.EntryBack': WHATEVER THE INPUT: true; the input reads as it did. -/
def entryBackSpec : ChangeSpec := { name := "entryBack", fn := fun _ => fun
  | [d1, d2] => { results := [.lit (.bool true)], args := [d1, d2] }
  | _ => none }
def entryBackRow : OpenClaim := { program := "ytneanbckmekdkaadoor", sum := "a8c1d2e2c8223ee445c09c0b5f442712343bf4c31bf63e3dee33167929fda66a", func := "hayrick/hayricklaw12.EntryBack", spec := "entryBack", inPlace := ["internal/bytealg.abigen_runtime_cmpstring", "slices.overlaps[hayrick/api.Entry]"], unfollowed := true, recurses := true, named := ["unicode/utf8.first", "unicode/utf8.acceptRanges"], apart := false, laid := [("unicode/utf8.acceptRanges", laid_unicode_utf8_acceptRanges), ("unicode/utf8.first", laid_unicode_utf8_first)] }
def EntryBackSaid : Prop := entryBackRow.holds Tryd.pinned (OpenSpec.ofChange entryBackSpec)

/-- ITS FALSE NEIGHBOUR: 'it returns false'. Refute it at one input. -/
def entryBackWrong : ChangeSpec := { name := "entryBack", fn := fun _ => fun
  | [d1, d2] => { results := [.lit (.bool false)], args := [d1, d2] }
  | _ => none }
def EntryBackWrongFalsely : Prop := entryBackRow.holds Tryd.pinned (OpenSpec.ofChange entryBackWrong)

/-- 'hayricklaw12.EntryKnown': WHATEVER THE INPUT: true; the input reads as it did. -/
def entryKnownSpec : ChangeSpec := { name := "entryKnown", fn := fun _ => fun
  | [] => { results := [.lit (.bool true)], args := [] }
  | _ => none }
def entryKnownRow : OpenClaim := { program := "ytneanbckmekdkaadoor", sum := "a8c1d2e2c8223ee445c09c0b5f442712343bf4c31bf63e3dee33167929fda66a", func := "hayrick/hayricklaw12.EntryKnown", spec := "entryKnown", inPlace := ["internal/bytealg.abigen_runtime_cmpstring", "slices.overlaps[hayrick/api.Entry]"], unfollowed := true, recurses := true, named := ["unicode/utf8.first", "unicode/utf8.acceptRanges"], apart := false, laid := [("unicode/utf8.acceptRanges", laid_unicode_utf8_acceptRanges), ("unicode/utf8.first", laid_unicode_utf8_first)] }
def EntryKnownSaid : Prop := entryKnownRow.holds Tryd.pinned (OpenSpec.ofChange entryKnownSpec)

/-- ITS FALSE NEIGHBOUR: 'it returns false'. Refute it at one input. -/
def entryKnownWrong : ChangeSpec := { name := "entryKnown", fn := fun _ => fun
  | [] => { results := [.lit (.bool false)], args := [] }
  | _ => none }
def EntryKnownWrongFalsely : Prop := entryKnownRow.holds Tryd.pinned (OpenSpec.ofChange entryKnownWrong)

/-- 'hayricklaw12.EntryChanges': WHATEVER THE INPUT: true; the input reads as it did. -/
def entryChangesSpec : ChangeSpec := { name := "entryChanges", fn := fun _ => fun
  | [d1, d2, d3, d4] => { results := [.lit (.bool true)], args := [d1, d2, d3, d4] }
  | _ => none }
def entryChangesRow : OpenClaim := { program := "ytneanbckmekdkaadoor", sum := "a8c1d2e2c8223ee445c09c0b5f442712343bf4c31bf63e3dee33167929fda66a", func := "hayrick/hayricklaw12.EntryChanges", spec := "entryChanges", inPlace := ["internal/bytealg.abigen_runtime_cmpstring", "slices.overlaps[hayrick/api.Entry]"], unfollowed := true, recurses := true, named := ["unicode/utf8.first", "unicode/utf8.acceptRanges"], apart := false, laid := [("unicode/utf8.acceptRanges", laid_unicode_utf8_acceptRanges), ("unicode/utf8.first", laid_unicode_utf8_first)] }
def EntryChangesSaid : Prop := entryChangesRow.holds Tryd.pinned (OpenSpec.ofChange entryChangesSpec)

/-- ITS FALSE NEIGHBOUR: 'it returns false'. Refute it at one input. -/
def entryChangesWrong : ChangeSpec := { name := "entryChanges", fn := fun _ => fun
  | [d1, d2, d3, d4] => { results := [.lit (.bool false)], args := [d1, d2, d3, d4] }
  | _ => none }
def EntryChangesWrongFalsely : Prop := entryChangesRow.holds Tryd.pinned (OpenSpec.ofChange entryChangesWrong)

/-- 'hayricklaw12.EntryMaps': WHATEVER THE INPUT: true; the input reads as it did. -/
def entryMapsSpec : ChangeSpec := { name := "entryMaps", fn := fun _ => fun
  | [d1, d2, d3] => { results := [.lit (.bool true)], args := [d1, d2, d3] }
  | _ => none }
def entryMapsRow : OpenClaim := { program := "ytneanbckmekdkaadoor", sum := "a8c1d2e2c8223ee445c09c0b5f442712343bf4c31bf63e3dee33167929fda66a", func := "hayrick/hayricklaw12.EntryMaps", spec := "entryMaps", inPlace := ["internal/bytealg.abigen_runtime_cmpstring", "slices.overlaps[hayrick/api.Entry]"], unfollowed := true, recurses := true, named := ["unicode/utf8.first", "unicode/utf8.acceptRanges"], apart := false, laid := [("unicode/utf8.acceptRanges", laid_unicode_utf8_acceptRanges), ("unicode/utf8.first", laid_unicode_utf8_first)] }
def EntryMapsSaid : Prop := entryMapsRow.holds Tryd.pinned (OpenSpec.ofChange entryMapsSpec)

/-- ITS FALSE NEIGHBOUR: 'it returns false'. Refute it at one input. -/
def entryMapsWrong : ChangeSpec := { name := "entryMaps", fn := fun _ => fun
  | [d1, d2, d3] => { results := [.lit (.bool false)], args := [d1, d2, d3] }
  | _ => none }
def EntryMapsWrongFalsely : Prop := entryMapsRow.holds Tryd.pinned (OpenSpec.ofChange entryMapsWrong)

/- THE SECOND FORM. 'bulk': how many values and letters a reading holds, each counted each time it is reached (what is shared counts as often as it is met; a slice's spare places count too). A statement '..UptoSaid' is the law's where the arguments, and the package variables that the reading takes, are together of bulk at most 1048576: NARROWER than '..Said'. Prove '..Said' where nothing that the law and all that it calls make is longer than what came in: it says more and counts as full. Else prove '..UptoSaid'. A law counts once. -/
mutual
def uptoBulk {H : Type} : DataW H → Nat
  | .lit (.string bytes) => bytes.length + 1
  | .lit _ => 1
  | .nil => 1
  | .ptr d => uptoBulk d + 1
  | .slice elems spare => uptoBulkAll elems + uptoBulkAll spare + 1
  | .agg parts => uptoBulkAll parts + 1
  | .iface _ d => uptoBulk d + 1
  | .map entries => uptoBulkEntries entries + 1
  | .held _ => 1
def uptoBulkAll {H : Type} : List (DataW H) → Nat
  | [] => 0
  | d :: r => uptoBulk d + uptoBulkAll r
def uptoBulkEntries {H : Type} : List (Lit × DataW H) → Nat
  | [] => 0
  | x :: r => uptoBulkEntry x + uptoBulkEntries r
def uptoBulkEntry {H : Type} : Lit × DataW H → Nat
  | (.string bytes, d) => bytes.length + uptoBulk d + 1
  | (_, d) => uptoBulk d + 1
 end
def uptoSmall : (H : Type) → List (DataW H) → Bool := fun _ ds => decide (uptoBulkAll ds ≤ 1048576)
def OpenSpec.upto (s : _root_.Go.ChangeSpec) : _root_.Go.OpenSpec := { _root_.Go.OpenSpec.ofChange s with cond := some uptoSmall }

/-- 'hayricklaw12.EntryForms', WHERE WHAT IT READS IS OF BULK AT MOST 1048576: true; the input reads as it did. -/
def entryFormsUptoRow : OpenClaim := { program := "ytneanbckmekdkaadoor", sum := "a8c1d2e2c8223ee445c09c0b5f442712343bf4c31bf63e3dee33167929fda66a", func := "hayrick/hayricklaw12.EntryForms", spec := "entryForms", inPlace := ["internal/bytealg.abigen_runtime_cmpstring", "slices.overlaps[hayrick/api.Entry]"], unfollowed := true, recurses := true, named := ["unicode/utf8.first", "unicode/utf8.acceptRanges"], apart := false, laid := [("unicode/utf8.acceptRanges", laid_unicode_utf8_acceptRanges), ("unicode/utf8.first", laid_unicode_utf8_first)], narrowed := true }
def EntryFormsUptoSaid : Prop := entryFormsUptoRow.holds Tryd.pinned (OpenSpec.upto entryFormsSpec)

/-- 'hayricklaw12.EntryFinds', WHERE WHAT IT READS IS OF BULK AT MOST 1048576: true; the input reads as it did. -/
def entryFindsUptoRow : OpenClaim := { program := "ytneanbckmekdkaadoor", sum := "a8c1d2e2c8223ee445c09c0b5f442712343bf4c31bf63e3dee33167929fda66a", func := "hayrick/hayricklaw12.EntryFinds", spec := "entryFinds", inPlace := ["internal/bytealg.abigen_runtime_cmpstring", "slices.overlaps[hayrick/api.Entry]"], unfollowed := true, recurses := true, named := ["unicode/utf8.first", "unicode/utf8.acceptRanges"], apart := false, laid := [("unicode/utf8.acceptRanges", laid_unicode_utf8_acceptRanges), ("unicode/utf8.first", laid_unicode_utf8_first)], narrowed := true }
def EntryFindsUptoSaid : Prop := entryFindsUptoRow.holds Tryd.pinned (OpenSpec.upto entryFindsSpec)

/-- 'hayricklaw12.EntryBack', WHERE WHAT IT READS IS OF BULK AT MOST 1048576: true; the input reads as it did. -/
def entryBackUptoRow : OpenClaim := { program := "ytneanbckmekdkaadoor", sum := "a8c1d2e2c8223ee445c09c0b5f442712343bf4c31bf63e3dee33167929fda66a", func := "hayrick/hayricklaw12.EntryBack", spec := "entryBack", inPlace := ["internal/bytealg.abigen_runtime_cmpstring", "slices.overlaps[hayrick/api.Entry]"], unfollowed := true, recurses := true, named := ["unicode/utf8.first", "unicode/utf8.acceptRanges"], apart := false, laid := [("unicode/utf8.acceptRanges", laid_unicode_utf8_acceptRanges), ("unicode/utf8.first", laid_unicode_utf8_first)], narrowed := true }
def EntryBackUptoSaid : Prop := entryBackUptoRow.holds Tryd.pinned (OpenSpec.upto entryBackSpec)

/-- 'hayricklaw12.EntryKnown', WHERE WHAT IT READS IS OF BULK AT MOST 1048576: true; the input reads as it did. -/
def entryKnownUptoRow : OpenClaim := { program := "ytneanbckmekdkaadoor", sum := "a8c1d2e2c8223ee445c09c0b5f442712343bf4c31bf63e3dee33167929fda66a", func := "hayrick/hayricklaw12.EntryKnown", spec := "entryKnown", inPlace := ["internal/bytealg.abigen_runtime_cmpstring", "slices.overlaps[hayrick/api.Entry]"], unfollowed := true, recurses := true, named := ["unicode/utf8.first", "unicode/utf8.acceptRanges"], apart := false, laid := [("unicode/utf8.acceptRanges", laid_unicode_utf8_acceptRanges), ("unicode/utf8.first", laid_unicode_utf8_first)], narrowed := true }
def EntryKnownUptoSaid : Prop := entryKnownUptoRow.holds Tryd.pinned (OpenSpec.upto entryKnownSpec)

/-- 'hayricklaw12.EntryChanges', WHERE WHAT IT READS IS OF BULK AT MOST 1048576: true; the input reads as it did. -/
def entryChangesUptoRow : OpenClaim := { program := "ytneanbckmekdkaadoor", sum := "a8c1d2e2c8223ee445c09c0b5f442712343bf4c31bf63e3dee33167929fda66a", func := "hayrick/hayricklaw12.EntryChanges", spec := "entryChanges", inPlace := ["internal/bytealg.abigen_runtime_cmpstring", "slices.overlaps[hayrick/api.Entry]"], unfollowed := true, recurses := true, named := ["unicode/utf8.first", "unicode/utf8.acceptRanges"], apart := false, laid := [("unicode/utf8.acceptRanges", laid_unicode_utf8_acceptRanges), ("unicode/utf8.first", laid_unicode_utf8_first)], narrowed := true }
def EntryChangesUptoSaid : Prop := entryChangesUptoRow.holds Tryd.pinned (OpenSpec.upto entryChangesSpec)

/-- 'hayricklaw12.EntryMaps', WHERE WHAT IT READS IS OF BULK AT MOST 1048576: true; the input reads as it did. -/
def entryMapsUptoRow : OpenClaim := { program := "ytneanbckmekdkaadoor", sum := "a8c1d2e2c8223ee445c09c0b5f442712343bf4c31bf63e3dee33167929fda66a", func := "hayrick/hayricklaw12.EntryMaps", spec := "entryMaps", inPlace := ["internal/bytealg.abigen_runtime_cmpstring", "slices.overlaps[hayrick/api.Entry]"], unfollowed := true, recurses := true, named := ["unicode/utf8.first", "unicode/utf8.acceptRanges"], apart := false, laid := [("unicode/utf8.acceptRanges", laid_unicode_utf8_acceptRanges), ("unicode/utf8.first", laid_unicode_utf8_first)], narrowed := true }
def EntryMapsUptoSaid : Prop := entryMapsUptoRow.holds Tryd.pinned (OpenSpec.upto entryMapsSpec)

end Rows
end Go.Proofs.YtneanbckmekdkaaDoor
