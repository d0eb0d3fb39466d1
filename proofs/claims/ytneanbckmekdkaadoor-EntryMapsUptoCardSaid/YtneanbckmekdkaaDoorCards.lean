/-
  DERIVED. GIVEN WITH THE SEED: THE CARDS: each row of YtneanbckmekdkaaDoorRows.lean that lists a variable, with what it lists TIED to the program's text (the seventh form; the later family's looks); each row that meets fmt, with fmt's text TOLD by the authors' own Lean function (tested against real Go, not proved from fmt's source: count such statements apart). THE CARD IS WHAT COUNTS. Prove the row's statement (the work); the ties are given (YtneanbckmekdkaaDoorTie.lean); close each card by the builder's one call (the guide's Derived/Test/ToyasCard.lean, 'card_holds'). Laid BY PROGRAM, IN A SANDBOX (cutbox-door.mjs). By AI agents, Wed Nov 11 2026. No macro, syntax, notation, axiom, sorry.
-/
import Derived.Test.YtneanbckmekdkaaDoorRows
import GoSem.ClaimSeven
namespace Go.Proofs.YtneanbckmekdkaaDoor
namespace Rows

/-- THE TIED CARD OF 'hayricklaw12.EntryForms'. -/
def entryFormsCard : Claim7 := { stood := { row := entryFormsRow, standIns := [], harness := (true, "c930e04489531785ac5907ccce6ef16079bf09b99ff05a832d4c6db9181bc892"), looks := false }, kinds := [], alts := [], laidByText := true, laidKinds := [.data, .pinned], laidTests := true, laidLooks := .later }
def EntryFormsCardSaid : Prop := Claim7.holds Tryd.pinned (.plain (OpenSpec.ofChange entryFormsSpec)) entryFormsCard

/-- THE TIED CARD OF 'hayricklaw12.EntryFinds'. -/
def entryFindsCard : Claim7 := { stood := { row := entryFindsRow, standIns := [], harness := (true, "c930e04489531785ac5907ccce6ef16079bf09b99ff05a832d4c6db9181bc892"), looks := false }, kinds := [], alts := [], laidByText := true, laidKinds := [.data, .pinned], laidTests := true, laidLooks := .later }
def EntryFindsCardSaid : Prop := Claim7.holds Tryd.pinned (.plain (OpenSpec.ofChange entryFindsSpec)) entryFindsCard

/-- THE TIED CARD OF 'hayricklaw12.EntryBack'. -/
def entryBackCard : Claim7 := { stood := { row := entryBackRow, standIns := [], harness := (true, "c930e04489531785ac5907ccce6ef16079bf09b99ff05a832d4c6db9181bc892"), looks := false }, kinds := [], alts := [], laidByText := true, laidKinds := [.data, .pinned], laidTests := true, laidLooks := .later }
def EntryBackCardSaid : Prop := Claim7.holds Tryd.pinned (.plain (OpenSpec.ofChange entryBackSpec)) entryBackCard

/-- THE TIED CARD OF 'hayricklaw12.EntryKnown'. -/
def entryKnownCard : Claim7 := { stood := { row := entryKnownRow, standIns := [], harness := (true, "c930e04489531785ac5907ccce6ef16079bf09b99ff05a832d4c6db9181bc892"), looks := false }, kinds := [], alts := [], laidByText := true, laidKinds := [.data, .pinned], laidTests := true, laidLooks := .later }
def EntryKnownCardSaid : Prop := Claim7.holds Tryd.pinned (.plain (OpenSpec.ofChange entryKnownSpec)) entryKnownCard

/-- THE TIED CARD OF 'hayricklaw12.EntryChanges'. -/
def entryChangesCard : Claim7 := { stood := { row := entryChangesRow, standIns := [], harness := (true, "c930e04489531785ac5907ccce6ef16079bf09b99ff05a832d4c6db9181bc892"), looks := false }, kinds := [], alts := [], laidByText := true, laidKinds := [.data, .pinned], laidTests := true, laidLooks := .later }
def EntryChangesCardSaid : Prop := Claim7.holds Tryd.pinned (.plain (OpenSpec.ofChange entryChangesSpec)) entryChangesCard

/-- THE TIED CARD OF 'hayricklaw12.EntryMaps'. -/
def entryMapsCard : Claim7 := { stood := { row := entryMapsRow, standIns := [], harness := (true, "c930e04489531785ac5907ccce6ef16079bf09b99ff05a832d4c6db9181bc892"), looks := false }, kinds := [], alts := [], laidByText := true, laidKinds := [.data, .pinned], laidTests := true, laidLooks := .later }
def EntryMapsCardSaid : Prop := Claim7.holds Tryd.pinned (.plain (OpenSpec.ofChange entryMapsSpec)) entryMapsCard

/-- THE SECOND FORM's CARD OF 'hayricklaw12.EntryForms'. -/
def entryFormsUptoCard : Claim7 := { stood := { row := entryFormsUptoRow, standIns := [], harness := (true, "c930e04489531785ac5907ccce6ef16079bf09b99ff05a832d4c6db9181bc892"), looks := false }, kinds := [], alts := [], laidByText := true, laidKinds := [.data, .pinned], laidTests := true, laidLooks := .later }
def EntryFormsUptoCardSaid : Prop := Claim7.holds Tryd.pinned (.plain (OpenSpec.upto entryFormsSpec)) entryFormsUptoCard

/-- THE SECOND FORM's CARD OF 'hayricklaw12.EntryFinds'. -/
def entryFindsUptoCard : Claim7 := { stood := { row := entryFindsUptoRow, standIns := [], harness := (true, "c930e04489531785ac5907ccce6ef16079bf09b99ff05a832d4c6db9181bc892"), looks := false }, kinds := [], alts := [], laidByText := true, laidKinds := [.data, .pinned], laidTests := true, laidLooks := .later }
def EntryFindsUptoCardSaid : Prop := Claim7.holds Tryd.pinned (.plain (OpenSpec.upto entryFindsSpec)) entryFindsUptoCard

/-- THE SECOND FORM's CARD OF 'hayricklaw12.EntryBack'. -/
def entryBackUptoCard : Claim7 := { stood := { row := entryBackUptoRow, standIns := [], harness := (true, "c930e04489531785ac5907ccce6ef16079bf09b99ff05a832d4c6db9181bc892"), looks := false }, kinds := [], alts := [], laidByText := true, laidKinds := [.data, .pinned], laidTests := true, laidLooks := .later }
def EntryBackUptoCardSaid : Prop := Claim7.holds Tryd.pinned (.plain (OpenSpec.upto entryBackSpec)) entryBackUptoCard

/-- THE SECOND FORM's CARD OF 'hayricklaw12.EntryKnown'. -/
def entryKnownUptoCard : Claim7 := { stood := { row := entryKnownUptoRow, standIns := [], harness := (true, "c930e04489531785ac5907ccce6ef16079bf09b99ff05a832d4c6db9181bc892"), looks := false }, kinds := [], alts := [], laidByText := true, laidKinds := [.data, .pinned], laidTests := true, laidLooks := .later }
def EntryKnownUptoCardSaid : Prop := Claim7.holds Tryd.pinned (.plain (OpenSpec.upto entryKnownSpec)) entryKnownUptoCard

/-- THE SECOND FORM's CARD OF 'hayricklaw12.EntryChanges'. -/
def entryChangesUptoCard : Claim7 := { stood := { row := entryChangesUptoRow, standIns := [], harness := (true, "c930e04489531785ac5907ccce6ef16079bf09b99ff05a832d4c6db9181bc892"), looks := false }, kinds := [], alts := [], laidByText := true, laidKinds := [.data, .pinned], laidTests := true, laidLooks := .later }
def EntryChangesUptoCardSaid : Prop := Claim7.holds Tryd.pinned (.plain (OpenSpec.upto entryChangesSpec)) entryChangesUptoCard

/-- THE SECOND FORM's CARD OF 'hayricklaw12.EntryMaps'. -/
def entryMapsUptoCard : Claim7 := { stood := { row := entryMapsUptoRow, standIns := [], harness := (true, "c930e04489531785ac5907ccce6ef16079bf09b99ff05a832d4c6db9181bc892"), looks := false }, kinds := [], alts := [], laidByText := true, laidKinds := [.data, .pinned], laidTests := true, laidLooks := .later }
def EntryMapsUptoCardSaid : Prop := Claim7.holds Tryd.pinned (.plain (OpenSpec.upto entryMapsSpec)) entryMapsUptoCard
end Rows
end Go.Proofs.YtneanbckmekdkaaDoor
