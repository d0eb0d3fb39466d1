/-
  DERIVED. GIVEN WITH THE SEED: THE CARDS: each row of YtcmcmkfoihlniaaDoorRows.lean that lists a variable, with what it lists TIED to the program's text (the seventh form; the later family's looks); each row that meets fmt, with fmt's text TOLD by the authors' own Lean function (tested against real Go, not proved from fmt's source: count such statements apart). THE CARD IS WHAT COUNTS. Prove the row's statement (the work); the ties are given (YtcmcmkfoihlniaaDoorTie.lean); close each card by the builder's one call (the guide's Derived/Test/ToyasCard.lean, 'card_holds'). Laid BY PROGRAM, IN A SANDBOX (cutbox-door.mjs). By AI agents, Wed Nov 11 2026. No macro, syntax, notation, axiom, sorry.
-/
import Derived.Test.YtcmcmkfoihlniaaDoorRows
import GoSem.ClaimSeven
namespace Go.Proofs.YtcmcmkfoihlniaaDoor
namespace Rows

/-- THE TIED CARD OF 'hayricklaw27.ModelBytes'. -/
def modelBytesCard : Claim7 := { stood := { row := modelBytesRow, standIns := [], harness := (true, "d2f13ad41aab9c3e0625a97cc8a3e72e21201d5d69a616d25e84345f46eb1a9b"), looks := true }, kinds := [], alts := [], laidByText := true, laidKinds := [.data, .data, .pinned], laidTests := true, laidLooks := .later }
def ModelBytesCardSaid : Prop := Claim7.holds Tryd.pinned (.plain (OpenSpec.ofChange modelBytesSpec)) modelBytesCard

/-- THE TIED CARD OF 'hayricklaw27.ModelUndoes'. -/
def modelUndoesCard : Claim7 := { stood := { row := modelUndoesRow, standIns := [], harness := (true, "d2f13ad41aab9c3e0625a97cc8a3e72e21201d5d69a616d25e84345f46eb1a9b"), looks := true }, kinds := [], alts := [], laidByText := true, laidKinds := [.data, .data, .pinned], laidTests := true, laidLooks := .later }
def ModelUndoesCardSaid : Prop := Claim7.holds Tryd.pinned (.plain (OpenSpec.ofChange modelUndoesSpec)) modelUndoesCard

/-- THE SECOND FORM's CARD OF 'hayricklaw27.ModelBytes'. -/
def modelBytesUptoCard : Claim7 := { stood := { row := modelBytesUptoRow, standIns := [], harness := (true, "d2f13ad41aab9c3e0625a97cc8a3e72e21201d5d69a616d25e84345f46eb1a9b"), looks := true }, kinds := [], alts := [], laidByText := true, laidKinds := [.data, .data, .pinned], laidTests := true, laidLooks := .later }
def ModelBytesUptoCardSaid : Prop := Claim7.holds Tryd.pinned (.plain (OpenSpec.upto modelBytesSpec)) modelBytesUptoCard

/-- THE SECOND FORM's CARD OF 'hayricklaw27.ModelUndoes'. -/
def modelUndoesUptoCard : Claim7 := { stood := { row := modelUndoesUptoRow, standIns := [], harness := (true, "d2f13ad41aab9c3e0625a97cc8a3e72e21201d5d69a616d25e84345f46eb1a9b"), looks := true }, kinds := [], alts := [], laidByText := true, laidKinds := [.data, .data, .pinned], laidTests := true, laidLooks := .later }
def ModelUndoesUptoCardSaid : Prop := Claim7.holds Tryd.pinned (.plain (OpenSpec.upto modelUndoesSpec)) modelUndoesUptoCard
end Rows
end Go.Proofs.YtcmcmkfoihlniaaDoor
