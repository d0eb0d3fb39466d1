/-
  DERIVED. GIVEN WITH THE SEED: THE CARDS: each row of YtdgiinjibcfjgaaDoorRows.lean that lists a variable, with what it lists TIED to the program's text (the seventh form; the later family's looks); each row that meets fmt, with fmt's text TOLD by the authors' own Lean function (tested against real Go, not proved from fmt's source: count such statements apart). THE CARD IS WHAT COUNTS. Prove the row's statement (the work); the ties are given (YtdgiinjibcfjgaaDoorTie.lean); close each card by the builder's one call (the guide's Derived/Test/ToyasCard.lean, 'card_holds'). Laid BY PROGRAM, IN A SANDBOX (cutbox-door.mjs). By AI agents, Wed Nov 11 2026. No macro, syntax, notation, axiom, sorry.
-/
import Derived.Test.YtdgiinjibcfjgaaDoorRows
import GoSem.ClaimSeven
namespace Go.Proofs.YtdgiinjibcfjgaaDoor
namespace Rows

/-- THE TIED CARD OF 'hayricklaw10.NamesValid'. -/
def namesValidCard : Claim7 := { stood := { row := namesValidRow, standIns := [], harness := (true, "b142a8b74be94ef13176deffbd63dd38ce0f9caf3c69f9f1427363d5a6d3b048"), looks := false }, kinds := [], alts := [], laidByText := true, laidKinds := [.data, .pinned], laidTests := true, laidLooks := .later }
def NamesValidCardSaid : Prop := Claim7.holds Tryd.pinned (.plain (OpenSpec.ofChange namesValidSpec)) namesValidCard

/-- THE TIED CARD OF 'hayricklaw10.NamesCompare'. -/
def namesCompareCard : Claim7 := { stood := { row := namesCompareRow, standIns := [], harness := (true, "b142a8b74be94ef13176deffbd63dd38ce0f9caf3c69f9f1427363d5a6d3b048"), looks := false }, kinds := [], alts := [], laidByText := true, laidKinds := [.data, .pinned], laidTests := true, laidLooks := .later }
def NamesCompareCardSaid : Prop := Claim7.holds Tryd.pinned (.plain (OpenSpec.ofChange namesCompareSpec)) namesCompareCard

/-- THE TIED CARD OF 'hayricklaw10.NamesCut'. -/
def namesCutCard : Claim7 := { stood := { row := namesCutRow, standIns := [], harness := (true, "b142a8b74be94ef13176deffbd63dd38ce0f9caf3c69f9f1427363d5a6d3b048"), looks := false }, kinds := [], alts := [], laidByText := true, laidKinds := [.data, .pinned], laidTests := true, laidLooks := .later }
def NamesCutCardSaid : Prop := Claim7.holds Tryd.pinned (.plain (OpenSpec.ofChange namesCutSpec)) namesCutCard

/-- THE TIED CARD OF 'hayricklaw10.NamesOrder'. -/
def namesOrderCard : Claim7 := { stood := { row := namesOrderRow, standIns := [], harness := (true, "b142a8b74be94ef13176deffbd63dd38ce0f9caf3c69f9f1427363d5a6d3b048"), looks := false }, kinds := [], alts := [], laidByText := true, laidKinds := [.data, .pinned], laidTests := true, laidLooks := .later }
def NamesOrderCardSaid : Prop := Claim7.holds Tryd.pinned (.plain (OpenSpec.ofChange namesOrderSpec)) namesOrderCard

/-- THE TIED CARD OF 'hayricklaw10.NamesParts'. -/
def namesPartsCard : Claim7 := { stood := { row := namesPartsRow, standIns := [], harness := (true, "b142a8b74be94ef13176deffbd63dd38ce0f9caf3c69f9f1427363d5a6d3b048"), looks := false }, kinds := [], alts := [], laidByText := true, laidKinds := [.data, .pinned], laidTests := true, laidLooks := .later }
def NamesPartsCardSaid : Prop := Claim7.holds Tryd.pinned (.plain (OpenSpec.ofChange namesPartsSpec)) namesPartsCard

/-- THE TIED CARD OF 'hayricklaw10.NamesJoin'. -/
def namesJoinCard : Claim7 := { stood := { row := namesJoinRow, standIns := [], harness := (true, "b142a8b74be94ef13176deffbd63dd38ce0f9caf3c69f9f1427363d5a6d3b048"), looks := false }, kinds := [], alts := [], laidByText := true, laidKinds := [.data, .pinned], laidTests := true, laidLooks := .later }
def NamesJoinCardSaid : Prop := Claim7.holds Tryd.pinned (.plain (OpenSpec.ofChange namesJoinSpec)) namesJoinCard

/-- THE TIED CARD OF 'hayricklaw10.NamesKnown'. -/
def namesKnownCard : Claim7 := { stood := { row := namesKnownRow, standIns := [], harness := (true, "b142a8b74be94ef13176deffbd63dd38ce0f9caf3c69f9f1427363d5a6d3b048"), looks := false }, kinds := [], alts := [], laidByText := true, laidKinds := [.data, .pinned], laidTests := true, laidLooks := .later }
def NamesKnownCardSaid : Prop := Claim7.holds Tryd.pinned (.plain (OpenSpec.ofChange namesKnownSpec)) namesKnownCard

/-- THE SECOND FORM's CARD OF 'hayricklaw10.NamesValid'. -/
def namesValidUptoCard : Claim7 := { stood := { row := namesValidUptoRow, standIns := [], harness := (true, "b142a8b74be94ef13176deffbd63dd38ce0f9caf3c69f9f1427363d5a6d3b048"), looks := false }, kinds := [], alts := [], laidByText := true, laidKinds := [.data, .pinned], laidTests := true, laidLooks := .later }
def NamesValidUptoCardSaid : Prop := Claim7.holds Tryd.pinned (.plain (OpenSpec.upto namesValidSpec)) namesValidUptoCard

/-- THE SECOND FORM's CARD OF 'hayricklaw10.NamesCompare'. -/
def namesCompareUptoCard : Claim7 := { stood := { row := namesCompareUptoRow, standIns := [], harness := (true, "b142a8b74be94ef13176deffbd63dd38ce0f9caf3c69f9f1427363d5a6d3b048"), looks := false }, kinds := [], alts := [], laidByText := true, laidKinds := [.data, .pinned], laidTests := true, laidLooks := .later }
def NamesCompareUptoCardSaid : Prop := Claim7.holds Tryd.pinned (.plain (OpenSpec.upto namesCompareSpec)) namesCompareUptoCard

/-- THE SECOND FORM's CARD OF 'hayricklaw10.NamesCut'. -/
def namesCutUptoCard : Claim7 := { stood := { row := namesCutUptoRow, standIns := [], harness := (true, "b142a8b74be94ef13176deffbd63dd38ce0f9caf3c69f9f1427363d5a6d3b048"), looks := false }, kinds := [], alts := [], laidByText := true, laidKinds := [.data, .pinned], laidTests := true, laidLooks := .later }
def NamesCutUptoCardSaid : Prop := Claim7.holds Tryd.pinned (.plain (OpenSpec.upto namesCutSpec)) namesCutUptoCard

/-- THE SECOND FORM's CARD OF 'hayricklaw10.NamesOrder'. -/
def namesOrderUptoCard : Claim7 := { stood := { row := namesOrderUptoRow, standIns := [], harness := (true, "b142a8b74be94ef13176deffbd63dd38ce0f9caf3c69f9f1427363d5a6d3b048"), looks := false }, kinds := [], alts := [], laidByText := true, laidKinds := [.data, .pinned], laidTests := true, laidLooks := .later }
def NamesOrderUptoCardSaid : Prop := Claim7.holds Tryd.pinned (.plain (OpenSpec.upto namesOrderSpec)) namesOrderUptoCard

/-- THE SECOND FORM's CARD OF 'hayricklaw10.NamesParts'. -/
def namesPartsUptoCard : Claim7 := { stood := { row := namesPartsUptoRow, standIns := [], harness := (true, "b142a8b74be94ef13176deffbd63dd38ce0f9caf3c69f9f1427363d5a6d3b048"), looks := false }, kinds := [], alts := [], laidByText := true, laidKinds := [.data, .pinned], laidTests := true, laidLooks := .later }
def NamesPartsUptoCardSaid : Prop := Claim7.holds Tryd.pinned (.plain (OpenSpec.upto namesPartsSpec)) namesPartsUptoCard

/-- THE SECOND FORM's CARD OF 'hayricklaw10.NamesJoin'. -/
def namesJoinUptoCard : Claim7 := { stood := { row := namesJoinUptoRow, standIns := [], harness := (true, "b142a8b74be94ef13176deffbd63dd38ce0f9caf3c69f9f1427363d5a6d3b048"), looks := false }, kinds := [], alts := [], laidByText := true, laidKinds := [.data, .pinned], laidTests := true, laidLooks := .later }
def NamesJoinUptoCardSaid : Prop := Claim7.holds Tryd.pinned (.plain (OpenSpec.upto namesJoinSpec)) namesJoinUptoCard

/-- THE SECOND FORM's CARD OF 'hayricklaw10.NamesKnown'. -/
def namesKnownUptoCard : Claim7 := { stood := { row := namesKnownUptoRow, standIns := [], harness := (true, "b142a8b74be94ef13176deffbd63dd38ce0f9caf3c69f9f1427363d5a6d3b048"), looks := false }, kinds := [], alts := [], laidByText := true, laidKinds := [.data, .pinned], laidTests := true, laidLooks := .later }
def NamesKnownUptoCardSaid : Prop := Claim7.holds Tryd.pinned (.plain (OpenSpec.upto namesKnownSpec)) namesKnownUptoCard
end Rows
end Go.Proofs.YtdgiinjibcfjgaaDoor
