/-
  DERIVED. GIVEN WITH THE SEED: THE CARDS: each row of YtkcojiopjkllgaaGreatDoorRows.lean that lists a variable, with what it lists TIED to the program's text (the seventh form; the later family's looks); each row that meets fmt, with fmt's text TOLD by the authors' own Lean function (tested against real Go, not proved from fmt's source: count such statements apart). THE CARD IS WHAT COUNTS. Prove the row's statement (the work); the ties are given (YtkcojiopjkllgaaGreatDoorTie.lean); close each card by the builder's one call (the guide's Derived/Test/ToyasCard.lean, 'card_holds'). Laid BY PROGRAM, IN A SANDBOX (cutbox-door.mjs). By AI agents, Wed Nov 11 2026. No macro, syntax, notation, axiom, sorry.
-/
import Derived.Test.YtkcojiopjkllgaaGreatDoorRows
import GoSem.ClaimSeven
namespace Go.Proofs.YtkcojiopjkllgaaGreatDoor
namespace Rows

/-- THE TIED CARD OF 'accesscontrollaw08.PrinterModules'. -/
def printerModulesCard : Claim7 := { stood := { row := printerModulesRow, standIns := [], harness := (true, "9983718bad0fe4a8dfda97d32dbcee47b7e15a8d9179951c0b24695b31c9847f"), looks := false }, kinds := [], alts := [], laidByText := true, laidKinds := [.data, .data, .data], laidTests := true, laidLooks := .later }
def PrinterModulesCardSaid : Prop := Claim7.holds Tryz.pinned (.plain (OpenSpec.ofChange printerModulesSpec)) printerModulesCard

/-- THE TIED CARD OF 'accesscontrollaw08.PrinterStatements'. -/
def printerStatementsCard : Claim7 := { stood := { row := printerStatementsRow, standIns := [], harness := (true, "9983718bad0fe4a8dfda97d32dbcee47b7e15a8d9179951c0b24695b31c9847f"), looks := false }, kinds := [], alts := [], laidByText := true, laidKinds := [.data, .data, .data], laidTests := true, laidLooks := .later }
def PrinterStatementsCardSaid : Prop := Claim7.holds Tryz.pinned (.plain (OpenSpec.ofChange printerStatementsSpec)) printerStatementsCard

/-- THE TIED CARD OF 'accesscontrollaw08.PrinterChecks'. -/
def printerChecksCard : Claim7 := { stood := { row := printerChecksRow, standIns := [], harness := (true, "9983718bad0fe4a8dfda97d32dbcee47b7e15a8d9179951c0b24695b31c9847f"), looks := false }, kinds := [], alts := [], laidByText := true, laidKinds := [.data, .data, .data], laidTests := true, laidLooks := .later }
def PrinterChecksCardSaid : Prop := Claim7.holds Tryz.pinned (.plain (OpenSpec.ofChange printerChecksSpec)) printerChecksCard

/-- THE TIED CARD OF 'accesscontrollaw08.PrinterLines'. -/
def printerLinesCard : Claim7 := { stood := { row := printerLinesRow, standIns := [], harness := (true, "9983718bad0fe4a8dfda97d32dbcee47b7e15a8d9179951c0b24695b31c9847f"), looks := false }, kinds := [], alts := [], laidByText := true, laidKinds := [.data, .data, .data], laidTests := true, laidLooks := .later }
def PrinterLinesCardSaid : Prop := Claim7.holds Tryz.pinned (.plain (OpenSpec.ofChange printerLinesSpec)) printerLinesCard

/-- THE TIED CARD OF 'accesscontrollaw08.PrinterIndents'. -/
def printerIndentsCard : Claim7 := { stood := { row := printerIndentsRow, standIns := [], harness := (true, "9983718bad0fe4a8dfda97d32dbcee47b7e15a8d9179951c0b24695b31c9847f"), looks := false }, kinds := [], alts := [], laidByText := true, laidKinds := [.data, .data, .data], laidTests := true, laidLooks := .later }
def PrinterIndentsCardSaid : Prop := Claim7.holds Tryz.pinned (.plain (OpenSpec.ofChange printerIndentsSpec)) printerIndentsCard

/-- THE TIED CARD OF 'accesscontrollaw08.PrinterSame'. -/
def printerSameCard : Claim7 := { stood := { row := printerSameRow, standIns := [], harness := (true, "9983718bad0fe4a8dfda97d32dbcee47b7e15a8d9179951c0b24695b31c9847f"), looks := false }, kinds := [], alts := [], laidByText := true, laidKinds := [.data, .data, .data], laidTests := true, laidLooks := .later }
def PrinterSameCardSaid : Prop := Claim7.holds Tryz.pinned (.plain (OpenSpec.ofChange printerSameSpec)) printerSameCard

/-- THE TIED CARD OF 'accesscontrollaw08.PrinterParts'. -/
def printerPartsCard : Claim7 := { stood := { row := printerPartsRow, standIns := [], harness := (true, "9983718bad0fe4a8dfda97d32dbcee47b7e15a8d9179951c0b24695b31c9847f"), looks := false }, kinds := [], alts := [], laidByText := true, laidKinds := [.data, .data, .data], laidTests := true, laidLooks := .later }
def PrinterPartsCardSaid : Prop := Claim7.holds Tryz.pinned (.plain (OpenSpec.ofChange printerPartsSpec)) printerPartsCard

/-- THE SECOND FORM's CARD OF 'accesscontrollaw08.PrinterModules'. -/
def printerModulesUptoCard : Claim7 := { stood := { row := printerModulesUptoRow, standIns := [], harness := (true, "9983718bad0fe4a8dfda97d32dbcee47b7e15a8d9179951c0b24695b31c9847f"), looks := false }, kinds := [], alts := [], laidByText := true, laidKinds := [.data, .data, .data], laidTests := true, laidLooks := .later }
def PrinterModulesUptoCardSaid : Prop := Claim7.holds Tryz.pinned (.plain (OpenSpec.upto printerModulesSpec)) printerModulesUptoCard

/-- THE SECOND FORM's CARD OF 'accesscontrollaw08.PrinterStatements'. -/
def printerStatementsUptoCard : Claim7 := { stood := { row := printerStatementsUptoRow, standIns := [], harness := (true, "9983718bad0fe4a8dfda97d32dbcee47b7e15a8d9179951c0b24695b31c9847f"), looks := false }, kinds := [], alts := [], laidByText := true, laidKinds := [.data, .data, .data], laidTests := true, laidLooks := .later }
def PrinterStatementsUptoCardSaid : Prop := Claim7.holds Tryz.pinned (.plain (OpenSpec.upto printerStatementsSpec)) printerStatementsUptoCard

/-- THE SECOND FORM's CARD OF 'accesscontrollaw08.PrinterChecks'. -/
def printerChecksUptoCard : Claim7 := { stood := { row := printerChecksUptoRow, standIns := [], harness := (true, "9983718bad0fe4a8dfda97d32dbcee47b7e15a8d9179951c0b24695b31c9847f"), looks := false }, kinds := [], alts := [], laidByText := true, laidKinds := [.data, .data, .data], laidTests := true, laidLooks := .later }
def PrinterChecksUptoCardSaid : Prop := Claim7.holds Tryz.pinned (.plain (OpenSpec.upto printerChecksSpec)) printerChecksUptoCard

/-- THE SECOND FORM's CARD OF 'accesscontrollaw08.PrinterLines'. -/
def printerLinesUptoCard : Claim7 := { stood := { row := printerLinesUptoRow, standIns := [], harness := (true, "9983718bad0fe4a8dfda97d32dbcee47b7e15a8d9179951c0b24695b31c9847f"), looks := false }, kinds := [], alts := [], laidByText := true, laidKinds := [.data, .data, .data], laidTests := true, laidLooks := .later }
def PrinterLinesUptoCardSaid : Prop := Claim7.holds Tryz.pinned (.plain (OpenSpec.upto printerLinesSpec)) printerLinesUptoCard

/-- THE SECOND FORM's CARD OF 'accesscontrollaw08.PrinterIndents'. -/
def printerIndentsUptoCard : Claim7 := { stood := { row := printerIndentsUptoRow, standIns := [], harness := (true, "9983718bad0fe4a8dfda97d32dbcee47b7e15a8d9179951c0b24695b31c9847f"), looks := false }, kinds := [], alts := [], laidByText := true, laidKinds := [.data, .data, .data], laidTests := true, laidLooks := .later }
def PrinterIndentsUptoCardSaid : Prop := Claim7.holds Tryz.pinned (.plain (OpenSpec.upto printerIndentsSpec)) printerIndentsUptoCard

/-- THE SECOND FORM's CARD OF 'accesscontrollaw08.PrinterSame'. -/
def printerSameUptoCard : Claim7 := { stood := { row := printerSameUptoRow, standIns := [], harness := (true, "9983718bad0fe4a8dfda97d32dbcee47b7e15a8d9179951c0b24695b31c9847f"), looks := false }, kinds := [], alts := [], laidByText := true, laidKinds := [.data, .data, .data], laidTests := true, laidLooks := .later }
def PrinterSameUptoCardSaid : Prop := Claim7.holds Tryz.pinned (.plain (OpenSpec.upto printerSameSpec)) printerSameUptoCard

/-- THE SECOND FORM's CARD OF 'accesscontrollaw08.PrinterParts'. -/
def printerPartsUptoCard : Claim7 := { stood := { row := printerPartsUptoRow, standIns := [], harness := (true, "9983718bad0fe4a8dfda97d32dbcee47b7e15a8d9179951c0b24695b31c9847f"), looks := false }, kinds := [], alts := [], laidByText := true, laidKinds := [.data, .data, .data], laidTests := true, laidLooks := .later }
def PrinterPartsUptoCardSaid : Prop := Claim7.holds Tryz.pinned (.plain (OpenSpec.upto printerPartsSpec)) printerPartsUptoCard
end Rows
end Go.Proofs.YtkcojiopjkllgaaGreatDoor
