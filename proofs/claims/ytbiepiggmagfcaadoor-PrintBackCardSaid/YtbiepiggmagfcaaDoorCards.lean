/-
  DERIVED. GIVEN WITH THE SEED: THE CARDS: each row of YtbiepiggmagfcaaDoorRows.lean that lists a variable, with what it lists TIED to the program's text (the seventh form; the later family's looks); each row that meets fmt, with fmt's text TOLD by the authors' own Lean function (tested against real Go, not proved from fmt's source: count such statements apart). THE CARD IS WHAT COUNTS. Prove the row's statement (the work); the ties are given (YtbiepiggmagfcaaDoorTie.lean); close each card by the builder's one call (the guide's Derived/Test/ToyasCard.lean, 'card_holds'). Laid BY PROGRAM, IN A SANDBOX (cutbox-door.mjs). By AI agents, Wed Nov 11 2026. No macro, syntax, notation, axiom, sorry.
-/
import Derived.Test.YtbiepiggmagfcaaDoorRows
import GoSem.ClaimSeven
namespace Go.Proofs.YtbiepiggmagfcaaDoor
namespace Rows

/-- THE TIED CARD OF 'augurlaw8.PrintExprs'. -/
def printExprsCard : Claim7 := { stood := { row := printExprsRow, standIns := [], harness := (true, "c718ed31c07227b037086a7019ffc82f3e898c0850e44e78fc08803c4b42208b"), looks := false }, kinds := [], alts := [], laidByText := true, laidKinds := [.data, .data, .data], laidTests := true, laidLooks := .later }
def PrintExprsCardSaid : Prop := Claim7.holds Tryd.pinned (.plain (OpenSpec.ofChange printExprsSpec)) printExprsCard

/-- THE TIED CARD OF 'augurlaw8.PrintBack'. -/
def printBackCard : Claim7 := { stood := { row := printBackRow, standIns := [], harness := (true, "c718ed31c07227b037086a7019ffc82f3e898c0850e44e78fc08803c4b42208b"), looks := false }, kinds := [], alts := [], laidByText := true, laidKinds := [.data, .data, .data], laidTests := true, laidLooks := .later }
def PrintBackCardSaid : Prop := Claim7.holds Tryd.pinned (.plain (OpenSpec.ofChange printBackSpec)) printBackCard

/-- THE TIED CARD OF 'augurlaw8.PrintConds'. -/
def printCondsCard : Claim7 := { stood := { row := printCondsRow, standIns := [], harness := (true, "c718ed31c07227b037086a7019ffc82f3e898c0850e44e78fc08803c4b42208b"), looks := false }, kinds := [], alts := [], laidByText := true, laidKinds := [.data, .data, .data], laidTests := true, laidLooks := .later }
def PrintCondsCardSaid : Prop := Claim7.holds Tryd.pinned (.plain (OpenSpec.ofChange printCondsSpec)) printCondsCard

/-- THE TIED CARD OF 'augurlaw8.PrintSums'. -/
def printSumsCard : Claim7 := { stood := { row := printSumsRow, standIns := [], harness := (true, "c718ed31c07227b037086a7019ffc82f3e898c0850e44e78fc08803c4b42208b"), looks := false }, kinds := [], alts := [], laidByText := true, laidKinds := [.data, .data, .data], laidTests := true, laidLooks := .later }
def PrintSumsCardSaid : Prop := Claim7.holds Tryd.pinned (.plain (OpenSpec.ofChange printSumsSpec)) printSumsCard

/-- THE SECOND FORM's CARD OF 'augurlaw8.PrintExprs'. -/
def printExprsUptoCard : Claim7 := { stood := { row := printExprsUptoRow, standIns := [], harness := (true, "c718ed31c07227b037086a7019ffc82f3e898c0850e44e78fc08803c4b42208b"), looks := false }, kinds := [], alts := [], laidByText := true, laidKinds := [.data, .data, .data], laidTests := true, laidLooks := .later }
def PrintExprsUptoCardSaid : Prop := Claim7.holds Tryd.pinned (.plain (OpenSpec.upto printExprsSpec)) printExprsUptoCard

/-- THE SECOND FORM's CARD OF 'augurlaw8.PrintBack'. -/
def printBackUptoCard : Claim7 := { stood := { row := printBackUptoRow, standIns := [], harness := (true, "c718ed31c07227b037086a7019ffc82f3e898c0850e44e78fc08803c4b42208b"), looks := false }, kinds := [], alts := [], laidByText := true, laidKinds := [.data, .data, .data], laidTests := true, laidLooks := .later }
def PrintBackUptoCardSaid : Prop := Claim7.holds Tryd.pinned (.plain (OpenSpec.upto printBackSpec)) printBackUptoCard

/-- THE SECOND FORM's CARD OF 'augurlaw8.PrintConds'. -/
def printCondsUptoCard : Claim7 := { stood := { row := printCondsUptoRow, standIns := [], harness := (true, "c718ed31c07227b037086a7019ffc82f3e898c0850e44e78fc08803c4b42208b"), looks := false }, kinds := [], alts := [], laidByText := true, laidKinds := [.data, .data, .data], laidTests := true, laidLooks := .later }
def PrintCondsUptoCardSaid : Prop := Claim7.holds Tryd.pinned (.plain (OpenSpec.upto printCondsSpec)) printCondsUptoCard

/-- THE SECOND FORM's CARD OF 'augurlaw8.PrintSums'. -/
def printSumsUptoCard : Claim7 := { stood := { row := printSumsUptoRow, standIns := [], harness := (true, "c718ed31c07227b037086a7019ffc82f3e898c0850e44e78fc08803c4b42208b"), looks := false }, kinds := [], alts := [], laidByText := true, laidKinds := [.data, .data, .data], laidTests := true, laidLooks := .later }
def PrintSumsUptoCardSaid : Prop := Claim7.holds Tryd.pinned (.plain (OpenSpec.upto printSumsSpec)) printSumsUptoCard
end Rows
end Go.Proofs.YtbiepiggmagfcaaDoor
