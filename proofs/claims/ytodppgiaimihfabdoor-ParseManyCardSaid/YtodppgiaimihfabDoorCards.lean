/-
  DERIVED. GIVEN WITH THE SEED: THE CARDS: each row of YtodppgiaimihfabDoorRows.lean that lists a variable, with what it lists TIED to the program's text (the seventh form; the later family's looks); each row that meets fmt, with fmt's text TOLD by the authors' own Lean function (tested against real Go, not proved from fmt's source: count such statements apart). THE CARD IS WHAT COUNTS. Prove the row's statement (the work); the ties are given (YtodppgiaimihfabDoorTie.lean); close each card by the builder's one call (the guide's Derived/Test/ToyasCard.lean, 'card_holds'). Laid BY PROGRAM, IN A SANDBOX (cutbox-door.mjs). By AI agents, Wed Nov 11 2026. No macro, syntax, notation, axiom, sorry.
-/
import Derived.Test.YtodppgiaimihfabDoorRows
import GoSem.ClaimSeven
namespace Go.Proofs.YtodppgiaimihfabDoor
namespace Rows

/-- THE TIED CARD OF 'augurlaw7.ParseDeep'. -/
def parseDeepCard : Claim7 := { stood := { row := parseDeepRow, standIns := [], harness := (true, "67ddc8a69888e1f2a3ae5a89c733eda9f3f3e1e2358b834607bfd25cd97e1a62"), looks := true }, kinds := [], alts := [], laidByText := true, laidKinds := [.data, .data, .data, .data, .sentinel, .sentinel, .pinned], laidTests := true, laidLooks := .later }
def ParseDeepCardSaid : Prop := Claim7.holds Tryd.pinned (.plain (OpenSpec.ofChange parseDeepSpec)) parseDeepCard

/-- THE TIED CARD OF 'augurlaw7.ParseMany'. -/
def parseManyCard : Claim7 := { stood := { row := parseManyRow, standIns := [], harness := (true, "67ddc8a69888e1f2a3ae5a89c733eda9f3f3e1e2358b834607bfd25cd97e1a62"), looks := true }, kinds := [], alts := [], laidByText := true, laidKinds := [.data, .data, .data, .data, .sentinel, .sentinel, .pinned], laidTests := true, laidLooks := .later }
def ParseManyCardSaid : Prop := Claim7.holds Tryd.pinned (.plain (OpenSpec.ofChange parseManySpec)) parseManyCard

/-- THE TIED CARD OF 'augurlaw7.ParseOrder'. -/
def parseOrderCard : Claim7 := { stood := { row := parseOrderRow, standIns := [], harness := (true, "67ddc8a69888e1f2a3ae5a89c733eda9f3f3e1e2358b834607bfd25cd97e1a62"), looks := true }, kinds := [], alts := [], laidByText := true, laidKinds := [.data, .data, .data, .data, .sentinel, .sentinel, .pinned], laidTests := true, laidLooks := .later }
def ParseOrderCardSaid : Prop := Claim7.holds Tryd.pinned (.plain (OpenSpec.ofChange parseOrderSpec)) parseOrderCard

/-- THE SECOND FORM's CARD OF 'augurlaw7.ParseDeep'. -/
def parseDeepUptoCard : Claim7 := { stood := { row := parseDeepUptoRow, standIns := [], harness := (true, "67ddc8a69888e1f2a3ae5a89c733eda9f3f3e1e2358b834607bfd25cd97e1a62"), looks := true }, kinds := [], alts := [], laidByText := true, laidKinds := [.data, .data, .data, .data, .sentinel, .sentinel, .pinned], laidTests := true, laidLooks := .later }
def ParseDeepUptoCardSaid : Prop := Claim7.holds Tryd.pinned (.plain (OpenSpec.upto parseDeepSpec)) parseDeepUptoCard

/-- THE SECOND FORM's CARD OF 'augurlaw7.ParseMany'. -/
def parseManyUptoCard : Claim7 := { stood := { row := parseManyUptoRow, standIns := [], harness := (true, "67ddc8a69888e1f2a3ae5a89c733eda9f3f3e1e2358b834607bfd25cd97e1a62"), looks := true }, kinds := [], alts := [], laidByText := true, laidKinds := [.data, .data, .data, .data, .sentinel, .sentinel, .pinned], laidTests := true, laidLooks := .later }
def ParseManyUptoCardSaid : Prop := Claim7.holds Tryd.pinned (.plain (OpenSpec.upto parseManySpec)) parseManyUptoCard

/-- THE SECOND FORM's CARD OF 'augurlaw7.ParseOrder'. -/
def parseOrderUptoCard : Claim7 := { stood := { row := parseOrderUptoRow, standIns := [], harness := (true, "67ddc8a69888e1f2a3ae5a89c733eda9f3f3e1e2358b834607bfd25cd97e1a62"), looks := true }, kinds := [], alts := [], laidByText := true, laidKinds := [.data, .data, .data, .data, .sentinel, .sentinel, .pinned], laidTests := true, laidLooks := .later }
def ParseOrderUptoCardSaid : Prop := Claim7.holds Tryd.pinned (.plain (OpenSpec.upto parseOrderSpec)) parseOrderUptoCard
end Rows
end Go.Proofs.YtodppgiaimihfabDoor
