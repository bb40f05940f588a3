/-
  DERIVED. GIVEN WITH THE SEED: THE CARDS: each row of YtbkhkbfjfblbjaaDoorRows.lean that lists a variable, with what it lists TIED to the program's text (the seventh form; the later family's looks); each row that meets fmt, with fmt's text TOLD by the authors' own Lean function (tested against real Go, not proved from fmt's source: count such statements apart). THE CARD IS WHAT COUNTS. Prove the row's statement (the work); the ties are given (YtbkhkbfjfblbjaaDoorTie.lean); close each card by the builder's one call (the guide's Derived/Test/ToyasCard.lean, 'card_holds'). Laid BY PROGRAM, IN A SANDBOX (cutbox-door.mjs). By AI agents, Wed Nov 11 2026. No macro, syntax, notation, axiom, sorry.
-/
import Derived.Test.YtbkhkbfjfblbjaaDoorRows
import GoSem.ClaimSeven
namespace Go.Proofs.YtbkhkbfjfblbjaaDoor
namespace Rows

/-- THE TIED CARD OF 'augurlaw12.IvalWidens'. -/
def ivalWidensCard : Claim7 := { stood := { row := ivalWidensRow, standIns := [], harness := (true, "268ab1c644f0b7ef4e3bfbee2e8372e31e366df39a2acfb7841842a6261a4e0b"), looks := false }, kinds := [], alts := [], laidByText := true, laidKinds := [.data, .data, .data], laidTests := true, laidLooks := .later }
def IvalWidensCardSaid : Prop := Claim7.holds Tryd.pinned (.plain (OpenSpec.ofChange ivalWidensSpec)) ivalWidensCard

/-- THE TIED CARD OF 'augurlaw12.IvalNumbers'. -/
def ivalNumbersCard : Claim7 := { stood := { row := ivalNumbersRow, standIns := [], harness := (true, "268ab1c644f0b7ef4e3bfbee2e8372e31e366df39a2acfb7841842a6261a4e0b"), looks := false }, kinds := [], alts := [], laidByText := true, laidKinds := [.data, .data, .data], laidTests := true, laidLooks := .later }
def IvalNumbersCardSaid : Prop := Claim7.holds Tryd.pinned (.plain (OpenSpec.ofChange ivalNumbersSpec)) ivalNumbersCard

/-- THE TIED CARD OF 'augurlaw12.IvalJoins'. -/
def ivalJoinsCard : Claim7 := { stood := { row := ivalJoinsRow, standIns := [], harness := (true, "268ab1c644f0b7ef4e3bfbee2e8372e31e366df39a2acfb7841842a6261a4e0b"), looks := false }, kinds := [], alts := [], laidByText := true, laidKinds := [.data, .data, .data], laidTests := true, laidLooks := .later }
def IvalJoinsCardSaid : Prop := Claim7.holds Tryd.pinned (.plain (OpenSpec.ofChange ivalJoinsSpec)) ivalJoinsCard

/-- THE TIED CARD OF 'augurlaw12.IvalLattice'. -/
def ivalLatticeCard : Claim7 := { stood := { row := ivalLatticeRow, standIns := [], harness := (true, "268ab1c644f0b7ef4e3bfbee2e8372e31e366df39a2acfb7841842a6261a4e0b"), looks := false }, kinds := [], alts := [], laidByText := true, laidKinds := [.data, .data, .data], laidTests := true, laidLooks := .later }
def IvalLatticeCardSaid : Prop := Claim7.holds Tryd.pinned (.plain (OpenSpec.ofChange ivalLatticeSpec)) ivalLatticeCard

/-- THE TIED CARD OF 'augurlaw12.IvalOrder'. -/
def ivalOrderCard : Claim7 := { stood := { row := ivalOrderRow, standIns := [], harness := (true, "268ab1c644f0b7ef4e3bfbee2e8372e31e366df39a2acfb7841842a6261a4e0b"), looks := false }, kinds := [], alts := [], laidByText := true, laidKinds := [.data, .data, .data], laidTests := true, laidLooks := .later }
def IvalOrderCardSaid : Prop := Claim7.holds Tryd.pinned (.plain (OpenSpec.ofChange ivalOrderSpec)) ivalOrderCard

/-- THE SECOND FORM's CARD OF 'augurlaw12.IvalWidens'. -/
def ivalWidensUptoCard : Claim7 := { stood := { row := ivalWidensUptoRow, standIns := [], harness := (true, "268ab1c644f0b7ef4e3bfbee2e8372e31e366df39a2acfb7841842a6261a4e0b"), looks := false }, kinds := [], alts := [], laidByText := true, laidKinds := [.data, .data, .data], laidTests := true, laidLooks := .later }
def IvalWidensUptoCardSaid : Prop := Claim7.holds Tryd.pinned (.plain (OpenSpec.upto ivalWidensSpec)) ivalWidensUptoCard

/-- THE SECOND FORM's CARD OF 'augurlaw12.IvalNumbers'. -/
def ivalNumbersUptoCard : Claim7 := { stood := { row := ivalNumbersUptoRow, standIns := [], harness := (true, "268ab1c644f0b7ef4e3bfbee2e8372e31e366df39a2acfb7841842a6261a4e0b"), looks := false }, kinds := [], alts := [], laidByText := true, laidKinds := [.data, .data, .data], laidTests := true, laidLooks := .later }
def IvalNumbersUptoCardSaid : Prop := Claim7.holds Tryd.pinned (.plain (OpenSpec.upto ivalNumbersSpec)) ivalNumbersUptoCard

/-- THE SECOND FORM's CARD OF 'augurlaw12.IvalJoins'. -/
def ivalJoinsUptoCard : Claim7 := { stood := { row := ivalJoinsUptoRow, standIns := [], harness := (true, "268ab1c644f0b7ef4e3bfbee2e8372e31e366df39a2acfb7841842a6261a4e0b"), looks := false }, kinds := [], alts := [], laidByText := true, laidKinds := [.data, .data, .data], laidTests := true, laidLooks := .later }
def IvalJoinsUptoCardSaid : Prop := Claim7.holds Tryd.pinned (.plain (OpenSpec.upto ivalJoinsSpec)) ivalJoinsUptoCard

/-- THE SECOND FORM's CARD OF 'augurlaw12.IvalLattice'. -/
def ivalLatticeUptoCard : Claim7 := { stood := { row := ivalLatticeUptoRow, standIns := [], harness := (true, "268ab1c644f0b7ef4e3bfbee2e8372e31e366df39a2acfb7841842a6261a4e0b"), looks := false }, kinds := [], alts := [], laidByText := true, laidKinds := [.data, .data, .data], laidTests := true, laidLooks := .later }
def IvalLatticeUptoCardSaid : Prop := Claim7.holds Tryd.pinned (.plain (OpenSpec.upto ivalLatticeSpec)) ivalLatticeUptoCard

/-- THE SECOND FORM's CARD OF 'augurlaw12.IvalOrder'. -/
def ivalOrderUptoCard : Claim7 := { stood := { row := ivalOrderUptoRow, standIns := [], harness := (true, "268ab1c644f0b7ef4e3bfbee2e8372e31e366df39a2acfb7841842a6261a4e0b"), looks := false }, kinds := [], alts := [], laidByText := true, laidKinds := [.data, .data, .data], laidTests := true, laidLooks := .later }
def IvalOrderUptoCardSaid : Prop := Claim7.holds Tryd.pinned (.plain (OpenSpec.upto ivalOrderSpec)) ivalOrderUptoCard
end Rows
end Go.Proofs.YtbkhkbfjfblbjaaDoor
