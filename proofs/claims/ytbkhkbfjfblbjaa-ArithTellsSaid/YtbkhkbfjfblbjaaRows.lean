/-
  No cell of these rows narrows 'for every input' (looked for: loops, veiled, ifaces, maps, wideKeys, modest, calm, conditions, laid).
  DERIVED. THE GIVEN ROWS OF THIS SEAT. 7 by the template 'for every input the law returns true; each argument reads behind the call as it read before'; 0 by the template 'total and deterministic' (their statements: YtbkhkbfjfblbjaaTotals.lean).
  GIVEN WITH THE SEED: the statements are not yours to turn. If you find one false, say at which input.
  Laid BY PROGRAM, IN A SANDBOX (cutbox-rows.mjs): the forced cells as the released guide's own fill.sh prints them over the translation e0708bd3439dc642… (all of the seat's roots in one cut). By AI agents, Wed Nov 11 2026. No macro, syntax, notation, axiom, sorry.
-/
import Derived.Test.YtbkhkbfjfblbjaaChecked
import GoSem.Claim
import GoSem.ClaimJoined
import GoSem.ClaimMapViews
import Derived.JoinedTies
import Derived.KernelRfl
namespace Go.Proofs.Ytbkhkbfjfblbjaa
/- THE CELL 'sum', in the pinned program and in every row, IS THE sha256 OF THE DUMP (.gsa) THAT YtbkhkbfjfblbjaaProg.lean LOADS. Nothing in Lean hashes anything: it is a label: what it is worth is what the hold of that sum in a sandbox is worth. -/
noncomputable def Try.pinned : Pinned := { name := "ytbkhkbfjfblbjaa", sum := "e0708bd3439dc642b830a514b1200145fb9cbcab621b7c4380d1969829ff2fde", checked := Try.checked }
namespace Rows
def none {H : Type} : Left H := { results := [], args := [] }

/-- 'augurlaw13.ArithLess': WHATEVER THE INPUT: true; the input reads as it did. -/
def arithLessSpec : ChangeSpec := { name := "arithLess", fn := fun _ => fun
  | [d1, d2, d3, d4, d5] => { results := [.lit (.bool true)], args := [d1, d2, d3, d4, d5] }
  | _ => none }
def arithLessRow : OpenClaim := { program := "ytbkhkbfjfblbjaa", sum := "e0708bd3439dc642b830a514b1200145fb9cbcab621b7c4380d1969829ff2fde", func := "augur/augurlaw13.ArithLess", spec := "arithLess", apart := false }
def ArithLessSaid : Prop := arithLessRow.holds Try.pinned (OpenSpec.ofChange arithLessSpec)

/-- ITS FALSE NEIGHBOUR: 'it returns false'. Refute it at one input. -/
def arithLessWrong : ChangeSpec := { name := "arithLess", fn := fun _ => fun
  | [d1, d2, d3, d4, d5] => { results := [.lit (.bool false)], args := [d1, d2, d3, d4, d5] }
  | _ => none }
def ArithLessWrongFalsely : Prop := arithLessRow.holds Try.pinned (OpenSpec.ofChange arithLessWrong)

/-- 'augurlaw13.ArithParts': WHATEVER THE INPUT: true; the input reads as it did. -/
def arithPartsSpec : ChangeSpec := { name := "arithParts", fn := fun _ => fun
  | [d1, d2, d3, d4, d5] => { results := [.lit (.bool true)], args := [d1, d2, d3, d4, d5] }
  | _ => none }
def arithPartsRow : OpenClaim := { program := "ytbkhkbfjfblbjaa", sum := "e0708bd3439dc642b830a514b1200145fb9cbcab621b7c4380d1969829ff2fde", func := "augur/augurlaw13.ArithParts", spec := "arithParts", unfollowed := true, recurses := true, apart := false }
def ArithPartsSaid : Prop := arithPartsRow.holds Try.pinned (OpenSpec.ofChange arithPartsSpec)

/-- ITS FALSE NEIGHBOUR: 'it returns false'. Refute it at one input. -/
def arithPartsWrong : ChangeSpec := { name := "arithParts", fn := fun _ => fun
  | [d1, d2, d3, d4, d5] => { results := [.lit (.bool false)], args := [d1, d2, d3, d4, d5] }
  | _ => none }
def ArithPartsWrongFalsely : Prop := arithPartsRow.holds Try.pinned (OpenSpec.ofChange arithPartsWrong)

/-- 'augurlaw13.ArithTurned': WHATEVER THE INPUT: true; the input reads as it did. -/
def arithTurnedSpec : ChangeSpec := { name := "arithTurned", fn := fun _ => fun
  | [d1, d2, d3] => { results := [.lit (.bool true)], args := [d1, d2, d3] }
  | _ => none }
def arithTurnedRow : OpenClaim := { program := "ytbkhkbfjfblbjaa", sum := "e0708bd3439dc642b830a514b1200145fb9cbcab621b7c4380d1969829ff2fde", func := "augur/augurlaw13.ArithTurned", spec := "arithTurned", apart := false }
def ArithTurnedSaid : Prop := arithTurnedRow.holds Try.pinned (OpenSpec.ofChange arithTurnedSpec)

/-- ITS FALSE NEIGHBOUR: 'it returns false'. Refute it at one input. -/
def arithTurnedWrong : ChangeSpec := { name := "arithTurned", fn := fun _ => fun
  | [d1, d2, d3] => { results := [.lit (.bool false)], args := [d1, d2, d3] }
  | _ => none }
def ArithTurnedWrongFalsely : Prop := arithTurnedRow.holds Try.pinned (OpenSpec.ofChange arithTurnedWrong)

/-- 'augurlaw13.ArithConsts': WHATEVER THE INPUT: true; the input reads as it did. -/
def arithConstsSpec : ChangeSpec := { name := "arithConsts", fn := fun _ => fun
  | [d1, d2] => { results := [.lit (.bool true)], args := [d1, d2] }
  | _ => none }
def arithConstsRow : OpenClaim := { program := "ytbkhkbfjfblbjaa", sum := "e0708bd3439dc642b830a514b1200145fb9cbcab621b7c4380d1969829ff2fde", func := "augur/augurlaw13.ArithConsts", spec := "arithConsts", unfollowed := true, recurses := true, apart := false }
def ArithConstsSaid : Prop := arithConstsRow.holds Try.pinned (OpenSpec.ofChange arithConstsSpec)

/-- ITS FALSE NEIGHBOUR: 'it returns false'. Refute it at one input. -/
def arithConstsWrong : ChangeSpec := { name := "arithConsts", fn := fun _ => fun
  | [d1, d2] => { results := [.lit (.bool false)], args := [d1, d2] }
  | _ => none }
def ArithConstsWrongFalsely : Prop := arithConstsRow.holds Try.pinned (OpenSpec.ofChange arithConstsWrong)

/-- 'augurlaw13.ArithTells': WHATEVER THE INPUT: true; the input reads as it did. -/
def arithTellsSpec : ChangeSpec := { name := "arithTells", fn := fun _ => fun
  | [d1, d2, d3] => { results := [.lit (.bool true)], args := [d1, d2, d3] }
  | _ => none }
def arithTellsRow : OpenClaim := { program := "ytbkhkbfjfblbjaa", sum := "e0708bd3439dc642b830a514b1200145fb9cbcab621b7c4380d1969829ff2fde", func := "augur/augurlaw13.ArithTells", spec := "arithTells", recurses := true, apart := false }
def ArithTellsSaid : Prop := arithTellsRow.holds Try.pinned (OpenSpec.ofChange arithTellsSpec)

/-- ITS FALSE NEIGHBOUR: 'it returns false'. Refute it at one input. -/
def arithTellsWrong : ChangeSpec := { name := "arithTells", fn := fun _ => fun
  | [d1, d2, d3] => { results := [.lit (.bool false)], args := [d1, d2, d3] }
  | _ => none }
def ArithTellsWrongFalsely : Prop := arithTellsRow.holds Try.pinned (OpenSpec.ofChange arithTellsWrong)

/-- 'augurlaw13.ArithSound': WHATEVER THE INPUT: true; the input reads as it did. -/
def arithSoundSpec : ChangeSpec := { name := "arithSound", fn := fun _ => fun
  | [d1, d2, d3, d4] => { results := [.lit (.bool true)], args := [d1, d2, d3, d4] }
  | _ => none }
def arithSoundRow : OpenClaim := { program := "ytbkhkbfjfblbjaa", sum := "e0708bd3439dc642b830a514b1200145fb9cbcab621b7c4380d1969829ff2fde", func := "augur/augurlaw13.ArithSound", spec := "arithSound", unfollowed := true, recurses := true, apart := false }
def ArithSoundSaid : Prop := arithSoundRow.holds Try.pinned (OpenSpec.ofChange arithSoundSpec)

/-- ITS FALSE NEIGHBOUR: 'it returns false'. Refute it at one input. -/
def arithSoundWrong : ChangeSpec := { name := "arithSound", fn := fun _ => fun
  | [d1, d2, d3, d4] => { results := [.lit (.bool false)], args := [d1, d2, d3, d4] }
  | _ => none }
def ArithSoundWrongFalsely : Prop := arithSoundRow.holds Try.pinned (OpenSpec.ofChange arithSoundWrong)

/-- 'augurlaw13.ArithGrows': WHATEVER THE INPUT: true; the input reads as it did. -/
def arithGrowsSpec : ChangeSpec := { name := "arithGrows", fn := fun _ => fun
  | [d1, d2, d3, d4] => { results := [.lit (.bool true)], args := [d1, d2, d3, d4] }
  | _ => none }
def arithGrowsRow : OpenClaim := { program := "ytbkhkbfjfblbjaa", sum := "e0708bd3439dc642b830a514b1200145fb9cbcab621b7c4380d1969829ff2fde", func := "augur/augurlaw13.ArithGrows", spec := "arithGrows", unfollowed := true, recurses := true, apart := false }
def ArithGrowsSaid : Prop := arithGrowsRow.holds Try.pinned (OpenSpec.ofChange arithGrowsSpec)

/-- ITS FALSE NEIGHBOUR: 'it returns false'. Refute it at one input. -/
def arithGrowsWrong : ChangeSpec := { name := "arithGrows", fn := fun _ => fun
  | [d1, d2, d3, d4] => { results := [.lit (.bool false)], args := [d1, d2, d3, d4] }
  | _ => none }
def ArithGrowsWrongFalsely : Prop := arithGrowsRow.holds Try.pinned (OpenSpec.ofChange arithGrowsWrong)

/- THE SECOND FORM. 'bulk': how many values and letters a reading holds, each counted each time it is reached (what is shared counts as often as it is met; a slice's spare places count too). A statement '..UptoSaid' is the law's where the arguments, and the package variables that the reading takes, are together of bulk at most 1048576: NARROWER than '..Said'. Prove '..Said' where nothing that the law and all that it calls make is longer than what came in: it says more and counts as full. Else prove '..UptoSaid'. A law counts once. -/
mutual
def uptoBulk {H : Type} : DataW H → Nat
  | .lit (.string bytes) => bytes.length + 1
  | .lit _ => 1
  | .nil => 1
  | .ptr d => uptoBulk d + 1
  | .slice elems spare => uptoBulkAll elems + uptoBulkAll spare + 1
  | .agg parts => uptoBulkAll parts + 1
  | .iface _ d => uptoBulk d + 1
  | .map entries => uptoBulkEntries entries + 1
  | .held _ => 1
def uptoBulkAll {H : Type} : List (DataW H) → Nat
  | [] => 0
  | d :: r => uptoBulk d + uptoBulkAll r
def uptoBulkEntries {H : Type} : List (Lit × DataW H) → Nat
  | [] => 0
  | x :: r => uptoBulkEntry x + uptoBulkEntries r
def uptoBulkEntry {H : Type} : Lit × DataW H → Nat
  | (.string bytes, d) => bytes.length + uptoBulk d + 1
  | (_, d) => uptoBulk d + 1
 end
def uptoSmall : (H : Type) → List (DataW H) → Bool := fun _ ds => decide (uptoBulkAll ds ≤ 1048576)
def OpenSpec.upto (s : _root_.Go.ChangeSpec) : _root_.Go.OpenSpec := { _root_.Go.OpenSpec.ofChange s with cond := some uptoSmall }

/-- 'augurlaw13.ArithLess', WHERE WHAT IT READS IS OF BULK AT MOST 1048576: true; the input reads as it did. -/
def arithLessUptoRow : OpenClaim := { program := "ytbkhkbfjfblbjaa", sum := "e0708bd3439dc642b830a514b1200145fb9cbcab621b7c4380d1969829ff2fde", func := "augur/augurlaw13.ArithLess", spec := "arithLess", apart := false, narrowed := true }
def ArithLessUptoSaid : Prop := arithLessUptoRow.holds Try.pinned (OpenSpec.upto arithLessSpec)

/-- 'augurlaw13.ArithParts', WHERE WHAT IT READS IS OF BULK AT MOST 1048576: true; the input reads as it did. -/
def arithPartsUptoRow : OpenClaim := { program := "ytbkhkbfjfblbjaa", sum := "e0708bd3439dc642b830a514b1200145fb9cbcab621b7c4380d1969829ff2fde", func := "augur/augurlaw13.ArithParts", spec := "arithParts", unfollowed := true, recurses := true, apart := false, narrowed := true }
def ArithPartsUptoSaid : Prop := arithPartsUptoRow.holds Try.pinned (OpenSpec.upto arithPartsSpec)

/-- 'augurlaw13.ArithTurned', WHERE WHAT IT READS IS OF BULK AT MOST 1048576: true; the input reads as it did. -/
def arithTurnedUptoRow : OpenClaim := { program := "ytbkhkbfjfblbjaa", sum := "e0708bd3439dc642b830a514b1200145fb9cbcab621b7c4380d1969829ff2fde", func := "augur/augurlaw13.ArithTurned", spec := "arithTurned", apart := false, narrowed := true }
def ArithTurnedUptoSaid : Prop := arithTurnedUptoRow.holds Try.pinned (OpenSpec.upto arithTurnedSpec)

/-- 'augurlaw13.ArithConsts', WHERE WHAT IT READS IS OF BULK AT MOST 1048576: true; the input reads as it did. -/
def arithConstsUptoRow : OpenClaim := { program := "ytbkhkbfjfblbjaa", sum := "e0708bd3439dc642b830a514b1200145fb9cbcab621b7c4380d1969829ff2fde", func := "augur/augurlaw13.ArithConsts", spec := "arithConsts", unfollowed := true, recurses := true, apart := false, narrowed := true }
def ArithConstsUptoSaid : Prop := arithConstsUptoRow.holds Try.pinned (OpenSpec.upto arithConstsSpec)

/-- 'augurlaw13.ArithTells', WHERE WHAT IT READS IS OF BULK AT MOST 1048576: true; the input reads as it did. -/
def arithTellsUptoRow : OpenClaim := { program := "ytbkhkbfjfblbjaa", sum := "e0708bd3439dc642b830a514b1200145fb9cbcab621b7c4380d1969829ff2fde", func := "augur/augurlaw13.ArithTells", spec := "arithTells", recurses := true, apart := false, narrowed := true }
def ArithTellsUptoSaid : Prop := arithTellsUptoRow.holds Try.pinned (OpenSpec.upto arithTellsSpec)

/-- 'augurlaw13.ArithSound', WHERE WHAT IT READS IS OF BULK AT MOST 1048576: true; the input reads as it did. -/
def arithSoundUptoRow : OpenClaim := { program := "ytbkhkbfjfblbjaa", sum := "e0708bd3439dc642b830a514b1200145fb9cbcab621b7c4380d1969829ff2fde", func := "augur/augurlaw13.ArithSound", spec := "arithSound", unfollowed := true, recurses := true, apart := false, narrowed := true }
def ArithSoundUptoSaid : Prop := arithSoundUptoRow.holds Try.pinned (OpenSpec.upto arithSoundSpec)

/-- 'augurlaw13.ArithGrows', WHERE WHAT IT READS IS OF BULK AT MOST 1048576: true; the input reads as it did. -/
def arithGrowsUptoRow : OpenClaim := { program := "ytbkhkbfjfblbjaa", sum := "e0708bd3439dc642b830a514b1200145fb9cbcab621b7c4380d1969829ff2fde", func := "augur/augurlaw13.ArithGrows", spec := "arithGrows", unfollowed := true, recurses := true, apart := false, narrowed := true }
def ArithGrowsUptoSaid : Prop := arithGrowsUptoRow.holds Try.pinned (OpenSpec.upto arithGrowsSpec)

end Rows
end Go.Proofs.Ytbkhkbfjfblbjaa
