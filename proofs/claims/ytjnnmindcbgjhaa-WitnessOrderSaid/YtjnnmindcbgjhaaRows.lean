/-
  No cell of these rows narrows 'for every input' (looked for: loops, veiled, ifaces, maps, wideKeys, modest, calm, conditions, laid).
  DERIVED. THE GIVEN ROWS OF THIS SEAT. 8 by the template 'for every input the law returns true; each argument reads behind the call as it read before'; 0 by the template 'total and deterministic' (their statements: YtjnnmindcbgjhaaTotals.lean).
  GIVEN WITH THE SEED: the statements are not yours to turn. If you find one false, say at which input.
  Laid BY PROGRAM, IN A SANDBOX (cutbox-rows.mjs): the forced cells as the released guide's own fill.sh prints them over the translation c64a99b1d5c2d675… (all of the seat's roots in one cut). By AI agents, Wed Nov 11 2026. No macro, syntax, notation, axiom, sorry.
-/
import Derived.Test.YtjnnmindcbgjhaaChecked
import GoSem.Claim
import GoSem.ClaimJoined
import GoSem.ClaimMapViews
import Derived.JoinedTies
import Derived.KernelRfl
namespace Go.Proofs.Ytjnnmindcbgjhaa
/- THE CELL 'sum', in the pinned program and in every row, IS THE sha256 OF THE DUMP (.gsa) THAT YtjnnmindcbgjhaaProg.lean LOADS. Nothing in Lean hashes anything: it is a label: what it is worth is what the hold of that sum in a sandbox is worth. -/
noncomputable def Try.pinned : Pinned := { name := "ytjnnmindcbgjhaa", sum := "c64a99b1d5c2d675d5aafda8e8504b361e15c8b5a6e6d0d5299e45eeea45b427", checked := Try.checked }
namespace Rows
def none {H : Type} : Left H := { results := [], args := [] }

/-- 'augurlaw20.RunFuel': WHATEVER THE INPUT: true; the input reads as it did. -/
def runFuelSpec : ChangeSpec := { name := "runFuel", fn := fun _ => fun
  | [d1, d2, d3, d4, d5, d6, d7] => { results := [.lit (.bool true)], args := [d1, d2, d3, d4, d5, d6, d7] }
  | _ => none }
def runFuelRow : OpenClaim := { program := "ytjnnmindcbgjhaa", sum := "c64a99b1d5c2d675d5aafda8e8504b361e15c8b5a6e6d0d5299e45eeea45b427", func := "augur/augurlaw20.RunFuel", spec := "runFuel", unfollowed := true, recurses := true, apart := false }
def RunFuelSaid : Prop := runFuelRow.holds Try.pinned (OpenSpec.ofChange runFuelSpec)

/-- ITS FALSE NEIGHBOUR: 'it returns false'. Refute it at one input. -/
def runFuelWrong : ChangeSpec := { name := "runFuel", fn := fun _ => fun
  | [d1, d2, d3, d4, d5, d6, d7] => { results := [.lit (.bool false)], args := [d1, d2, d3, d4, d5, d6, d7] }
  | _ => none }
def RunFuelWrongFalsely : Prop := runFuelRow.holds Try.pinned (OpenSpec.ofChange runFuelWrong)

/-- 'augurlaw20.RunState': WHATEVER THE INPUT: true; the input reads as it did. -/
def runStateSpec : ChangeSpec := { name := "runState", fn := fun _ => fun
  | [d1, d2, d3, d4, d5] => { results := [.lit (.bool true)], args := [d1, d2, d3, d4, d5] }
  | _ => none }
def runStateRow : OpenClaim := { program := "ytjnnmindcbgjhaa", sum := "c64a99b1d5c2d675d5aafda8e8504b361e15c8b5a6e6d0d5299e45eeea45b427", func := "augur/augurlaw20.RunState", spec := "runState", unfollowed := true, recurses := true, apart := false }
def RunStateSaid : Prop := runStateRow.holds Try.pinned (OpenSpec.ofChange runStateSpec)

/-- ITS FALSE NEIGHBOUR: 'it returns false'. Refute it at one input. -/
def runStateWrong : ChangeSpec := { name := "runState", fn := fun _ => fun
  | [d1, d2, d3, d4, d5] => { results := [.lit (.bool false)], args := [d1, d2, d3, d4, d5] }
  | _ => none }
def RunStateWrongFalsely : Prop := runStateRow.holds Try.pinned (OpenSpec.ofChange runStateWrong)

/-- 'augurlaw20.RunSums': WHATEVER THE INPUT: true; the input reads as it did. -/
def runSumsSpec : ChangeSpec := { name := "runSums", fn := fun _ => fun
  | [d1, d2, d3] => { results := [.lit (.bool true)], args := [d1, d2, d3] }
  | _ => none }
def runSumsRow : OpenClaim := { program := "ytjnnmindcbgjhaa", sum := "c64a99b1d5c2d675d5aafda8e8504b361e15c8b5a6e6d0d5299e45eeea45b427", func := "augur/augurlaw20.RunSums", spec := "runSums", unfollowed := true, recurses := true, apart := false }
def RunSumsSaid : Prop := runSumsRow.holds Try.pinned (OpenSpec.ofChange runSumsSpec)

/-- ITS FALSE NEIGHBOUR: 'it returns false'. Refute it at one input. -/
def runSumsWrong : ChangeSpec := { name := "runSums", fn := fun _ => fun
  | [d1, d2, d3] => { results := [.lit (.bool false)], args := [d1, d2, d3] }
  | _ => none }
def RunSumsWrongFalsely : Prop := runSumsRow.holds Try.pinned (OpenSpec.ofChange runSumsWrong)

/-- 'augurlaw20.RunConds': WHATEVER THE INPUT: true; the input reads as it did. -/
def runCondsSpec : ChangeSpec := { name := "runConds", fn := fun _ => fun
  | [d1, d2, d3, d4] => { results := [.lit (.bool true)], args := [d1, d2, d3, d4] }
  | _ => none }
def runCondsRow : OpenClaim := { program := "ytjnnmindcbgjhaa", sum := "c64a99b1d5c2d675d5aafda8e8504b361e15c8b5a6e6d0d5299e45eeea45b427", func := "augur/augurlaw20.RunConds", spec := "runConds", unfollowed := true, recurses := true, apart := false }
def RunCondsSaid : Prop := runCondsRow.holds Try.pinned (OpenSpec.ofChange runCondsSpec)

/-- ITS FALSE NEIGHBOUR: 'it returns false'. Refute it at one input. -/
def runCondsWrong : ChangeSpec := { name := "runConds", fn := fun _ => fun
  | [d1, d2, d3, d4] => { results := [.lit (.bool false)], args := [d1, d2, d3, d4] }
  | _ => none }
def RunCondsWrongFalsely : Prop := runCondsRow.holds Try.pinned (OpenSpec.ofChange runCondsWrong)

/-- 'augurlaw20.RunCells': WHATEVER THE INPUT: true; the input reads as it did. -/
def runCellsSpec : ChangeSpec := { name := "runCells", fn := fun _ => fun
  | [d1, d2, d3, d4] => { results := [.lit (.bool true)], args := [d1, d2, d3, d4] }
  | _ => none }
def runCellsRow : OpenClaim := { program := "ytjnnmindcbgjhaa", sum := "c64a99b1d5c2d675d5aafda8e8504b361e15c8b5a6e6d0d5299e45eeea45b427", func := "augur/augurlaw20.RunCells", spec := "runCells", unfollowed := true, recurses := true, apart := false }
def RunCellsSaid : Prop := runCellsRow.holds Try.pinned (OpenSpec.ofChange runCellsSpec)

/-- ITS FALSE NEIGHBOUR: 'it returns false'. Refute it at one input. -/
def runCellsWrong : ChangeSpec := { name := "runCells", fn := fun _ => fun
  | [d1, d2, d3, d4] => { results := [.lit (.bool false)], args := [d1, d2, d3, d4] }
  | _ => none }
def RunCellsWrongFalsely : Prop := runCellsRow.holds Try.pinned (OpenSpec.ofChange runCellsWrong)

/-- 'augurlaw20.RunAgain': WHATEVER THE INPUT: true; the input reads as it did. -/
def runAgainSpec : ChangeSpec := { name := "runAgain", fn := fun _ => fun
  | [d1, d2] => { results := [.lit (.bool true)], args := [d1, d2] }
  | _ => none }
def runAgainRow : OpenClaim := { program := "ytjnnmindcbgjhaa", sum := "c64a99b1d5c2d675d5aafda8e8504b361e15c8b5a6e6d0d5299e45eeea45b427", func := "augur/augurlaw20.RunAgain", spec := "runAgain", unfollowed := true, recurses := true, apart := false }
def RunAgainSaid : Prop := runAgainRow.holds Try.pinned (OpenSpec.ofChange runAgainSpec)

/-- ITS FALSE NEIGHBOUR: 'it returns false'. Refute it at one input. -/
def runAgainWrong : ChangeSpec := { name := "runAgain", fn := fun _ => fun
  | [d1, d2] => { results := [.lit (.bool false)], args := [d1, d2] }
  | _ => none }
def RunAgainWrongFalsely : Prop := runAgainRow.holds Try.pinned (OpenSpec.ofChange runAgainWrong)

/-- 'augurlaw28.WitnessCount': WHATEVER THE INPUT: true; the input reads as it did. -/
def witnessCountSpec : ChangeSpec := { name := "witnessCount", fn := fun _ => fun
  | [d1, d2, d3] => { results := [.lit (.bool true)], args := [d1, d2, d3] }
  | _ => none }
def witnessCountRow : OpenClaim := { program := "ytjnnmindcbgjhaa", sum := "c64a99b1d5c2d675d5aafda8e8504b361e15c8b5a6e6d0d5299e45eeea45b427", func := "augur/augurlaw28.WitnessCount", spec := "witnessCount", unfollowed := true, recurses := true, apart := false }
def WitnessCountSaid : Prop := witnessCountRow.holds Try.pinned (OpenSpec.ofChange witnessCountSpec)

/-- ITS FALSE NEIGHBOUR: 'it returns false'. Refute it at one input. -/
def witnessCountWrong : ChangeSpec := { name := "witnessCount", fn := fun _ => fun
  | [d1, d2, d3] => { results := [.lit (.bool false)], args := [d1, d2, d3] }
  | _ => none }
def WitnessCountWrongFalsely : Prop := witnessCountRow.holds Try.pinned (OpenSpec.ofChange witnessCountWrong)

/-- 'augurlaw28.WitnessOrder': WHATEVER THE INPUT: true; the input reads as it did. -/
def witnessOrderSpec : ChangeSpec := { name := "witnessOrder", fn := fun _ => fun
  | [d1, d2, d3] => { results := [.lit (.bool true)], args := [d1, d2, d3] }
  | _ => none }
def witnessOrderRow : OpenClaim := { program := "ytjnnmindcbgjhaa", sum := "c64a99b1d5c2d675d5aafda8e8504b361e15c8b5a6e6d0d5299e45eeea45b427", func := "augur/augurlaw28.WitnessOrder", spec := "witnessOrder", unfollowed := true, recurses := true, apart := false }
def WitnessOrderSaid : Prop := witnessOrderRow.holds Try.pinned (OpenSpec.ofChange witnessOrderSpec)

/-- ITS FALSE NEIGHBOUR: 'it returns false'. Refute it at one input. -/
def witnessOrderWrong : ChangeSpec := { name := "witnessOrder", fn := fun _ => fun
  | [d1, d2, d3] => { results := [.lit (.bool false)], args := [d1, d2, d3] }
  | _ => none }
def WitnessOrderWrongFalsely : Prop := witnessOrderRow.holds Try.pinned (OpenSpec.ofChange witnessOrderWrong)

/- THE SECOND FORM. 'bulk': how many values and letters a reading holds, each counted each time it is reached (what is shared counts as often as it is met; a slice's spare places count too). A statement '..UptoSaid' is the law's where the arguments, and the package variables that the reading takes, are together of bulk at most 1048576: NARROWER than '..Said'. Prove '..Said' where nothing that the law and all that it calls make is longer than what came in: it says more and counts as full. Else prove '..UptoSaid'. A law counts once. -/
mutual
def uptoBulk {H : Type} : DataW H → Nat
  | .lit (.string bytes) => bytes.length + 1
  | .lit _ => 1
  | .nil => 1
  | .ptr d => uptoBulk d + 1
  | .slice elems spare => uptoBulkAll elems + uptoBulkAll spare + 1
  | .agg parts => uptoBulkAll parts + 1
  | .iface _ d => uptoBulk d + 1
  | .map entries => uptoBulkEntries entries + 1
  | .held _ => 1
def uptoBulkAll {H : Type} : List (DataW H) → Nat
  | [] => 0
  | d :: r => uptoBulk d + uptoBulkAll r
def uptoBulkEntries {H : Type} : List (Lit × DataW H) → Nat
  | [] => 0
  | x :: r => uptoBulkEntry x + uptoBulkEntries r
def uptoBulkEntry {H : Type} : Lit × DataW H → Nat
  | (.string bytes, d) => bytes.length + uptoBulk d + 1
  | (_, d) => uptoBulk d + 1
 end
def uptoSmall : (H : Type) → List (DataW H) → Bool := fun _ ds => decide (uptoBulkAll ds ≤ 1048576)
def OpenSpec.upto (s : _root_.Go.ChangeSpec) : _root_.Go.OpenSpec := { _root_.Go.OpenSpec.ofChange s with cond := some uptoSmall }

/-- 'augurlaw20.RunFuel', WHERE WHAT IT READS IS OF BULK AT MOST 1048576: true; the input reads as it did. -/
def runFuelUptoRow : OpenClaim := { program := "ytjnnmindcbgjhaa", sum := "c64a99b1d5c2d675d5aafda8e8504b361e15c8b5a6e6d0d5299e45eeea45b427", func := "augur/augurlaw20.RunFuel", spec := "runFuel", unfollowed := true, recurses := true, apart := false, narrowed := true }
def RunFuelUptoSaid : Prop := runFuelUptoRow.holds Try.pinned (OpenSpec.upto runFuelSpec)

/-- 'augurlaw20.RunState', WHERE WHAT IT READS IS OF BULK AT MOST 1048576: true; the input reads as it did. -/
def runStateUptoRow : OpenClaim := { program := "ytjnnmindcbgjhaa", sum := "c64a99b1d5c2d675d5aafda8e8504b361e15c8b5a6e6d0d5299e45eeea45b427", func := "augur/augurlaw20.RunState", spec := "runState", unfollowed := true, recurses := true, apart := false, narrowed := true }
def RunStateUptoSaid : Prop := runStateUptoRow.holds Try.pinned (OpenSpec.upto runStateSpec)

/-- 'augurlaw20.RunSums', WHERE WHAT IT READS IS OF BULK AT MOST 1048576: true; the input reads as it did. -/
def runSumsUptoRow : OpenClaim := { program := "ytjnnmindcbgjhaa", sum := "c64a99b1d5c2d675d5aafda8e8504b361e15c8b5a6e6d0d5299e45eeea45b427", func := "augur/augurlaw20.RunSums", spec := "runSums", unfollowed := true, recurses := true, apart := false, narrowed := true }
def RunSumsUptoSaid : Prop := runSumsUptoRow.holds Try.pinned (OpenSpec.upto runSumsSpec)

/-- 'augurlaw20.RunConds', WHERE WHAT IT READS IS OF BULK AT MOST 1048576: true; the input reads as it did. -/
def runCondsUptoRow : OpenClaim := { program := "ytjnnmindcbgjhaa", sum := "c64a99b1d5c2d675d5aafda8e8504b361e15c8b5a6e6d0d5299e45eeea45b427", func := "augur/augurlaw20.RunConds", spec := "runConds", unfollowed := true, recurses := true, apart := false, narrowed := true }
def RunCondsUptoSaid : Prop := runCondsUptoRow.holds Try.pinned (OpenSpec.upto runCondsSpec)

/-- 'augurlaw20.RunCells', WHERE WHAT IT READS IS OF BULK AT MOST 1048576: true; the input reads as it did. -/
def runCellsUptoRow : OpenClaim := { program := "ytjnnmindcbgjhaa", sum := "c64a99b1d5c2d675d5aafda8e8504b361e15c8b5a6e6d0d5299e45eeea45b427", func := "augur/augurlaw20.RunCells", spec := "runCells", unfollowed := true, recurses := true, apart := false, narrowed := true }
def RunCellsUptoSaid : Prop := runCellsUptoRow.holds Try.pinned (OpenSpec.upto runCellsSpec)

/-- 'augurlaw20.RunAgain', WHERE WHAT IT READS IS OF BULK AT MOST 1048576: true; the input reads as it did. -/
def runAgainUptoRow : OpenClaim := { program := "ytjnnmindcbgjhaa", sum := "c64a99b1d5c2d675d5aafda8e8504b361e15c8b5a6e6d0d5299e45eeea45b427", func := "augur/augurlaw20.RunAgain", spec := "runAgain", unfollowed := true, recurses := true, apart := false, narrowed := true }
def RunAgainUptoSaid : Prop := runAgainUptoRow.holds Try.pinned (OpenSpec.upto runAgainSpec)

/-- 'augurlaw28.WitnessCount', WHERE WHAT IT READS IS OF BULK AT MOST 1048576: true; the input reads as it did. -/
def witnessCountUptoRow : OpenClaim := { program := "ytjnnmindcbgjhaa", sum := "c64a99b1d5c2d675d5aafda8e8504b361e15c8b5a6e6d0d5299e45eeea45b427", func := "augur/augurlaw28.WitnessCount", spec := "witnessCount", unfollowed := true, recurses := true, apart := false, narrowed := true }
def WitnessCountUptoSaid : Prop := witnessCountUptoRow.holds Try.pinned (OpenSpec.upto witnessCountSpec)

/-- 'augurlaw28.WitnessOrder', WHERE WHAT IT READS IS OF BULK AT MOST 1048576: true; the input reads as it did. -/
def witnessOrderUptoRow : OpenClaim := { program := "ytjnnmindcbgjhaa", sum := "c64a99b1d5c2d675d5aafda8e8504b361e15c8b5a6e6d0d5299e45eeea45b427", func := "augur/augurlaw28.WitnessOrder", spec := "witnessOrder", unfollowed := true, recurses := true, apart := false, narrowed := true }
def WitnessOrderUptoSaid : Prop := witnessOrderUptoRow.holds Try.pinned (OpenSpec.upto witnessOrderSpec)

end Rows
end Go.Proofs.Ytjnnmindcbgjhaa
