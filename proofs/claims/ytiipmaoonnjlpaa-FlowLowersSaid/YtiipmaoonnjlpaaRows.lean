/-
  No cell of these rows narrows 'for every input' (looked for: loops, veiled, ifaces, maps, wideKeys, modest, calm, conditions, laid).
  DERIVED. THE GIVEN ROWS OF THIS SEAT. 5 by the template 'for every input the law returns true; each argument reads behind the call as it read before'; 0 by the template 'total and deterministic' (their statements: YtiipmaoonnjlpaaTotals.lean).
  GIVEN WITH THE SEED: the statements are not yours to turn. If you find one false, say at which input.
  Laid BY PROGRAM, IN A SANDBOX (cutbox-rows.mjs): the forced cells as the released guide's own fill.sh prints them over the translation 031d5c4ef9ca4aff… (all of the seat's roots in one cut). By AI agents, Wed Nov 11 2026. No macro, syntax, notation, axiom, sorry.
-/
import Derived.Test.YtiipmaoonnjlpaaChecked
import GoSem.Claim
import GoSem.ClaimJoined
import GoSem.ClaimMapViews
import Derived.JoinedTies
import Derived.KernelRfl
namespace Go.Proofs.Ytiipmaoonnjlpaa
/- THE CELL 'sum', in the pinned program and in every row, IS THE sha256 OF THE DUMP (.gsa) THAT YtiipmaoonnjlpaaProg.lean LOADS. Nothing in Lean hashes anything: it is a label: what it is worth is what the hold of that sum in a sandbox is worth. -/
noncomputable def Try.pinned : Pinned := { name := "ytiipmaoonnjlpaa", sum := "031d5c4ef9ca4affee5f15f8f0d938c05bc4d15192146723f9f68f4fe035859e", checked := Try.checked }
namespace Rows
def none {H : Type} : Left H := { results := [], args := [] }

/-- 'augurlaw10.FlowShapes': WHATEVER THE INPUT: true; the input reads as it did. -/
def flowShapesSpec : ChangeSpec := { name := "flowShapes", fn := fun _ => fun
  | [d] => { results := [.lit (.bool true)], args := [d] }
  | _ => none }
def flowShapesRow : OpenClaim := { program := "ytiipmaoonnjlpaa", sum := "031d5c4ef9ca4affee5f15f8f0d938c05bc4d15192146723f9f68f4fe035859e", func := "augur/augurlaw10.FlowShapes", spec := "flowShapes", recurses := true, apart := false }
def FlowShapesSaid : Prop := flowShapesRow.holds Try.pinned (OpenSpec.ofChange flowShapesSpec)

/-- ITS FALSE NEIGHBOUR: 'it returns false'. Refute it at one input. -/
def flowShapesWrong : ChangeSpec := { name := "flowShapes", fn := fun _ => fun
  | [d] => { results := [.lit (.bool false)], args := [d] }
  | _ => none }
def FlowShapesWrongFalsely : Prop := flowShapesRow.holds Try.pinned (OpenSpec.ofChange flowShapesWrong)

/-- 'augurlaw10.FlowEnds': WHATEVER THE INPUT: true; the input reads as it did. -/
def flowEndsSpec : ChangeSpec := { name := "flowEnds", fn := fun _ => fun
  | [d1, d2] => { results := [.lit (.bool true)], args := [d1, d2] }
  | _ => none }
def flowEndsRow : OpenClaim := { program := "ytiipmaoonnjlpaa", sum := "031d5c4ef9ca4affee5f15f8f0d938c05bc4d15192146723f9f68f4fe035859e", func := "augur/augurlaw10.FlowEnds", spec := "flowEnds", recurses := true, apart := false }
def FlowEndsSaid : Prop := flowEndsRow.holds Try.pinned (OpenSpec.ofChange flowEndsSpec)

/-- ITS FALSE NEIGHBOUR: 'it returns false'. Refute it at one input. -/
def flowEndsWrong : ChangeSpec := { name := "flowEnds", fn := fun _ => fun
  | [d1, d2] => { results := [.lit (.bool false)], args := [d1, d2] }
  | _ => none }
def FlowEndsWrongFalsely : Prop := flowEndsRow.holds Try.pinned (OpenSpec.ofChange flowEndsWrong)

/-- 'augurlaw10.FlowLowers': WHATEVER THE INPUT: true; the input reads as it did. -/
def flowLowersSpec : ChangeSpec := { name := "flowLowers", fn := fun _ => fun
  | [d1, d2] => { results := [.lit (.bool true)], args := [d1, d2] }
  | _ => none }
def flowLowersRow : OpenClaim := { program := "ytiipmaoonnjlpaa", sum := "031d5c4ef9ca4affee5f15f8f0d938c05bc4d15192146723f9f68f4fe035859e", func := "augur/augurlaw10.FlowLowers", spec := "flowLowers", recurses := true, apart := false }
def FlowLowersSaid : Prop := flowLowersRow.holds Try.pinned (OpenSpec.ofChange flowLowersSpec)

/-- ITS FALSE NEIGHBOUR: 'it returns false'. Refute it at one input. -/
def flowLowersWrong : ChangeSpec := { name := "flowLowers", fn := fun _ => fun
  | [d1, d2] => { results := [.lit (.bool false)], args := [d1, d2] }
  | _ => none }
def FlowLowersWrongFalsely : Prop := flowLowersRow.holds Try.pinned (OpenSpec.ofChange flowLowersWrong)

/-- 'augurlaw10.FlowAsks': WHATEVER THE INPUT: true; the input reads as it did. -/
def flowAsksSpec : ChangeSpec := { name := "flowAsks", fn := fun _ => fun
  | [d1, d2] => { results := [.lit (.bool true)], args := [d1, d2] }
  | _ => none }
def flowAsksRow : OpenClaim := { program := "ytiipmaoonnjlpaa", sum := "031d5c4ef9ca4affee5f15f8f0d938c05bc4d15192146723f9f68f4fe035859e", func := "augur/augurlaw10.FlowAsks", spec := "flowAsks", recurses := true, apart := false }
def FlowAsksSaid : Prop := flowAsksRow.holds Try.pinned (OpenSpec.ofChange flowAsksSpec)

/-- ITS FALSE NEIGHBOUR: 'it returns false'. Refute it at one input. -/
def flowAsksWrong : ChangeSpec := { name := "flowAsks", fn := fun _ => fun
  | [d1, d2] => { results := [.lit (.bool false)], args := [d1, d2] }
  | _ => none }
def FlowAsksWrongFalsely : Prop := flowAsksRow.holds Try.pinned (OpenSpec.ofChange flowAsksWrong)

/-- 'augurlaw10.FlowThere': WHATEVER THE INPUT: true; the input reads as it did. -/
def flowThereSpec : ChangeSpec := { name := "flowThere", fn := fun _ => fun
  | [d] => { results := [.lit (.bool true)], args := [d] }
  | _ => none }
def flowThereRow : OpenClaim := { program := "ytiipmaoonnjlpaa", sum := "031d5c4ef9ca4affee5f15f8f0d938c05bc4d15192146723f9f68f4fe035859e", func := "augur/augurlaw10.FlowThere", spec := "flowThere", recurses := true, apart := false }
def FlowThereSaid : Prop := flowThereRow.holds Try.pinned (OpenSpec.ofChange flowThereSpec)

/-- ITS FALSE NEIGHBOUR: 'it returns false'. Refute it at one input. -/
def flowThereWrong : ChangeSpec := { name := "flowThere", fn := fun _ => fun
  | [d] => { results := [.lit (.bool false)], args := [d] }
  | _ => none }
def FlowThereWrongFalsely : Prop := flowThereRow.holds Try.pinned (OpenSpec.ofChange flowThereWrong)

/- THE SECOND FORM. 'bulk': how many values and letters a reading holds, each counted each time it is reached (what is shared counts as often as it is met; a slice's spare places count too). A statement '..UptoSaid' is the law's where the arguments, and the package variables that the reading takes, are together of bulk at most 1048576: NARROWER than '..Said'. Prove '..Said' where nothing that the law and all that it calls make is longer than what came in: it says more and counts as full. Else prove '..UptoSaid'. A law counts once. -/
mutual
def uptoBulk {H : Type} : DataW H → Nat
  | .lit (.string bytes) => bytes.length + 1
  | .lit _ => 1
  | .nil => 1
  | .ptr d => uptoBulk d + 1
  | .slice elems spare => uptoBulkAll elems + uptoBulkAll spare + 1
  | .agg parts => uptoBulkAll parts + 1
  | .iface _ d => uptoBulk d + 1
  | .map entries => uptoBulkEntries entries + 1
  | .held _ => 1
def uptoBulkAll {H : Type} : List (DataW H) → Nat
  | [] => 0
  | d :: r => uptoBulk d + uptoBulkAll r
def uptoBulkEntries {H : Type} : List (Lit × DataW H) → Nat
  | [] => 0
  | x :: r => uptoBulkEntry x + uptoBulkEntries r
def uptoBulkEntry {H : Type} : Lit × DataW H → Nat
  | (.string bytes, d) => bytes.length + uptoBulk d + 1
  | (_, d) => uptoBulk d + 1
 end
def uptoSmall : (H : Type) → List (DataW H) → Bool := fun _ ds => decide (uptoBulkAll ds ≤ 1048576)
def OpenSpec.upto (s : _root_.Go.ChangeSpec) : _root_.Go.OpenSpec := { _root_.Go.OpenSpec.ofChange s with cond := some uptoSmall }

/-- 'augurlaw10.FlowShapes', WHERE WHAT IT READS IS OF BULK AT MOST 1048576: true; the input reads as it did. -/
def flowShapesUptoRow : OpenClaim := { program := "ytiipmaoonnjlpaa", sum := "031d5c4ef9ca4affee5f15f8f0d938c05bc4d15192146723f9f68f4fe035859e", func := "augur/augurlaw10.FlowShapes", spec := "flowShapes", recurses := true, apart := false, narrowed := true }
def FlowShapesUptoSaid : Prop := flowShapesUptoRow.holds Try.pinned (OpenSpec.upto flowShapesSpec)

/-- 'augurlaw10.FlowEnds', WHERE WHAT IT READS IS OF BULK AT MOST 1048576: true; the input reads as it did. -/
def flowEndsUptoRow : OpenClaim := { program := "ytiipmaoonnjlpaa", sum := "031d5c4ef9ca4affee5f15f8f0d938c05bc4d15192146723f9f68f4fe035859e", func := "augur/augurlaw10.FlowEnds", spec := "flowEnds", recurses := true, apart := false, narrowed := true }
def FlowEndsUptoSaid : Prop := flowEndsUptoRow.holds Try.pinned (OpenSpec.upto flowEndsSpec)

/-- 'augurlaw10.FlowLowers', WHERE WHAT IT READS IS OF BULK AT MOST 1048576: true; the input reads as it did. -/
def flowLowersUptoRow : OpenClaim := { program := "ytiipmaoonnjlpaa", sum := "031d5c4ef9ca4affee5f15f8f0d938c05bc4d15192146723f9f68f4fe035859e", func := "augur/augurlaw10.FlowLowers", spec := "flowLowers", recurses := true, apart := false, narrowed := true }
def FlowLowersUptoSaid : Prop := flowLowersUptoRow.holds Try.pinned (OpenSpec.upto flowLowersSpec)

/-- 'augurlaw10.FlowAsks', WHERE WHAT IT READS IS OF BULK AT MOST 1048576: true; the input reads as it did. -/
def flowAsksUptoRow : OpenClaim := { program := "ytiipmaoonnjlpaa", sum := "031d5c4ef9ca4affee5f15f8f0d938c05bc4d15192146723f9f68f4fe035859e", func := "augur/augurlaw10.FlowAsks", spec := "flowAsks", recurses := true, apart := false, narrowed := true }
def FlowAsksUptoSaid : Prop := flowAsksUptoRow.holds Try.pinned (OpenSpec.upto flowAsksSpec)

/-- 'augurlaw10.FlowThere', WHERE WHAT IT READS IS OF BULK AT MOST 1048576: true; the input reads as it did. -/
def flowThereUptoRow : OpenClaim := { program := "ytiipmaoonnjlpaa", sum := "031d5c4ef9ca4affee5f15f8f0d938c05bc4d15192146723f9f68f4fe035859e", func := "augur/augurlaw10.FlowThere", spec := "flowThere", recurses := true, apart := false, narrowed := true }
def FlowThereUptoSaid : Prop := flowThereUptoRow.holds Try.pinned (OpenSpec.upto flowThereSpec)

end Rows
end Go.Proofs.Ytiipmaoonnjlpaa
