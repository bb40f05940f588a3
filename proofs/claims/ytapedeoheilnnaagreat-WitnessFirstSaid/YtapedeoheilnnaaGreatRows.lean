/-
  No cell of these rows narrows 'for every input' (looked for: loops, veiled, ifaces, maps, wideKeys, modest, calm, conditions, laid).
  DERIVED. THE GIVEN ROWS OF THIS SEAT. 3 by the template 'for every input the law returns true; each argument reads behind the call as it read before'; 0 by the template 'total and deterministic' (their statements: YtapedeoheilnnaaGreatTotals.lean).
  GIVEN WITH THE SEED: the statements are not yours to turn. If you find one false, say at which input.
  Laid BY PROGRAM, IN A SANDBOX (cutbox-rows.mjs): the forced cells as the released guide's own fill.sh prints them over the translation bc8537f116279c6e… (all of the seat's roots in one cut). By AI agents, Wed Nov 11 2026. No macro, syntax, notation, axiom, sorry.
-/
import Derived.Test.YtapedeoheilnnaaGreatChecked
import GoSem.Claim
import GoSem.ClaimJoined
import GoSem.ClaimMapViews
import Derived.JoinedTies
import Derived.KernelRfl
namespace Go.Proofs.YtapedeoheilnnaaGreat
/- THE CELL 'sum', in the pinned program and in every row, IS THE sha256 OF THE DUMP (.gsa) THAT YtapedeoheilnnaaGreatProg.lean LOADS. Nothing in Lean hashes anything: it is a label: what it is worth is what the hold of that sum in a sandbox is worth. -/
noncomputable def Tryz.pinned : Pinned := { name := "ytapedeoheilnnaagreat", sum := "bc8537f116279c6e1fdb76e51e6721ed4b445701988f9ba809b31b9464af7c60", checked := Tryz.checked }
namespace Rows
def none {H : Type} : Left H := { results := [], args := [] }

/-- 'augurlaw20.RunCalls': WHATEVER THE INPUT: true; the input reads as it did. -/
def runCallsSpec : ChangeSpec := { name := "runCalls", fn := fun _ => fun
  | [d1, d2, d3, d4, d5, d6, d7] => { results := [.lit (.bool true)], args := [d1, d2, d3, d4, d5, d6, d7] }
  | _ => none }
def runCallsRow : OpenClaim := { program := "ytapedeoheilnnaagreat", sum := "bc8537f116279c6e1fdb76e51e6721ed4b445701988f9ba809b31b9464af7c60", func := "augur/augurlaw20.RunCalls", spec := "runCalls", unfollowed := true, recurses := true, apart := false }
def RunCallsSaid : Prop := runCallsRow.holds Tryz.pinned (OpenSpec.ofChange runCallsSpec)

/-- ITS FALSE NEIGHBOUR: 'it returns false'. Refute it at one input. -/
def runCallsWrong : ChangeSpec := { name := "runCalls", fn := fun _ => fun
  | [d1, d2, d3, d4, d5, d6, d7] => { results := [.lit (.bool false)], args := [d1, d2, d3, d4, d5, d6, d7] }
  | _ => none }
def RunCallsWrongFalsely : Prop := runCallsRow.holds Tryz.pinned (OpenSpec.ofChange runCallsWrong)

/-- 'augurlaw20.RunRaw': WHATEVER THE INPUT: true; the input reads as it did. -/
def runRawSpec : ChangeSpec := { name := "runRaw", fn := fun _ => fun
  | [d1, d2, d3, d4, d5] => { results := [.lit (.bool true)], args := [d1, d2, d3, d4, d5] }
  | _ => none }
def runRawRow : OpenClaim := { program := "ytapedeoheilnnaagreat", sum := "bc8537f116279c6e1fdb76e51e6721ed4b445701988f9ba809b31b9464af7c60", func := "augur/augurlaw20.RunRaw", spec := "runRaw", unfollowed := true, recurses := true, apart := false }
def RunRawSaid : Prop := runRawRow.holds Tryz.pinned (OpenSpec.ofChange runRawSpec)

/-- ITS FALSE NEIGHBOUR: 'it returns false'. Refute it at one input. -/
def runRawWrong : ChangeSpec := { name := "runRaw", fn := fun _ => fun
  | [d1, d2, d3, d4, d5] => { results := [.lit (.bool false)], args := [d1, d2, d3, d4, d5] }
  | _ => none }
def RunRawWrongFalsely : Prop := runRawRow.holds Tryz.pinned (OpenSpec.ofChange runRawWrong)

/-- 'augurlaw28.WitnessFirst': WHATEVER THE INPUT: true; the input reads as it did. -/
def witnessFirstSpec : ChangeSpec := { name := "witnessFirst", fn := fun _ => fun
  | [d1, d2, d3, d4, d5] => { results := [.lit (.bool true)], args := [d1, d2, d3, d4, d5] }
  | _ => none }
def witnessFirstRow : OpenClaim := { program := "ytapedeoheilnnaagreat", sum := "bc8537f116279c6e1fdb76e51e6721ed4b445701988f9ba809b31b9464af7c60", func := "augur/augurlaw28.WitnessFirst", spec := "witnessFirst", unfollowed := true, recurses := true, apart := false }
def WitnessFirstSaid : Prop := witnessFirstRow.holds Tryz.pinned (OpenSpec.ofChange witnessFirstSpec)

/-- ITS FALSE NEIGHBOUR: 'it returns false'. Refute it at one input. -/
def witnessFirstWrong : ChangeSpec := { name := "witnessFirst", fn := fun _ => fun
  | [d1, d2, d3, d4, d5] => { results := [.lit (.bool false)], args := [d1, d2, d3, d4, d5] }
  | _ => none }
def WitnessFirstWrongFalsely : Prop := witnessFirstRow.holds Tryz.pinned (OpenSpec.ofChange witnessFirstWrong)

/- THE SECOND FORM. 'bulk': how many values and letters a reading holds, each counted each time it is reached (what is shared counts as often as it is met; a slice's spare places count too). A statement '..UptoSaid' is the law's where the arguments, and the package variables that the reading takes, are together of bulk at most 1048576: NARROWER than '..Said'. Prove '..Said' where nothing that the law and all that it calls make is longer than what came in: it says more and counts as full. Else prove '..UptoSaid'. A law counts once. -/
mutual
def uptoBulk {H : Type} : DataW H → Nat
  | .lit (.string bytes) => bytes.length + 1
  | .lit _ => 1
  | .nil => 1
  | .ptr d => uptoBulk d + 1
  | .slice elems spare => uptoBulkAll elems + uptoBulkAll spare + 1
  | .agg parts => uptoBulkAll parts + 1
  | .iface _ d => uptoBulk d + 1
  | .map entries => uptoBulkEntries entries + 1
  | .held _ => 1
def uptoBulkAll {H : Type} : List (DataW H) → Nat
  | [] => 0
  | d :: r => uptoBulk d + uptoBulkAll r
def uptoBulkEntries {H : Type} : List (Lit × DataW H) → Nat
  | [] => 0
  | x :: r => uptoBulkEntry x + uptoBulkEntries r
def uptoBulkEntry {H : Type} : Lit × DataW H → Nat
  | (.string bytes, d) => bytes.length + uptoBulk d + 1
  | (_, d) => uptoBulk d + 1
 end
def uptoSmall : (H : Type) → List (DataW H) → Bool := fun _ ds => decide (uptoBulkAll ds ≤ 1048576)
def OpenSpec.upto (s : _root_.Go.ChangeSpec) : _root_.Go.OpenSpec := { _root_.Go.OpenSpec.ofChange s with cond := some uptoSmall }

/-- 'augurlaw20.RunCalls', WHERE WHAT IT READS IS OF BULK AT MOST 1048576: true; the input reads as it did. -/
def runCallsUptoRow : OpenClaim := { program := "ytapedeoheilnnaagreat", sum := "bc8537f116279c6e1fdb76e51e6721ed4b445701988f9ba809b31b9464af7c60", func := "augur/augurlaw20.RunCalls", spec := "runCalls", unfollowed := true, recurses := true, apart := false, narrowed := true }
def RunCallsUptoSaid : Prop := runCallsUptoRow.holds Tryz.pinned (OpenSpec.upto runCallsSpec)

/-- 'augurlaw20.RunRaw', WHERE WHAT IT READS IS OF BULK AT MOST 1048576: true; the input reads as it did. -/
def runRawUptoRow : OpenClaim := { program := "ytapedeoheilnnaagreat", sum := "bc8537f116279c6e1fdb76e51e6721ed4b445701988f9ba809b31b9464af7c60", func := "augur/augurlaw20.RunRaw", spec := "runRaw", unfollowed := true, recurses := true, apart := false, narrowed := true }
def RunRawUptoSaid : Prop := runRawUptoRow.holds Tryz.pinned (OpenSpec.upto runRawSpec)

/-- 'augurlaw28.WitnessFirst', WHERE WHAT IT READS IS OF BULK AT MOST 1048576: true; the input reads as it did. -/
def witnessFirstUptoRow : OpenClaim := { program := "ytapedeoheilnnaagreat", sum := "bc8537f116279c6e1fdb76e51e6721ed4b445701988f9ba809b31b9464af7c60", func := "augur/augurlaw28.WitnessFirst", spec := "witnessFirst", unfollowed := true, recurses := true, apart := false, narrowed := true }
def WitnessFirstUptoSaid : Prop := witnessFirstUptoRow.holds Tryz.pinned (OpenSpec.upto witnessFirstSpec)

end Rows
end Go.Proofs.YtapedeoheilnnaaGreat
