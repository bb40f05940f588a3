/- A symbolic executor for the walk: abstract states, what each operation does to them, and that it is sound. No conditions. -/
import Derived.WalkKit
import Derived.WalkLawsBesides
namespace Go.Sx
open Go.RowKit

/-- one cell: a value, or an address (a slice) into a block that the walk has named -/
inductive C where
  | v (x : Value)
  | p (k off : Nat)
  | sl (k off len cap : Nat)

def C.den (I : Nat → Nat) : C → Value
  | .v x => x
  | .p k off => .pointer (some ⟨I k, off, none⟩)
  | .sl k off len cap => .slice (some ⟨I k, off, none⟩) len cap

/-- a value: of one cell, or a struct of cells -/
inductive SV where
  | one (c : C)
  | agg (l : List C)

def SV.den (I : Nat → Nat) : SV → Value
  | .one c => c.den I
  | .agg l => .agg (l.map (C.den I)).toArray

def ofV : Value → SV
  | .agg cs => .agg (cs.toList.map .v)
  | x => .one (.v x)

def oneV : Value → Bool
  | .agg _ => false
  | .tuple _ => false
  | _ => true

def C.one : C → Bool
  | .v x => oneV x
  | _ => true

def SV.cells : SV → List C
  | .one c => [c]
  | .agg l => l

theorem den_ofV (I : Nat → Nat) (x : Value) : (ofV x).den I = x := by
  cases x <;> simp [ofV, SV.den, C.den, Function.comp_def]

abbrev Blk := List C × TypeId
abbrev Env := Nat → Option (Bool × SV)
abbrev Hp := Nat → Option Blk

/-- what an entry of the environment says of a slot: under its guard the value, else 'undef' -/
def AtE (I : Nat → Nat) (E : Env) (a : Act) : Prop := ∀ t g v, E t = some (g, v) → a.tmps[t]? = some (if g then v.den I else undef)
def AtH (I : Nat → Nat) (H : Hp) (w : World) : Prop := ∀ k cs T, H k = some (cs, T) → w.heap[I k]? = some (.cells (cs.map (C.den I)).toArray T (0, 0))

/-- all blocks that were there are as they were, but for those in M -/
structure Kept (M : Nat → Prop) (w w' : World) : Prop where
  os : w'.os = w.os
  tape : w'.tape = w.tape
  output : w'.output = w.output
  size : w.heap.size ≤ w'.heap.size
  block : ∀ k, k < w.heap.size → ¬ M k → w'.heap[k]? = w.heap[k]?

theorem Kept.refl (M : Nat → Prop) (w : World) : Kept M w w := ⟨rfl, rfl, rfl, Nat.le_refl _, fun _ _ _ => rfl⟩
theorem Kept.trans {M M' : Nat → Prop} {a b c : World} (h : Kept M a b) (k : Kept M' b c) (hM : ∀ x, x < a.heap.size → M' x → M x) : Kept M a c :=
  ⟨k.os.trans h.os, k.tape.trans h.tape, k.output.trans h.output, Nat.le_trans h.size k.size,
    fun i hi hm => (k.block i (Nat.lt_of_lt_of_le hi h.size) (fun hx => hm (hM i hi hx))).trans (h.block i hi hm)⟩
theorem Kept.of_below {w w' : World} (h : Below w.heap.size w w') (M : Nat → Prop) : Kept M w w' := ⟨h.os, h.tape, h.output, h.size, fun k hk _ => h.block k hk⟩
theorem Kept.below {M : Nat → Prop} {w w' : World} (h : Kept M w w') (hM : ∀ x, x < w.heap.size → ¬ M x) : Below w.heap.size w w' :=
  ⟨h.os, h.tape, h.output, h.size, fun k hk => h.block k hk (hM k hk)⟩

/-- which old blocks may be written (M), and which names are fixed (F) -/
structure Ctx where
  M : Nat → Prop
  F : List (Nat × Nat)

structure At (M : Ctx) (w0 : World) (nt : Nat) (I : Nat → Nat) (E : Env) (H : Hp) (a : Act) (w : World) : Prop where
  n : a.tmps.size = nt
  d : a.defers = []
  e : AtE I E a
  h : AtH I H w
  inj : ∀ k k', (H k).isSome → (H k').isSome → I k = I k' → k = k'
  own : ∀ k, (H k).isSome → w0.heap.size ≤ I k ∨ M.M (I k)
  kept : Kept M.M w0 w
  fix : ∀ p ∈ M.F, nt ≤ p.1 ∧ I p.1 = p.2

/-- reading an operand -/
def rdv (E : Env) : Operand → Option SV
  | .tmp t => (E t).map (·.2)
  | .const x => some (ofV x)
  | .func f => some (.one (.v (.func (.func f) #[] #[])))
  | .global _ => none
def rdg (E : Env) : Operand → Bool
  | .tmp t => ((E t).map (·.1)).getD false
  | _ => true

theorem eval_rd {I : Nat → Nat} {E : Env} {a : Act} (h : AtE I E a) {x : Operand} {v : SV} (hv : rdv E x = some v) (hg : rdg E x = true) : a.eval x = v.den I := by
  cases x with
  | tmp t =>
    simp only [rdv, Option.map_eq_some_iff] at hv
    obtain ⟨⟨g, u⟩, he, rfl⟩ := hv
    simp only [rdg, he, Option.map_some, Option.getD_some] at hg
    have := h t g u he
    simp only [hg, if_true] at this
    simp [Act.eval, this]
  | const x => simp only [rdv, Option.some.injEq] at hv; subst hv; rw [den_ofV]; rfl
  | func f => simp only [rdv, Option.some.injEq] at hv; subst hv; rfl
  | global g => simp [rdv] at hv

end Go.Sx
