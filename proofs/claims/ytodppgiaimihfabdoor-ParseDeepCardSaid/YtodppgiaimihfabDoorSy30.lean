/- Contracts of calls that work in memory that holds a pointer to itself. No conditions but those in each statement. -/
import Derived.Test.YtodppgiaimihfabDoorSy28
namespace Go.Sy
open Go Go.RowKit
/-- the pointers of a row to its own block, under another name -/
def sC (k : Nat) : C → C
  | .p _ x y => .p k x y
  | c => c
def sR (k : Nat) (es : List (List C)) : List (List C) := es.map fun r => r.map (sC k)
def sI : Nat → Nat → List (List C) → List (List C)
  | 0, k, es => sR k es
  | _ + 1, _, es => es
/-- closed, or (the first place) such a pointer -/
def cOK (i : Nat) (c : C) : Prop := c.names = [] ∨ i = 0 ∧ ∃ x y, c = .p 0 x y
structure ArgN (A : Type) where
  d : Hp → List SV → Option (A × List Nat)
  args : A → List SV
  mem : A → List MV
  h : ∀ (H : Hp) (l : List SV) (a : A) (ks : List Nat), d H l = some (a, ks) → (args a).length = l.length ∧ ks.length = (mem a).length ∧ ∀ (i k : Nat), ks[i]? = some k → ∃ u z m, H k = some (.vec u z (sI i k m.2)) ∧ (mem a)[i]? = some m ∧ z.length = m.1.length ∧ (zT m.1 = none ∨ zT m.1 = zT z)
  ha : ∀ (H : Hp) (l : List SV) (a : A) (ks : List Nat) (j : Nat) (v v' : SV) (x : Value) {hh : Heap} {fz : Nat → Prop} {lab lab' : Lab} {I I' : Nm} {H0 H' : Hp}, d H l = some (a, ks) → l[j]? = some v → (args a)[j]? = some v' → (∀ i k, ks[i]? = some k → I' i = I k) → SDen hh fz lab I H0 v x → SDen hh fz lab' I' H' v' x
  n : ∀ a (i : Nat) m, (mem a)[i]? = some m → ∀ r ∈ m.2, ∀ c ∈ r, cOK i c
  an : ∀ a, ∀ v ∈ args a, ∀ k ∈ v.names, k < (mem a).length
  l : ∀ (H H' : Hp) (v : List SV) (a : A) (ks : List Nat), d H v = some (a, ks) → (∀ k ∈ ks, H' k = H k) → d H' v = some (a, ks)
section
variable {P : Program}
end
abbrev T0 : World → Prop := fun _ => True
/- the head of such arguments: a pointer to a row that may hold pointers to itself; then what the elder codings tell -/
structure RowB (B : Type) where
  z : List C
  d : Nat → List C → Option B
  e : B → List C
  h : ∀ k r b, d k r = some b → r = (e b).map (sC k)
  n : ∀ b, ∀ c ∈ e b, cOK 0 c
end Go.Sy
namespace Go.Sy
open Go Go.RowKit
section
variable {X : Ctx} {w0 w : World} {I : Nm} {lab : Lab} {fz : Nat → Prop} {H : Hp}
end
section
variable {P : Program}
end
end Go.Sy
