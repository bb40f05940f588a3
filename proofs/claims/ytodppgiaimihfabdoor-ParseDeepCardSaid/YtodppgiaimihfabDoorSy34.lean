/- Calls in memory whose places name one another: rows, and maps; the call may panic. No conditions but those in each statement. -/
import Derived.Test.YtodppgiaimihfabDoorSy33
import Derived.Test.YtodppgiaimihfabDoorSy36
namespace Go.Sy
open Go Go.RowKit
/-- what a place holds -/
inductive ML where
  | vec (z : List C) (es : List (List C))
  | mp (ag : Bool) (es : List (List UInt8 × List C))
def ML.ch : ML → Ch
  | .vec z es => .vec 0 z es
  | .mp ag es => .mp ag es
/-- cells under other names -/
def rnC (f : Nat → Nat) : C → C
  | .s n => .s (f n)
  | .p n i j => .p (f n) i j
  | .any => .any
  | .v x => .v x
  | .d x => .d x
  | .df z es => .df z es
  | .dp cs => .dp cs
  | .ov z es => .ov z es
  | .fn g caps => .fn g caps
  | .vw k u p => .vw k u p
  | .q k u p s m o => .q k u p s m o
def rnV (f : Nat → Nat) : SV → SV
  | .one c => .one (rnC f c)
  | .agg l => .agg (l.map (rnC f))
  | .tup l => .tup l
def ML.ren (f : Nat → Nat) : ML → ML
  | .vec z es => .vec z (es.map fun r => r.map (rnC f))
  | .mp ag es => .mp ag (es.map fun p => (p.1, p.2.map (rnC f)))
/-- closed, or a name below n -/
def okL (n : Nat) (c : C) : Prop := c.names = [] ∨ (∃ k, c = .s k ∧ k < n) ∨ ∃ k i j, c = .p k i j ∧ k < n
def ML.cells : ML → List C
  | .vec _ es => es.flatMap id
  | .mp _ es => es.flatMap (·.2)
def okML (n : Nat) (m : ML) : Prop := ∀ c ∈ m.cells, okL n c
def okVL (n : Nat) : SV → Prop
  | .one c => okL n c
  | .agg l => ∀ c ∈ l, okL n c
  | .tup _ => False
/-- does the caller's memory hold what a place is to hold? -/
def chM : Option Ch → ML → Prop
  | some (.vec _ z es), .vec z' es' => es = es' ∧ z.length = z'.length ∧ (zT z' = none ∨ zT z' = zT z)
  | some (.mp ag es), .mp ag' es' => ag = ag' ∧ es = es'
  | _, _ => False
def nmK (ks : List Nat) (i : Nat) : Nat := (ks[i]?).getD 0
/-- how such a call's arguments are told -/
structure ArgL (A : Type) where
  d : Hp → List SV → Option (A × List Nat)
  args : A → List SV
  mem : A → List ML
  h : ∀ (H : Hp) (l : List SV) (a : A) (ks : List Nat), d H l = some (a, ks) → l = (args a).map (rnV (nmK ks)) ∧ ks.length = (mem a).length ∧ ∀ (i k : Nat), ks[i]? = some k → ∃ m, (mem a)[i]? = some m ∧ chM (H k) (m.ren (nmK ks))
  n : ∀ a, ∀ m ∈ mem a, okML (mem a).length m
  an : ∀ a, ∀ v ∈ args a, okVL (mem a).length v
  l : ∀ (H H' : Hp) (v : List SV) (a : A) (ks : List Nat), d H v = some (a, ks) → (∀ k ∈ ks, H' k = H k) → d H' v = some (a, ks)
end Go.Sy
namespace Go.Sy
open Go Go.RowKit
section
variable {P : Program}
end
end Go.Sy
namespace Go.Sy
open Go Go.RowKit
def pnL : Nat → List (Option MV) → List (Nat × List C × List (List C))
  | _, [] => []
  | i, none :: r => pnL (i + 1) r
  | i, some q :: r => (i, q) :: pnL (i + 1) r
theorem pnL_nil (i : Nat) : pnL i [] = [] := rfl
theorem pnL_none (i : Nat) (r : List (Option MV)) : pnL i (none :: r) = pnL (i + 1) r := rfl
theorem pnL_some (i : Nat) (q : MV) (r : List (Option MV)) : pnL i (some q :: r) = (i, q) :: pnL (i + 1) r := rfl
theorem pnL_mem : ∀ (l : List (Option MV)) (i k : Nat) (q : MV), l[k]? = some (some q) → (i + k, q) ∈ pnL i l
  | [], i, k, q, h => by simp at h
  | o :: r, i, 0, q, h => by
    simp only [List.getElem?_cons_zero, Option.some.injEq] at h
    subst h
    simp [pnL]
  | o :: r, i, k + 1, q, h => by
    have h1 := pnL_mem r (i + 1) k q (by simpa using h)
    have e : i + 1 + k = i + (k + 1) := by omega
    rw [e] at h1
    cases o with
    | none => exact h1
    | some q' => exact List.mem_cons_of_mem _ h1
theorem pnAll_mem : ∀ {l : List (Nat × List C × List (List C))} {H : Hp} {k : Nat} {q : MV}, pnAll l H → (k, q) ∈ l → pn1 (H k) q.1 q.2
  | [], _, _, _, _, h => by cases h
  | (k0, z, es) :: r, H, k, q, hp, h => by
    obtain ⟨h1, h2⟩ := hp
    rcases List.mem_cons.1 h with e | h
    · simp only [Prod.mk.injEq] at e
      obtain ⟨rfl, rfl⟩ := e
      exact h1
    · exact pnAll_mem h2 h
def pnOL (b : Bool) (l : List (Option MV)) : Option (List (Nat × List C × List (List C))) := if b = true then some (pnL 0 l) else none
theorem pnOL_t (l : List (Option MV)) : pnOL true l = some (pnL 0 l) := rfl
theorem pnOL_f (l : List (Option MV)) : pnOL false l = none := rfl
/-- the walk of a function in linked memory that may panic -/
abbrev mXL (M fz : Nat → Prop) (I : Nm) (n : Nat) (b : Bool) (pa : List (Option MV)) : Ctx := ⟨M, fz, memF I 0 n, pnOL b pa, [], []⟩
section
variable {P : Program}
end
end Go.Sy
