/- The lines of a printed function, in plain words; the parts of a line. No conditions but those in each statement. -/
import Derived.Test.YtbiepiggmagfcaaDoorPs1
set_option linter.unusedVariables false
set_option linter.unusedSimpArgs false
namespace Go.Proofs.YtbiepiggmagfcaaDoor
open Go Go.Sy Go.RowKit
structure Ln where
  t : List UInt8
  n : Int
def argX (a : Ar) : List UInt8 := if a.p = true then a.s else exT a.e
def tgtT (x : List UInt8) : List UInt8 := if (x == []) = true then [] else x ++ [32, 61, 32]
/-- the parts of a statement's line -/
def hdL (s : Sm) : List (List UInt8) :=
  if (s.k == 0) = true then [s.x, [32, 61, 32], exT s.e, [59]]
  else if (s.k == 1) = true then [s.x, [32, 61, 32, 38], s.y, [59]]
  else if (s.k == 2) = true then [s.x, [32, 61, 32], s.y, [59]]
  else if (s.k == 3) = true then [s.x, [32, 61, 32, 110, 117, 108, 108, 59]]
  else if (s.k == 4) = true then [s.x, [32, 61, 32, 42], s.y, [59]]
  else if (s.k == 5) = true then [[42], s.x, [32, 61, 32], exT s.e, [59]]
  else if (s.k == 6) = true then [s.x, [32, 61, 32], s.y, [91], exT s.e, [93, 59]]
  else if (s.k == 7) = true then [s.y, [91], exT s.e, [93, 32, 61, 32], exT s.f, [59]]
  else if (s.k == 8) = true then [tgtT s.x, s.y, [40], jnT (s.ar.map argX), [41, 59]]
  else if (s.k == 9) = true then [[114, 101, 116, 117, 114, 110, 32], exT s.e, [59]]
  else if (s.k == 12) = true then [[97, 115, 115, 101, 114, 116, 32, 40], coT s.cd, [41, 59]]
  else if (s.k == 10) = true then [[105, 102, 32, 40], coT s.cd, [41, 32, 123]]
  else [[119, 104, 105, 108, 101, 32, 40], coT s.cd, [41, 32, 123]]
def tbs (d : Nat) : List UInt8 := List.replicate d 9
def lnO (d : Nat) (t : List UInt8) (n : Int) : Ln := ⟨tbs d ++ t, n⟩
mutual
def lnS (d : Nat) : Sm → List Ln
  | .mk k x y e f c ar th el no => lnO d (hdL (.mk k x y e f c ar th el no)).flatten no ::
    (if (k == 10) = true then lnB (d + 1) th ++ ((if el.isEmpty = true then [] else lnO d [125, 32, 101, 108, 115, 101, 32, 123] (-1) :: lnB (d + 1) el) ++ [lnO d [125] (-1)])
     else if (k == 11) = true then lnB (d + 1) th ++ [lnO d [125] (-1)] else [])
def lnB (d : Nat) : List Sm → List Ln
  | [] => []
  | s :: l => lnS d s ++ lnB d l
end
def vrT (v : Vr) : List UInt8 := if v.p = true then [42] ++ v.s else v.s
def locT (v : Vr) : List UInt8 := [9] ++ (if v.p = true then [112, 116, 114, 32] else [118, 97, 114, 32]) ++ v.s ++ [59]
def lnF (f : Fn) : List Ln := ⟨[[102, 110, 32], f.name, [40], jnT (f.ps.map vrT), [41, 32, 123]].flatten, -1⟩ :: (f.ls.map (fun v => ⟨locT v, -1⟩) ++ (lnB 1 f.body ++ [⟨[125], -1⟩]))
/-- lines as a text -/
def lnX (l : List Ln) : List UInt8 := l.flatMap fun x => x.t ++ [10]
theorem lnX_nil : lnX [] = [] := rfl
theorem lnX_cons (x : Ln) (l : List Ln) : lnX (x :: l) = (x.t ++ [10]) ++ lnX l := rfl
theorem lnX_app (l m : List Ln) : lnX (l ++ m) = lnX l ++ lnX m := by simp [lnX]
def fnT (f : Fn) : List UInt8 := lnX (lnF f)
theorem lnB_nil (d : Nat) : lnB d [] = [] := by simp [lnB]
theorem lnB_cons (d : Nat) (s : Sm) (l : List Sm) : lnB d (s :: l) = lnS d s ++ lnB d l := by simp [lnB]
theorem lnB_snoc (d : Nat) : ∀ (l : List Sm) (s : Sm), lnB d (l ++ [s]) = lnB d l ++ lnS d s
  | [], s => by simp [lnB]
  | a :: l, s => by rw [List.cons_append, lnB_cons, lnB_snoc d l s, lnB_cons, List.append_assoc]
theorem lnS_eq (d : Nat) (s : Sm) : lnS d s = lnO d (hdL s).flatten s.no ::
    (if (s.k == 10) = true then lnB (d + 1) s.th ++ ((if s.el.isEmpty = true then [] else lnO d [125, 32, 101, 108, 115, 101, 32, 123] (-1) :: lnB (d + 1) s.el) ++ [lnO d [125] (-1)])
     else if (s.k == 11) = true then lnB (d + 1) s.th ++ [lnO d [125] (-1)] else []) := by
  cases s; simp only [lnS]; rfl
/-- a statement that may be printed -/
structure PrS (n : Nat) (s : Sm) : Prop where
  ok : OkS n s
  k0 : 0 ≤ s.k
  k1 : s.k ≤ 12
  e : okN s.e
  f : okN s.f
  c : okCn s.cd
  a : ∀ a ∈ s.ar, okN a.e
def okPr (n : Nat) : Nat → List Sm → Prop
  | 0, _ => False
  | m + 1, l => l.length ≤ 5000 ∧ ∀ s ∈ l, PrS n s ∧ okPr n m s.th ∧ okPr n m s.el
theorem lnX_len_app (l m : List Ln) : (lnX (l ++ m)).length = (lnX l).length + (lnX m).length := by rw [lnX_app, List.length_append]
theorem kd13 {k : Int} (h0 : 0 ≤ k) (h1 : k ≤ 12) : k = 0 ∨ k = 1 ∨ k = 2 ∨ k = 3 ∨ k = 4 ∨ k = 5 ∨ k = 6 ∨ k = 7 ∨ k = 8 ∨ k = 9 ∨ k = 10 ∨ k = 11 ∨ k = 12 := by omega
theorem hdk0 (x y : List UInt8) (e f : Ex) (c : Cd) (ar : List Ar) (th el : List Sm) (no : Int) : hdL (.mk 0 x y e f c ar th el no) = [x, [32, 61, 32], exT e, [59]] := by simp only [hdL, Sm.k, Sm.x, Sm.y, Sm.e, Sm.f, Sm.cd, Sm.ar, Int.reduceBEq, if_true, if_false, Bool.false_eq_true]
theorem hdk1 (x y : List UInt8) (e f : Ex) (c : Cd) (ar : List Ar) (th el : List Sm) (no : Int) : hdL (.mk 1 x y e f c ar th el no) = [x, [32, 61, 32, 38], y, [59]] := by simp only [hdL, Sm.k, Sm.x, Sm.y, Sm.e, Sm.f, Sm.cd, Sm.ar, Int.reduceBEq, if_true, if_false, Bool.false_eq_true]
theorem hdk2 (x y : List UInt8) (e f : Ex) (c : Cd) (ar : List Ar) (th el : List Sm) (no : Int) : hdL (.mk 2 x y e f c ar th el no) = [x, [32, 61, 32], y, [59]] := by simp only [hdL, Sm.k, Sm.x, Sm.y, Sm.e, Sm.f, Sm.cd, Sm.ar, Int.reduceBEq, if_true, if_false, Bool.false_eq_true]
theorem hdk3 (x y : List UInt8) (e f : Ex) (c : Cd) (ar : List Ar) (th el : List Sm) (no : Int) : hdL (.mk 3 x y e f c ar th el no) = [x, [32, 61, 32, 110, 117, 108, 108, 59]] := by simp only [hdL, Sm.k, Sm.x, Sm.y, Sm.e, Sm.f, Sm.cd, Sm.ar, Int.reduceBEq, if_true, if_false, Bool.false_eq_true]
theorem hdk4 (x y : List UInt8) (e f : Ex) (c : Cd) (ar : List Ar) (th el : List Sm) (no : Int) : hdL (.mk 4 x y e f c ar th el no) = [x, [32, 61, 32, 42], y, [59]] := by simp only [hdL, Sm.k, Sm.x, Sm.y, Sm.e, Sm.f, Sm.cd, Sm.ar, Int.reduceBEq, if_true, if_false, Bool.false_eq_true]
theorem hdk5 (x y : List UInt8) (e f : Ex) (c : Cd) (ar : List Ar) (th el : List Sm) (no : Int) : hdL (.mk 5 x y e f c ar th el no) = [[42], x, [32, 61, 32], exT e, [59]] := by simp only [hdL, Sm.k, Sm.x, Sm.y, Sm.e, Sm.f, Sm.cd, Sm.ar, Int.reduceBEq, if_true, if_false, Bool.false_eq_true]
theorem hdk6 (x y : List UInt8) (e f : Ex) (c : Cd) (ar : List Ar) (th el : List Sm) (no : Int) : hdL (.mk 6 x y e f c ar th el no) = [x, [32, 61, 32], y, [91], exT e, [93, 59]] := by simp only [hdL, Sm.k, Sm.x, Sm.y, Sm.e, Sm.f, Sm.cd, Sm.ar, Int.reduceBEq, if_true, if_false, Bool.false_eq_true]
theorem hdk7 (x y : List UInt8) (e f : Ex) (c : Cd) (ar : List Ar) (th el : List Sm) (no : Int) : hdL (.mk 7 x y e f c ar th el no) = [y, [91], exT e, [93, 32, 61, 32], exT f, [59]] := by simp only [hdL, Sm.k, Sm.x, Sm.y, Sm.e, Sm.f, Sm.cd, Sm.ar, Int.reduceBEq, if_true, if_false, Bool.false_eq_true]
theorem hdk8 (x y : List UInt8) (e f : Ex) (c : Cd) (ar : List Ar) (th el : List Sm) (no : Int) : hdL (.mk 8 x y e f c ar th el no) = [tgtT x, y, [40], jnT (ar.map argX), [41, 59]] := by simp only [hdL, Sm.k, Sm.x, Sm.y, Sm.e, Sm.f, Sm.cd, Sm.ar, Int.reduceBEq, if_true, if_false, Bool.false_eq_true]
theorem hdk9 (x y : List UInt8) (e f : Ex) (c : Cd) (ar : List Ar) (th el : List Sm) (no : Int) : hdL (.mk 9 x y e f c ar th el no) = [[114, 101, 116, 117, 114, 110, 32], exT e, [59]] := by simp only [hdL, Sm.k, Sm.x, Sm.y, Sm.e, Sm.f, Sm.cd, Sm.ar, Int.reduceBEq, if_true, if_false, Bool.false_eq_true]
theorem hdk10 (x y : List UInt8) (e f : Ex) (c : Cd) (ar : List Ar) (th el : List Sm) (no : Int) : hdL (.mk 10 x y e f c ar th el no) = [[105, 102, 32, 40], coT c, [41, 32, 123]] := by simp only [hdL, Sm.k, Sm.x, Sm.y, Sm.e, Sm.f, Sm.cd, Sm.ar, Int.reduceBEq, if_true, if_false, Bool.false_eq_true]
theorem hdk11 (x y : List UInt8) (e f : Ex) (c : Cd) (ar : List Ar) (th el : List Sm) (no : Int) : hdL (.mk 11 x y e f c ar th el no) = [[119, 104, 105, 108, 101, 32, 40], coT c, [41, 32, 123]] := by simp only [hdL, Sm.k, Sm.x, Sm.y, Sm.e, Sm.f, Sm.cd, Sm.ar, Int.reduceBEq, if_true, if_false, Bool.false_eq_true]
theorem hdk12 (x y : List UInt8) (e f : Ex) (c : Cd) (ar : List Ar) (th el : List Sm) (no : Int) : hdL (.mk 12 x y e f c ar th el no) = [[97, 115, 115, 101, 114, 116, 32, 40], coT c, [41, 59]] := by simp only [hdL, Sm.k, Sm.x, Sm.y, Sm.e, Sm.f, Sm.cd, Sm.ar, Int.reduceBEq, if_true, if_false, Bool.false_eq_true]
end Go.Proofs.YtbiepiggmagfcaaDoor
