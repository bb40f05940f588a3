/- The language's trees and how they lie in memory. No conditions but those in each statement. -/
import Derived.Test.YtodppgiaimihfabDoorGs
set_option linter.unusedVariables false
set_option linter.unusedSimpArgs false
namespace Go.Proofs.YtodppgiaimihfabDoor
open Go Go.Sy Go.RowKit
inductive Ex where
  | nil
  | mk (k n : Int) (s : List UInt8) (a b : Ex)
inductive Cd where
  | nil
  | mk (k : Int) (a b : Ex) (p q : Cd) (s : List UInt8)
structure Ar where
  p : Bool
  s : List UInt8
  e : Ex
inductive Sm where
  | mk (k : Int) (x y : List UInt8) (e f : Ex) (c : Cd) (args : List Ar) (th el : List Sm) (no : Int)
structure Vr where
  s : List UInt8
  p : Bool
structure Fn where
  name : List UInt8
  ps : List Vr
  ls : List Vr
  body : List Sm
structure Tok where
  k : Int
  t : List UInt8
  p : Int
abbrev dN : D := .v (.pointer none)
abbrev dI (n : Int) : D := .v (.int .i64 n)
abbrev dS (s : List UInt8) : D := .v (.string (bs s))
abbrev dL0 : D := .v (.slice none 0 0)
def Ex.d : Ex → D
  | .nil => dN
  | .mk k n s a b => .pt (some [dI k, dI n, dS s, a.d, b.d])
def Cd.d : Cd → D
  | .nil => dN
  | .mk k a b p q s => .pt (some [dI k, a.d, b.d, p.d, q.d, dS s])
def Ar.r (a : Ar) : List D := [.v (.bool a.p), dS a.s, a.e.d]
def zAr : List D := [.v (.bool false), dS [], dN]
def zSm : List D := [dI 0, dS [], dS [], dN, dN, dN, dL0, dL0, dL0, dI 0]
mutual
def Sm.r : Sm → List D
  | .mk k x y e f c args th el no => [dI k, dS x, dS y, e.d, f.d, c.d, .sl zAr (args.map Ar.r), .sl zSm (Sm.rs th), .sl zSm (Sm.rs el), dI no]
def Sm.rs : List Sm → List (List D)
  | [] => []
  | s :: l => s.r :: Sm.rs l
end
theorem rs_map : ∀ l : List Sm, Sm.rs l = l.map Sm.r
  | [] => by simp [Sm.rs]
  | s :: l => by simp only [Sm.rs, List.map_cons, rs_map l]
def Vr.r (v : Vr) : List D := [dS v.s, .v (.bool v.p)]
def zVr : List D := [dS [], .v (.bool false)]
def Fn.r (f : Fn) : List D := [dS f.name, .sl zVr (f.ps.map Vr.r), .sl zVr (f.ls.map Vr.r), .sl zSm (f.body.map Sm.r)]
def Tok.r (x : Tok) : List D := [dI x.k, dS x.t, dI x.p]
def zTk : List D := [dI 0, dS [], dI 0]
theorem empty_bs : ByteArray.empty = bs [] := rfl
theorem bs_inj {a b : List UInt8} (h : bs a = bs b) : a = b := by rw [← bs_toList a, ← bs_toList b, h]
theorem exd_inj : ∀ {a b : Ex}, a.d = b.d → a = b
  | .nil, .nil, _ => rfl
  | .nil, .mk .., h => by simp [Ex.d] at h
  | .mk .., .nil, h => by simp [Ex.d] at h
  | .mk k n s a b, .mk k' n' s' a' b', h => by
    simp only [Ex.d, D.pt.injEq, Option.some.injEq, List.cons.injEq, D.v.injEq, Value.int.injEq, Value.string.injEq, true_and, and_true] at h
    obtain ⟨rfl, rfl, h1, h2, h3⟩ := h
    rw [bs_inj h1, exd_inj h2, exd_inj h3]
theorem cdd_inj : ∀ {a b : Cd}, a.d = b.d → a = b
  | .nil, .nil, _ => rfl
  | .nil, .mk .., h => by simp [Cd.d] at h
  | .mk .., .nil, h => by simp [Cd.d] at h
  | .mk k a b p q s, .mk k' a' b' p' q' s', h => by
    simp only [Cd.d, D.pt.injEq, Option.some.injEq, List.cons.injEq, D.v.injEq, Value.int.injEq, Value.string.injEq, true_and, and_true] at h
    obtain ⟨rfl, h1, h2, h3, h4, h5⟩ := h
    rw [bs_inj h5, exd_inj h1, exd_inj h2, cdd_inj h3, cdd_inj h4]
theorem map_inj {A B : Type} {f : A → B} (hf : ∀ a b, f a = f b → a = b) : ∀ {l m : List A}, l.map f = m.map f → l = m
  | [], [], _ => rfl
  | [], _ :: _, h => by simp at h
  | _ :: _, [], h => by simp at h
  | a :: l, b :: m, h => by
    simp only [List.map_cons, List.cons.injEq] at h
    rw [hf _ _ h.1, map_inj hf h.2]
theorem ar_inj (a b : Ar) (h : a.r = b.r) : a = b := by
  obtain ⟨p, s, e⟩ := a
  obtain ⟨p', s', e'⟩ := b
  simp only [Ar.r, List.cons.injEq, D.v.injEq, Value.bool.injEq, Value.string.injEq, and_true] at h
  obtain ⟨rfl, h1, h2⟩ := h
  rw [bs_inj h1, exd_inj h2]
mutual
theorem sm_inj : ∀ (a b : Sm), a.r = b.r → a = b
  | .mk k x y e f c args th el no, .mk k' x' y' e' f' c' args' th' el' no', h => by
    simp only [Sm.r, List.cons.injEq, D.v.injEq, D.sl.injEq, Value.int.injEq, Value.string.injEq, true_and, and_true] at h
    obtain ⟨rfl, h1, h2, h3, h4, h5, h6, h7, h8, rfl⟩ := h
    rw [bs_inj h1, bs_inj h2, exd_inj h3, exd_inj h4, cdd_inj h5, map_inj ar_inj h6, sms_inj th th' h7, sms_inj el el' h8]
theorem sms_inj : ∀ (l m : List Sm), Sm.rs l = Sm.rs m → l = m
  | [], [], _ => rfl
  | [], _ :: _, h => by simp [Sm.rs] at h
  | _ :: _, [], h => by simp [Sm.rs] at h
  | a :: l, b :: m, h => by
    simp only [Sm.rs, List.cons.injEq] at h
    rw [sm_inj a b h.1, sms_inj l m h.2]
end
theorem tk_inj (a b : Tok) (h : a.r = b.r) : a = b := by
  obtain ⟨s, p, q⟩ := a
  obtain ⟨s', p', q'⟩ := b
  simp only [Tok.r, List.cons.injEq, D.v.injEq, Value.int.injEq, Value.string.injEq, and_true, true_and] at h
  rw [h.1, bs_inj h.2.1, h.2.2]
/- cells that are data -/
theorem oD_toD (d : D) : toD (oD d) = some d := by cases d <;> rfl
theorem oD_noVw (d : D) : noVwC (oD d) = true := by cases d <;> rfl
theorem oD_flat (d : D) : (oD d).flat = true := by cases d <;> rfl
theorem oD_out (n : Nat) (d : D) : outC n (oD d) = true := by cases d <;> rfl
theorem oD_ren (f : Nat → Nat) (d : D) : renC f (oD d) = oD d := by cases d <;> rfl
theorem oD_mv (k t : Nat) (d : D) : mvC k t (oD d) = oD d := by cases d <;> rfl
theorem oD_fz (k : Nat) (z : List D) (es : List (List D)) (d : D) : fzC k z es (oD d) = oD d := by cases d <;> rfl
theorem oD_ldc (k u : Nat) (p : List (Nat × Nat)) (i j : Nat) (d : D) (r : List C) : ldc k u p i j (oD d :: r) = oD d :: ldc k u p i (j + 1) r := by cases d <;> rfl
def Ex.isNil : Ex → Bool
  | .nil => true
  | _ => false
def Cd.isNil : Cd → Bool
  | .nil => true
  | _ => false
/-- a tree in a cell -/
def exC (e : Ex) : C := oD e.d
theorem ex_of (e : Ex) : oD e.d = exC e := rfl
theorem ex_toD (e : Ex) : toD (exC e) = some e.d := oD_toD _
theorem ex_noVw (e : Ex) : noVwC (exC e) = true := oD_noVw _
theorem ex_stor (e : Ex) : C.stor (exC e) = true := oD_stor _
theorem ex_names (e : Ex) : C.names (exC e) = [] := oD_names _
theorem ex_flat (e : Ex) : (exC e).flat = true := oD_flat _
theorem ex_out (n : Nat) (e : Ex) : outC n (exC e) = true := oD_out n _
theorem ex_ren (f : Nat → Nat) (e : Ex) : renC f (exC e) = exC e := oD_ren f _
theorem ex_mv (k t : Nat) (e : Ex) : mvC k t (exC e) = exC e := oD_mv k t _
theorem ex_fz (k : Nat) (z : List D) (es : List (List D)) (e : Ex) : fzC k z es (exC e) = exC e := oD_fz k z es _
theorem ex_ldc (k u : Nat) (p : List (Nat × Nat)) (i j : Nat) (e : Ex) (r : List C) : ldc k u p i j (exC e :: r) = exC e :: ldc k u p i (j + 1) r := oD_ldc ..
theorem ex_nilC (e : Ex) : nilC (exC e) = some e.isNil := by cases e <;> rfl
theorem ex_nil : exC .nil = .v (.pointer none) := rfl
/-- a tree in a cell -/
def cdC (e : Cd) : C := oD e.d
theorem cd_of (e : Cd) : oD e.d = cdC e := rfl
theorem cd_toD (e : Cd) : toD (cdC e) = some e.d := oD_toD _
theorem cd_noVw (e : Cd) : noVwC (cdC e) = true := oD_noVw _
theorem cd_stor (e : Cd) : C.stor (cdC e) = true := oD_stor _
theorem cd_names (e : Cd) : C.names (cdC e) = [] := oD_names _
theorem cd_flat (e : Cd) : (cdC e).flat = true := oD_flat _
theorem cd_out (n : Nat) (e : Cd) : outC n (cdC e) = true := oD_out n _
theorem cd_ren (f : Nat → Nat) (e : Cd) : renC f (cdC e) = cdC e := oD_ren f _
theorem cd_mv (k t : Nat) (e : Cd) : mvC k t (cdC e) = cdC e := oD_mv k t _
theorem cd_fz (k : Nat) (z : List D) (es : List (List D)) (e : Cd) : fzC k z es (cdC e) = cdC e := oD_fz k z es _
theorem cd_ldc (k u : Nat) (p : List (Nat × Nat)) (i j : Nat) (e : Cd) (r : List C) : ldc k u p i j (cdC e :: r) = cdC e :: ldc k u p i (j + 1) r := oD_ldc ..
theorem cd_nilC (e : Cd) : nilC (cdC e) = some e.isNil := by cases e <;> rfl
theorem cd_nil : cdC .nil = .v (.pointer none) := rfl
theorem ex_mk (k n : Int) (s : List UInt8) (a b : Ex) : exC (.mk k n s a b) = .d (.pt (some [.v (.int .i64 k), .v (.int .i64 n), .v (.string (bs s)), a.d, b.d])) := rfl
theorem cd_mk (k : Int) (a b : Ex) (p q : Cd) (s : List UInt8) : cdC (.mk k a b p q s) = .d (.pt (some [.v (.int .i64 k), a.d, b.d, p.d, q.d, .v (.string (bs s))])) := rfl
theorem ex_dnil : Ex.d .nil = .v (.pointer none) := rfl
theorem cd_dnil : Cd.d .nil = .v (.pointer none) := rfl
/- the parser's state -/
structure Pr where
  l : List Tok
  i : Int
  en : Int
  e : Int
  at' : Int
  deep : Int
  n : Int
theorem pr_eta (p : Pr) : (⟨p.l, p.i, p.en, p.e, p.at', p.deep, p.n⟩ : Pr) = p := rfl
def Pr.r (p : Pr) : List D := [.sl zTk (p.l.map Tok.r), dI p.i, dI p.en, dI p.e, dI p.at', dI p.deep, dI p.n]
def Pr.c (p : Pr) : List C := [.d (.sl zTk (p.l.map Tok.r)), .v (.int .i64 p.i), .v (.int .i64 p.en), .v (.int .i64 p.e), .v (.int .i64 p.at'), .v (.int .i64 p.deep), .v (.int .i64 p.n)]
abbrev tk0 : Tok := ⟨0, [], 0⟩
theorem tk_getD (l : List Tok) (i : Nat) : (l.map Tok.r).getD i zTk = Tok.r (l.getD i tk0) := by
  simp only [List.getD, List.getElem?_map]
  cases l[i]? <;> rfl
attribute [go_sem] ex_of ex_toD ex_noVw ex_stor ex_names ex_flat ex_ren ex_mv ex_fz ex_ldc ex_nilC cd_of cd_toD cd_noVw cd_stor cd_names cd_flat cd_ren cd_mv cd_fz cd_ldc cd_nilC dI dL0 dN dS empty_bs oD_toD
end Go.Proofs.YtodppgiaimihfabDoor
