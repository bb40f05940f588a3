/- The program's parser: its row, what it keeps, how it fails. No conditions but those in each statement. -/
import Derived.Test.YtodppgiaimihfabDoorMi1
import Derived.Test.YtodppgiaimihfabDoorPp
import Derived.Test.YtodppgiaimihfabDoorSy33
set_option linter.unusedVariables false
set_option linter.unusedSimpArgs false
namespace Go.Proofs.YtodppgiaimihfabDoor
open Go Go.Sy Go.RowKit
def Pr.s (p : Pr) : List D := [.sl zTk (p.l.map Tok.r), dI p.i, dI p.en, dI p.deep, dI p.n, dI p.at', dI p.e]
def Pr.q (p : Pr) : List C := [.d (.sl zTk (p.l.map Tok.r)), .v (.int .i64 p.i), .v (.int .i64 p.en), .v (.int .i64 p.deep), .v (.int .i64 p.n), .v (.int .i64 p.at'), .v (.int .i64 p.e)]
/-- what a panic tells of -/
def Pr.x (p : Pr) : List C := [.any, .any, .any, .any, .any, .v (.int .i64 p.at'), .v (.int .i64 p.e)]
def zPqD : List D := [dL0, dI 0, dI 0, dI 0, dI 0, dI 0, dI 0]
abbrev zPq : List C := [.v (.int .i64 0), .v (.int .i64 0), .v (.int .i64 0), .v (.int .i64 0), .v (.int .i64 0), .v (.int .i64 0), .v (.int .i64 0)]
theorem prs_inj (a b : Pr) (h : a.s = b.s) : a = b := by
  obtain ⟨l, i, en, e, at', deep, n⟩ := a
  obtain ⟨l', i', en', e', at2, deep', n'⟩ := b
  simp only [Pr.s, List.cons.injEq, D.v.injEq, D.sl.injEq, Value.int.injEq, true_and, and_true] at h
  obtain ⟨h1, rfl, rfl, rfl, rfl, rfl, rfl⟩ := h
  rw [map_inj tk_inj h1]
theorem prq_inj (a b : Pr) (h : a.q = b.q) : a = b := by
  obtain ⟨l, i, en, e, at', deep, n⟩ := a
  obtain ⟨l', i', en', e', at2, deep', n'⟩ := b
  simp only [Pr.q, List.cons.injEq, C.v.injEq, C.d.injEq, D.sl.injEq, Value.int.injEq, true_and, and_true] at h
  obtain ⟨h1, rfl, rfl, rfl, rfl, rfl, rfl⟩ := h
  rw [map_inj tk_inj h1]
noncomputable def rPq : RowC Pr := rowOf zPqD Pr.s prs_inj fun _ => rfl
theorem prq_nm (p : Pr) : ∀ c ∈ p.q, c.names = [] := by
  intro c hc
  simp only [Pr.q, List.mem_cons, List.not_mem_nil, or_false] at hc
  rcases hc with rfl | rfl | rfl | rfl | rfl | rfl | rfl <;> rfl
theorem prx_nm (p : Pr) : ∀ c ∈ p.x, c.names = [] := by
  intro c hc
  simp only [Pr.x, List.mem_cons, List.not_mem_nil, or_false] at hc
  rcases hc with rfl | rfl | rfl | rfl | rfl | rfl | rfl <;> rfl
noncomputable def mPq : RowM Pr := rowMOf zPq Pr.q prq_nm
theorem rPq_z : rPq.z = zPqD := rfl
theorem rPq_e : rPq.e = Pr.s := rfl
theorem rPq_d (l : List Tok) (i en e at' deep n : Int) : rPq.d [.sl zTk (l.map Tok.r), dI i, dI en, dI deep, dI n, dI at', dI e] = some ⟨l, i, en, e, at', deep, n⟩ := rPq.i ⟨l, i, en, e, at', deep, n⟩
theorem mPq_z : mPq.z = zPq := rfl
theorem mPq_e : mPq.e = Pr.q := rfl
theorem mPq_d (l : List Tok) (i en e at' deep n : Int) : mPq.d [.d (.sl zTk (l.map Tok.r)), .v (.int .i64 i), .v (.int .i64 en), .v (.int .i64 deep), .v (.int .i64 n), .v (.int .i64 at'), .v (.int .i64 e)] = some ⟨l, i, en, e, at', deep, n⟩ := rowMOf_d prq_inj ⟨l, i, en, e, at', deep, n⟩
theorem rPq_d' (l : List Tok) (i en e at' deep n : Int) : rPq.d [.sl [D.v (Value.int IntKind.i64 0), D.v (Value.string (bs [])), D.v (Value.int IntKind.i64 0)] (l.map Tok.r), .v (.int .i64 i), .v (.int .i64 en), .v (.int .i64 deep), .v (.int .i64 n), .v (.int .i64 at'), .v (.int .i64 e)] = some ⟨l, i, en, e, at', deep, n⟩ := rPq_d l i en e at' deep n
theorem mPq_d' (l : List Tok) (i en e at' deep n : Int) : mPq.d [.d (.sl [D.v (Value.int IntKind.i64 0), D.v (Value.string (bs [])), D.v (Value.int IntKind.i64 0)] (l.map Tok.r)), .v (.int .i64 i), .v (.int .i64 en), .v (.int .i64 deep), .v (.int .i64 n), .v (.int .i64 at'), .v (.int .i64 e)] = some ⟨l, i, en, e, at', deep, n⟩ := mPq_d l i en e at' deep n
theorem memq_nm (p : Pr) : ∀ q, some q ∈ [some ((zPq, [p.q]) : MV)] → ∀ r ∈ q.2, ∀ c ∈ r, c.names = [] := by
  intro q hq r hr c hc
  simp only [List.mem_singleton, Option.some.injEq] at hq
  subst hq
  simp only [List.mem_singleton] at hr
  subst hr
  exact prq_nm p c hc
/-- the row behind a call: as it is, or as a panic tells of it -/
def Pr.w (p : Pr) : MV := if (p.e == 0) = true then (zPq, [p.q]) else (zPq, [p.x])
def Pr.b (p : Pr) : Bool := !(p.e == 0)
theorem memw_nm (p : Pr) : ∀ q, some q ∈ [some p.w] → ∀ r ∈ q.2, ∀ c ∈ r, c.names = [] := by
  intro q hq r hr c hc
  simp only [List.mem_singleton, Option.some.injEq] at hq
  subst hq
  unfold Pr.w at hr
  split at hr <;> (simp only [List.mem_singleton] at hr; subst hr)
  · exact prq_nm p c hc
  · exact prx_nm p c hc
theorem w_t {p : Pr} (h : (p.e == 0) = true) : p.w = (zPq, [p.q]) := by unfold Pr.w; rw [if_pos h]
theorem w_f {p : Pr} (h : (p.e == 0) = false) : p.w = (zPq, [p.x]) := by unfold Pr.w; rw [if_neg (by rw [h]; decide)]
theorem b_t {p : Pr} (h : (p.e == 0) = true) : p.b = false := by unfold Pr.b; rw [h]; rfl
theorem b_f {p : Pr} (h : (p.e == 0) = false) : p.b = true := by unfold Pr.b; rw [h]; rfl
/-- what the program's parser keeps while it goes on -/
structure okQ (p : Pr) : Prop where
  ok : okP p
  e : p.e = 0
  l : lexd p.l
theorem okQ.i {p : Pr} (h : okQ p) : okI p := h.ok.i
theorem okQ.e' {p : Pr} (h : okQ p) : (p.e == 0) = true := by rw [h.e]; rfl
theorem okQ.nx {p q : Pr} (h : okQ p) (k : Nx p q) (he : (q.e == 0) = true) : okQ q := ⟨k.ok, by simpa using he, by rw [k.l]; exact h.l⟩
/-- where a call has panicked, its caller panics by the same -/
theorem pan {p q : Pr} (k : p.e ≠ 0 → q.e = p.e ∧ q.at' = p.at') (he : (p.e == 0) = false) : (q.e == 0) = false ∧ q.x = p.x := by
  obtain ⟨h1, h2⟩ := k (by simpa using he)
  refine ⟨by rw [h1]; exact he, ?_⟩
  unfold Pr.x; rw [h1, h2]
theorem failP_x {c : Int} {p : Pr} (h : p.e = 0) : (failP c p).at' = (if decide (p.i < (p.l.length : Int)) = true then (tk p).p else p.en) ∧ (failP c p).e = c := by
  unfold failP; rw [if_pos (by rw [h]; rfl)]; exact ⟨rfl, rfl⟩
end Go.Proofs.YtodppgiaimihfabDoor
