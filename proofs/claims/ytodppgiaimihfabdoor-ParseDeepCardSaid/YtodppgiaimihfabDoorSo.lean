/- A statement's row while it is read. No conditions but those in each statement. -/
import Derived.Test.YtodppgiaimihfabDoorPo
set_option linter.unusedVariables false
set_option linter.unusedSimpArgs false
namespace Go.Proofs.YtodppgiaimihfabDoor
open Go Go.Sy Go.RowKit
abbrev arS (l : List Ar) : C := .d (.sl zAr (l.map Ar.r))
def arO : Option (List Ar) → C
  | none => .v (.slice none 0 0)
  | some l => arS l
structure Sf where
  x : List UInt8
  no : Int
def Sf.c (s : Sf) : List C := [.v (.int .i64 0), .v (.string (bs s.x)), .v (.string (bs [])), .v (.pointer none), .v (.pointer none), .v (.pointer none), .v (.slice none 0 0), .v (.slice none 0 0), .v (.slice none 0 0), .v (.int .i64 s.no)]
def valC (s : Sf) (v : VR) : List C := [.v (.int .i64 v.k), .v (.string (bs s.x)), .v (.string (bs v.y)), exC v.e, .v (.pointer none), .v (.pointer none), arO v.a, .v (.slice none 0 0), .v (.slice none 0 0), .v (.int .i64 s.no)]
theorem sf_nm (s : Sf) : ∀ c ∈ s.c, c.names = [] := by
  intro c hc
  simp only [Sf.c, List.mem_cons, List.not_mem_nil, or_false] at hc
  rcases hc with rfl | rfl | rfl | rfl | rfl | rfl | rfl | rfl | rfl | rfl <;> rfl
theorem arO_names (o : Option (List Ar)) : (arO o).names = [] := by cases o <;> rfl
theorem arO_stor (o : Option (List Ar)) : C.stor (arO o) = true := by cases o <;> rfl
theorem arO_noVw (o : Option (List Ar)) : noVwC (arO o) = true := by cases o <;> rfl
theorem arO_ldc (k u : Nat) (p : List (Nat × Nat)) (i j : Nat) (o : Option (List Ar)) (r : List C) : ldc k u p i j (arO o :: r) = arO o :: ldc k u p i (j + 1) r := by cases o <;> rfl
theorem arO_le (o : Option (List Ar)) : leC (arO o) (.d (.sl zAr ((o.getD []).map Ar.r))) = True := by
  cases o with
  | none => exact leC_nil _
  | some l => exact leC_same _
theorem arO_none : arO none = .v (.slice none 0 0) := rfl
theorem arO_some (l : List Ar) : arO (some l) = .d (.sl zAr (l.map Ar.r)) := rfl
theorem sf_inj (a b : Sf) (h : a.c = b.c) : a = b := by
  obtain ⟨x, no⟩ := a
  obtain ⟨x', no'⟩ := b
  simp only [Sf.c, List.cons.injEq, C.v.injEq, Value.int.injEq, Value.string.injEq, true_and, and_true] at h
  rw [bs_inj h.1, h.2]
noncomputable def mSf : RowM Sf := rowMOf zSc Sf.c sf_nm
theorem mSf_z : mSf.z = zSc := rfl
theorem mSf_e : mSf.e = Sf.c := rfl
theorem mSf_d (x : List UInt8) (no : Int) : mSf.d [.v (.int .i64 0), .v (.string (bs x)), .v (.string (bs [])), .v (.pointer none), .v (.pointer none), .v (.pointer none), .v (.slice none 0 0), .v (.slice none 0 0), .v (.slice none 0 0), .v (.int .i64 no)] = some ⟨x, no⟩ := rowMOf_d sf_inj ⟨x, no⟩
end Go.Proofs.YtodppgiaimihfabDoor
