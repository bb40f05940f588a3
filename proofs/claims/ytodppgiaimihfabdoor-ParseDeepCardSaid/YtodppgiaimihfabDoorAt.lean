/- Rows of arguments, variables, statements. No conditions but those in each statement. -/
import Derived.Test.YtodppgiaimihfabDoorAs
set_option linter.unusedVariables false
set_option linter.unusedSimpArgs false
namespace Go.Proofs.YtodppgiaimihfabDoor
open Go Go.Sy Go.RowKit
def Ar.c (a : Ar) : List C := [.v (.bool a.p), .v (.string (bs a.s)), exC a.e]
def zAc : List C := [.v (.bool false), .v (.string (bs [])), .v (.pointer none)]
theorem zAc_t : zT zAc = none := rfl
attribute [go_sem] zAc_t
def Vr.c (v : Vr) : List C := [.v (.string (bs v.s)), .v (.bool v.p)]
def zVc : List C := [.v (.string (bs [])), .v (.bool false)]
theorem zVc_t : zT zVc = none := rfl
attribute [go_sem] zVc_t
def Sm.k : Sm → Int | .mk k _ _ _ _ _ _ _ _ _ => k
def Sm.x : Sm → List UInt8 | .mk _ x _ _ _ _ _ _ _ _ => x
def Sm.y : Sm → List UInt8 | .mk _ _ y _ _ _ _ _ _ _ => y
def Sm.e : Sm → Ex | .mk _ _ _ e _ _ _ _ _ _ => e
def Sm.f : Sm → Ex | .mk _ _ _ _ f _ _ _ _ _ => f
def Sm.cd : Sm → Cd | .mk _ _ _ _ _ c _ _ _ _ => c
def Sm.ar : Sm → List Ar | .mk _ _ _ _ _ _ a _ _ _ => a
def Sm.th : Sm → List Sm | .mk _ _ _ _ _ _ _ t _ _ => t
def Sm.el : Sm → List Sm | .mk _ _ _ _ _ _ _ _ e _ => e
def Sm.no : Sm → Int | .mk _ _ _ _ _ _ _ _ _ n => n
theorem sm_r (s : Sm) : s.r = [dI s.k, dS s.x, dS s.y, s.e.d, s.f.d, s.cd.d, .sl zAr (s.ar.map Ar.r), .sl zSm (s.th.map Sm.r), .sl zSm (s.el.map Sm.r), dI s.no] := by
  cases s; simp only [Sm.r, rs_map, Sm.k, Sm.x, Sm.y, Sm.e, Sm.f, Sm.cd, Sm.ar, Sm.th, Sm.el, Sm.no]
def Sm.c (s : Sm) : List C := [.v (.int .i64 s.k), .v (.string (bs s.x)), .v (.string (bs s.y)), exC s.e, exC s.f, cdC s.cd, .d (.sl zAr (s.ar.map Ar.r)), .d (.sl zSm (s.th.map Sm.r)), .d (.sl zSm (s.el.map Sm.r)), .v (.int .i64 s.no)]
def zSc : List C := [.v (.int .i64 0), .v (.string (bs [])), .v (.string (bs [])), .v (.pointer none), .v (.pointer none), .v (.pointer none), .v (.slice none 0 0), .v (.slice none 0 0), .v (.slice none 0 0), .v (.int .i64 0)]
theorem zSc_t : zT zSc = none := rfl
attribute [go_sem] zSc_t
def Fn.c (f : Fn) : List C := [.v (.string (bs f.name)), .d (.sl zVr (f.ps.map Vr.r)), .d (.sl zVr (f.ls.map Vr.r)), .d (.sl zSm (f.body.map Sm.r))]
abbrev fn0 : Fn := ⟨[], [], [], []⟩
section
variable {A : Type} {l : List A}
/-- rows that are data: what commands do with them -/
structure RowsD (f : A → List C) (g : A → List D) (n : Nat) : Prop where
  nm : ∀ a, ∀ c ∈ f a, C.names c = []
  st : ∀ a, ∀ c ∈ f a, C.stor c = true
  td : ∀ a, toDs (f a) = some (g a)
  len : ∀ a, (f a).length = n
theorem mv_id (k t : Nat) {c : C} (h : c.names = []) (h2 : C.stor c = true) : mvC k t c = c := by
  cases c <;> first | rfl | (simp [C.stor] at h2; done) | (simp [C.names] at h; done) | (rename_i f caps; simp only [C.names] at h; simp [mvC, h])
theorem fz_id (k : Nat) (z : List D) (es : List (List D)) {c : C} (h : c.names = []) (h2 : C.stor c = true) : fzC k z es c = c := by
  cases c <;> first | rfl | (simp [C.stor] at h2; done) | (simp [C.names] at h; done) | (rename_i f caps; simp only [C.names] at h; simp [fzC, h])
theorem map_idC {σ : C → C} {r : List C} (h : ∀ c ∈ r, σ c = c) : r.map σ = r := by
  induction r with
  | nil => rfl
  | cons c r ih => rw [List.map_cons, h c (List.mem_cons_self ..), ih fun c hc => h c (List.mem_cons_of_mem _ hc)]
variable {f : A → List C} {g : A → List D} {n : Nat} (hR : RowsD f g n)
include hR
theorem RowsD.fn : List.flatMap (fun r => List.flatMap C.names r) (l.map f) = [] := flN_of f hR.nm l
theorem RowsD.ds : toDss (l.map f) = some (l.map g) := toDss_of f hR.td l
theorem RowsD.ds1 (r : List C) : toDss (l.map f ++ [r]) = (toDs r).map fun d => l.map g ++ [d] := by
  induction l with
  | nil => simp only [List.map_nil, List.nil_append, toDss]; cases toDs r <;> rfl
  | cons a l ih => simp only [List.map_cons, List.cons_append, toDss, hR.td a, ih]; cases toDs r <;> rfl
theorem RowsD.mv (k t : Nat) : (l.map f).map (fun r => r.map (mvC k t)) = l.map f := map_of f (fun a => map_idC fun c hc => mv_id k t (hR.nm a c hc) (hR.st a c hc)) l
theorem RowsD.fz (k : Nat) (z : List D) (es : List (List D)) : (l.map f).map (fun r => r.map (fzC k z es)) = l.map f := map_of f (fun a => map_idC fun c hc => fz_id k z es (hR.nm a c hc) (hR.st a c hc)) l
theorem RowsD.stor : rowsStor (l.map f) := stor_of f hR.st l
theorem RowsD.cl : closB (l.map f) = true := closB_of f hR.nm l
end
theorem rowsA : RowsD Ar.c Ar.r 3 := by
  refine ⟨fun a c hc => ?_, fun a c hc => ?_, fun a => ?_, fun a => rfl⟩
  · simp only [Ar.c, List.mem_cons, List.not_mem_nil, or_false] at hc; rcases hc with rfl | rfl | rfl <;> first | rfl | exact ex_names _
  · simp only [Ar.c, List.mem_cons, List.not_mem_nil, or_false] at hc; rcases hc with rfl | rfl | rfl <;> first | rfl | exact ex_stor _
  · simp only [Ar.c, toDs, toD, ex_toD, Ar.r]
theorem rowsV : RowsD Vr.c Vr.r 2 := by
  refine ⟨fun a c hc => ?_, fun a c hc => ?_, fun a => ?_, fun a => rfl⟩
  · simp only [Vr.c, List.mem_cons, List.not_mem_nil, or_false] at hc; rcases hc with rfl | rfl <;> rfl
  · simp only [Vr.c, List.mem_cons, List.not_mem_nil, or_false] at hc; rcases hc with rfl | rfl <;> rfl
  · simp only [Vr.c, toDs, toD, Vr.r]
theorem rowsS : RowsD Sm.c Sm.r 10 := by
  refine ⟨fun a c hc => ?_, fun a c hc => ?_, fun a => ?_, fun a => rfl⟩
  · simp only [Sm.c, List.mem_cons, List.not_mem_nil, or_false] at hc; rcases hc with rfl | rfl | rfl | rfl | rfl | rfl | rfl | rfl | rfl | rfl <;> first | rfl | exact ex_names _ | exact cd_names _
  · simp only [Sm.c, List.mem_cons, List.not_mem_nil, or_false] at hc; rcases hc with rfl | rfl | rfl | rfl | rfl | rfl | rfl | rfl | rfl | rfl <;> first | rfl | exact ex_stor _ | exact cd_stor _
  · rw [sm_r]; simp only [Sm.c, toDs, toD, ex_toD, cd_toD]
end Go.Proofs.YtodppgiaimihfabDoor
