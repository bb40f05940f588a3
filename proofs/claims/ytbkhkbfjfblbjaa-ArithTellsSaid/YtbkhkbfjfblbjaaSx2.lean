import Derived.Test.YtbkhkbfjfblbjaaSx
namespace Go.Sx
open Go.RowKit

/-- what the type table says -/
def tAgg (P : Program) (t : TypeId) : Option Bool :=
  match P.underlying t with
  | some (.struct _) => some true
  | some (.array _ _) => some true
  | some _ => some false
  | none => none
def tSize (P : Program) (t : TypeId) : Option Nat := (P.info? t).map (·.size)
def tField (P : Program) (t : TypeId) (f : Nat) : Option (Nat × TypeId) :=
  match P.underlying t with
  | some (.struct fs) => (fs[f]?).map fun x => (x.offset, x.type)
  | _ => none
def tZero (P : Program) (t : TypeId) : Option Value := (P.info? t).bind (·.zero)
def tInt (P : Program) (t : TypeId) : Option IntKind :=
  match P.underlying t with
  | some (.int k) => some k
  | _ => none
def tElem (P : Program) (t : TypeId) : Option TypeId :=
  match P.underlying t with
  | some (.slice e) => some e
  | _ => none
inductive Kd where
  | b | i | s
def tKd (P : Program) (t : TypeId) : Option Kd :=
  match P.underlying t with
  | some .bool => some .b
  | some (.int _) => some .i
  | some .string => some .s
  | _ => none
/-- the fields of a struct whose '==' goes by its cells: offset and kind -/
def tEqL (P : Program) : List Field → Option (List (Nat × Kd))
  | [] => some []
  | f :: r => if f.name = "_" then none else
    match tAgg P f.type, tKd P f.type, tEqL P r with
    | some false, some k, some l => some ((f.offset, k) :: l)
    | _, _, _ => none
def tEq (P : Program) (t : TypeId) : Option (List (Nat × Kd)) :=
  match P.underlying t with
  | some (.struct fs) => if P.stoodInHeld t then none else if P.eqGuardType P.depth t then none else tEqL P fs.toList
  | _ => none

theorem run_isAgg {P : Program} {t : TypeId} {b : Bool} (h : tAgg P t = some b) (w : World) : (isAgg t).run P w = .ok b w := by
  unfold tAgg at h
  split at h <;> rename_i hu <;> simp at h
  · subst h; simp [isAgg, run_underlying hu]
  · subst h; simp [isAgg, run_underlying hu]
  · rename_i d h1 h2
    subst h
    simp only [isAgg, Sem.run_bind, run_underlying hu, Result.andThen_ok]
    cases d <;> simp_all
theorem run_sizeOf {P : Program} {t : TypeId} {n : Nat} (h : tSize P t = some n) (w : World) : (sizeOf t).run P w = .ok n w := by
  unfold tSize at h
  simp only [Option.map_eq_some_iff] at h
  obtain ⟨i, hi, rfl⟩ := h
  simp [sizeOf, typeInfo, hi]
theorem run_zeroValue {P : Program} {t : TypeId} {z : Value} (h : tZero P t = some z) (w : World) : (zeroValue t).run P w = .ok z w := by
  unfold tZero at h
  rw [Option.bind_eq_some_iff] at h
  obtain ⟨i, hi, hz⟩ := h
  simp [zeroValue, typeInfo, hi, hz]

/-- '==' of cells -/
def eqC : Kd → C → C → Option Bool
  | .b, .v (.bool a), .v (.bool b) => some (a == b)
  | .i, .v (.int k a), .v (.int k' b) => if k = k' then some (a == b) else none
  | .s, .v (.string a), .v (.string b) => some (a == b)
  | _, _, _ => none
def eqL (x y : List C) : List (Nat × Kd) → Option Bool
  | [] => some true
  | (o, k) :: r =>
    match x[o]?, y[o]? with
    | some a, some b => match eqC k a b with
      | some c => (eqL x y r).map (c && ·)
      | none => none
    | _, _ => none

def bsel (c x y : Bool) : Bool := (c && x) || (!c && y)
theorem bsel_false (c x : Bool) : bsel c x false = (c && x) := by simp [bsel]
theorem bsel_true (c y : Bool) : bsel c true y = (c || y) := by cases c <;> simp [bsel]

def cmpI (op : BinOp) (a b : Int) : Option Bool :=
  match op with
  | .eql => some (a == b)
  | .neq => some (a != b)
  | .lss => some (decide (a < b))
  | .leq => some (decide (a ≤ b))
  | .gtr => some (decide (b < a))
  | .geq => some (decide (b ≤ a))
  | _ => none
def arI (op : BinOp) (k : IntKind) (a b : Int) : Option (Prop × Int) :=
  match op with
  | .add => some (True, k.wrap (a + b))
  | .sub => some (True, k.wrap (a - b))
  | .mul => some (True, k.wrap (a * b))
  | .quo => some (b ≠ 0, k.wrap (a.tdiv b))
  | .rem => some (b ≠ 0, a.tmod b)
  | _ => none

def binV (P : Program) (op : BinOp) (T : TypeId) : SV → SV → Option (Prop × SV)
  | .one (.v (.int k a)), .one (.v (.int k' b)) =>
    if k = k' then
      match arI op k a b with
      | some (c, n) => some (c, .one (.v (.int k n)))
      | none => (cmpI op a b).map fun x => (True, .one (.v (.bool x)))
    else none
  | .one (.v (.bool a)), .one (.v (.bool b)) =>
    match op with
    | .eql => some (P.underlying T = some .bool, .one (.v (.bool (a == b))))
    | .neq => some (P.underlying T = some .bool, .one (.v (.bool (!(a == b)))))
    | _ => none
  | .agg x, .agg y =>
    match tEq P T with
    | some os =>
      match eqL x y os with
      | some c =>
        match op with
        | .eql => some (True, .one (.v (.bool c)))
        | .neq => some (True, .one (.v (.bool (!c))))
        | _ => none
      | none => none
    | none => none
  | _, _ => none

theorem eqC_ok {P : Program} {I : Nat → Nat} {t : TypeId} {a b : C} {c : Bool} {k : Kd} (hk : tKd P t = some k)
    (h : eqC k a b = some c) (d : Nat) (w : World) : (Op.equalIn (d + 1) t (a.den I) (b.den I)).run P w = .ok c w := by
  unfold tKd at hk
  split at hk <;> simp only [Option.some.injEq, reduceCtorEq] at hk <;> subst hk <;> rename_i hu
  all_goals (unfold eqC at h; split at h <;> simp_all [C.den, Op.equalIn, run_underlying hu])

theorem getC {I : Nat → Nat} {x : List C} {o : Nat} {a : C} (h : x[o]? = some a) : ((x.map (C.den I)).toArray)[o]? = some (a.den I) := by
  simp [h]

theorem eqFields_ok {P : Program} {I : Nat → Nat} {x y : List C} (d : Nat) (w : World) : ∀ (fs : List Field) (os : List (Nat × Kd)) (c : Bool),
    tEqL P fs = some os → eqL x y os = some c → (Op.eqFields (d + 1) (x.map (C.den I)).toArray (y.map (C.den I)).toArray fs).run P w = .ok c w := by
  intro fs
  induction fs with
  | nil =>
    intro os c h1 h2
    simp only [tEqL, Option.some.injEq] at h1
    subst h1
    simp only [eqL, Option.some.injEq] at h2
    subst h2
    simp [Op.eqFields]
  | cons f fs ih =>
    intro os c h1 h2
    simp only [tEqL] at h1
    split at h1
    · simp at h1
    · rename_i hn
      split at h1
      · rename_i k l ha hk hl
        simp only [Option.some.injEq] at h1
        subst h1
        simp only [eqL] at h2
        split at h2
        · rename_i a b hx hy
          split at h2
          · rename_i c1 hc1
            simp only [Option.map_eq_some_iff] at h2
            obtain ⟨c2, h2, rfl⟩ := h2
            have hp : ∀ (z : List C) (u : C), z[f.offset]? = some u → (part f.type (z.map (C.den I)).toArray f.offset).run P w = .ok (u.den I) w := by
              intro z u hz
              simp only [part, Sem.run_bind, run_isAgg ha, Result.andThen_ok, Bool.false_eq_true, if_false, getC hz, Sem.run_pure]
            simp only [Op.eqFields, hn, ne_eq, not_false_eq_true, if_true, Sem.run_bind, hp x a hx, hp y b hy, Result.andThen_ok, eqC_ok hk hc1]
            cases c1
            · simp
            · simp only [Bool.not_true, Bool.false_eq_true, if_false, Bool.true_and]
              exact ih l c2 hl h2
          · simp at h2
        · simp at h2
      · simp at h1

theorem run_eqlB {P : Program} {T : TypeId} (h : P.underlying T = some .bool) (a b : Bool) (ox oy : Operand) (w : World) :
    (do eqGuard .eql T ox oy (.bool a) (.bool b); binOp .eql T (.bool a) (.bool b) : Sem Value).run P w = .ok (.bool (a == b)) w := by
  have e1 : (eqGuard .eql T ox oy (.bool a) (.bool b)).run P w = .ok () w := by simp [eqGuard]
  have e2 : binOp .eql T (.bool a) (.bool b) = (do pure (.bool (← Op.equal T (.bool a) (.bool b)))) := rfl
  have e3 : (Op.equal T (.bool a) (.bool b)).run P w = .ok (a == b) w := run_equalIn_bool' w 9999 T a b h
  simp only [Sem.run_bind, e1, Result.andThen_ok, e2, e3, Sem.run_pure]
theorem run_neqB {P : Program} {T : TypeId} (h : P.underlying T = some .bool) (a b : Bool) (ox oy : Operand) (w : World) :
    (do eqGuard .neq T ox oy (.bool a) (.bool b); binOp .neq T (.bool a) (.bool b) : Sem Value).run P w = .ok (.bool (!(a == b))) w := by
  have e1 : (eqGuard .neq T ox oy (.bool a) (.bool b)).run P w = .ok () w := by simp [eqGuard]
  have e2 : binOp .neq T (.bool a) (.bool b) = (do pure (.bool (!(← Op.equal T (.bool a) (.bool b))))) := rfl
  have e3 : (Op.equal T (.bool a) (.bool b)).run P w = .ok (a == b) w := run_equalIn_bool' w 9999 T a b h
  simp only [Sem.run_bind, e1, Result.andThen_ok, e2, e3, Sem.run_pure]
theorem tEq_ok {P : Program} {I : Nat → Nat} {T : TypeId} {os : List (Nat × Kd)} {a b : List C} {z : Bool} (hos : tEq P T = some os) (hz : eqL a b os = some z) (w : World) :
    P.eqGuardType P.depth T = false ∧ (Op.equalIn 10000 T (.agg (a.map (C.den I)).toArray) (.agg (b.map (C.den I)).toArray)).run P w = .ok z w := by
  unfold tEq at hos
  split at hos
  · rename_i fs hu
    split at hos
    · simp at hos
    · rename_i hst
      split at hos
      · simp at hos
      · rename_i hgt
        have hst' : P.stoodInHeld T = false := by simpa using hst
        have hgt' : P.eqGuardType P.depth T = false := by simpa using hgt
        have hf : P.fieldsOf T = fs := by simp [Program.fieldsOf, hu]
        have hu' : P.underlying T = some (.struct (P.fieldsOf T)) := by rw [hf]; exact hu
        have he := eqFields_ok (P := P) (I := I) (x := a) (y := b) 9998 w fs.toList os z hos hz
        refine ⟨hgt', ?_⟩
        have h1 := run_equalIn_struct (P := P) w 9999 T (a.map (C.den I)).toArray (b.map (C.den I)).toArray hu' hst'
        rw [hf] at h1
        exact h1.trans he
  · simp at hos

theorem binV_ok {P : Program} {I : Nat → Nat} {op : BinOp} {T : TypeId} {x y v : SV} {c : Prop} (h : binV P op T x y = some (c, v)) (hc : c) (ox oy : Operand) (w : World) :
    (do eqGuard op T ox oy (x.den I) (y.den I); binOp op T (x.den I) (y.den I) : Sem Value).run P w = .ok (v.den I) w := by
  unfold binV at h
  split at h
  · rename_i k a k' b
    split at h
    · rename_i hk
      subst hk
      have hg : ∀ (w : World), (eqGuard op T ox oy (.int k a) (.int k b)).run P w = .ok () w := by
        intro w; cases op <;> simp [eqGuard]
      split at h
      · rename_i c' n har
        simp only [Option.some.injEq, Prod.mk.injEq] at h
        obtain ⟨rfl, rfl⟩ := h
        simp only [SV.den, C.den, Sem.run_bind, hg, Result.andThen_ok]
        unfold arI at har
        split at har <;> simp only [Option.some.injEq, Prod.mk.injEq, reduceCtorEq] at har
        all_goals (obtain ⟨rfl, rfl⟩ := har; simp [binOp, Op.intArith, Op.intDiv, hc])
      · rename_i har
        simp only [Option.map_eq_some_iff, Prod.mk.injEq] at h
        obtain ⟨z, hz, rfl, rfl⟩ := h
        simp only [SV.den, C.den, Sem.run_bind, hg, Result.andThen_ok]
        unfold cmpI at hz
        split at hz <;> simp only [Option.some.injEq, reduceCtorEq] at hz
        all_goals (subst hz; simp [binOp, Op.intCmp])
    · simp at h
  · rename_i a b
    split at h <;> simp only [Option.some.injEq, Prod.mk.injEq, reduceCtorEq] at h
    · obtain ⟨rfl, rfl⟩ := h
      exact run_eqlB hc a b ox oy w
    · obtain ⟨rfl, rfl⟩ := h
      exact run_neqB hc a b ox oy w
  · rename_i a b
    split at h
    · rename_i os hos
      split at h
      · rename_i z hz
        obtain ⟨hgt', hq⟩ := tEq_ok (I := I) hos hz w
        split at h <;> simp only [Option.some.injEq, Prod.mk.injEq, reduceCtorEq] at h
        · obtain ⟨rfl, rfl⟩ := h
          simp only [SV.den, Sem.run_bind, run_eqGuard_agg w _ T ox oy _ _ hgt', Result.andThen_ok, run_eql_struct, hq, C.den]
        · obtain ⟨rfl, rfl⟩ := h
          simp only [SV.den, Sem.run_bind, run_eqGuard_agg w _ T ox oy _ _ hgt', Result.andThen_ok, run_neq_struct, hq, C.den]
      · simp at h
    · simp at h
  · simp at h

end Go.Sx
