import Derived.Test.YtbkhkbfjfblbjaaSx10
namespace Go.Sx
open Go.RowKit

theorem wrap_i64 {n : Int} (h1 : -9223372036854775808 ≤ n) (h2 : n ≤ 9223372036854775807) : IntKind.i64.wrap n = n := IntWalk.i64_in n ⟨h1, h2⟩
theorem wrap_u64 {n : Int} (h1 : 0 ≤ n) (h2 : n ≤ 18446744073709551615) : IntKind.u64.wrap n = n := IntWalk.u64_in n ⟨h1, h2⟩
theorem wrap_u8 {n : Int} (h1 : 0 ≤ n) (h2 : n ≤ 255) : IntKind.u8.wrap n = n := IntWalk.u8_in n ⟨h1, h2⟩

/-- how data of a kind are told as values -/
structure Cod (A : Type) where
  d : SV → Option A
  e : A → SV
  h : ∀ s x, d s = some x → s = e x
  n : ∀ x, (e x).names = []

def dInt (k : IntKind) : SV → Option Int
  | .one (.v (.int k' n)) => if k' = k then some n else none
  | _ => none
def cInt (k : IntKind) : Cod Int where
  d := dInt k
  e n := .one (.v (.int k n))
  h s x h := by
    unfold dInt at h
    split at h
    · split at h
      · rename_i hk; simp only [Option.some.injEq] at h; subst h; subst hk; rfl
      · simp at h
    · simp at h
  n x := rfl
def dBool : SV → Option Bool
  | .one (.v (.bool b)) => some b
  | _ => none
def cBool : Cod Bool where
  d := dBool
  e b := .one (.v (.bool b))
  h s x h := by
    unfold dBool at h
    split at h
    · simp only [Option.some.injEq] at h; subst h; rfl
    · simp at h
  n x := rfl

section
variable {P : Program}

def spec0 (f : FuncId) (call : ∀ (args : Array Value) (w : World), (callFunc f args).run P w = .ok (.enter f args) w) (F : SV) (hF : F.names = [])
    (ok : ∀ (w : World), Calls P f #[] w (fun e w' => e = .returned (F.den fun _ => 0) ∧ Below w.heap.size w w')) : Spec P where
  f := f
  call := call
  fn args _ := match args with | [] => some (True, F) | _ => none
  ok I H args c r h hc w _ := by
    split at h <;> simp only [Option.some.injEq, Prod.mk.injEq, reduceCtorEq] at h
    obtain ⟨rfl, rfl⟩ := h
    refine (ok w).mono ?_
    rintro e w' ⟨rfl, hb⟩
    exact ⟨by rw [sden_congr (I := fun _ => 0) (I' := I) (by simp [hF])], hb⟩
  nm H args c r h := by
    split at h <;> simp only [Option.some.injEq, Prod.mk.injEq, reduceCtorEq] at h
    obtain ⟨rfl, rfl⟩ := h; exact hF
  loc args H H' _ := rfl

def spec1 (f : FuncId) (call : ∀ (args : Array Value) (w : World), (callFunc f args).run P w = .ok (.enter f args) w) {A : Type} (cA : Cod A) (Cd : A → Prop) (F : A → SV) (hF : ∀ x, (F x).names = [])
    (ok : ∀ x (w : World), Cd x → Calls P f #[(cA.e x).den fun _ => 0] w (fun e w' => e = .returned ((F x).den fun _ => 0) ∧ Below w.heap.size w w')) : Spec P where
  f := f
  call := call
  fn args _ := match args with | [a] => (match cA.d a with | some x => some (Cd x, F x) | none => none) | _ => none
  ok I H args c r h hc w _ := by
    split at h
    · rename_i a
      split at h
      · rename_i x hx
        simp only [Option.some.injEq, Prod.mk.injEq] at h
        obtain ⟨rfl, rfl⟩ := h
        have e1 : (cA.e x).den I = (cA.e x).den fun _ => 0 := sden_congr (by simp [cA.n])
        rw [cA.h a x hx]
        simp only [List.map_cons, List.map_nil, e1]
        refine (ok x w hc).mono ?_
        rintro e w' ⟨rfl, hb⟩
        exact ⟨by rw [sden_congr (I := fun _ => 0) (I' := I) (by simp [hF])], hb⟩
      · simp at h
    · simp at h
  nm H args c r h := by
    (repeat' split at h) <;> simp only [Option.some.injEq, Prod.mk.injEq, reduceCtorEq] at h
    obtain ⟨rfl, rfl⟩ := h; exact hF _
  loc args H H' _ := rfl

def spec2 (f : FuncId) (call : ∀ (args : Array Value) (w : World), (callFunc f args).run P w = .ok (.enter f args) w) {A B : Type} (cA : Cod A) (cB : Cod B) (Cd : A → B → Prop) (F : A → B → SV) (hF : ∀ x y, (F x y).names = [])
    (ok : ∀ x y (w : World), Cd x y → Calls P f #[(cA.e x).den fun _ => 0, (cB.e y).den fun _ => 0] w (fun e w' => e = .returned ((F x y).den fun _ => 0) ∧ Below w.heap.size w w')) : Spec P where
  f := f
  call := call
  fn args _ := match args with | [a, b] => (match cA.d a, cB.d b with | some x, some y => some (Cd x y, F x y) | _, _ => none) | _ => none
  ok I H args c r h hc w _ := by
    split at h
    · rename_i a b
      split at h
      · rename_i x y hx hy
        simp only [Option.some.injEq, Prod.mk.injEq] at h
        obtain ⟨rfl, rfl⟩ := h
        have e1 : (cA.e x).den I = (cA.e x).den fun _ => 0 := sden_congr (by simp [cA.n])
        have e2 : (cB.e y).den I = (cB.e y).den fun _ => 0 := sden_congr (by simp [cB.n])
        rw [cA.h a x hx, cB.h b y hy]
        simp only [List.map_cons, List.map_nil, e1, e2]
        refine (ok x y w hc).mono ?_
        rintro e w' ⟨rfl, hb⟩
        exact ⟨by rw [sden_congr (I := fun _ => 0) (I' := I) (by simp [hF])], hb⟩
      · simp at h
    · simp at h
  nm H args c r h := by
    (repeat' split at h) <;> simp only [Option.some.injEq, Prod.mk.injEq, reduceCtorEq] at h
    obtain ⟨rfl, rfl⟩ := h; exact hF _ _
  loc args H H' _ := rfl

def spec3 (f : FuncId) (call : ∀ (args : Array Value) (w : World), (callFunc f args).run P w = .ok (.enter f args) w) {A B D : Type} (cA : Cod A) (cB : Cod B) (cD : Cod D) (Cd : A → B → D → Prop) (F : A → B → D → SV) (hF : ∀ x y z, (F x y z).names = [])
    (ok : ∀ x y z (w : World), Cd x y z → Calls P f #[(cA.e x).den fun _ => 0, (cB.e y).den fun _ => 0, (cD.e z).den fun _ => 0] w (fun e w' => e = .returned ((F x y z).den fun _ => 0) ∧ Below w.heap.size w w')) : Spec P where
  f := f
  call := call
  fn args _ := match args with | [a, b, d] => (match cA.d a, cB.d b, cD.d d with | some x, some y, some z => some (Cd x y z, F x y z) | _, _, _ => none) | _ => none
  ok I H args c r h hc w _ := by
    split at h
    · rename_i a b d
      split at h
      · rename_i x y z hx hy hz
        simp only [Option.some.injEq, Prod.mk.injEq] at h
        obtain ⟨rfl, rfl⟩ := h
        have e1 : (cA.e x).den I = (cA.e x).den fun _ => 0 := sden_congr (by simp [cA.n])
        have e2 : (cB.e y).den I = (cB.e y).den fun _ => 0 := sden_congr (by simp [cB.n])
        have e3 : (cD.e z).den I = (cD.e z).den fun _ => 0 := sden_congr (by simp [cD.n])
        rw [cA.h a x hx, cB.h b y hy, cD.h d z hz]
        simp only [List.map_cons, List.map_nil, e1, e2, e3]
        refine (ok x y z w hc).mono ?_
        rintro e w' ⟨rfl, hb⟩
        exact ⟨by rw [sden_congr (I := fun _ => 0) (I' := I) (by simp [hF])], hb⟩
      · simp at h
    · simp at h
  nm H args c r h := by
    (repeat' split at h) <;> simp only [Option.some.injEq, Prod.mk.injEq, reduceCtorEq] at h
    obtain ⟨rfl, rfl⟩ := h; exact hF _ _ _
  loc args H H' _ := rfl

theorem spec0_f (f call F hF ok) : (spec0 (P := P) f call F hF ok).f = f := rfl
theorem spec0_fn (f call F hF ok) (H : Hp) : (spec0 (P := P) f call F hF ok).fn [] H = some (True, F) := rfl
def spFn1 {A : Type} (x : Option A) (Cd : A → Prop) (F : A → SV) : Option (Prop × SV) := match x with | some x => some (Cd x, F x) | none => none
def spFn2 {A B : Type} (x : Option A) (y : Option B) (Cd : A → B → Prop) (F : A → B → SV) : Option (Prop × SV) := match x, y with | some x, some y => some (Cd x y, F x y) | _, _ => none
def spFn3 {A B D : Type} (x : Option A) (y : Option B) (z : Option D) (Cd : A → B → D → Prop) (F : A → B → D → SV) : Option (Prop × SV) := match x, y, z with | some x, some y, some z => some (Cd x y z, F x y z) | _, _, _ => none
theorem spec1_f {A : Type} (f call) (cA : Cod A) (Cd F hF ok) : (spec1 (P := P) f call cA Cd F hF ok).f = f := rfl
theorem spec1_fn {A : Type} (f call) (cA : Cod A) (Cd F hF ok) (a : SV) (H : Hp) : (spec1 (P := P) f call cA Cd F hF ok).fn [a] H = spFn1 (cA.d a) Cd F := rfl
theorem spec2_f {A B : Type} (f call) (cA : Cod A) (cB : Cod B) (Cd F hF ok) : (spec2 (P := P) f call cA cB Cd F hF ok).f = f := rfl
theorem spec2_fn {A B : Type} (f call) (cA : Cod A) (cB : Cod B) (Cd F hF ok) (a b : SV) (H : Hp) : (spec2 (P := P) f call cA cB Cd F hF ok).fn [a, b] H = spFn2 (cA.d a) (cB.d b) Cd F := rfl
theorem spec3_f {A B D : Type} (f call) (cA : Cod A) (cB : Cod B) (cD : Cod D) (Cd F hF ok) : (spec3 (P := P) f call cA cB cD Cd F hF ok).f = f := rfl
theorem spec3_fn {A B D : Type} (f call) (cA : Cod A) (cB : Cod B) (cD : Cod D) (Cd F hF ok) (a b d : SV) (H : Hp) : (spec3 (P := P) f call cA cB cD Cd F hF ok).fn [a, b, d] H = spFn3 (cA.d a) (cB.d b) (cD.d d) Cd F := rfl
theorem cInt_d (k : IntKind) : (cInt k).d = dInt k := rfl
theorem cInt_e (k : IntKind) (n : Int) : (cInt k).e n = .one (.v (.int k n)) := rfl
theorem cBool_d : cBool.d = dBool := rfl
theorem cBool_e (b : Bool) : cBool.e b = .one (.v (.bool b)) := rfl

/-- a call, from its code, to the form of a contract -/
theorem calls_to {f : FuncId} {fn : Func} {c : Code} (hf : P.funcs[f]? = some fn) (hb : fn.body = some c) (sp : List (Spec P)) (args : List SV) (vals : Array Value) (r : Value) (hnm : ∀ v ∈ args, v.names = []) (hv : (args.map (SV.den fun _ => 0)).toArray = vals)
    (w : World) (hn : args.length ≤ fn.ntmps) (h : vc ⟨fun _ => False, []⟩ w sp fn.ntmps c ⟨argE 0 args, []⟩ (retQ P fn.results.toList (fun v => v = r))) :
    Calls P f vals w (fun e w' => e = .returned r ∧ Below w.heap.size w w') := by
  have := calls_vc hf hb sp args hnm w (fun v => v = r) hn h (fun _ => 0)
  rw [hv] at this
  refine this.mono ?_
  rintro e w' ⟨v, rfl, rfl, hb⟩
  exact ⟨rfl, hb⟩
end
end Go.Sx
