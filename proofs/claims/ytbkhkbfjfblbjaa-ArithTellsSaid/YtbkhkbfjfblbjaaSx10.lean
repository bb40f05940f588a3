import Derived.Test.YtbkhkbfjfblbjaaSx9
namespace Go.Sx
open Go.RowKit
section
variable {P : Program} {M : Ctx} {w0 : World} {sp : List (Spec P)} {n : Nat} {ops : Array Oper}

def vcStep (x : Option (Prop × Wr × Option (List Nat))) (sp : List (Spec P)) (n : Nat) (ops : Array Oper) (r : List Oper) (s : St) (tr : Trace) (K : St → Trace → Prop) : Prop :=
  match x with
  | some (c, x, f) => c ∧ vcOps sp n ops r (s.app x) ((x.blk.map (·.1), f) :: tr) K
  | none => False
def nrmK (Q : Exit → St → Prop) : St → Trace → Prop := fun s _ => Q .normal s
def drawK (ops : Array Oper) (Q : Exit → St → Prop) : St → Trace → Prop := fun s tr => chkT ops tr.reverse = true ∧ Q .normal s
def seqK (M : Ctx) (w0 : World) (sp : List (Spec P)) (n : Nat) (b : Code) (Q : Exit → St → Prop) : St → Prop := fun s => vc M w0 sp n b s Q
def condK (v : Option SV) (M : Ctx) (w0 : World) (sp : List (Spec P)) (n : Nat) (c : Operand) (x y : Code) (s : St) (Q : Exit → St → Prop) : Prop :=
  match v with
  | some (.one (.v (.bool b))) => rdg (lkp s.e) c = true ∧ (b = true → vc M w0 sp n x s Q) ∧ (b = false → vc M w0 sp n y s Q)
  | _ => False

theorem chk_ok {o : Array Oper} {t : Trace} (h : chkT o t = true) : chkT o t = true := h
def impB (b : Bool) (p : Prop) : Prop := b = true → p
def impN (b : Bool) (p : Prop) : Prop := b = false → p
theorem e_impBt (p : Prop) : impB true p = p := by simp [impB]
theorem e_impBf (p : Prop) : impB false p = True := by simp [impB]
theorem e_impNt (p : Prop) : impN true p = True := by simp [impN]
theorem e_impNf (p : Prop) : impN false p = p := by simp [impN]
theorem e_nil (s : St) (tr : Trace) (K : St → Trace → Prop) : vcOps sp n ops [] s tr K = K s tr := rfl
theorem e_cons (o : Oper) (r : List Oper) (s : St) (tr : Trace) (K : St → Trace → Prop) : vcOps sp n ops (o :: r) s tr K = vcStep (opG sp n ops o (lkp s.e) (lkp s.h)) sp n ops r s tr K := rfl
theorem e_step (c : Prop) (x : Wr) (f : Option (List Nat)) (r : List Oper) (s : St) (tr : Trace) (K : St → Trace → Prop) :
    vcStep (some (c, x, f)) sp n ops r s tr K = (c ∧ vcOps sp n ops r (s.app x) ((x.blk.map (·.1), f) :: tr) K) := rfl
theorem e_nrmK (Q : Exit → St → Prop) (s : St) (tr : Trace) : nrmK Q s tr = Q .normal s := rfl
theorem e_drawK (Q : Exit → St → Prop) (s : St) (tr : Trace) : drawK ops Q s tr = (chkT ops tr.reverse = true ∧ Q .normal s) := rfl
theorem e_seqK (b : Code) (Q : Exit → St → Prop) (s : St) : seqK M w0 sp n b Q s = vc M w0 sp n b s Q := rfl
theorem e_condK (b : Bool) (c : Operand) (x y : Code) (s : St) (Q : Exit → St → Prop) :
    condK (some (.one (.v (.bool b)))) M w0 sp n c x y s Q = (rdg (lkp s.e) c = true ∧ impB b (vc M w0 sp n x s Q) ∧ impN b (vc M w0 sp n y s Q)) := rfl
theorem e_skip (s : St) (Q : Exit → St → Prop) : vc M w0 sp n .skip s Q = Q .normal s := rfl
theorem e_label (l : Nat) (s : St) (Q : Exit → St → Prop) : vc M w0 sp n (.label l) s Q = Q .normal s := rfl
theorem e_text (id : Nat) (l : List Oper) (s : St) (Q : Exit → St → Prop) : vc M w0 sp n (.region id l.toArray false) s Q = vcOps sp n l.toArray l s [] (nrmK Q) := rfl
theorem e_draw (id : Nat) (l : List Oper) (s : St) (Q : Exit → St → Prop) : vc M w0 sp n (.region id l.toArray true) s Q = vcOps sp n l.toArray l s [] (drawK l.toArray Q) := rfl
theorem e_seq (a b : Code) (s : St) (Q : Exit → St → Prop) : vc M w0 sp n (.seq a b) s Q = vc M w0 sp n a s (thenQ (seqK M w0 sp n b Q) Q) := rfl
theorem e_cond (c : Operand) (x y : Code) (s : St) (Q : Exit → St → Prop) : vc M w0 sp n (.cond c x y) s Q = condK (rdv (lkp s.e) c) M w0 sp n c x y s Q := rfl
theorem e_block (id : Nat) (c : Code) (s : St) (Q : Exit → St → Prop) : vc M w0 sp n (.block id c) s Q = vc M w0 sp n c s (inQ id Q) := rfl
theorem e_exit (id : Nat) (s : St) (Q : Exit → St → Prop) : vc M w0 sp n (.exit id) s Q = Q (.exit id) s := rfl
theorem e_ret (s : St) (Q : Exit → St → Prop) : vc M w0 sp n .ret s Q = Q .ret s := rfl
theorem e_loop (c : Code) (s : St) (Q : Exit → St → Prop) : vc M w0 sp n (.loop c) s Q = Tri (P := P) M w0 n (.loop c) s Q := rfl
theorem e_then1 (K : St → Prop) (Q : Exit → St → Prop) (s : St) : thenQ K Q .normal s = K s := rfl
theorem e_then2 (K : St → Prop) (Q : Exit → St → Prop) (s : St) : thenQ K Q .ret s = Q .ret s := rfl
theorem e_then3 (K : St → Prop) (Q : Exit → St → Prop) (s : St) (j : Nat) : thenQ K Q (.exit j) s = Q (.exit j) s := rfl
theorem e_in1 (id : Nat) (Q : Exit → St → Prop) (s : St) : inQ id Q .normal s = Q .normal s := rfl
theorem e_in2 (id : Nat) (Q : Exit → St → Prop) (s : St) : inQ id Q .ret s = Q .ret s := rfl
theorem e_in3 (id j : Nat) (Q : Exit → St → Prop) (s : St) : inQ id Q (.exit j) s = if j = id then Q .normal s else Q (.exit j) s := rfl
theorem e_ret1 (rs : List ResultVar) (R : Value → Prop) (s : St) : retQ P rs R .normal s = ∃ vs, resAll P s rs = some vs ∧ R (resV vs) := rfl
theorem e_ret2 (rs : List ResultVar) (R : Value → Prop) (s : St) : retQ P rs R .ret s = ∃ vs, resAll P s rs = some vs ∧ R (resV vs) := rfl
theorem e_ex {α : Type} (v : α) (p : α → Prop) : (∃ x, some v = some x ∧ p x) = p v := by simp
theorem e_guard0 (d : Option Tmp) (op : Op) (t : TypeId) (pos : String) (af : Array Edge) (E : Env) : guardOf ops ⟨d, op, t, pos, af, none⟩ E = some true := rfl
end
end Go.Sx
