import Derived.Test.YtbkhkbfjfblbjaaSx2
namespace Go.Sx
open Go.RowKit

def C.names : C → List Nat
  | .v _ => []
  | .p k _ => [k]
  | .sl k _ _ _ => [k]
def SV.names : SV → List Nat
  | .one c => c.names
  | .agg l => l.flatMap C.names

/-- store a row of cells into a list of cells -/
def setAll (l : List C) (o : Nat) : List C → List C
  | [] => l
  | c :: r => setAll (l.set o c) (o + 1) r

theorem setAll_length (l : List C) (o : Nat) (r : List C) : (setAll l o r).length = l.length := by
  induction r generalizing l o with
  | nil => rfl
  | cons c r ih => simp [setAll, ih]

theorem setAll_names {l r : List C} {o : Nat} {k : Nat} (h : k ∈ (setAll l o r).flatMap C.names) : k ∈ l.flatMap C.names ∨ k ∈ r.flatMap C.names := by
  induction r generalizing l o with
  | nil => exact .inl h
  | cons c r ih =>
    rcases ih h with h | h
    · rw [List.mem_flatMap] at h
      obtain ⟨x, hx, hk⟩ := h
      rcases List.mem_or_eq_of_mem_set hx with hx | rfl
      · exact .inl (List.mem_flatMap.2 ⟨x, hx, hk⟩)
      · exact .inr (by simp [hk])
    · exact .inr (by simp only [List.flatMap_cons, List.mem_append]; exact .inr h)

def tPlacesL (P : Program) : List Field → Option (List (Nat × Nat))
  | [] => some []
  | f :: r => match tSize P f.type, tPlacesL P r with
    | some n, some l => some ((f.offset, n) :: l)
    | _, _ => none
def tPlaces (P : Program) (t : TypeId) : Option (List (Nat × Nat)) :=
  match P.underlying t with
  | some (.struct fs) => tPlacesL P fs.toList
  | _ => none

def fillC (place : Nat → Option (Nat × Nat)) (cells : List C) : List (Nat × SV) → Option (List C)
  | [] => some cells
  | (i, v) :: rest =>
    match place i with
    | none => none
    | some (off, size) => if v.cells.length = size ∧ off + size ≤ cells.length ∧ v.cells.all C.one = true then fillC place (setAll cells off v.cells) rest else none

def rng : Nat → Nat → List Nat
  | _, 0 => []
  | i, n + 1 => i :: rng (i + 1) n

def reads (E : Env) : List (Nat × Operand) → Option (List (Nat × SV))
  | [] => some []
  | (i, x) :: r => match rdv E x, reads E r with
    | some v, some l => some ((i, v) :: l)
    | _, _ => none
def readG (E : Env) : List (Nat × Operand) → Prop
  | [] => True
  | (_, x) :: r => rdg E x = true ∧ readG E r
def readA (E : Env) : List Operand → Option (List SV)
  | [] => some []
  | x :: r => match rdv E x, readA E r with
    | some v, some l => some (v :: l)
    | _, _ => none
def readAG (E : Env) : List Operand → Prop
  | [] => True
  | x :: r => rdg E x = true ∧ readAG E r

inductive Out where
  | val (v : SV)
  | new (cs : List C) (T : TypeId) (v : Nat → SV)
  | upd (k : Nat) (cs : List C) (T : TypeId)

/-- a contract: what a function answers to these values; it leaves all that was there -/
structure Spec (P : Program) where
  f : FuncId
  call : ∀ (args : Array Value) (w : World), (callFunc f args).run P w = .ok (.enter f args) w
  fn : List SV → Hp → Option (Prop × SV)
  ok : ∀ (I : Nat → Nat) (H : Hp) (args : List SV) (c : Prop) (r : SV), fn args H = some (c, r) → c → ∀ w, AtH I H w →
    Calls P f (args.map (SV.den I)).toArray w (fun e w' => e = .returned (r.den I) ∧ Below w.heap.size w w')
  nm : ∀ (H : Hp) (args : List SV) (c : Prop) (r : SV), fn args H = some (c, r) → r.names = []
  loc : ∀ (args : List SV) (H H' : Hp), (∀ k ∈ args.flatMap SV.names, H k = H' k) → fn args H = fn args H'

def findS {P : Program} (f : FuncId) : List (Spec P) → Option (Spec P)
  | [] => none
  | s :: r => if s.f = f then some s else findS f r

def allNames (H : Hp) : List SV → List Nat
  | [] => []
  | v :: r => v.names ++ allNames H r

/-- what must hold, what comes of it, which blocks it looks at (none: any) -/
abbrev Res := Option (Prop × Out × Option (List Nat))

def opMove (E : Env) (x : Operand) : Res := (rdv E x).map fun v => (rdg E x = true, .val v, some [])
def opPick (E : Env) (c a b : Operand) : Res :=
  match rdv E c, rdv E a, rdv E b with
  | some (.one (.v (.bool z))), some (.one (.v (.bool x))), some (.one (.v (.bool y))) =>
    some (rdg E c = true ∧ (z = true → rdg E a = true) ∧ (z = false → rdg E b = true), .val (.one (.v (.bool (bsel z x y)))), some [])
  | _, _, _ => none
def opAlloc (P : Program) (T : TypeId) : Res := (tZero P T).map fun z => (True, .new (ofV z).cells T (fun d => .one (.p d 0)), some [])
def opBox (E : Env) (T : TypeId) (x : Operand) : Res :=
  (rdv E x).map fun v => (rdg E x = true ∧ v.cells.all C.one = true, .new v.cells T (fun d => .one (.p d 0)), some [])
def opBuild (P : Program) (E : Env) (T : TypeId) (ps : List (Nat × Operand)) : Res :=
  match tPlaces P T, tZero P T, reads E ps with
  | some pl, some z, some vs => (fillC (pl[·]?) (ofV z).cells vs).map fun cs => (readG E ps, .val (.agg cs), some [])
  | _, _, _ => none
def opBuildSlice (P : Program) (E : Env) (T : TypeId) (n : Nat) (ps : List (Nat × Operand)) : Res :=
  match tElem P T, reads E ps with
  | some e, some vs =>
    match tSize P e, tZero P e with
    | some s, some z =>
      (fillC (fun i => some (i * s, s)) ((rng 0 (n * s)).map fun i => (ofV z).cells.getD (i % (ofV z).cells.length) (.v undef)) vs).map fun cs =>
        (readG E ps ∧ n * s ≤ 16777216 ∧ 0 < s ∧ (ofV z).cells.length = s, .new cs e (fun d => .one (.sl d 0 n n)), some [])
    | _, _ => none
  | _, _ => none
def opLoad (P : Program) (E : Env) (H : Hp) (T : TypeId) (x : Operand) : Res :=
  match rdv E x with
  | some (.one (.p k off)) =>
    match H k, tAgg P T with
    | some (cs, _), some true => (tSize P T).map fun n => (rdg E x = true ∧ off + n ≤ cs.length, .val (.agg ((cs.drop off).take n)), some [k])
    | some (cs, _), some false => (cs[off]?).map fun c => (rdg E x = true, .val (.one c), some [k])
    | _, _ => none
  | _ => none
def opStore (P : Program) (E : Env) (H : Hp) (T : TypeId) (x y : Operand) : Res :=
  match rdv E x, rdv E y with
  | some (.one (.p k off)), some v =>
    match H k, tSize P T with
    | some (cs, T'), some n => some (rdg E x = true ∧ rdg E y = true ∧ v.cells.length = n ∧ off + n ≤ cs.length ∧ v.cells.all C.one = true, .upd k (setAll cs off v.cells) T', some [k])
    | _, _ => none
  | _, _ => none
def opBin (P : Program) (E : Env) (op : BinOp) (T : TypeId) (x y : Operand) : Res :=
  match rdv E x, rdv E y with
  | some a, some b => (binV P op T a b).map fun r => (rdg E x = true ∧ rdg E y = true ∧ r.1, .val r.2, some [])
  | _, _ => none
def unV : UnOp → SV → Option SV
  | .not, .one (.v (.bool b)) => some (.one (.v (.bool (!b))))
  | .neg, .one (.v (.int k n)) => some (.one (.v (.int k (k.wrap (0 - n)))))
  | _, _ => none
def opUn (E : Env) (op : UnOp) (x : Operand) : Res :=
  match rdv E x with
  | some a => (unV op a).map fun r => (rdg E x = true, .val r, some [])
  | _ => none
def opFieldAddr (P : Program) (E : Env) (T : TypeId) (x : Operand) (f : Nat) : Res :=
  match rdv E x, tField P T f with
  | some (.one (.p k off)), some (o, ft) => (tSize P ft).map fun n => (rdg E x = true ∧ n ≠ 0, .val (.one (.p k (off + o))), some [])
  | _, _ => none
def opField (P : Program) (E : Env) (T : TypeId) (x : Operand) (f : Nat) : Res :=
  match rdv E x, tField P T f with
  | some (.agg l), some (o, ft) =>
    match tAgg P ft with
    | some true => (tSize P ft).map fun n => (rdg E x = true ∧ o + n ≤ l.length, .val (.agg ((l.drop o).take n)), some [])
    | some false => (l[o]?).map fun c => (rdg E x = true, .val (.one c), some [])
    | none => none
  | _, _ => none
def opIndexAddr (P : Program) (E : Env) (T : TypeId) (x i : Operand) : Res :=
  match rdv E x, rdv E i, tElem P T with
  | some (.one (.sl k off len _)), some (.one (.v (.int _ n))), some e =>
    (tSize P e).map fun s => (rdg E x = true ∧ rdg E i = true ∧ 0 ≤ n ∧ n < len, .val (.one (.p k (off + n.toNat * s))), some [])
  | _, _, _ => none
def opExtract (E : Env) (x : Operand) (i : Nat) : Res :=
  match rdv E x with
  | some (.one (.v (.tuple vs))) => (vs[i]?).map fun v => (rdg E x = true, .val (ofV v), some [])
  | _ => none
def opConvert (P : Program) (E : Env) (s d : TypeId) (x : Operand) : Res :=
  match rdv E x, tInt P s, tInt P d with
  | some (.one (.v (.int _ n))), some _, some k => some (rdg E x = true, .val (.one (.v (.int k (k.wrap n)))), some [])
  | _, _, _ => none
def opBuiltin (P : Program) (E : Env) (b : Builtin) (args : List Operand) (ts : List TypeId) : Res :=
  match b, readA E args with
  | .min, some [.one (.v (.int k x)), .one (.v (.int _ y))] => some (readAG E args, .val (.one (.v (.int k (if y < x then y else x)))), some [])
  | .max, some [.one (.v (.int k x)), .one (.v (.int _ y))] => some (readAG E args, .val (.one (.v (.int k (if x < y then y else x)))), some [])
  | .len, some [.one (.sl _ _ n _)] => match ts with
    | [t] => (tElem P t).map fun _ => (readAG E args, .val (.one (.v (.int .i64 n))), some [])
    | _ => none
  | .len, some [.one (.v (.slice _ n _))] => match ts with
    | [t] => (tElem P t).map fun _ => (readAG E args, .val (.one (.v (.int .i64 n))), some [])
    | _ => none
  | _, _ => none
def opCall {P : Program} (sp : List (Spec P)) (E : Env) (H : Hp) (f : FuncId) (args : List Operand) : Res :=
  match findS f sp, readA E args with
  | some s, some vs => (s.fn vs H).map fun r => (readAG E args ∧ r.1, .val r.2, some (vs.flatMap SV.names))
  | _, _ => none

/-- the function that a plain function value names -/
def fnV : Value → Option FuncId
  | .func (.func f) a b => if a.size = 0 ∧ b.size = 0 then some f else none
  | _ => none
def fnSV : Option SV → Option FuncId
  | some (.one (.v v)) => fnV v
  | _ => none
theorem fnV_f (f : FuncId) : fnV (.func (.func f) #[] #[]) = some f := rfl
theorem fnV_h {v : Value} {f : FuncId} (h : fnV v = some f) : v = .func (.func f) #[] #[] := by
  unfold fnV at h
  split at h
  · rename_i f' a b
    split at h
    · rename_i h2
      simp only [Option.some.injEq] at h
      subst h
      rw [Array.eq_empty_of_size_eq_zero h2.1, Array.eq_empty_of_size_eq_zero h2.2]
    · simp at h
  · simp at h
theorem fnSV_h {v : Option SV} {f : FuncId} (h : fnSV v = some f) : v = some (.one (.v (.func (.func f) #[] #[]))) := by
  unfold fnSV at h
  split at h
  · rw [fnV_h h]
  · simp at h
def opCallV {P : Program} (sp : List (Spec P)) (E : Env) (H : Hp) (t : Nat) (args : List Operand) : Res :=
  match fnSV (rdv E (.tmp t)) with
  | some f => (opCall sp E H f args).map fun r => (rdg E (.tmp t) = true ∧ r.1, r.2)
  | none => none

def opS {P : Program} (sp : List (Spec P)) (o : Oper) (E : Env) (H : Hp) : Res :=
  match o.op with
  | .move x => opMove E x
  | .assign x => opMove E x
  | .pick c a b => opPick E c a b
  | .alloc T => opAlloc P T
  | .box T x => opBox E T x
  | .build T ps => opBuild P E T ps.toList
  | .buildSlice T n ps => opBuildSlice P E T n ps.toList
  | .load T x => opLoad P E H T x
  | .store T x y => opStore P E H T x y
  | .binOp op T x y _ => opBin P E op T x y
  | .unOp op _ x => opUn E op x
  | .fieldAddr T x f => opFieldAddr P E T x f
  | .field T x f => opField P E T x f
  | .indexAddr T x i => opIndexAddr P E T x i
  | .extract x i => opExtract E x i
  | .convert s d x => opConvert P E s d x
  | .call c =>
    match c.callee with
    | .builtin b => opBuiltin P E b c.args.toList c.argTypes.toList
    | .value (.func f) => opCall sp E H f c.args.toList
    | .value (.tmp t) => opCallV sp E H t c.args.toList
    | _ => none
  | _ => none

end Go.Sx
