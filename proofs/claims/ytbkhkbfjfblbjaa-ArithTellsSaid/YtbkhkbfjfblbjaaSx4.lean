import Derived.Test.YtbkhkbfjfblbjaaSx3
namespace Go.Sx
open Go.RowKit

def DomOK (l : List Nat) (H : Hp) : Prop := ∀ k ∈ l, (H k).isSome = true
structure WF (E : Env) (H : Hp) : Prop where
  e : ∀ t g v, E t = some (g, v) → g = true → DomOK v.names H
  h : ∀ k cs T, H k = some (cs, T) → DomOK (cs.flatMap C.names) H

theorem names_ofV (x : Value) : (ofV x).names = [] := by
  cases x <;> simp [ofV, SV.names, C.names]
theorem WF.rd {E : Env} {H : Hp} (h : WF E H) {x : Operand} {v : SV} (hv : rdv E x = some v) (hg : rdg E x = true) : DomOK v.names H := by
  cases x with
  | tmp t =>
    simp only [rdv, Option.map_eq_some_iff] at hv
    obtain ⟨⟨g, u⟩, he, rfl⟩ := hv
    exact h.e t g u he (by simpa [rdg, he] using hg)
  | const x => simp only [rdv, Option.some.injEq] at hv; subst hv; simp [names_ofV, DomOK]
  | func f => simp only [rdv, Option.some.injEq] at hv; subst hv; simp [SV.names, C.names, DomOK]
  | global g => simp [rdv] at hv

/-- what an operation does, run by itself -/
def RunOK (P : Program) (o : Oper) (a : Act) (w : World) (I : Nat → Nat) (H : Hp) : Out → Prop
  | .val v => DomOK v.names H ∧ ((execOp a.eval o).run P w = .ok (.value (v.den I)) w ∨
      ∃ f args, (execOp a.eval o).run P w = .ok (.enter f args) w ∧ Calls P f args w (fun e w' => e = .returned (v.den I) ∧ Below w.heap.size w w'))
  | .new cs T v => DomOK (cs.flatMap C.names) H ∧ (∀ d, (v d).names = [d]) ∧ ∀ I' d, I' d = w.heap.size →
      (execOp a.eval o).run P w = .ok (.value ((v d).den I')) (w.alloc (.cells (cs.map (C.den I)).toArray T))
  | .upd k cs T => (H k).isSome = true ∧ DomOK (cs.flatMap C.names) H ∧ ∃ w', (execOp a.eval o).run P w = .ok .skip w' ∧
      w'.heap[I k]? = some (.cells (cs.map (C.den I)).toArray T (0, 0)) ∧ w'.heap.size = w.heap.size ∧ w'.os = w.os ∧ w'.tape = w.tape ∧ w'.output = w.output ∧
      ∀ b, b ≠ I k → w'.heap[b]? = w.heap[b]?

section
variable {P : Program} {o : Oper} {a : Act} {w : World} {I : Nat → Nat} {E : Env} {H : Hp} {c : Prop} {out : Out} {fp : Option (List Nat)}

theorem cells_den {I : Nat → Nat} {v : SV} (h : v.cells.all C.one = true) : (v.den I).cells = (v.cells.map (C.den I)).toArray := by
  cases v with
  | agg l => rfl
  | one c =>
    cases c with
    | v x => cases x <;> simp [SV.cells, C.one, oneV] at h <;> rfl
    | p k off => rfl
    | sl k off len cap => rfl
theorem cells_ofV (I : Nat → Nat) (z : Value) : z.cells = ((ofV z).cells.map (C.den I)).toArray := by
  cases z <;> simp [ofV, SV.cells, C.den, Value.cells, Function.comp_def]
theorem cells_names (v : SV) : v.cells.flatMap C.names = v.names := by
  cases v <;> simp [SV.cells, SV.names]

theorem opMove_ok (x : Operand) (ho : ∀ ρ, execOp ρ o = pure (.value (ρ x))) (hE : AtE I E a) (hW : WF E H) (h : opMove E x = some (c, out, fp)) (hc : c) : RunOK P o a w I H out := by
  simp only [opMove, Option.map_eq_some_iff, Prod.mk.injEq] at h
  obtain ⟨v, hv, rfl, rfl, rfl⟩ := h
  exact ⟨hW.rd hv hc, .inl (by rw [ho, eval_rd hE hv hc]; rfl)⟩

theorem opPick_ok (x y z : Operand) (ho : o.op = .pick x y z) (hE : AtE I E a) (h : opPick E x y z = some (c, out, fp)) (hc : c) : RunOK P o a w I H out := by
  simp only [opPick] at h
  split at h
  · rename_i b1 b2 b3 h1 h2 h3
    simp only [Option.some.injEq, Prod.mk.injEq] at h
    obtain ⟨rfl, rfl, rfl⟩ := h
    obtain ⟨g1, g2, g3⟩ := hc
    refine ⟨by simp [SV.names, C.names, DomOK], .inl ?_⟩
    have e1 := eval_rd hE h1 g1
    simp only [SV.den, C.den] at e1
    cases b1 with
    | true =>
      have e2 := eval_rd hE h2 (g2 rfl)
      simp only [SV.den, C.den] at e2
      simp [execOp, ho, e1, asBool, e2, SV.den, C.den, bsel]
    | false =>
      have e3 := eval_rd hE h3 (g3 rfl)
      simp only [SV.den, C.den] at e3
      simp [execOp, ho, e1, asBool, e3, SV.den, C.den, bsel]
  · simp at h

theorem opAlloc_ok (T : TypeId) (ho : o.op = .alloc T) (h : opAlloc P T = some (c, out, fp)) : RunOK P o a w I H out := by
  simp only [opAlloc, Option.map_eq_some_iff, Prod.mk.injEq] at h
  obtain ⟨z, hz, rfl, rfl, rfl⟩ := h
  refine ⟨by rw [cells_names, names_ofV]; simp [DomOK], fun d => rfl, fun I' d hd => ?_⟩
  simp only [execOp, ho, Instr.alloc, Sem.run_bind, run_zeroValue hz, Result.andThen_ok, newVar, newRow, run_newObj, Sem.run_pure, World.alloc_eq, SV.den, C.den, hd]
  rw [cells_ofV I z]

theorem opBox_ok (T : TypeId) (x : Operand) (ho : o.op = .box T x) (hE : AtE I E a) (hW : WF E H) (h : opBox E T x = some (c, out, fp)) (hc : c) : RunOK P o a w I H out := by
  simp only [opBox, Option.map_eq_some_iff, Prod.mk.injEq] at h
  obtain ⟨v, hv, rfl, rfl, rfl⟩ := h
  obtain ⟨hg, h1⟩ := hc
  refine ⟨by rw [cells_names]; exact hW.rd hv hg, fun d => rfl, fun I' d hd => ?_⟩
  have e0 : (SV.one (.p d 0)).den I' = .pointer (some ⟨w.heap.size, 0, none⟩) := by simp only [SV.den, C.den, hd]
  simp only [e0]
  simp only [execOp, ho, Instr.box, newVar, newRow, eval_rd hE hv hg, Sem.run_bind, run_newObj, Result.andThen_ok, Sem.run_pure, World.alloc_eq, cells_den h1]

theorem opBin_ok (op : BinOp) (T T' : TypeId) (x y : Operand) (ho : o.op = .binOp op T x y T') (hE : AtE I E a) (h : opBin P E op T x y = some (c, out, fp)) (hc : c) : RunOK P o a w I H out := by
  simp only [opBin] at h
  split at h
  · rename_i u v h1 h2
    simp only [Option.map_eq_some_iff, Prod.mk.injEq] at h
    obtain ⟨⟨c', r⟩, hr, rfl, rfl, rfl⟩ := h
    obtain ⟨g1, g2, hc⟩ := hc
    refine ⟨?_, .inl ?_⟩
    · unfold binV at hr
      have hn : r.names = [] := by
        repeat' split at hr
        all_goals simp only [Option.some.injEq, Prod.mk.injEq, Option.map_eq_some_iff, reduceCtorEq] at hr
        all_goals (first | (obtain ⟨_, rfl⟩ := hr; rfl) | (obtain ⟨_, _, _, rfl⟩ := hr; rfl))
      simp [hn, DomOK]
    · have := binV_ok (I := I) hr hc x y w
      simp only [execOp, ho, eval_rd hE h1 g1, eval_rd hE h2 g2, Sem.run_bind, Sem.run_pure] at this ⊢
      rw [this]; rfl
  · simp at h

theorem opUn_ok (op : UnOp) (T : TypeId) (x : Operand) (ho : o.op = .unOp op T x) (hE : AtE I E a) (h : opUn E op x = some (c, out, fp)) (hc : c) : RunOK P o a w I H out := by
  simp only [opUn] at h
  split at h
  · rename_i u h1
    simp only [Option.map_eq_some_iff, Prod.mk.injEq] at h
    obtain ⟨r, hr, rfl, rfl, rfl⟩ := h
    have e1 := eval_rd hE h1 hc
    unfold unV at hr
    split at hr <;> simp only [Option.some.injEq, reduceCtorEq] at hr <;> subst hr
    · refine ⟨by simp [SV.names, C.names, DomOK], .inl ?_⟩
      simp only [SV.den, C.den] at e1
      simp [execOp, ho, e1, Op.unary, SV.den, C.den]
    · refine ⟨by simp [SV.names, C.names, DomOK], .inl ?_⟩
      simp only [SV.den, C.den] at e1
      simp [execOp, ho, e1, Op.unary, Op.intArith, SV.den, C.den]
  · simp at h

theorem tField_ok {T : TypeId} {f off : Nat} {ft : TypeId} (h : tField P T f = some (off, ft)) : ∃ fs x, P.underlying T = some (.struct fs) ∧ fs[f]? = some x ∧ x.offset = off ∧ x.type = ft := by
  unfold tField at h
  split at h
  · rename_i fs hu
    simp only [Option.map_eq_some_iff, Prod.mk.injEq] at h
    obtain ⟨x, hx, h1, h2⟩ := h
    exact ⟨fs, x, hu, hx, h1, h2⟩
  · simp at h

theorem addr_add (b off n : Nat) : (⟨b, off, none⟩ : Addr).add n = ⟨b, off + n, none⟩ := by
  unfold Addr.add
  split
  · rename_i h; subst h; rfl
  · rfl

theorem opFieldAddr_ok (T : TypeId) (x : Operand) (f : Nat) (ho : o.op = .fieldAddr T x f) (hE : AtE I E a) (hW : WF E H) (h : opFieldAddr P E T x f = some (c, out, fp)) (hc : c) : RunOK P o a w I H out := by
  simp only [opFieldAddr] at h
  split at h
  · rename_i k off fo ft h1 h2
    simp only [Option.map_eq_some_iff, Prod.mk.injEq] at h
    obtain ⟨n, hn, rfl, rfl, rfl⟩ := h
    obtain ⟨hg, h0⟩ := hc
    have e1 := eval_rd hE h1 hg
    simp only [SV.den, C.den] at e1
    obtain ⟨fs, fx, hu, hx, rfl, rfl⟩ := tField_ok h2
    refine ⟨show DomOK (SV.one (C.p k off)).names H from hW.rd h1 hg, .inl ?_⟩
    simp only [execOp, ho, e1, Instr.fieldAt, Sem.run_bind, run_underlying hu, Result.andThen_ok, hx, Instr.sureAddr, Sem.run_pure, fieldPlace, run_sizeOf hn, h0, if_false, addr_add, SV.den, C.den]
  · simp at h

theorem flat_drop_take {l : List C} {k i n : Nat} (h : k ∈ ((l.drop i).take n).flatMap C.names) : k ∈ l.flatMap C.names := by
  rw [List.mem_flatMap] at *
  obtain ⟨x, hx, hk⟩ := h
  exact ⟨x, List.mem_of_mem_drop (List.mem_of_mem_take hx), hk⟩
theorem mem_names_of {l : List C} {k i : Nat} {c : C} (h : l[i]? = some c) (hk : k ∈ c.names) : k ∈ l.flatMap C.names :=
  List.mem_flatMap.2 ⟨c, List.mem_of_getElem? h, hk⟩

theorem opField_ok (T : TypeId) (x : Operand) (f : Nat) (ho : o.op = .field T x f) (hE : AtE I E a) (hW : WF E H) (h : opField P E T x f = some (c, out, fp)) (hc : c) : RunOK P o a w I H out := by
  simp only [opField] at h
  split at h
  · rename_i l fo ft h1 h2
    obtain ⟨fs, fx, hu, hx, rfl, rfl⟩ := tField_ok h2
    split at h
    · rename_i ha
      simp only [Option.map_eq_some_iff, Prod.mk.injEq] at h
      obtain ⟨n, hn, rfl, rfl, rfl⟩ := h
      obtain ⟨hg, hl⟩ := hc
      have e1 := eval_rd hE h1 hg
      simp only [SV.den] at e1
      refine ⟨fun k hk => hW.rd h1 hg k (flat_drop_take hk), .inl ?_⟩
      simp only [execOp, ho, e1, Instr.field, Sem.run_bind, run_underlying hu, Result.andThen_ok, hx, asAgg, Sem.run_pure, part, run_isAgg ha, if_true, run_sizeOf hn, SV.den]
      congr 3
      simp
    · rename_i ha
      simp only [Option.map_eq_some_iff, Prod.mk.injEq] at h
      obtain ⟨u, hu', rfl, rfl, rfl⟩ := h
      have e1 := eval_rd hE h1 hc
      simp only [SV.den] at e1
      refine ⟨fun k hk => hW.rd h1 hc k (mem_names_of hu' hk), .inl ?_⟩
      simp only [execOp, ho, e1, Instr.field, Sem.run_bind, run_underlying hu, Result.andThen_ok, hx, asAgg, Sem.run_pure, part, run_isAgg ha, Bool.false_eq_true, if_false, getC hu', SV.den]
    · simp at h
  · simp at h

theorem cell_of {I : Nat → Nat} {H : Hp} {w : World} (hH : AtH I H w) {k : Nat} {cs : List C} {T : TypeId} (h : H k = some (cs, T)) (i : Nat) : w.cell? ⟨I k, i, none⟩ = (cs[i]?).map (C.den I) := by
  simp [World.cell?, hH k cs T h]

theorem opLoad_ok (T : TypeId) (x : Operand) (ho : o.op = .load T x) (hE : AtE I E a) (hH : AtH I H w) (hW : WF E H) (h : opLoad P E H T x = some (c, out, fp)) (hc : c) : RunOK P o a w I H out := by
  simp only [opLoad] at h
  split at h
  · rename_i k off h1
    split at h
    · rename_i cs T' hk ha
      simp only [Option.map_eq_some_iff, Prod.mk.injEq] at h
      obtain ⟨n, hn, rfl, rfl, rfl⟩ := h
      obtain ⟨hg, hl⟩ := hc
      have e1 := eval_rd hE h1 hg
      simp only [SV.den, C.den] at e1
      refine ⟨fun j hj => hW.h k cs T' hk j (flat_drop_take hj), .inl ?_⟩
      have hlen : ((cs.drop off).take n).length = n := by simp; omega
      have hl' := run_loadCells_list (P := P) w ⟨I k, off, none⟩ (((cs.drop off).take n).map (C.den I)) (fun j v hv => by
        rw [addr_add, cell_of hH hk]
        simp only [List.getElem?_map, Option.map_eq_some_iff] at hv
        obtain ⟨u, hu, rfl⟩ := hv
        rw [List.getElem?_take] at hu
        split at hu
        · rw [List.getElem?_drop] at hu; rw [hu]; rfl
        · simp at hu)
      rw [List.length_map, hlen] at hl'
      simp only [execOp, ho, e1, Instr.loadAt, Instr.sureAddr, Sem.run_bind, Sem.run_pure, Result.andThen_ok, loadVar, run_isAgg ha, if_true, run_sizeOf hn, hl', SV.den]
    · rename_i cs T' hk ha
      simp only [Option.map_eq_some_iff, Prod.mk.injEq] at h
      obtain ⟨u, hu, rfl, rfl, rfl⟩ := h
      have e1 := eval_rd hE h1 hc
      simp only [SV.den, C.den] at e1
      refine ⟨fun j hj => hW.h k cs T' hk j (mem_names_of hu hj), .inl ?_⟩
      have hcell : w.cell? ⟨I k, off, none⟩ = some (u.den I) := by rw [cell_of hH hk, hu]; rfl
      simp only [execOp, ho, e1, Instr.loadAt, Instr.sureAddr, Sem.run_bind, Sem.run_pure, Result.andThen_ok, loadVar, run_isAgg ha, Bool.false_eq_true, if_false, run_load, hcell, SV.den]
    · simp at h
  · simp at h

theorem opExtract_ok (x : Operand) (i : Nat) (ho : o.op = .extract x i) (hE : AtE I E a) (h : opExtract E x i = some (c, out, fp)) (hc : c) : RunOK P o a w I H out := by
  simp only [opExtract] at h
  split at h
  · rename_i vs h1
    simp only [Option.map_eq_some_iff, Prod.mk.injEq] at h
    obtain ⟨v, hv, rfl, rfl, rfl⟩ := h
    have e1 := eval_rd hE h1 hc
    simp only [SV.den, C.den] at e1
    refine ⟨by simp [names_ofV, DomOK], .inl ?_⟩
    simp only [execOp, ho, e1, Instr.extract, hv, Sem.run_bind, Sem.run_pure, Result.andThen_ok, den_ofV]
  · simp at h

theorem opConvert_ok (s d : TypeId) (x : Operand) (ho : o.op = .convert s d x) (hE : AtE I E a) (h : opConvert P E s d x = some (c, out, fp)) (hc : c) : RunOK P o a w I H out := by
  simp only [opConvert] at h
  split at h
  · rename_i k0 n k1 k h1 hs hd
    simp only [Option.some.injEq, Prod.mk.injEq] at h
    obtain ⟨rfl, rfl, rfl⟩ := h
    have e1 := eval_rd hE h1 hc
    simp only [SV.den, C.den] at e1
    have hu : ∀ t q, tInt P t = some q → P.underlying t = some (.int q) := by
      intro t q hq
      unfold tInt at hq
      split at hq
      · rename_i k' hk'; simp only [Option.some.injEq] at hq; subst hq; exact hk'
      · simp at hq
    refine ⟨by simp [SV.names, C.names, DomOK], .inl ?_⟩
    simp [execOp, ho, e1, convert, run_underlying (hu _ _ hs), run_underlying (hu _ _ hd), Conv.intToInt, SV.den, C.den]
  · simp at h

theorem opIndexAddr_ok (T : TypeId) (x i : Operand) (ho : o.op = .indexAddr T x i) (hE : AtE I E a) (hW : WF E H) (h : opIndexAddr P E T x i = some (c, out, fp)) (hc : c) : RunOK P o a w I H out := by
  simp only [opIndexAddr] at h
  split at h
  · rename_i k off len cap ik n e h1 h2 h3
    simp only [Option.map_eq_some_iff, Prod.mk.injEq] at h
    obtain ⟨s, hs, rfl, rfl, rfl⟩ := h
    obtain ⟨g1, g2, hb1, hb2⟩ := hc
    have e1 := eval_rd hE h1 g1
    have e2 := eval_rd hE h2 g2
    simp only [SV.den, C.den] at e1 e2
    have hu : P.underlying T = some (.slice e) := by
      unfold tElem at h3
      split at h3
      · rename_i e' he'; simp only [Option.some.injEq] at h3; subst h3; exact he'
      · simp at h3
    refine ⟨show DomOK (SV.one (C.sl k off len cap)).names H from hW.rd h1 g1, .inl ?_⟩
    simp [execOp, ho, e1, e2, Instr.indexAt, asIntOf, run_underlying hu, hb1, hb2, run_sizeOf hs, addr_add, SV.den, C.den]
  · simp at h

theorem readA_ok {I : Nat → Nat} {E : Env} {a : Act} {H : Hp} (hE : AtE I E a) (hW : WF E H) : ∀ {xs : List Operand} {vs : List SV}, readA E xs = some vs → readAG E xs → xs.map a.eval = vs.map (SV.den I) ∧ ∀ v ∈ vs, DomOK v.names H
  | [], vs, h, _ => by simp only [readA, Option.some.injEq] at h; subst h; simp
  | x :: xs, vs, h, hg => by
    simp only [readA] at h
    split at h
    · rename_i v l hv hl
      simp only [Option.some.injEq] at h
      subst h
      obtain ⟨ih1, ih2⟩ := readA_ok hE hW hl hg.2
      refine ⟨by simp [eval_rd hE hv hg.1, ih1], ?_⟩
      intro u hu
      rcases List.mem_cons.1 hu with rfl | hu
      · exact hW.rd hv hg.1
      · exact ih2 u hu
    · simp at h

theorem opBuiltin_ok (b : Builtin) (args : Array Operand) (ts : Array TypeId) (ho : o.op = .call { callee := .builtin b, args, argTypes := ts }) (hE : AtE I E a) (hW : WF E H)
    (h : opBuiltin P E b args.toList ts.toList = some (c, out, fp)) (hc : c) : RunOK P o a w I H out := by
  obtain ⟨cs, hrun⟩ : ∃ cs, (execOp a.eval o).run P w = (builtin b ts o.type cs (args.map a.eval)).run P w := ⟨_, by
    simp only [execOp, ho, resolve, invoke, Sem.run_bind, Sem.run_pure, Result.andThen_ok]; rfl⟩
  simp only [opBuiltin] at h
  split at h
  · rename_i k x k' y hr
    simp only [Option.some.injEq, Prod.mk.injEq] at h
    obtain ⟨rfl, rfl, rfl⟩ := h
    obtain ⟨hm, _⟩ := readA_ok hE hW hr hc
    refine ⟨by simp [SV.names, C.names, DomOK], .inl ?_⟩
    rw [hrun]
    have h1 : args.map a.eval = #[.int k x, .int k' y] := by apply Array.ext'; rw [Array.toList_map, hm]; rfl
    simp [builtin, Builtin.min_, h1, Builtin.min2, SV.den, C.den]
  · rename_i k x k' y hr
    simp only [Option.some.injEq, Prod.mk.injEq] at h
    obtain ⟨rfl, rfl, rfl⟩ := h
    obtain ⟨hm, _⟩ := readA_ok hE hW hr hc
    refine ⟨by simp [SV.names, C.names, DomOK], .inl ?_⟩
    rw [hrun]
    have h1 : args.map a.eval = #[.int k x, .int k' y] := by apply Array.ext'; rw [Array.toList_map, hm]; rfl
    simp [builtin, Builtin.max_, h1, Builtin.max2, SV.den, C.den]
  · rename_i k off n cap hr
    split at h
    · rename_i t hts
      simp only [Option.map_eq_some_iff, Prod.mk.injEq] at h
      obtain ⟨e, he, rfl, rfl, rfl⟩ := h
      obtain ⟨hm, _⟩ := readA_ok hE hW hr hc
      have hu : P.underlying t = some (.slice e) := by
        unfold tElem at he
        split at he
        · rename_i e' he'; simp only [Option.some.injEq] at he; subst he; exact he'
        · simp at he
      refine ⟨by simp [SV.names, C.names, DomOK], .inl ?_⟩
      rw [hrun]
      have h1 : args.map a.eval = #[.slice (some ⟨I k, off, none⟩) n cap] := by apply Array.ext'; rw [Array.toList_map, hm]; rfl
      have h2 : ts = #[t] := by apply Array.ext'; rw [hts]
      simp [builtin, Builtin.len_, h1, h2, run_underlying hu, SV.den, C.den, goInt]
    · simp at h
  · rename_i ad n cap hr
    split at h
    · rename_i t hts
      simp only [Option.map_eq_some_iff, Prod.mk.injEq] at h
      obtain ⟨e, he, rfl, rfl, rfl⟩ := h
      obtain ⟨hm, _⟩ := readA_ok hE hW hr hc
      have hu : P.underlying t = some (.slice e) := by
        unfold tElem at he
        split at he
        · rename_i e' he'; simp only [Option.some.injEq] at he; subst he; exact he'
        · simp at he
      refine ⟨by simp [SV.names, C.names, DomOK], .inl ?_⟩
      rw [hrun]
      have h1 : args.map a.eval = #[.slice ad n cap] := by apply Array.ext'; rw [Array.toList_map, hm]; rfl
      have h2 : ts = #[t] := by apply Array.ext'; rw [hts]
      simp [builtin, Builtin.len_, h1, h2, run_underlying hu, SV.den, C.den, goInt]
    · simp at h
  · simp at h

theorem findS_f {f : FuncId} {s : Spec P} : ∀ {sp : List (Spec P)}, findS f sp = some s → s.f = f
  | [], h => by simp [findS] at h
  | x :: r, h => by
    simp only [findS] at h
    split at h
    · rename_i hf; simp only [Option.some.injEq] at h; subst h; exact hf
    · exact findS_f h

theorem opCallX_ok (sp : List (Spec P)) (f : FuncId) (x : Operand) (hx : a.eval x = .func (.func f) #[] #[]) (args : Array Operand) (ts : Array TypeId)
    (ho : o.op = .call { callee := .value x, args, argTypes := ts }) (hE : AtE I E a) (hH : AtH I H w) (hW : WF E H)
    (h : opCall sp E H f args.toList = some (c, out, fp)) (hc : c) : RunOK P o a w I H out := by
  simp only [opCall] at h
  split at h
  · rename_i s vs hs hr
    simp only [Option.map_eq_some_iff, Prod.mk.injEq] at h
    obtain ⟨⟨c', r⟩, hfn, rfl, rfl, rfl⟩ := h
    obtain ⟨hg, hc'⟩ := hc
    obtain ⟨hm, _⟩ := readA_ok hE hW hr hg
    have hf := findS_f hs
    refine ⟨by simp [s.nm H vs c' r hfn, DomOK], .inr ⟨f, args.map a.eval, ?_, ?_⟩⟩
    · have hcall := s.call (args.map a.eval) w
      rw [hf] at hcall
      simp only [execOp, ho, resolve, hx, Deferred.ofValue, invoke, Sem.run_bind, Sem.run_pure, Result.andThen_ok, Array.append_empty, Array.empty_append]
      exact hcall
    · have := s.ok I H vs c' r hfn hc' w hH
      rw [hf] at this
      have he : args.map a.eval = (vs.map (SV.den I)).toArray := by apply Array.ext'; rw [Array.toList_map, hm]
      rw [he]; exact this
  · simp at h

theorem opCall_ok (sp : List (Spec P)) (f : FuncId) (args : Array Operand) (ts : Array TypeId)
    (ho : o.op = .call { callee := .value (.func f), args, argTypes := ts }) (hE : AtE I E a) (hH : AtH I H w) (hW : WF E H)
    (h : opCall sp E H f args.toList = some (c, out, fp)) (hc : c) : RunOK P o a w I H out :=
  opCallX_ok sp f (.func f) rfl args ts ho hE hH hW h hc
theorem opCallV_ok (sp : List (Spec P)) (t : Nat) (args : Array Operand) (ts : Array TypeId)
    (ho : o.op = .call { callee := .value (.tmp t), args, argTypes := ts }) (hE : AtE I E a) (hH : AtH I H w) (hW : WF E H)
    (h : opCallV sp E H t args.toList = some (c, out, fp)) (hc : c) : RunOK P o a w I H out := by
  unfold opCallV at h
  split at h
  · rename_i f hf
    simp only [Option.map_eq_some_iff, Prod.mk.injEq] at h
    obtain ⟨⟨c', r⟩, h1, rfl, h2⟩ := h
    simp only at h2
    subst h2
    exact opCallX_ok sp f (.tmp t) (eval_rd hE (fnSV_h hf) hc.1) args ts ho hE hH hW h1 hc.2
  · simp at h

theorem setIf_toArray (l : List C) (I : Nat → Nat) (i : Nat) (c : C) : (l.map (C.den I)).toArray.setIfInBounds i (c.den I) = ((l.set i c).map (C.den I)).toArray := by
  simp [List.map_set]

theorem run_storeC (I : Nat → Nat) (b : Nat) (T : TypeId) : ∀ (vs : List C) (o i : Nat) (cs : List C) (w : World), w.heap[b]? = some (.cells (cs.map (C.den I)).toArray T (0, 0)) →
    o + i + vs.length ≤ cs.length → vs.all C.one = true →
    ∃ w', (storeCells ⟨b, o, none⟩ (vs.map (C.den I)) i).run P w = .ok () w' ∧ w'.heap[b]? = some (.cells ((setAll cs (o + i) vs).map (C.den I)).toArray T (0, 0)) ∧
      w'.heap.size = w.heap.size ∧ w'.os = w.os ∧ w'.tape = w.tape ∧ w'.output = w.output ∧ ∀ k, k ≠ b → w'.heap[k]? = w.heap[k]?
  | [], o, i, cs, w, hb, _, _ => ⟨w, by simp [storeCells], hb, rfl, rfl, rfl, rfl, fun _ _ => rfl⟩
  | v :: rest, o, i, cs, w, hb, hl, h1 => by
    simp only [List.length_cons] at hl
    simp only [List.all_cons, Bool.and_eq_true] at h1
    have hi : o + i < cs.length := by omega
    have hcell : w.cell? ⟨b, o + i, none⟩ = some (cs[o + i].den I) := by simp [World.cell?, hb, hi]
    have hfro : w.frozen? ⟨b, o + i, none⟩ = false := by simp [World.frozen?, hb]
    have hone : (v.den I).oneCell' = true := by
      cases v with
      | v x => cases x <;> simp [C.one, oneV] at h1 <;> rfl
      | p k off => rfl
      | sl k off len cap => rfl
    have hst : (store ((⟨b, o, none⟩ : Addr).add i) (v.den I)).run P w = .ok () (w.setCell ⟨b, o + i, none⟩ (v.den I)) := by
      rw [addr_add, run_store P w _ _ _ hone, hcell]
      simp [hfro]
    have hb' : (w.setCell ⟨b, o + i, none⟩ (v.den I)).heap[b]? = some (.cells (((cs.set (o + i) v)).map (C.den I)).toArray T (0, 0)) := by
      rw [← setIf_toArray]
      simp [World.setCell, Array.getElem?_modify, hb]
    obtain ⟨w', hr, h2, h3, h4, h5, h6, h7⟩ := run_storeC I b T rest o (i + 1) (cs.set (o + i) v) _ hb' (by simp; omega) h1.2
    refine ⟨w', ?_, ?_, ?_, h4, h5, h6, ?_⟩
    · simp only [List.map_cons, storeCells, Sem.run_bind, hst, Result.andThen_ok, hr]
    · rw [h2]; rfl
    · rw [h3]; simp
    · intro k hk
      rw [h7 k hk]
      exact Below.heap_setCell _ _ _ _ hk

theorem opStore_ok (T : TypeId) (x y : Operand) (ho : o.op = .store T x y) (hE : AtE I E a) (hH : AtH I H w) (hW : WF E H) (h : opStore P E H T x y = some (c, out, fp)) (hc : c) : RunOK P o a w I H out := by
  simp only [opStore] at h
  split at h
  · rename_i k off v h1 h2
    split at h
    · rename_i cs T' n hk hn
      simp only [Option.some.injEq, Prod.mk.injEq] at h
      obtain ⟨rfl, rfl, rfl⟩ := h
      obtain ⟨g1, g2, hl, hb, h1c⟩ := hc
      have e1 := eval_rd hE h1 g1
      have e2 := eval_rd hE h2 g2
      simp only [SV.den, C.den] at e1
      obtain ⟨w', hr, h3, h4, h5, h6, h7, h8⟩ := run_storeC (P := P) I (I k) T' v.cells off 0 cs w (hH k cs T' hk) (by omega) h1c
      refine ⟨by simp [hk], ?_, w', ?_, h3, h4, h5, h6, h7, h8⟩
      · intro j hj
        rcases setAll_names hj with hj | hj
        · exact hW.h k cs T' hk j hj
        · rw [cells_names] at hj; exact hW.rd h2 g2 j hj
      · have hsz : ¬ ((v.cells.map (C.den I)).toArray.size ≠ n) := by simp [hl]
        simp only [execOp, ho, e1, e2, Instr.storeAt, Instr.sureAddr, storeVar, Sem.run_bind, Sem.run_pure, Result.andThen_ok, run_sizeOf hn, cells_den h1c]
        rw [if_neg hsz, hr]
        rfl
    · simp at h
  · simp at h

theorem run_places {w : World} : ∀ {fs : List Field} {pl : List (Nat × Nat)}, tPlacesL P fs = some pl → (fs.mapM (fun f => do pure (f.offset, ← sizeOf f.type) : Field → Sem (Nat × Nat))).run P w = .ok pl w
  | [], pl, h => by simp only [tPlacesL, Option.some.injEq] at h; subst h; simp
  | f :: fs, pl, h => by
    simp only [tPlacesL] at h
    split at h
    · rename_i n l hn hl
      simp only [Option.some.injEq] at h
      subst h
      have ih := run_places (w := w) hl
      simp only [List.mapM_cons, Sem.run_bind, run_sizeOf hn, Result.andThen_ok, Sem.run_pure, ih]
    · simp at h

theorem foldl_set (I : Nat → Nat) : ∀ (vs : List C) (off s : Nat) (cs : List C),
    ((vs.map (C.den I)).zipIdx s).foldl (fun (cs : Array Value) (x : Value × Nat) => cs.setIfInBounds (off + x.2) x.1) (cs.map (C.den I)).toArray = ((setAll cs (off + s) vs).map (C.den I)).toArray
  | [], off, s, cs => rfl
  | v :: vs, off, s, cs => by
    simp only [List.map_cons, List.zipIdx_cons, List.foldl_cons, setAll]
    rw [setIf_toArray]
    exact foldl_set I vs off (s + 1) (cs.set (off + s) v)

theorem fill_ok (I : Nat → Nat) (place : Nat → Option (Nat × Nat)) : ∀ (vs : List (Nat × SV)) (cs cs' : List C), fillC place cs vs = some cs' →
    Instr.fill place (cs.map (C.den I)).toArray (vs.map fun x => (x.1, x.2.den I)) = some (cs'.map (C.den I)).toArray
  | [], cs, cs', h => by simp only [fillC, Option.some.injEq] at h; subst h; rfl
  | (i, v) :: vs, cs, cs', h => by
    simp only [fillC] at h
    split at h
    · simp at h
    · rename_i off size hp
      split at h
      · rename_i hcond
        obtain ⟨h1, h2, h3⟩ := hcond
        have := fill_ok I place vs _ _ h
        simp only [List.map_cons, Instr.fill, hp]
        have hsz : (v.den I).cells.size = size := by rw [cells_den h3]; simp [h1]
        have hcond : ((v.den I).cells.size ≠ size || decide (off + (v.den I).cells.size > (cs.map (C.den I)).toArray.size)) = false := by
          simp [hsz]; omega
        rw [if_neg (by rw [hcond]; simp)]
        rw [← this]
        congr 1
        rw [cells_den h3]
        have := foldl_set I v.cells off 0 cs
        simp only [Nat.add_zero] at this
        rw [← this]
        simp [Array.zipIdx_toArray]
      · simp at h

theorem fillC_names (place : Nat → Option (Nat × Nat)) {k : Nat} : ∀ (vs : List (Nat × SV)) (cs cs' : List C), fillC place cs vs = some cs' → k ∈ cs'.flatMap C.names → k ∈ cs.flatMap C.names ∨ ∃ x ∈ vs, k ∈ x.2.names
  | [], cs, cs', h, hk => by simp only [fillC, Option.some.injEq] at h; subst h; exact .inl hk
  | (i, v) :: vs, cs, cs', h, hk => by
    simp only [fillC] at h
    split at h
    · simp at h
    · split at h
      · rcases fillC_names place vs _ _ h hk with h1 | ⟨x, hx, h1⟩
        · rcases setAll_names h1 with h1 | h1
          · exact .inl h1
          · exact .inr ⟨_, List.mem_cons_self .., by rwa [cells_names] at h1⟩
        · exact .inr ⟨x, List.mem_cons_of_mem _ hx, h1⟩
      · simp at h

theorem reads_ok {I : Nat → Nat} {E : Env} {a : Act} {H : Hp} (hE : AtE I E a) (hW : WF E H) : ∀ {xs : List (Nat × Operand)} {vs : List (Nat × SV)}, reads E xs = some vs → readG E xs →
    xs.map (fun x => (x.1, a.eval x.2)) = vs.map (fun x => (x.1, x.2.den I)) ∧ ∀ v ∈ vs, DomOK v.2.names H
  | [], vs, h, _ => by simp only [reads, Option.some.injEq] at h; subst h; simp
  | (i, x) :: xs, vs, h, hg => by
    simp only [reads] at h
    split at h
    · rename_i v l hv hl
      simp only [Option.some.injEq] at h
      subst h
      obtain ⟨ih1, ih2⟩ := reads_ok hE hW hl hg.2
      refine ⟨by simp [eval_rd hE hv hg.1, ih1], ?_⟩
      intro u hu
      rcases List.mem_cons.1 hu with rfl | hu
      · exact hW.rd hv hg.1
      · exact ih2 u hu
    · simp at h

theorem opBuild_ok (T : TypeId) (ps : Array (Nat × Operand)) (ho : o.op = .build T ps) (hE : AtE I E a) (hW : WF E H) (h : opBuild P E T ps.toList = some (c, out, fp)) (hc : c) : RunOK P o a w I H out := by
  simp only [opBuild] at h
  split at h
  · rename_i pl z vs hpl hz hr
    simp only [Option.map_eq_some_iff, Prod.mk.injEq] at h
    obtain ⟨cs, hf, rfl, rfl, rfl⟩ := h
    obtain ⟨hm, hn⟩ := reads_ok hE hW hr hc
    unfold tPlaces at hpl
    split at hpl
    · rename_i fs hu
      refine ⟨?_, .inl ?_⟩
      · intro k hk
        rcases fillC_names _ _ _ _ hf hk with h1 | ⟨x, hx, h1⟩
        · rw [cells_names, names_ofV] at h1; simp at h1
        · exact hn x hx k h1
      · have hp := run_places (w := w) hpl
        have hmm : (fs.mapM (fun f => do pure (f.offset, ← sizeOf f.type) : Field → Sem (Nat × Nat))).run P w = .ok pl.toArray w := by
          rw [Array.mapM_eq_mapM_toList, Sem.run_map, hp]; rfl
        have hfill := fill_ok I (pl[·]?) vs (ofV z).cells cs hf
        rw [← cells_ofV] at hfill
        have hmap : (ps.map fun (x : Nat × Operand) => (x.1, a.eval x.2)).toList = vs.map fun x => (x.1, x.2.den I) := by rw [Array.toList_map, hm]
        have hplace : (fun i : Nat => (pl.toArray)[i]?) = fun i : Nat => pl[i]? := by funext i; simp
        simp only [execOp, ho, Instr.build, Sem.run_bind, run_zeroValue hz, Result.andThen_ok, run_underlying hu, hmm, hmap, hplace, hfill, Sem.run_pure]
        rfl
    · simp at hpl
  · simp at h

theorem rng_eq : ∀ (n i : Nat), rng i n = List.range' i n
  | 0, _ => rfl
  | n + 1, i => by simp [rng, List.range'_succ, rng_eq n (i + 1)]

theorem base_ok (I : Nat → Nat) (z : Value) (n s : Nat) (hs : 0 < s) (hz : (ofV z).cells.length = s) :
    ((Array.range (n * s)).map (z.cells[· % z.cells.size]!)) = (((rng 0 (n * s)).map fun i => (ofV z).cells.getD (i % (ofV z).cells.length) (.v undef)).map (C.den I)).toArray := by
  have hsz : z.cells.size = s := by rw [cells_ofV I z]; simp [hz]
  apply Array.ext'
  rw [rng_eq, ← List.range_eq_range']
  simp only [Array.toList_map, Array.toList_range, List.map_map]
  apply List.map_congr_left
  intro i _
  have hi : i % s < s := Nat.mod_lt _ hs
  simp only [hsz, hz, Function.comp]
  have h1 : i % s < (ofV z).cells.length := by omega
  have h2 : i % s < z.cells.size := by omega
  rw [getElem!_pos z.cells (i % s) h2]
  have h3 : z.cells[i % s]? = ((ofV z).cells[i % s]?).map (C.den I) := by
    conv => lhs; rw [cells_ofV I z]
    simp
  rw [Array.getElem?_eq_getElem h2, List.getElem?_eq_getElem h1] at h3
  simp only [Option.map_some, Option.some.injEq] at h3
  rw [h3]
  simp [List.getD, List.getElem?_eq_getElem h1]

theorem opBuildSlice_ok (T : TypeId) (n : Nat) (ps : Array (Nat × Operand)) (ho : o.op = .buildSlice T n ps) (hE : AtE I E a) (hW : WF E H) (h : opBuildSlice P E T n ps.toList = some (c, out, fp)) (hc : c) : RunOK P o a w I H out := by
  simp only [opBuildSlice] at h
  split at h
  · rename_i e vs he hr
    split at h
    · rename_i s z hs hz
      simp only [Option.map_eq_some_iff, Prod.mk.injEq] at h
      obtain ⟨cs, hf, rfl, rfl, rfl⟩ := h
      obtain ⟨hg, hmax, hs0, hzl⟩ := hc
      obtain ⟨hm, hn⟩ := reads_ok hE hW hr hg
      have hu : P.underlying T = some (.slice e) := by
        unfold tElem at he
        split at he
        · rename_i e' he'; simp only [Option.some.injEq] at he; subst he; exact he'
        · simp at he
      have hbn : ∀ k, k ∉ (((rng 0 (n * s)).map fun i => (ofV z).cells.getD (i % (ofV z).cells.length) (.v undef))).flatMap C.names := by
        intro k hk
        rw [List.mem_flatMap] at hk
        obtain ⟨x, hx, hk⟩ := hk
        rw [List.mem_map] at hx
        obtain ⟨i, _, rfl⟩ := hx
        rcases Nat.lt_or_ge (i % (ofV z).cells.length) (ofV z).cells.length with hl | hl
        · have : k ∈ (ofV z).cells.flatMap C.names := mem_names_of (l := (ofV z).cells) (i := i % (ofV z).cells.length) (by rw [List.getElem?_eq_getElem hl]; simp [List.getD, List.getElem?_eq_getElem hl]) hk
          rw [cells_names, names_ofV] at this; simp at this
        · simp [List.getD, List.getElem?_eq_none hl, C.names] at hk
      refine ⟨?_, fun d => rfl, fun I' d hd => ?_⟩
      · intro k hk
        rcases fillC_names _ _ _ _ hf hk with h1 | ⟨x, hx, h1⟩
        · exact absurd h1 (hbn k)
        · exact hn x hx k h1
      · have hmap : (ps.map fun (x : Nat × Operand) => (x.1, a.eval x.2)).toList = vs.map fun x => (x.1, x.2.den I) := by rw [Array.toList_map, hm]
        have hfill := fill_ok I (fun i => some (i * s, s)) vs _ cs hf
        rw [← base_ok I z n s hs0 hzl] at hfill
        have hbig : ¬ (n * s > 2 ^ 24) := by omega
        have e0 : (SV.one (.sl d 0 n n)).den I' = .slice (some ⟨w.heap.size, 0, none⟩) n n := by simp only [SV.den, C.den, hd]
        simp only [e0]
        by_cases h0 : n * s = 0
        · have hb0 : (Array.range (n * s)).map (fun x => (#[] : Array Value)[x % (#[] : Array Value).size]!) = (Array.range (n * s)).map (z.cells[· % z.cells.size]!) := by simp [h0]
          simp only [execOp, ho, Instr.buildSlice, Sem.run_bind, run_underlying hu, run_sizeOf hs, Result.andThen_ok, Sem.run_ite, hbig, if_false, if_pos h0, hmap, hb0, hfill, newRow, run_newObj, Sem.run_pure, World.alloc_eq]
        · simp only [execOp, ho, Instr.buildSlice, Sem.run_bind, run_underlying hu, run_sizeOf hs, Result.andThen_ok, Sem.run_ite, hbig, if_false, if_neg h0, run_zeroValue hz, hmap, hfill, newRow, run_newObj, Sem.run_pure, World.alloc_eq]
    · simp at h
  · simp at h

/-- every operation of the kinds that 'opS' knows does what it says -/
theorem opS_ok (sp : List (Spec P)) (hE : AtE I E a) (hH : AtH I H w) (hW : WF E H) (h : opS sp o E H = some (c, out, fp)) (hc : c) : RunOK P o a w I H out := by
  unfold opS at h
  split at h
  · rename_i x ho; exact opMove_ok x (fun ρ => by simp only [execOp, ho]) hE hW h hc
  · rename_i x ho; exact opMove_ok x (fun ρ => by simp only [execOp, ho]) hE hW h hc
  · rename_i x y z ho; exact opPick_ok x y z ho hE h hc
  · rename_i T ho; exact opAlloc_ok T ho h
  · rename_i T x ho; exact opBox_ok T x ho hE hW h hc
  · rename_i T ps ho; exact opBuild_ok T ps ho hE hW h hc
  · rename_i T n ps ho; exact opBuildSlice_ok T n ps ho hE hW h hc
  · rename_i T x ho; exact opLoad_ok T x ho hE hH hW h hc
  · rename_i T x y ho; exact opStore_ok T x y ho hE hH hW h hc
  · rename_i op T x y T' ho; exact opBin_ok op T T' x y ho hE h hc
  · rename_i op T x ho; exact opUn_ok op T x ho hE h hc
  · rename_i T x f ho; exact opFieldAddr_ok T x f ho hE hW h hc
  · rename_i T x f ho; exact opField_ok T x f ho hE hW h hc
  · rename_i T x i ho; exact opIndexAddr_ok T x i ho hE hW h hc
  · rename_i x i ho; exact opExtract_ok x i ho hE h hc
  · rename_i s d x ho; exact opConvert_ok s d x ho hE h hc
  · rename_i cl ho
    obtain ⟨ce, args, ts⟩ := cl
    split at h
    · rename_i b hb
      simp only at hb; subst hb
      exact opBuiltin_ok b args ts ho hE hW h hc
    · rename_i f hf
      simp only at hf; subst hf
      exact opCall_ok sp f args ts ho hE hH hW h hc
    · rename_i t ht
      simp only at ht; subst ht
      exact opCallV_ok sp t args ts ho hE hH hW h hc
    · simp at h
  · simp at h

end
end Go.Sx
