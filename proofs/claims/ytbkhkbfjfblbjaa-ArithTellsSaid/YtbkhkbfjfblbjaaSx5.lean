import Derived.Test.YtbkhkbfjfblbjaaSx4
namespace Go.Sx
open Go.RowKit

def upd {α : Type} (f : Nat → Option α) (k : Nat) (x : α) : Nat → Option α := fun j => if j = k then some x else f j

/-- the guard of an operation, as a Bool: may it run? -/
def guardOf (ops : Array Oper) (o : Oper) (E : Env) : Option Bool :=
  match o.guard with
  | none => some true
  | some (j, want) =>
    match (ops[j]?).bind (·.dst) with
    | some t => match E t with
      | some (g, .one (.v (.bool b))) => some (g && (if want then b else !b))
      | _ => none
    | none => none

/-- what is written: a slot, a block -/
structure Wr where
  slot : Option (Nat × Bool × SV)
  blk : Option (Nat × Blk)

def outWr (n : Nat) (H : Hp) (d : Option Nat) (g : Bool) : Out → Option (Prop × Wr)
  | .val v => match d with
    | some t => if t < n then some (True, ⟨some (t, g, v), none⟩) else none
    | none => some (True, ⟨none, none⟩)
  | .new cs T v => match d with
    | some t => if t < n then (match H t with
      | none => some (g = true, ⟨some (t, g, v t), some (t, cs, T)⟩)
      | some _ => none) else none
    | none => none
  | .upd k cs T => match d with
    | none => some (g = true, ⟨none, some (k, cs, T)⟩)
    | some _ => none

def addFp (d : Option Nat) : Out → Option (List Nat) → Option (List Nat)
  | .new _ _ _, some l => some (d.toList ++ l)
  | _, l => l

/-- one operation under its guard: what must hold, what is written, which blocks are looked at -/
def opG {P : Program} (sp : List (Spec P)) (n : Nat) (ops : Array Oper) (o : Oper) (E : Env) (H : Hp) : Option (Prop × Wr × Option (List Nat)) :=
  match guardOf ops o E with
  | some g =>
    match opS sp o E H with
    | some (c, out, fp) =>
      match outWr n H o.dst g out with
      | some (c', x) => some ((g = true → c) ∧ c', x, addFp o.dst out fp)
      | none => none
    | none => none
  | none => none

def Wr.E (x : Wr) (E : Env) : Env := match x.slot with | some (t, e) => upd E t e | none => E
def Wr.H (x : Wr) (H : Hp) : Hp := match x.blk with | some (k, b) => upd H k b | none => H

theorem den_congr {I I' : Nat → Nat} {c : C} (h : ∀ k ∈ c.names, I' k = I k) : c.den I' = c.den I := by
  cases c with
  | v x => rfl
  | p k off => simp [C.den, h k (by simp [C.names])]
  | sl k off l cap => simp [C.den, h k (by simp [C.names])]
theorem map_den_congr {I I' : Nat → Nat} {l : List C} (h : ∀ k ∈ l.flatMap C.names, I' k = I k) : l.map (C.den I') = l.map (C.den I) :=
  List.map_congr_left fun c hc => den_congr fun k hk => h k (List.mem_flatMap.2 ⟨c, hc, hk⟩)
theorem sden_congr {I I' : Nat → Nat} {v : SV} (h : ∀ k ∈ v.names, I' k = I k) : v.den I' = v.den I := by
  cases v with
  | one c => exact den_congr h
  | agg l => simp only [SV.den, map_den_congr h]

theorem put_size (a : Act) (d : Option Nat) (v : Value) : (a.put d v).tmps.size = a.tmps.size := by
  cases d <;> simp [Act.put]
theorem put_defers (a : Act) (d : Option Nat) (v : Value) : (a.put d v).defers = a.defers := by
  cases d <;> rfl
theorem put_get (a : Act) (t j : Nat) (v : Value) (ht : t < a.tmps.size) : (a.put (some t) v).tmps[j]? = if j = t then some v else a.tmps[j]? := by
  simp only [Act.put]
  rw [Array.getElem?_setIfInBounds]
  by_cases h : t = j
  · subst h; simp [ht]
  · simp [h, Ne.symm h]

section
variable {P : Program} {M : Ctx} {w0 : World} {n : Nat} {I : Nat → Nat} {E : Env} {H : Hp} {a : Act} {w : World}

/-- a slot is written -/
theorem At.put (h : At M w0 n I E H a w) {t : Nat} {g : Bool} {v : SV} {u : Value} (ht : t < n) (hu : u = if g then v.den I else undef) : At M w0 n I (upd E t (g, v)) H (a.put (some t) u) w :=
  ⟨by rw [put_size]; exact h.n, by rw [put_defers]; exact h.d, fun j g' v' hj => by
    rw [put_get a t j u (by rw [h.n]; exact ht)]
    unfold upd at hj
    split at hj
    · rename_i he
      simp only [Option.some.injEq, Prod.mk.injEq] at hj
      obtain ⟨rfl, rfl⟩ := hj
      rw [if_pos he, hu]
    · rename_i he
      rw [if_neg he]
      exact h.e j g' v' hj, h.h, h.inj, h.own, h.kept, h.fix⟩
/-- the world grows -/
theorem At.grow (h : At M w0 n I E H a w) {w' : World} (hb : Below w.heap.size w w') : At M w0 n I E H a w' :=
  ⟨h.n, h.d, h.e, fun k cs T hk => by
    have h1 := h.h k cs T hk
    rw [hb.block (I k) ?_]
    · exact h1
    · rcases Nat.lt_or_ge (I k) w.heap.size with hl | hl
      · exact hl
      · rw [Array.getElem?_eq_none hl] at h1; simp at h1, h.inj, h.own, h.kept.trans (Kept.of_below hb (fun _ => False)) (fun _ _ hf => hf.elim), h.fix⟩

theorem At.lt (h : At M w0 n I E H a w) {k : Nat} (hk : (H k).isSome = true) : I k < w.heap.size := by
  obtain ⟨⟨cs, T⟩, he⟩ := Option.isSome_iff_exists.1 hk
  have h1 := h.h k cs T he
  rcases Nat.lt_or_ge (I k) w.heap.size with hl | hl
  · exact hl
  · rw [Array.getElem?_eq_none hl] at h1; simp at h1

/-- a new block, named d -/
theorem At.alloc (h : At M w0 n I E H a w) (hW : WF E H) {d : Nat} (hdn : d < n) {cs : List C} {T : TypeId} (hd : H d = none) (hcs : DomOK (cs.flatMap C.names) H) :
    At M w0 n (fun k => if k = d then w.heap.size else I k) E (upd H d (cs, T)) a (w.alloc (.cells (cs.map (C.den I)).toArray T)) := by
  have hsame : ∀ l : List Nat, DomOK l H → ∀ k ∈ l, (if k = d then w.heap.size else I k) = I k := by
    intro l hl k hk
    have := hl k hk
    rw [if_neg (by intro e; subst e; simp [hd] at this)]
  refine ⟨h.n, h.d, ?_, ?_, ?_, ?_, ?_, fun p hp => ⟨(h.fix p hp).1, by rw [if_neg (by have := (h.fix p hp).1; omega)]; exact (h.fix p hp).2⟩⟩
  · intro t g v ht
    rw [h.e t g v ht]
    cases g with
    | false => rfl
    | true => rw [if_pos rfl, if_pos rfl, sden_congr (hsame _ (hW.e t true v ht rfl))]
  · intro k cs' T' hk
    unfold upd at hk
    split at hk
    · rename_i he
      subst he
      simp only [Option.some.injEq, Prod.mk.injEq] at hk
      obtain ⟨rfl, rfl⟩ := hk
      rw [map_den_congr (hsame _ hcs)]
      show (w.heap.push _)[if k = k then w.heap.size else I k]? = _
      simp
    · rename_i he
      have h1 := h.h k cs' T' hk
      simp only [he, if_false]
      rw [map_den_congr (I := I) (I' := fun j => if j = d then w.heap.size else I j) (hsame _ (hW.h k cs' T' hk))]
      rw [Below.heap_alloc _ _ _ (h.lt (by simp [hk]))]
      exact h1
  · intro k k' hk hk' he
    unfold upd at hk hk'
    by_cases h1 : k = d <;> by_cases h2 : k' = d
    · rw [h1, h2]
    · simp only [h1, h2, if_true, if_false] at he hk'
      have := h.lt hk'
      omega
    · simp only [h1, h2, if_true, if_false] at he hk
      have := h.lt hk
      omega
    · simp only [h1, h2, if_false] at he hk hk'
      exact h.inj k k' hk hk' he
  · intro k hk
    unfold upd at hk
    by_cases h1 : k = d
    · simp only [h1, if_true]; exact .inl h.kept.size
    · simp only [h1, if_false] at hk ⊢; exact h.own k hk
  · exact h.kept.trans (Kept.of_below ((Below.refl _ _).alloc (Nat.le_refl _) _) (fun _ => False)) (fun _ _ hf => hf.elim)

/-- a block is written -/
theorem At.store (h : At M w0 n I E H a w) {k : Nat} {cs : List C} {T : TypeId} {w' : World} (hk : (H k).isSome = true)
    (h1 : w'.heap[I k]? = some (.cells (cs.map (C.den I)).toArray T (0, 0))) (h2 : w'.heap.size = w.heap.size) (h3 : w'.os = w.os) (h4 : w'.tape = w.tape) (h5 : w'.output = w.output)
    (h6 : ∀ b, b ≠ I k → w'.heap[b]? = w.heap[b]?) : At M w0 n I E (upd H k (cs, T)) a w' := by
  have hsome : ∀ j, ((upd H k (cs, T)) j).isSome = true → (H j).isSome = true := by
    intro j hj
    unfold upd at hj
    split at hj
    · rename_i he; rw [he]; exact hk
    · exact hj
  refine ⟨h.n, h.d, h.e, ?_, fun j j' hj hj' => h.inj j j' (hsome j hj) (hsome j' hj'), fun j hj => h.own j (hsome j hj), ?_, h.fix⟩
  · intro j cs' T' hj
    unfold upd at hj
    split at hj
    · rename_i he
      simp only [Option.some.injEq, Prod.mk.injEq] at hj
      obtain ⟨rfl, rfl⟩ := hj
      rw [he]; exact h1
    · rename_i he
      rw [h6 (I j) (fun e => he (h.inj j k (by simp [hj]) hk e))]
      exact h.h j cs' T' hj
  · have hM := h.own k hk
    exact ⟨h3.trans h.kept.os, h4.trans h.kept.tape, h5.trans h.kept.output, by rw [h2]; exact h.kept.size, fun b hb hm => by
      rw [h6 b (fun e => by subst e; rcases hM with hM | hM; omega; exact hm hM)]
      exact h.kept.block b hb hm⟩

theorem WF.put (h : WF E H) {t : Nat} {g : Bool} {v : SV} (hv : g = true → DomOK v.names H) : WF (upd E t (g, v)) H :=
  ⟨fun j g' v' hj hg => by
    unfold upd at hj
    split at hj
    · simp only [Option.some.injEq, Prod.mk.injEq] at hj
      obtain ⟨rfl, rfl⟩ := hj
      exact hv hg
    · exact h.e j g' v' hj hg, h.h⟩
theorem DomOK.upd {l : List Nat} (h : DomOK l H) (k : Nat) (b : Blk) : DomOK l (upd H k b) := fun j hj => by
  unfold Sx.upd
  split
  · rfl
  · exact h j hj
theorem WF.blk (h : WF E H) {k : Nat} {cs : List C} {T : TypeId} (hcs : DomOK (cs.flatMap C.names) H) : WF E (Sx.upd H k (cs, T)) :=
  ⟨fun j g v hj hg => (h.e j g v hj hg).upd k _, fun j cs' T' hj => by
    unfold Sx.upd at hj
    split at hj
    · simp only [Option.some.injEq, Prod.mk.injEq] at hj
      obtain ⟨rfl, rfl⟩ := hj
      exact hcs.upd k _
    · exact (h.h j cs' T' hj).upd k _⟩

theorem guard_ok {ops : Array Oper} {o : Oper} {g : Bool} (hE : AtE I E a) (h : guardOf ops o E = some g) : Region.wanted o (yielded ops a.tmps) = g := by
  unfold guardOf at h
  unfold Region.wanted
  split at h
  · rename_i hg; simp only [Option.some.injEq] at h; subst h; simp [hg]
  · rename_i j want hg
    simp only [hg]
    split at h
    · rename_i t ht
      split at h
      · rename_i g0 b hb
        simp only [Option.some.injEq] at h
        subst h
        have h1 := hE t g0 _ hb
        unfold yielded
        rw [ht]
        simp only [Option.bind_some, h1]
        cases g0 <;> cases b <;> cases want <;> simp [SV.den, C.den, undef]
      · simp at h
    · simp at h

/-- one operation, from state to state -/
theorem opG_ok {Q : Exit → Act → World → Prop} {ops : Array Oper} {sp : List (Spec P)} {i : Nat} {o : Oper} {c : Prop} {x : Wr} {fp : Option (List Nat)} (hi : ops[i]? = some o)
    (hA : At M w0 n I E H a w) (hW : WF E H) (h : opG sp n ops o E H = some (c, x, fp)) (hc : c) :
    wpOp P ops Q i (fun a' w' => WF (x.E E) (x.H H) ∧ ∃ I', At M w0 n I' (x.E E) (x.H H) a' w') a w := by
  unfold opG at h
  split at h
  · rename_i g hg
    split at h
    · rename_i c1 out fp1 hop
      split at h
      · rename_i c2 y hy
        simp only [Option.some.injEq, Prod.mk.injEq] at h
        obtain ⟨rfl, rfl, rfl⟩ := h
        obtain ⟨hc1, hc2⟩ := hc
        have hwant := guard_ok hA.e hg
        unfold wpOp
        simp only [hi, hwant]
        cases g with
        | false =>
          simp only [Bool.false_eq_true, if_false]
          cases out with
          | val v =>
            simp only [outWr] at hy
            split at hy
            · rename_i t ht
              split at hy
              · rename_i hlt
                simp only [Option.some.injEq, Prod.mk.injEq] at hy
                obtain ⟨rfl, rfl⟩ := hy
                rw [ht]; exact ⟨hW.put (by simp), I, hA.put hlt rfl⟩
              · simp at hy
            · rename_i ht
              simp only [Option.some.injEq, Prod.mk.injEq] at hy
              obtain ⟨rfl, rfl⟩ := hy
              rw [ht]; exact ⟨hW, I, hA⟩
          | new cs T v =>
            simp only [outWr] at hy
            repeat' split at hy
            all_goals simp only [Option.some.injEq, Prod.mk.injEq, reduceCtorEq] at hy
            obtain ⟨rfl, rfl⟩ := hy
            simp at hc2
          | upd k cs T =>
            simp only [outWr] at hy
            repeat' split at hy
            all_goals simp only [Option.some.injEq, Prod.mk.injEq, reduceCtorEq] at hy
            obtain ⟨rfl, rfl⟩ := hy
            simp at hc2
        | true =>
          simp only [if_true]
          left
          have hrun := opS_ok sp hA.e hA.h hW hop (hc1 rfl)
          unfold Oper.wp
          cases out with
          | val v =>
            obtain ⟨hdom, hrun⟩ := hrun
            have key : ∀ w', Below w.heap.size w w' → WF (y.E E) (y.H H) ∧ ∃ I', At M w0 n I' (y.E E) (y.H H) (a.put o.dst (v.den I)) w' := by
              intro w' hb
              simp only [outWr] at hy
              split at hy
              · rename_i t ht
                split at hy
                · rename_i hlt
                  simp only [Option.some.injEq, Prod.mk.injEq] at hy
                  obtain ⟨rfl, rfl⟩ := hy
                  rw [ht]; exact ⟨hW.put (fun _ => hdom), I, (hA.grow hb).put hlt rfl⟩
                · simp at hy
              · rename_i ht
                simp only [Option.some.injEq, Prod.mk.injEq] at hy
                obtain ⟨rfl, rfl⟩ := hy
                rw [ht]; exact ⟨hW, I, hA.grow hb⟩
            rcases hrun with hrun | ⟨f, args, hrun, hcall⟩
            · rw [hrun]
              exact key w (Below.refl _ _)
            · rw [hrun]
              refine hcall.mono ?_
              rintro e w' ⟨rfl, hb⟩
              exact key w' hb
          | new cs T v =>
            obtain ⟨hdom, hnm, hrun⟩ := hrun
            simp only [outWr] at hy
            split at hy
            · rename_i t ht
              split at hy
              · rename_i hlt
                split at hy
                · rename_i hno
                  simp only [Option.some.injEq, Prod.mk.injEq] at hy
                  obtain ⟨rfl, rfl⟩ := hy
                  rw [hrun (fun k => if k = t then w.heap.size else I k) t (by simp)]
                  show _ ∧ ∃ I', At M w0 n I' _ _ (a.put o.dst _) _
                  rw [ht]
                  refine ⟨(hW.blk hdom).put (fun _ => ?_), _, (hA.alloc hW hlt hno hdom).put hlt rfl⟩
                  intro k hk
                  rw [hnm] at hk
                  simp only [List.mem_singleton] at hk
                  subst hk
                  simp [Sx.upd]
                · simp at hy
              · simp at hy
            · simp at hy
          | upd k cs T =>
            obtain ⟨hk, hdom, w', hrun, h1, h2, h3, h4, h5, h6⟩ := hrun
            simp only [outWr] at hy
            split at hy
            · rename_i hd
              simp only [Option.some.injEq, Prod.mk.injEq] at hy
              obtain ⟨rfl, rfl⟩ := hy
              rw [hrun]
              have hput : a.put o.dst undef = a := by rw [hd]; rfl
              show WF _ _ ∧ ∃ I', At M w0 n I' _ _ (a.put o.dst undef) w'
              rw [hput]
              exact ⟨hW.blk hdom, I, hA.store hk h1 h2 h3 h4 h5 h6⟩
            · simp at hy
      · simp at h
    · simp at h
  · simp at h
end
end Go.Sx
