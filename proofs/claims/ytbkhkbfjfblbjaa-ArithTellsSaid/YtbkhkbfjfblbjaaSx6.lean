import Derived.Test.YtbkhkbfjfblbjaaSx5
namespace Go.Sx
open Go.RowKit

theorem rd_congr {E E' : Env} {x : Operand} (h : ∀ t, x = .tmp t → E' t = E t) : rdv E' x = rdv E x ∧ rdg E' x = rdg E x := by
  cases x with
  | tmp t => simp [rdv, rdg, h t rfl]
  | _ => exact ⟨rfl, rfl⟩

theorem reads_congr {E E' : Env} : ∀ {ps : List (Nat × Operand)}, (∀ p ∈ ps, rdv E' p.2 = rdv E p.2 ∧ rdg E' p.2 = rdg E p.2) → reads E' ps = reads E ps ∧ readG E' ps = readG E ps
  | [], _ => ⟨rfl, rfl⟩
  | (i, x) :: ps, h => by
    have h0 := h (i, x) (List.mem_cons_self ..)
    have ih := reads_congr (ps := ps) fun p hp => h p (List.mem_cons_of_mem _ hp)
    simp only [reads, readG, h0.1, h0.2, ih.1, ih.2, and_self]
theorem readA_congr {E E' : Env} : ∀ {ps : List Operand}, (∀ p ∈ ps, rdv E' p = rdv E p ∧ rdg E' p = rdg E p) → readA E' ps = readA E ps ∧ readAG E' ps = readAG E ps
  | [], _ => ⟨rfl, rfl⟩
  | x :: ps, h => by
    have h0 := h x (List.mem_cons_self ..)
    have ih := readA_congr (ps := ps) fun p hp => h p (List.mem_cons_of_mem _ hp)
    simp only [readA, readAG, h0.1, h0.2, ih.1, ih.2, and_self]

/-- two heaps that agree where an operation looks -/
def FpOK (fp : Option (List Nat)) (H H' : Hp) : Prop :=
  match fp with
  | none => H' = H
  | some l => ∀ k ∈ l, H' k = H k

section
variable {P : Program} {E E' : Env} {H H' : Hp} {c : Prop} {out : Out} {fp : Option (List Nat)}

theorem opLoad_local {T : TypeId} {x : Operand} (h1 : rdv E' x = rdv E x ∧ rdg E' x = rdg E x) (h : opLoad P E H T x = some (c, out, fp)) (hf : FpOK fp H H') :
    opLoad P E' H' T x = some (c, out, fp) := by
  unfold opLoad at *
  rw [h1.1, h1.2]
  split at h
  · rename_i k off hr
    have hfp : fp = some [k] := by
      repeat' split at h
      all_goals simp only [Option.map_eq_some_iff, Prod.mk.injEq, reduceCtorEq] at h
      all_goals (obtain ⟨_, _, _, _, h⟩ := h; exact h.symm)
    subst hfp
    have hk : H' k = H k := hf k (by simp)
    simp only [hk]
    exact h
  · simp at h
theorem opStore_local {T : TypeId} {x y : Operand} (h1 : rdv E' x = rdv E x ∧ rdg E' x = rdg E x) (h2 : rdv E' y = rdv E y ∧ rdg E' y = rdg E y) (h : opStore P E H T x y = some (c, out, fp)) (hf : FpOK fp H H') :
    opStore P E' H' T x y = some (c, out, fp) := by
  unfold opStore at *
  rw [h1.1, h1.2, h2.1, h2.2]
  split at h
  · rename_i k off v hr hr2
    have hfp : fp = some [k] := by
      repeat' split at h
      all_goals simp only [Option.some.injEq, Prod.mk.injEq, reduceCtorEq] at h
      all_goals exact h.2.2.symm
    subst hfp
    have hk : H' k = H k := hf k (by simp)
    simp only [hk]
    exact h
  · simp at h
theorem opCall_local {sp : List (Spec P)} {f : FuncId} {args : List Operand} (h1 : readA E' args = readA E args ∧ readAG E' args = readAG E args) (h : opCall sp E H f args = some (c, out, fp)) (hf : FpOK fp H H') :
    opCall sp E' H' f args = some (c, out, fp) := by
  unfold opCall at *
  rw [h1.1, h1.2]
  split at h
  · rename_i s vs hs hr
    have he : s.fn vs H' = s.fn vs H := by
      simp only [Option.map_eq_some_iff, Prod.mk.injEq] at h
      obtain ⟨_, _, _, _, rfl⟩ := h
      exact s.loc vs H' H hf
    simp only [he]
    exact h
  · simp at h

theorem opCallV_local {sp : List (Spec P)} {t : Nat} {args : List Operand} (h0 : rdv E' (.tmp t) = rdv E (.tmp t) ∧ rdg E' (.tmp t) = rdg E (.tmp t)) (h1 : readA E' args = readA E args ∧ readAG E' args = readAG E args) (h : opCallV sp E H t args = some (c, out, fp)) (hf : FpOK fp H H') :
    opCallV sp E' H' t args = some (c, out, fp) := by
  unfold opCallV at *
  rw [h0.1, h0.2]
  split at h
  · rename_i f hf2
    simp only [Option.map_eq_some_iff, Prod.mk.injEq] at h
    obtain ⟨⟨c', r⟩, h2, rfl, h3⟩ := h
    simp only at h3
    subst h3
    simp only [opCall_local h1 h2 hf, Option.map_some]
  · simp at h

theorem opS_local {sp : List (Spec P)} {o : Oper} (hr : ∀ x ∈ o.op.operands, rdv E' x = rdv E x ∧ rdg E' x = rdg E x) (h : opS sp o E H = some (c, out, fp)) (hf : FpOK fp H H') : opS sp o E' H' = some (c, out, fp) := by
  obtain ⟨dst, op, type, pos, after, guard⟩ := o
  cases op <;> simp only [opS, Op.operands, reduceCtorEq] at h hr ⊢
  case move x => have := hr x (by simp); unfold opMove at *; rw [this.1, this.2]; exact h
  case assign x => have := hr x (by simp); unfold opMove at *; rw [this.1, this.2]; exact h
  case pick x y z =>
    have h1 := hr x (by simp); have h2 := hr y (by simp); have h3 := hr z (by simp)
    unfold opPick at *; rw [h1.1, h1.2, h2.1, h2.2, h3.1, h3.2]; exact h
  case alloc T => exact h
  case box T x => have := hr x (by simp); unfold opBox at *; rw [this.1, this.2]; exact h
  case build T ps =>
    have := reads_congr (E := E) (E' := E') (ps := ps.toList) fun p hp => hr p.2 (by simp; exact ⟨p.1, by simpa using hp⟩)
    unfold opBuild at *; rw [this.1, this.2]; exact h
  case buildSlice T n ps =>
    have := reads_congr (E := E) (E' := E') (ps := ps.toList) fun p hp => hr p.2 (by simp; exact ⟨p.1, by simpa using hp⟩)
    unfold opBuildSlice at *; rw [this.1, this.2]; exact h
  case load T x => exact opLoad_local (hr x (by simp)) h hf
  case store T x y => exact opStore_local (hr x (by simp)) (hr y (by simp)) h hf
  case binOp op T x y T' =>
    have h1 := hr x (by simp); have h2 := hr y (by simp)
    unfold opBin at *; rw [h1.1, h1.2, h2.1, h2.2]; exact h
  case unOp op T x => have := hr x (by simp); unfold opUn at *; rw [this.1, this.2]; exact h
  case fieldAddr T x f => have := hr x (by simp); unfold opFieldAddr at *; rw [this.1, this.2]; exact h
  case field T x f => have := hr x (by simp); unfold opField at *; rw [this.1, this.2]; exact h
  case indexAddr T x y =>
    have h1 := hr x (by simp); have h2 := hr y (by simp)
    unfold opIndexAddr at *; rw [h1.1, h1.2, h2.1, h2.2]; exact h
  case extract x i => have := hr x (by simp); unfold opExtract at *; rw [this.1, this.2]; exact h
  case convert s d x => have := hr x (by simp); unfold opConvert at *; rw [this.1, this.2]; exact h
  case call cl =>
    obtain ⟨ce, args, ts⟩ := cl
    have hargs := readA_congr (E := E) (E' := E') (ps := args.toList) fun p hp => hr p (by simp [Call.operands]; exact .inr (by simpa using hp))
    cases ce with
    | builtin b => simp only at h ⊢; unfold opBuiltin at *; rw [hargs.1, hargs.2]; exact h
    | invoke r m => simp at h
    | value f =>
      cases f with
      | func f => exact opCall_local hargs h hf
      | tmp t => exact opCallV_local (hr (.tmp t) (by simp [Call.operands])) hargs h hf
      | _ => simp at h

theorem guardOf_local {ops : Array Oper} {o : Oper} (h : ∀ t ∈ o.looksAt ops, E' t = E t) : guardOf ops o E' = guardOf ops o E := by
  unfold guardOf
  cases hg : o.guard with
  | none => rfl
  | some gw =>
    obtain ⟨j, want⟩ := gw
    simp only
    cases ht : (ops[j]?).bind (·.dst) with
    | none => rfl
    | some t =>
      have := h t (by simp [Oper.looksAt, hg, ht])
      simp only [this]

theorem opG_local {sp : List (Spec P)} {n : Nat} {ops : Array Oper} {o : Oper} {x : Wr} (hE : ∀ t ∈ o.looksAt ops, E' t = E t) (h : opG sp n ops o E H = some (c, x, fp)) (hf : FpOK fp H H') :
    opG sp n ops o E' H' = some (c, x, fp) := by
  have hr : ∀ y ∈ o.op.operands, rdv E' y = rdv E y ∧ rdg E' y = rdg E y := fun y hy => rd_congr fun t ht => hE t (by
    subst ht
    exact List.mem_append_left _ (List.mem_filterMap.2 ⟨.tmp t, by simpa using hy, rfl⟩))
  unfold opG at *
  rw [guardOf_local hE]
  split at h
  · rename_i g hg
    split at h
    · rename_i c1 out fp1 hop
      split at h
      · rename_i c2 y hy
        simp only [Option.some.injEq, Prod.mk.injEq] at h
        obtain ⟨rfl, rfl, rfl⟩ := h
        have hf1 : FpOK fp1 H H' := by
          cases out <;> cases fp1 <;> simp only [addFp] at hf <;> first | exact hf | exact fun k hk => hf k (by simp [hk])
        have hy' : outWr n H' o.dst g out = some (c2, y) := by
          cases out with
          | val v => exact hy
          | upd k cs T => exact hy
          | new cs T v =>
            simp only [outWr] at hy ⊢
            cases hd : o.dst with
            | none => simp [hd] at hy
            | some t =>
              rw [hd] at hy hf
              simp only at hy ⊢
              have ht : H' t = H t := by
                cases fp1 with
                | none => rw [show H' = H from hf1]
                | some l => exact hf t (by simp)
              rw [ht]; exact hy
        simp only [opS_local hr hop hf1, hy']
      · simp at h
    · simp at h
  · simp at h

theorem opG_dst {sp : List (Spec P)} {n : Nat} {ops : Array Oper} {o : Oper} {x : Wr} (h : opG sp n ops o E H = some (c, x, fp)) :
    (∀ t e, x.slot = some (t, e) → o.dst = some t) := by
  unfold opG at h
  repeat' split at h
  all_goals simp only [Option.some.injEq, Prod.mk.injEq, reduceCtorEq] at h
  rename_i hy
  obtain ⟨_, rfl, _⟩ := h
  intro t e hs
  unfold outWr at hy
  repeat' split at hy
  all_goals simp only [Option.some.injEq, Prod.mk.injEq, reduceCtorEq] at hy
  all_goals (obtain ⟨_, rfl⟩ := hy; simp at hs)
  · obtain ⟨h1, _⟩ := hs; subst h1; assumption
  · obtain ⟨h1, _⟩ := hs; subst h1; assumption
end
end Go.Sx
