import Derived.Test.YtbkhkbfjfblbjaaSx8
namespace Go.Sx
open Go.RowKit

def lkp {α : Type} : List (Nat × α) → Nat → Option α
  | [], _ => none
  | (k, v) :: r, t => if t = k then some v else lkp r t
theorem lkp_cons {α : Type} (k : Nat) (v : α) (r : List (Nat × α)) : lkp ((k, v) :: r) = upd (lkp r) k v := by
  funext t; simp [lkp, upd]

structure St where
  e : List (Nat × Bool × SV)
  h : List (Nat × Blk)

def St.app (s : St) (x : Wr) : St :=
  ⟨match x.slot with | some p => p :: s.e | none => s.e, match x.blk with | some p => p :: s.h | none => s.h⟩
theorem app_e (s : St) (x : Wr) : lkp (s.app x).e = x.E (lkp s.e) := by
  unfold St.app Wr.E
  cases x.slot with
  | none => rfl
  | some p => obtain ⟨t, e⟩ := p; exact lkp_cons t e s.e
theorem app_h (s : St) (x : Wr) : lkp (s.app x).h = x.H (lkp s.h) := by
  unfold St.app Wr.H
  cases x.blk with
  | none => rfl
  | some p => obtain ⟨t, e⟩ := p; exact lkp_cons t e s.h

abbrev Trace := List (Option Nat × Option (List Nat))

def tchT (ops : Array Oper) : List Oper → Trace → List Tch
  | o :: l, (wb, f) :: tr => ⟨o.dst, o.looksAt ops, wb, f⟩ :: tchT ops l tr
  | _, _ => []
def chkT (ops : Array Oper) (tr : Trace) : Bool := fwd ops && chkAll 0 (tchT ops ops.toList tr) (ancL ops.toList [])

def trOf : List Wr → List (Option (List Nat)) → Trace
  | x :: xs, f :: fs => (x.blk.map (·.1), f) :: trOf xs fs
  | _, _ => []
theorem tchT_of (ops : Array Oper) : ∀ (l : List Oper) (xs : List Wr) (fs : List (Option (List Nat))), tchT ops l (trOf xs fs) = tch ops l xs fs
  | [], xs, fs => by cases xs <;> cases fs <;> rfl
  | o :: l, [], fs => by cases fs <;> rfl
  | o :: l, x :: xs, [] => rfl
  | o :: l, x :: xs, f :: fs => by simp only [trOf, tchT, tch, tchT_of ops l xs fs]

section
variable {P : Program}

def vcOps (sp : List (Spec P)) (n : Nat) (ops : Array Oper) : List Oper → St → Trace → (St → Trace → Prop) → Prop
  | [], s, tr, K => K s tr
  | o :: r, s, tr, K =>
    match opG sp n ops o (lkp s.e) (lkp s.h) with
    | some (c, x, f) => c ∧ vcOps sp n ops r (s.app x) ((x.blk.map (·.1), f) :: tr) K
    | none => False

theorem vcOps_run (sp : List (Spec P)) (n : Nat) (ops : Array Oper) : ∀ (l : List Oper) (s : St) (tr : Trace) (K : St → Trace → Prop), vcOps sp n ops l s tr K →
    ∃ xs fs s', RunL sp n ops l (lkp s.e) (lkp s.h) xs fs ∧ K s' ((trOf xs fs).reverse ++ tr) ∧ lkp s'.e = stFinE xs (lkp s.e) ∧ lkp s'.h = stFinH xs (lkp s.h)
  | [], s, tr, K, h => ⟨[], [], s, trivial, h, rfl, rfl⟩
  | o :: l, s, tr, K, h => by
    simp only [vcOps] at h
    split at h
    · rename_i c x f hs
      obtain ⟨hc, hr⟩ := h
      obtain ⟨xs, fs, s', h1, h2, h3, h4⟩ := vcOps_run sp n ops l _ _ K hr
      rw [app_e, app_h] at h1
      refine ⟨x :: xs, f :: fs, s', ⟨c, hs, hc, h1⟩, by simpa [trOf] using h2, ?_, ?_⟩
      · rw [h3, app_e]
        have gen : ∀ (ys : List Wr) (i j : Nat) (E : Env), foldE ys i (fun _ => true) E = foldE ys j (fun _ => true) E := by
          intro ys
          induction ys with
          | nil => intro i j E; rfl
          | cons y ys ih => intro i j E; simp only [foldE]; exact ih _ _ _
        simp only [stFinE, foldE, if_true]
        exact gen xs 0 1 _
      · rw [h4, app_h]
        have gen : ∀ (ys : List Wr) (i j : Nat) (E : Hp), foldH ys i (fun _ => true) E = foldH ys j (fun _ => true) E := by
          intro ys
          induction ys with
          | nil => intro i j E; rfl
          | cons y ys ih => intro i j E; simp only [foldH]; exact ih _ _ _
        simp only [stFinH, foldH, if_true]
        exact gen xs 0 1 _
    · exact h.elim

/-- an act and a world meet a state -/
def Holds (M : Ctx) (w0 : World) (n : Nat) (s : St) (a : Act) (w : World) : Prop :=
  WF (lkp s.e) (lkp s.h) ∧ ∃ I, At M w0 n I (lkp s.e) (lkp s.h) a w
def postOf (M : Ctx) (w0 : World) (n : Nat) (Q : Exit → St → Prop) : Exit → Act → World → Prop := fun e a w => ∃ s, Q e s ∧ Holds M w0 n s a w
def Tri (M : Ctx) (w0 : World) (n : Nat) (c : Code) (s : St) (Q : Exit → St → Prop) : Prop :=
  ∀ a w, Holds M w0 n s a w → c.wp P (postOf M w0 n Q) a w

def thenQ (K : St → Prop) (Q : Exit → St → Prop) : Exit → St → Prop
  | .normal, s => K s
  | e, s => Q e s
def inQ (id : Nat) (Q : Exit → St → Prop) : Exit → St → Prop
  | .exit j, s => if j = id then Q .normal s else Q (.exit j) s
  | e, s => Q e s

/-- what must hold so that a code, begun in a state, ends as Q says -/
def vc (M : Ctx) (w0 : World) (sp : List (Spec P)) (n : Nat) : Code → St → (Exit → St → Prop) → Prop
  | .skip, s, Q => Q .normal s
  | .label _, s, Q => Q .normal s
  | .region _ ops false, s, Q => vcOps sp n ops ops.toList s [] (fun s' _ => Q .normal s')
  | .region _ ops true, s, Q => vcOps sp n ops ops.toList s [] (fun s' tr => chkT ops tr.reverse = true ∧ Q .normal s')
  | .seq a b, s, Q => vc M w0 sp n a s (thenQ (fun s' => vc M w0 sp n b s' Q) Q)
  | .cond c x y, s, Q =>
    match rdv (lkp s.e) c with
    | some (.one (.v (.bool b))) => rdg (lkp s.e) c = true ∧ (b = true → vc M w0 sp n x s Q) ∧ (b = false → vc M w0 sp n y s Q)
    | _ => False
  | .block id c, s, Q => vc M w0 sp n c s (inQ id Q)
  | .exit id, s, Q => Q (.exit id) s
  | .ret, s, Q => Q .ret s
  | .loop c, s, Q => Tri (P := P) M w0 n (.loop c) s Q
  | _, _, _ => False

variable {M : Ctx} {w0 : World} {n : Nat}

theorem Holds.defers {s : St} {a : Act} {w : World} (h : Holds M w0 n s a w) : a.defers = [] := by
  obtain ⟨_, I, hA⟩ := h; exact hA.d

theorem vc_ok (sp : List (Spec P)) : ∀ (c : Code) (s : St) (Q : Exit → St → Prop), vc M w0 sp n c s Q → Tri (P := P) M w0 n c s Q := by
  intro c
  induction c with
  | skip => intro s Q h a w hs; exact wp_skip ⟨s, h, hs⟩
  | label l => intro s Q h a w hs; exact wp_label ⟨s, h, hs⟩
  | region id ops draw =>
    intro s Q h a w hs
    obtain ⟨hW, I, hA⟩ := hs
    cases draw with
    | false =>
      simp only [vc] at h
      obtain ⟨xs, fs, s', h1, h2, h3, h4⟩ := vcOps_run sp n ops _ _ _ _ h
      refine region_text h1 hW hA fun a' w' I' hW' hA' => ⟨s', h2, ?_⟩
      rw [← h3, ← h4] at hW' hA'
      exact ⟨hW', I', hA'⟩
    | true =>
      simp only [vc] at h
      obtain ⟨xs, fs, s', h1, ⟨hc, h2⟩, h3, h4⟩ := vcOps_run sp n ops _ _ _ _ h
      simp only [List.append_nil, List.reverse_reverse] at hc
      have hchk : chk ops xs fs = true := by
        unfold chkT at hc
        rw [tchT_of] at hc
        exact hc
      refine region_draw h1 hchk hW hA fun a' w' I' hW' hA' => ⟨s', h2, ?_⟩
      rw [← h3, ← h4] at hW' hA'
      exact ⟨hW', I', hA'⟩
  | seq x y ihx ihy =>
    intro s Q h a w hs
    refine wp_seq (Code.wp_mono ?_ (ihx s _ h a w hs))
    rintro e a' w' ⟨s', hq, hs'⟩
    cases e with
    | normal => exact ihy s' Q hq a' w' hs'
    | _ => exact ⟨s', hq, hs'⟩
  | cond c x y ihx ihy =>
    intro s Q h a w hs
    simp only [vc] at h
    split at h
    · rename_i b hb
      obtain ⟨hg, ht, hf⟩ := h
      obtain ⟨hW, I, hA⟩ := hs
      have he := eval_rd hA.e hb hg
      simp only [SV.den, C.den] at he
      exact wp_cond_split he (fun hb => ihx s Q (ht hb) a w ⟨hW, I, hA⟩) (fun hb => ihy s Q (hf hb) a w ⟨hW, I, hA⟩)
    · exact h.elim
  | block id c ih =>
    intro s Q h a w hs
    refine wp_block (Code.wp_mono ?_ (ih s _ h a w hs))
    rintro e a' w' ⟨s', hq, hs'⟩
    cases e with
    | exit j =>
      simp only [inQ] at hq
      simp only [Exit.inBlock]
      split at hq
      · rename_i hj; rw [if_pos hj]; exact ⟨s', hq, hs'⟩
      · rename_i hj; rw [if_neg hj]; exact ⟨s', hq, hs'⟩
    | _ => exact ⟨s', hq, hs'⟩
  | loop c ih => intro s Q h; exact h
  | rangeFunc f ps as b ih1 ih2 => intro s Q h; simp [vc] at h
  | exit id => intro s Q h a w hs; exact wp_exit ⟨s, h, hs⟩
  | scope c ih => intro s Q h; simp [vc] at h
  | goto l => intro s Q h; simp [vc] at h
  | ret => intro s Q h a w hs; exact wp_ret ⟨s, h, hs⟩
  | refuse why => intro s Q h; simp [vc] at h

/-- a state says no less than another -/
def Sub (s t : St) : Prop :=
  (∀ p ∈ t.e, lkp t.e p.1 = some p.2 → lkp s.e p.1 = some p.2) ∧ (∀ p ∈ t.h, lkp t.h p.1 = some p.2 → lkp s.h p.1 = some p.2) ∧ WF (lkp t.e) (lkp t.h)

theorem lkp_mem {α : Type} : ∀ {l : List (Nat × α)} {t : Nat} {v : α}, lkp l t = some v → (t, v) ∈ l
  | [], t, v, h => by simp [lkp] at h
  | (k, u) :: r, t, v, h => by
    simp only [lkp] at h
    split at h
    · rename_i ht; subst ht; simp only [Option.some.injEq] at h; subst h; exact List.mem_cons_self ..
    · exact List.mem_cons_of_mem _ (lkp_mem h)

theorem Holds.sub {s t : St} {a : Act} {w : World} (h : Holds M w0 n s a w) (hs : Sub s t) : Holds M w0 n t a w := by
  obtain ⟨hW, I, hA⟩ := h
  obtain ⟨h1, h2, h3⟩ := hs
  have he : ∀ j v, lkp t.e j = some v → lkp s.e j = some v := fun j v hj => h1 (j, v) (lkp_mem hj) hj
  have hh : ∀ j v, lkp t.h j = some v → lkp s.h j = some v := fun j v hj => h2 (j, v) (lkp_mem hj) hj
  have hsome : ∀ k, (lkp t.h k).isSome = true → (lkp s.h k).isSome = true := by
    intro k hk
    obtain ⟨v, hv⟩ := Option.isSome_iff_exists.1 hk
    simp [hh k v hv]
  exact ⟨h3, I, hA.n, hA.d, fun j g v hj => hA.e j g v (he j _ hj), fun k cs T hk => hA.h k cs T (hh k _ hk), fun k k' hk hk' => hA.inj k k' (hsome k hk) (hsome k' hk'), fun k hk => hA.own k (hsome k hk), hA.kept, hA.fix⟩

/-- a loop: its states, one for each x, and a number that each round lowers -/
theorem loop_ok {X : Type} {c : Code} {s : St} {Q : Exit → St → Prop} (J : X → Prop) (inv : X → St) (μ : X → Nat) (x0 : X) (h0 : J x0) (hs : Sub s (inv x0))
    (round : ∀ x, J x → Tri (P := P) M w0 n c (inv x) (thenQ (fun s' => ∃ y, J y ∧ μ y < μ x ∧ Sub s' (inv y)) Q)) : Tri (P := P) M w0 n (.loop c) s Q := by
  classical
  intro a w ha
  let Inv : Act → World → Prop := fun a w => ∃ x, J x ∧ Holds M w0 n (inv x) a w
  let Is : Act → World → Nat → Prop := fun a w m => ∃ x, J x ∧ μ x = m ∧ Holds M w0 n (inv x) a w
  have least : ∀ a w, Inv a w → ∃ m, Is a w m ∧ ∀ k, Is a w k → m ≤ k := by
    intro a w ⟨x, hx, hh⟩
    have : ∀ k, ∀ y, J y → μ y = k → Holds M w0 n (inv y) a w → ∃ m, Is a w m ∧ ∀ k, Is a w k → m ≤ k := by
      intro k
      induction k using Nat.strongRecOn with
      | _ k ih =>
        intro y hy hk hh
        by_cases hl : ∃ j, j < k ∧ Is a w j
        · obtain ⟨j, hj, z, hz, hzj, hhz⟩ := hl
          exact ih j hj z hz hzj hhz
        · exact ⟨k, ⟨y, hy, hk, hh⟩, fun j hj => Nat.le_of_not_lt fun hlt => hl ⟨j, hlt, hj⟩⟩
    exact this _ x hx rfl hh
  let meas : Act → World → Nat := fun a w => if h : Inv a w then Classical.choose (least a w h) else 0
  refine wp_loop Inv meas ⟨x0, h0, ha.sub hs⟩ ?_
  intro a w hI
  have hm : meas a w = Classical.choose (least a w hI) := dif_pos hI
  obtain ⟨⟨x, hx, hxm, hh⟩, _⟩ := Classical.choose_spec (least a w hI)
  refine Code.wp_mono ?_ (round x hx a w hh)
  rintro e a' w' ⟨s', hq, hs'⟩
  cases e with
  | normal =>
    obtain ⟨y, hy, hlt, hsub⟩ := hq
    have hI' : Inv a' w' := ⟨y, hy, hs'.sub hsub⟩
    refine ⟨hI', ?_⟩
    have hm' : meas a' w' = Classical.choose (least a' w' hI') := dif_pos hI'
    have := (Classical.choose_spec (least a' w' hI')).2 (μ y) ⟨y, hy, rfl, hs'.sub hsub⟩
    rw [hm, hm']
    omega
  | _ => exact ⟨s', hq, hs'⟩

/-- the results -/
def closC : C → Option Value
  | .v x => some x
  | _ => none
def closL : List C → Option (List Value)
  | [] => some []
  | c :: r => match closC c, closL r with
    | some v, some l => some (v :: l)
    | _, _ => none
def clos : SV → Option Value
  | .one c => closC c
  | .agg l => (closL l).map fun vs => .agg vs.toArray
theorem closC_den {I : Nat → Nat} {c : C} {v : Value} (h : closC c = some v) : c.den I = v := by
  cases c <;> simp [closC] at h; subst h; rfl
theorem closL_den {I : Nat → Nat} : ∀ {l : List C} {vs : List Value}, closL l = some vs → l.map (C.den I) = vs
  | [], vs, h => by simp only [closL, Option.some.injEq] at h; subst h; rfl
  | c :: r, vs, h => by
    simp only [closL] at h
    split at h
    · rename_i v l h1 h2
      simp only [Option.some.injEq] at h
      subst h
      simp [closC_den h1, closL_den h2]
    · simp at h
theorem clos_den {I : Nat → Nat} {s : SV} {v : Value} (h : clos s = some v) : s.den I = v := by
  cases s with
  | one c => exact closC_den h
  | agg l =>
    simp only [clos, Option.map_eq_some_iff] at h
    obtain ⟨vs, h1, rfl⟩ := h
    simp only [SV.den, closL_den h1]

def resOne (P : Program) (s : St) : ResultVar → Option Value
  | .tmp t => match lkp s.e t with
    | some (true, v) => clos v
    | _ => none
  | .cell t T => match lkp s.e t with
    | some (true, .one (.p k off)) =>
      match lkp s.h k, tAgg P T with
      | some (cs, _), some true => (tSize P T).bind fun m => if off + m ≤ cs.length then clos (.agg ((cs.drop off).take m)) else none
      | some (cs, _), some false => (cs[off]?).bind closC
      | _, _ => none
    | _ => none
def resAll (P : Program) (s : St) : List ResultVar → Option (List Value)
  | [] => some []
  | r :: rs => match resOne P s r, resAll P s rs with
    | some v, some l => some (v :: l)
    | _, _ => none
def resV : List Value → Value
  | [v] => v
  | l => .tuple l.toArray

def resSem (tmps : Array Value) (r : ResultVar) : Sem Value :=
  match r with
  | .tmp t => pure (tmps.getD t undef)
  | .cell b t => do loadVar t (← asAddr (tmps.getD b undef))
theorem resOne_ok {s : St} {r : ResultVar} {v : Value} (h : resOne P s r = some v) {a : Act} {w : World} (hh : Holds M w0 n s a w) :
    (resSem a.tmps r).run P w = .ok v w := by
  unfold resSem
  obtain ⟨hW, I, hA⟩ := hh
  cases r with
  | tmp t =>
    simp only [resOne] at h
    split at h
    · rename_i sv hs
      have := hA.e t true sv hs
      simp only [if_true] at this
      simp [this, clos_den h]
    · simp at h
  | cell t T =>
    simp only [resOne] at h
    split at h
    · rename_i k off hs
      have h1 := hA.e t true _ hs
      simp only [if_true, SV.den, C.den] at h1
      split at h
      · rename_i cs T' hk ha
        rw [Option.bind_eq_some_iff] at h
        obtain ⟨m, hm, h⟩ := h
        split at h
        · rename_i hle
          have hlen : ((cs.drop off).take m).length = m := by simp; omega
          have hl' := run_loadCells_list (P := P) w ⟨I k, off, none⟩ (((cs.drop off).take m).map (C.den I)) (fun j v hv => by
            rw [addr_add, cell_of hA.h hk]
            simp only [List.getElem?_map, Option.map_eq_some_iff] at hv
            obtain ⟨u, hu, rfl⟩ := hv
            rw [List.getElem?_take] at hu
            split at hu
            · rw [List.getElem?_drop] at hu; rw [hu]; rfl
            · simp at hu)
          rw [List.length_map, hlen] at hl'
          have hd := clos_den (I := I) h
          simp only [SV.den] at hd
          simp only [Array.getD_eq_getD_getElem?, h1, Option.getD_some, asAddr, loadVar, Sem.run_bind, Sem.run_pure, Result.andThen_ok, run_isAgg ha, if_true, run_sizeOf hm, hl', hd]
        · simp at h
      · rename_i cs T' hk ha
        rw [Option.bind_eq_some_iff] at h
        obtain ⟨c, hc, h⟩ := h
        have hcell : w.cell? ⟨I k, off, none⟩ = some (c.den I) := by rw [cell_of hA.h hk, hc]; rfl
        simp only [Array.getD_eq_getD_getElem?, h1, Option.getD_some, asAddr, loadVar, Sem.run_bind, Sem.run_pure, Result.andThen_ok, run_isAgg ha, Bool.false_eq_true, if_false, run_load, hcell, closC_den h]
      · simp at h
    · simp at h

theorem resAll_ok {s : St} {a : Act} {w : World} (hh : Holds M w0 n s a w) : ∀ {rs : List ResultVar} {vs : List Value}, resAll P s rs = some vs →
    (rs.mapM (resSem a.tmps)).run P w = .ok vs w
  | [], vs, h => by simp only [resAll, Option.some.injEq] at h; subst h; simp
  | r :: rs, vs, h => by
    simp only [resAll] at h
    split at h
    · rename_i v l h1 h2
      simp only [Option.some.injEq] at h
      subst h
      have e1 := resOne_ok h1 hh
      have e2 := resAll_ok hh h2
      simp only [List.mapM_cons, Sem.run_bind, e1, e2, Result.andThen_ok, Sem.run_pure]
    · simp at h

theorem results_ok {s : St} {a : Act} {w : World} (hh : Holds M w0 n s a w) {fn : Func} {vs : List Value} (h : resAll P s fn.results.toList = some vs) : (results fn a.tmps).run P w = .ok (resV vs) w := by
  have h1 := resAll_ok hh h
  have e : results fn a.tmps = (do let vs ← fn.results.mapM (resSem a.tmps); pure (if h : vs.size = 1 then vs[0] else .tuple vs)) := rfl
  rw [e, Array.mapM_eq_mapM_toList]
  simp only [Sem.run_bind, Sem.run_map, h1, Result.andThen_ok, Sem.run_pure]
  match vs with
  | [] => rfl
  | [v] => rfl
  | v :: u :: l => rfl

def argE : Nat → List SV → List (Nat × Bool × SV)
  | _, [] => []
  | i, v :: r => (i, true, v) :: argE (i + 1) r

def retQ (P : Program) (rs : List ResultVar) (R : Value → Prop) : Exit → St → Prop
  | .normal, s => ∃ vs, resAll P s rs = some vs ∧ R (resV vs)
  | .ret, s => ∃ vs, resAll P s rs = some vs ∧ R (resV vs)
  | _, _ => False

theorem argE_lkp : ∀ (args : List SV) (i t : Nat), lkp (argE i args) t = if i ≤ t then (args[t - i]?).map fun v => (true, v) else none
  | [], i, t => by simp [argE, lkp]
  | v :: r, i, t => by
    simp only [argE, lkp]
    by_cases h : t = i
    · subst h; simp
    · rw [if_neg h, argE_lkp r (i + 1) t]
      by_cases h2 : i ≤ t
      · have h3 : i + 1 ≤ t := by omega
        rw [if_pos h2, if_pos h3]
        have : t - i = (t - (i + 1)) + 1 := by omega
        rw [this, List.getElem?_cons_succ]
      · rw [if_neg h2, if_neg (by omega)]

/-- a call of a function, by its code: no block but the call's own is written -/
theorem calls_vc {f : FuncId} {fn : Func} {c : Code} (hf : P.funcs[f]? = some fn) (hb : fn.body = some c) (sp : List (Spec P)) (args : List SV) (hnm : ∀ v ∈ args, v.names = []) (w : World) (R : Value → Prop)
    (hn : args.length ≤ fn.ntmps) (h : vc ⟨fun _ => False, []⟩ w sp fn.ntmps c ⟨argE 0 args, []⟩ (retQ P fn.results.toList R)) (I : Nat → Nat) :
    Calls P f (args.map (SV.den I)).toArray w (fun e w' => ∃ v, e = .returned v ∧ R v ∧ Below w.heap.size w w') := by
  refine calls_of_wp hf hb (Code.wp_mono ?_ (vc_ok sp c _ _ h _ w ?_))
  · rintro e a w' ⟨s, hq, hs⟩
    have fin : (∃ vs, resAll P s fn.results.toList = some vs ∧ R (resV vs)) → a.defers = [] ∧ ∃ v, (results fn a.tmps).run P w' = .ok v w' ∧ ∃ v', Ending.returned v = .returned v' ∧ R v' ∧ Below w.heap.size w w' := by
      rintro ⟨vs, h1, h2⟩
      refine ⟨hs.defers, resV vs, results_ok hs h1, resV vs, rfl, h2, ?_⟩
      obtain ⟨_, I', hA⟩ := hs
      exact hA.kept.below (fun _ _ hf => hf)
    cases e with
    | normal => exact fin hq
    | ret => exact fin hq
    | _ => exact hq.elim
  · have hE0 : ∀ t g v, lkp (argE 0 args) t = some (g, v) → g = true ∧ args[t]? = some v := by
      intro t g v ht
      rw [argE_lkp] at ht
      simp only [Nat.zero_le, if_true, Nat.sub_zero, Option.map_eq_some_iff, Prod.mk.injEq] at ht
      obtain ⟨u, hu, rfl, rfl⟩ := ht
      exact ⟨rfl, hu⟩
    refine ⟨⟨?_, ?_⟩, I, ?_, rfl, ?_, ?_, ?_, ?_, Kept.refl _ _, by intro p hp; cases hp⟩
    · intro t g v ht _
      have := (hE0 t g v ht).2
      rw [hnm v (List.mem_of_getElem? this)]
      simp [DomOK]
    · intro k cs T hk; simp [lkp] at hk
    · simp; omega
    · intro t g v ht
      obtain ⟨rfl, hv⟩ := hE0 t g v ht
      have hlt : t < args.length := (List.getElem?_eq_some_iff.1 hv).1
      rw [Array.getElem?_append_left (by simpa using hlt)]
      simp [hv]
    · intro k cs T hk; simp [lkp] at hk
    · intro k k' hk; simp [lkp] at hk
    · intro k hk; simp [lkp] at hk
end
end Go.Sx
