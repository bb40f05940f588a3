import Derived.Test.YtbkhkbfjfblbjaaSx11
namespace Go.Sx
open Go.RowKit

def purgeE (ds : List Nat) : List Nat → List (Nat × Bool × SV) → List (Nat × Bool × SV)
  | _, [] => []
  | seen, (t, e) :: r =>
    if seen.contains t then purgeE ds seen r
    else if e.2.names.any (fun k => ds.contains k) then purgeE ds (t :: seen) r
    else (t, e) :: purgeE ds (t :: seen) r
def purgeH (ds : List Nat) : List Nat → List (Nat × Blk) → List (Nat × Blk)
  | _, [] => []
  | seen, (t, e) :: r =>
    if seen.contains t then purgeH ds seen r
    else if ds.contains t then purgeH ds (t :: seen) r
    else (t, e) :: purgeH ds (t :: seen) r
def cleanH (ds : List Nat) : List (Nat × Blk) → Bool
  | [] => true
  | (_, e) :: r => !((e.1.flatMap C.names).any fun k => ds.contains k) && cleanH ds r
def purge (ds : List Nat) (s : St) : St := ⟨purgeE ds [] s.e, purgeH ds [] s.h⟩

theorem purgeE_lkp (ds : List Nat) : ∀ (l : List (Nat × Bool × SV)) (seen : List Nat) (t : Nat) (e : Bool × SV), lkp (purgeE ds seen l) t = some e → seen.contains t = false ∧ lkp l t = some e ∧ e.2.names.any (fun k => ds.contains k) = false
  | [], _, t, e, h => by simp [purgeE, lkp] at h
  | (k, u) :: r, seen, t, e, h => by
    simp only [purgeE] at h
    split at h
    · rename_i hs
      obtain ⟨h1, h2, h3⟩ := purgeE_lkp ds r seen t e h
      have : t ≠ k := by intro he; subst he; rw [hs] at h1; simp at h1
      exact ⟨h1, by simp only [lkp, if_neg this]; exact h2, h3⟩
    · rename_i hs
      have step : lkp (purgeE ds (k :: seen) r) t = some e → seen.contains t = false ∧ lkp ((k, u) :: r) t = some e ∧ e.2.names.any (fun k => ds.contains k) = false := by
        intro h
        obtain ⟨h1, h2, h3⟩ := purgeE_lkp ds r (k :: seen) t e h
        simp only [List.contains_cons, Bool.or_eq_false_iff, beq_eq_false_iff_ne] at h1
        exact ⟨h1.2, by simp only [lkp, if_neg h1.1]; exact h2, h3⟩
      split at h
      · exact step h
      · rename_i hd
        by_cases ht : t = k
        · subst ht
          simp only [lkp, if_true, Option.some.injEq] at h
          subst h
          exact ⟨by simpa using hs, by simp [lkp], by simpa using hd⟩
        · simp only [lkp, if_neg ht] at h
          exact step h
theorem purgeH_lkp (ds : List Nat) : ∀ (l : List (Nat × Blk)) (seen : List Nat) (t : Nat) (e : Blk), lkp (purgeH ds seen l) t = some e → seen.contains t = false ∧ lkp l t = some e
  | [], _, t, e, h => by simp [purgeH, lkp] at h
  | (k, u) :: r, seen, t, e, h => by
    simp only [purgeH] at h
    split at h
    · rename_i hs
      obtain ⟨h1, h2⟩ := purgeH_lkp ds r seen t e h
      have : t ≠ k := by intro he; subst he; rw [hs] at h1; simp at h1
      exact ⟨h1, by simp only [lkp, if_neg this]; exact h2⟩
    · rename_i hs
      have step : lkp (purgeH ds (k :: seen) r) t = some e → seen.contains t = false ∧ lkp ((k, u) :: r) t = some e := by
        intro h
        obtain ⟨h1, h2⟩ := purgeH_lkp ds r (k :: seen) t e h
        simp only [List.contains_cons, Bool.or_eq_false_iff, beq_eq_false_iff_ne] at h1
        exact ⟨h1.2, by simp only [lkp, if_neg h1.1]; exact h2⟩
      split at h
      · exact step h
      · by_cases ht : t = k
        · subst ht
          simp only [lkp, if_true, Option.some.injEq] at h
          subst h
          exact ⟨by simpa using hs, by simp [lkp]⟩
        · simp only [lkp, if_neg ht] at h
          exact step h
theorem purgeH_keep (ds : List Nat) : ∀ (l : List (Nat × Blk)) (seen : List Nat) (t : Nat), seen.contains t = false → ds.contains t = false → lkp (purgeH ds seen l) t = lkp l t
  | [], _, t, _, _ => rfl
  | (k, u) :: r, seen, t, h1, h2 => by
    simp only [purgeH]
    by_cases ht : t = k
    · subst ht
      rw [h1, h2]; simp [lkp]
    · have h3 : (k :: seen).contains t = false := by simp only [List.contains_cons, Bool.or_eq_false_iff, beq_eq_false_iff_ne]; exact ⟨ht, h1⟩
      split
      · rw [purgeH_keep ds r seen t h1 h2]; simp [lkp, ht]
      · split
        · rw [purgeH_keep ds r _ t h3 h2]; simp [lkp, ht]
        · simp only [lkp, if_neg ht]; exact purgeH_keep ds r _ t h3 h2

theorem cleanH_spec {ds : List Nat} : ∀ {l : List (Nat × Blk)}, cleanH ds l = true → ∀ t e, lkp l t = some e → ∀ k ∈ e.1.flatMap C.names, ds.contains k = false
  | [], _, t, e, h => by simp [lkp] at h
  | (k0, u) :: r, hc, t, e, h => by
    simp only [cleanH, Bool.and_eq_true, Bool.not_eq_true', List.any_eq_false] at hc
    simp only [lkp] at h
    split at h
    · simp only [Option.some.injEq] at h; subst h
      intro k hk
      have := hc.1 k hk
      simpa using this
    · exact cleanH_spec hc.2 t e h

theorem purge_sub {ds : List Nat} {s : St} (hW : WF (lkp s.e) (lkp s.h)) (hc : cleanH ds (purgeH ds [] s.h) = true) : Sub s (purge ds s) := by
  refine ⟨fun p _ h => (purgeE_lkp ds _ _ _ _ h).2.1, fun p _ h => (purgeH_lkp ds _ _ _ _ h).2, ?_, ?_⟩
  · intro t g v h hg k hk
    obtain ⟨_, h2, h3⟩ := purgeE_lkp ds _ _ _ _ h
    have hd : ds.contains k = false := by
      rw [List.any_eq_false] at h3
      simpa using h3 k hk
    show (lkp (purgeH ds [] s.h) k).isSome = true
    rw [purgeH_keep ds _ _ _ (by simp) hd]
    exact hW.e t g v h2 hg k hk
  · intro k cs T h j hj
    have hd := cleanH_spec hc k (cs, T) h j hj
    show (lkp (purgeH ds [] s.h) j).isSome = true
    rw [purgeH_keep ds _ _ _ (by simp) hd]
    exact hW.h k cs T (purgeH_lkp ds _ _ _ _ h).2 j hj

section
variable {P : Program} {M : Ctx} {w0 : World} {n : Nat}

/-- a loop of a few rounds; the blocks ds are a round's own -/
def roundsV (M : Ctx) (w0 : World) (sp : List (Spec P)) (n : Nat) (ds : List Nat) : Nat → Code → St → (Exit → St → Prop) → Prop
  | 0, _, _, _ => False
  | k + 1, c, s, Q => vc M w0 sp n c s (thenQ (fun s' => cleanH ds (purgeH ds [] s'.h) = true ∧ roundsV M w0 sp n ds k c (purge ds s') Q) Q)

def rndK (M : Ctx) (w0 : World) (sp : List (Spec P)) (n : Nat) (ds : List Nat) (k : Nat) (c : Code) (Q : Exit → St → Prop) : St → Prop :=
  fun s' => cleanH ds (purgeH ds [] s'.h) = true ∧ roundsV M w0 sp n ds k c (purge ds s') Q
theorem e_rounds (sp : List (Spec P)) (ds : List Nat) (k : Nat) (c : Code) (s : St) (Q : Exit → St → Prop) : roundsV M w0 sp n ds (k + 1) c s Q = vc M w0 sp n c s (thenQ (rndK M w0 sp n ds k c Q) Q) := rfl
theorem e_rndK (sp : List (Spec P)) (ds : List Nat) (k : Nat) (c : Code) (s : St) (Q : Exit → St → Prop) : rndK M w0 sp n ds k c Q s = (cleanH ds (purgeH ds [] s.h) = true ∧ roundsV M w0 sp n ds k c (purge ds s) Q) := rfl

theorem tri_rounds (sp : List (Spec P)) (ds : List Nat) {c : Code} {Q : Exit → St → Prop} (k : Nat) {s : St} (h : roundsV M w0 sp n ds k c s Q) : Tri (P := P) M w0 n (.loop c) s Q := by
  intro a w hs
  refine wp_loop_rounds k ?_
  have : ∀ k s a w, roundsV M w0 sp n ds k c s Q → Holds M w0 n s a w → Code.rounds P c (postOf M w0 n Q) k a w := by
    intro k
    induction k with
    | zero => intro s a w h; exact h.elim
    | succ k ih =>
      intro s a w h hs
      rw [rounds_succ]
      refine Code.wp_mono ?_ (vc_ok sp c s _ h a w hs)
      rintro e a' w' ⟨s', hq, hs'⟩
      cases e with
      | normal => exact ih _ a' w' hq.2 (hs'.sub (purge_sub hs'.1 hq.1))
      | _ => exact ⟨s', hq, hs'⟩
  exact this k s a w h hs

/-- results, and that some blocks hold what they held -/
def retQH (P : Program) (rs : List ResultVar) (R : Value → Prop) (H0 : List (Nat × Blk)) : Exit → St → Prop
  | .normal, s => ∃ vs, resAll P s rs = some vs ∧ R (resV vs) ∧ ∀ p ∈ H0, lkp s.h p.1 = lkp H0 p.1
  | .ret, s => ∃ vs, resAll P s rs = some vs ∧ R (resV vs) ∧ ∀ p ∈ H0, lkp s.h p.1 = lkp H0 p.1
  | _, _ => False
theorem e_retH1 (rs : List ResultVar) (R : Value → Prop) (H0 : List (Nat × Blk)) (s : St) : retQH P rs R H0 .normal s = ∃ vs, resAll P s rs = some vs ∧ R (resV vs) ∧ ∀ p ∈ H0, lkp s.h p.1 = lkp H0 p.1 := rfl
theorem e_retH2 (rs : List ResultVar) (R : Value → Prop) (H0 : List (Nat × Blk)) (s : St) : retQH P rs R H0 .ret s = ∃ vs, resAll P s rs = some vs ∧ R (resV vs) ∧ ∀ p ∈ H0, lkp s.h p.1 = lkp H0 p.1 := rfl

/-- a call whose arguments lead to blocks; it reads them alone -/
theorem calls_vcH {f : FuncId} {fn : Func} {c : Code} (hf : P.funcs[f]? = some fn) (hb : fn.body = some c) (sp : List (Spec P)) (args : List SV) (H0 : List (Nat × Blk)) (I : Nat → Nat) (w : World) (R : Value → Prop)
    (hnm : ∀ v ∈ args, DomOK v.names (lkp H0)) (hH : ∀ k cs T, lkp H0 k = some (cs, T) → cs.flatMap C.names = []) (hA : AtH I (lkp H0) w) (hinj : ∀ k k', (lkp H0 k).isSome = true → (lkp H0 k').isSome = true → I k = I k' → k = k')
    (hbig : ∀ p ∈ H0, fn.ntmps ≤ p.1) (hn : args.length ≤ fn.ntmps) (h : ∀ M, vc M w sp fn.ntmps c ⟨argE 0 args, H0⟩ (retQH P fn.results.toList R H0)) :
    Calls P f (args.map (SV.den I)).toArray w (fun e w' => ∃ v, e = .returned v ∧ R v ∧ Below w.heap.size w w') := by
  let F : List (Nat × Nat) := H0.map fun p => (p.1, I p.1)
  let M : Ctx := ⟨fun b => ∃ k, (lkp H0 k).isSome = true ∧ I k = b, F⟩
  have hF : ∀ k, (lkp H0 k).isSome = true → (k, I k) ∈ F := by
    intro k hk
    obtain ⟨v, hv⟩ := Option.isSome_iff_exists.1 hk
    exact List.mem_map.2 ⟨(k, v), lkp_mem hv, rfl⟩
  refine calls_of_wp hf hb (Code.wp_mono ?_ (vc_ok sp c _ _ (h M) _ w ?_))
  · rintro e a w' ⟨s, hq, hs⟩
    have fin : (∃ vs, resAll P s fn.results.toList = some vs ∧ R (resV vs) ∧ ∀ p ∈ H0, lkp s.h p.1 = lkp H0 p.1) → a.defers = [] ∧ ∃ v, (results fn a.tmps).run P w' = .ok v w' ∧ ∃ v', Ending.returned v = .returned v' ∧ R v' ∧ Below w.heap.size w w' := by
      rintro ⟨vs, h1, h2, h3⟩
      refine ⟨hs.defers, resV vs, results_ok hs h1, resV vs, rfl, h2, ?_⟩
      obtain ⟨_, I', hA'⟩ := hs
      refine ⟨hA'.kept.os, hA'.kept.tape, hA'.kept.output, hA'.kept.size, fun b hb => ?_⟩
      by_cases hm : M.M b
      · obtain ⟨k, hk, rfl⟩ := hm
        obtain ⟨⟨cs, T⟩, hv⟩ := Option.isSome_iff_exists.1 hk
        have e1 := h3 (k, cs, T) (lkp_mem hv)
        simp only at e1
        rw [hv] at e1
        have e2 := hA'.h k cs T e1
        have e3 := hA k cs T hv
        have e4 : I' k = I k := (hA'.fix _ (hF k hk)).2
        rw [e4] at e2
        rw [e2, e3]
        have hn0 := hH k cs T hv
        rw [map_den_congr (I := I) (I' := I') (by simp [hn0])]
      · exact hA'.kept.block b hb hm
    cases e with
    | normal => exact fin hq
    | ret => exact fin hq
    | _ => exact hq.elim
  · have hE0 : ∀ t g v, lkp (argE 0 args) t = some (g, v) → g = true ∧ args[t]? = some v := by
      intro t g v ht
      rw [argE_lkp] at ht
      simp only [Nat.zero_le, if_true, Nat.sub_zero, Option.map_eq_some_iff, Prod.mk.injEq] at ht
      obtain ⟨u, hu, rfl, rfl⟩ := ht
      exact ⟨rfl, hu⟩
    refine ⟨⟨?_, ?_⟩, I, ?_, rfl, ?_, hA, hinj, ?_, Kept.refl _ _, ?_⟩
    · intro t g v ht _
      have := (hE0 t g v ht).2
      exact hnm v (List.mem_of_getElem? this)
    · intro k cs T hk
      rw [hH k cs T hk]; simp [DomOK]
    · simp; omega
    · intro t g v ht
      obtain ⟨rfl, hv⟩ := hE0 t g v ht
      have hlt : t < args.length := (List.getElem?_eq_some_iff.1 hv).1
      rw [Array.getElem?_append_left (by simpa using hlt)]
      simp [hv]
    · intro k hk
      exact .inr ⟨k, hk, rfl⟩
    · intro p hp
      obtain ⟨q, hq, rfl⟩ := List.mem_map.1 hp
      exact ⟨hbig q hq, rfl⟩
end
end Go.Sx
