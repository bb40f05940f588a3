import Derived.Test.YtbkhkbfjfblbjaaSx7
namespace Go.Sx
open Go.RowKit

def cnt (D : Nat → Bool) : Nat → Nat
  | 0 => 0
  | k + 1 => cnt D k + if D k then 0 else 1
theorem cnt_zero {D : Nat → Bool} : ∀ {m : Nat}, cnt D m = 0 → ∀ i, i < m → D i = true
  | m + 1, h, i, hi => by
    simp only [cnt] at h
    by_cases he : i = m
    · subst he
      cases hD : D i with
      | true => rfl
      | false => simp [hD] at h
    · exact cnt_zero (m := m) (by omega) i (by omega)
theorem cnt_congr {D D' : Nat → Bool} : ∀ {m : Nat}, (∀ i, i < m → D i = D' i) → cnt D m = cnt D' m
  | 0, _ => rfl
  | m + 1, h => by simp only [cnt]; rw [cnt_congr (m := m) (fun i hi => h i (by omega)), h m (by omega)]
theorem cnt_set {D : Nat → Bool} {i : Nat} (hD : D i = false) : ∀ {m : Nat}, i < m → cnt (fun j => D j || j == i) m + 1 = cnt D m
  | m + 1, hi => by
    simp only [cnt]
    by_cases he : i = m
    · subst he
      rw [cnt_congr (D := fun j => D j || j == i) (D' := D) (m := i) (fun j hj => by
        have hji : (j == i) = false := by simp; omega
        simp [hji])]
      simp [hD]
    · have := cnt_set hD (m := m) (by omega)
      have h2 : (m == i) = false := by simp; omega
      simp only [h2, Bool.or_false]
      omega

section
variable {P : Program} {sp : List (Spec P)} {n : Nat} {ops : Array Oper} {M : Ctx} {w0 : World} {E : Env} {H : Hp} {xs : List Wr} {fs : List (Option (List Nat))} {Q : Exit → Act → World → Prop}

theorem binds_any {e : Edge} (h : Region.binds .any e = true) (md : Region.Mode) : Region.binds md e = true := by
  unfold Region.binds at *
  split at h <;> simp_all

theorem any_wpAny (hrun : RunL sp n ops ops.toList E H xs fs) (hchk : chk ops xs fs = true)
    (hQ : ∀ a w I, WF (stFinE xs E) (stFinH xs H) → At M w0 n I (stFinE xs E) (stFinH xs H) a w → Q .normal a w) (md : Region.Mode) :
    ∀ (fuel : Nat) (listed : Array Bool) (D : Nat → Bool) (a : Act) (w : World) (I : Nat → Nat), listed.size = ops.size → (∀ i, i < ops.size → listed.getD i false = D i) → cnt D ops.size = fuel → Closed ops D →
      WF (foldE xs 0 D E) (foldH xs 0 D H) → At M w0 n I (foldE xs 0 D E) (foldH xs 0 D H) a w → wpAny P md ops Q fuel listed a w := by
  have hfwd : fwd ops = true := by simp only [chk, Bool.and_eq_true] at hchk; exact hchk.1
  obtain ⟨hl1, hl2⟩ := RunL_len hrun
  have hsz : ops.toList.length = ops.size := Array.length_toList
  rw [hsz] at hl1 hl2
  have fin : ∀ (D : Nat → Bool), (∀ i, i < ops.size → D i = true) → foldE xs 0 D E = stFinE xs E ∧ foldH xs 0 D H = stFinH xs H := by
    intro D hD
    constructor
    · funext t
      exact foldE_agree t xs 0 D _ E E rfl (fun j y e hy _ => by
        have : j < xs.length := (List.getElem?_eq_some_iff.1 hy).1
        rw [Nat.zero_add]; exact hD j (by omega))
    · funext t
      exact foldH_agree t xs 0 D _ H H rfl (fun j y e hy _ => by
        have : j < xs.length := (List.getElem?_eq_some_iff.1 hy).1
        rw [Nat.zero_add]; exact hD j (by omega))
  -- the first that has not been stands ready
  have ready_nil : ∀ (listed : Array Bool) (D : Nat → Bool), listed.size = ops.size → (∀ i, i < ops.size → listed.getD i false = D i) → Region.ready md ops listed = [] → ∀ i, i < ops.size → D i = true := by
    intro listed D hls hL hnil
    obtain ⟨rk, hrk⟩ := fwd_rank hfwd md
    have : ∀ k i, rk i = k → i < ops.size → D i = true := by
      intro k
      induction k using Nat.strongRecOn with
      | _ k ih =>
        intro i hk hi
        cases hDi : D i with
        | true => rfl
        | false =>
          have : i ∈ Region.ready md ops listed := by
            rw [mem_ready]
            refine ⟨?_, ops[i], Array.getElem?_eq_getElem hi, fun e he hb => ?_⟩
            · have h1 := hL i hi
              rw [hDi] at h1
              have hil : i < listed.size := by omega
              simp only [Array.getD_eq_getD_getElem?, Array.getElem?_eq_getElem hil, Option.getD_some] at h1 ⊢
              exact h1
            · obtain ⟨hon, hlt⟩ := hrk i ops[i] (Array.getElem?_eq_getElem hi) e he hb
              rw [hL e.on hon]
              exact ih (rk e.on) (by omega) e.on rfl hon
          rw [hnil] at this
          simp at this
    exact fun i hi => this _ i rfl hi
  intro fuel
  induction fuel with
  | zero =>
    intro listed D a w I hls hL hcnt hcl hW hA
    have hall := cnt_zero hcnt
    obtain ⟨f1, f2⟩ := fin D hall
    rw [f1, f2] at hW hA
    refine ⟨?_, hQ a w I hW hA⟩
    cases hr : Region.ready md ops listed with
    | nil => rfl
    | cons i r =>
      have hi : i ∈ Region.ready md ops listed := by rw [hr]; exact List.mem_cons_self ..
      rw [mem_ready] at hi
      obtain ⟨h1, o, ho, _⟩ := hi
      have hlt : i < ops.size := (Array.getElem?_eq_some_iff.1 ho).1
      have h2 := hL i hlt
      have hil : i < listed.size := by omega
      simp only [Array.getD_eq_getD_getElem?, Array.getElem?_eq_getElem hil, Option.getD_some] at h1 h2
      rw [h1] at h2
      rw [hall i hlt] at h2
      simp at h2
  | succ fuel ih =>
    intro listed D a w I hls hL hcnt hcl hW hA
    constructor
    · intro hnil
      have hall := ready_nil listed D hls hL hnil
      obtain ⟨f1, f2⟩ := fin D hall
      rw [f1, f2] at hW hA
      exact hQ a w I hW hA
    · intro i hi
      rw [mem_ready] at hi
      obtain ⟨h1, o, ho, hdeps⟩ := hi
      have hlt : i < ops.size := (Array.getElem?_eq_some_iff.1 ho).1
      have hil : i < listed.size := by omega
      have hDi : D i = false := by
        have h2 := hL i hlt
        simp only [Array.getD_eq_getD_getElem?, Array.getElem?_eq_getElem hil, Option.getD_some] at h1 h2
        rw [← h2]; exact h1
      have hdep : ∀ k, Dep ops i k → D k = true := by
        rintro k ⟨o', ho', e, he, hb, rfl⟩
        rw [ho] at ho'
        simp only [Option.some.injEq] at ho'
        subst ho'
        have h3 := hdeps e he (binds_any hb md)
        rw [← hL e.on (plain_lt hfwd ho he hb)]
        exact h3
      refine wpOp_mono ?_ (any_step hrun hchk hcl ho hDi hdep hW hA)
      rintro a' w' ⟨hW', I', hA'⟩
      refine ih (listed.setIfInBounds i true) (fun j => D j || j == i) a' w' I' (by simp [hls]) ?_ ?_ ?_ hW' hA'
      · intro j hj
        by_cases hji : j = i
        · subst hji; simp [hil]
        · have := hL j hj
          rw [getD_set_ne false (Ne.symm hji), this]
          simp [hji]
      · have := cnt_set hDi hlt
        omega
      · intro j k hj hd
        simp only [Bool.or_eq_true, beq_iff_eq] at hj ⊢
        rcases hj with hj | rfl
        · exact .inl (hcl j k hj hd)
        · exact .inl (hdep k hd)

theorem At.drawn {I : Nat → Nat} {a : Act} {w : World} (h : At M w0 n I E H a w) (k : Nat) : At M w0 n I E H a { w with drawn := k } :=
  ⟨h.n, h.d, h.e, h.h, h.inj, h.own, ⟨h.kept.os, h.kept.tape, h.kept.output, h.kept.size, h.kept.block⟩, h.fix⟩

/-- a region that draws its order, run in the order of the text -/
theorem region_draw {id : Nat} {a : Act} {w : World} {I : Nat → Nat} (hrun : RunL sp n ops ops.toList E H xs fs) (hchk : chk ops xs fs = true) (hW : WF E H) (hA : At M w0 n I E H a w)
    (hQ : ∀ a w I, WF (stFinE xs E) (stFinH xs H) → At M w0 n I (stFinE xs E) (stFinH xs H) a w → Q .normal a w) : (Code.region id ops true).wp P Q a w := by
  refine wp_region_draw fun t => ?_
  have key : ∀ md t, wpOps P ops Q (Region.linearise md ops t) a { w with drawn := w.drawn + 1 } := by
    intro md t
    refine wpAny_sound ops.size t (Array.replicate ops.size false) a _ ?_
    refine any_wpAny hrun hchk hQ md ops.size _ (fun _ => false) a _ I (by simp) (by intro i hi; simp [hi]) ?_ ?_ ?_ ?_
    · have : ∀ m, cnt (fun _ => false) m = m := by
        intro m
        induction m with
        | zero => rfl
        | succ m ih => simp [cnt, ih]
      exact this _
    · intro j k hj; simp at hj
    · rw [foldE_false _ _ _ _ (fun _ => rfl), foldH_false _ _ _ _ (fun _ => rfl)]; exact hW
    · rw [foldE_false _ _ _ _ (fun _ => rfl), foldH_false _ _ _ _ (fun _ => rfl)]; exact hA.drawn _
  unfold Region.schedule
  split
  · exact key _ _
  · exact key _ _

theorem text_ops : ∀ (l : List Oper) (s : Nat) (E : Env) (H : Hp) (xs : List Wr) (fs : List (Option (List Nat))) (a : Act) (w : World) (I : Nat → Nat), (∀ j, l[j]? = ops[s + j]?) → RunL sp n ops l E H xs fs → WF E H → At M w0 n I E H a w →
    (∀ a w I, WF (foldE xs 0 (fun _ => true) E) (foldH xs 0 (fun _ => true) H) → At M w0 n I (foldE xs 0 (fun _ => true) E) (foldH xs 0 (fun _ => true) H) a w → Q .normal a w) → wpOps P ops Q (List.range' s l.length) a w
  | [], s, E, H, xs, fs, a, w, I, hl, hrun, hW, hA, hQ => by
    have := (RunL_len hrun).1
    simp only [List.length_nil, List.length_eq_zero_iff] at this
    subst this
    exact hQ a w I hW hA
  | o :: l, s, E, H, x :: xs, f :: fs, a, w, I, hl, hrun, hW, hA, hQ => by
    obtain ⟨c, hs, hc, hr⟩ := hrun
    have ho : ops[s]? = some o := by have := hl 0; simp only [List.getElem?_cons_zero, Nat.add_zero] at this; exact this.symm
    rw [List.length_cons, List.range'_succ, wpOps_cons]
    refine wpOp_mono ?_ (opG_ok ho hA hW hs hc)
    rintro a' w' ⟨hW', I', hA'⟩
    have gen : ∀ (ys : List Wr) (i j : Nat) (E : Env), foldE ys i (fun _ => true) E = foldE ys j (fun _ => true) E := by
      intro ys
      induction ys with
      | nil => intro i j E; rfl
      | cons y ys ih => intro i j E; simp only [foldE]; exact ih _ _ _
    have genH : ∀ (ys : List Wr) (i j : Nat) (E : Hp), foldH ys i (fun _ => true) E = foldH ys j (fun _ => true) E := by
      intro ys
      induction ys with
      | nil => intro i j E; rfl
      | cons y ys ih => intro i j E; simp only [foldH]; exact ih _ _ _
    refine text_ops l (s + 1) _ _ xs fs a' w' I' (fun j => by have := hl (j + 1); simp only [List.getElem?_cons_succ] at this; rw [this]; congr 1; omega) hr hW' hA' ?_
    intro a2 w2 I2 hW2 hA2
    refine hQ a2 w2 I2 ?_ ?_
    · simp only [foldE, foldH, if_true]; rw [gen xs (0 + 1) 0, genH xs (0 + 1) 0]; exact hW2
    · simp only [foldE, foldH, if_true]; rw [gen xs (0 + 1) 0, genH xs (0 + 1) 0]; exact hA2
  | _ :: _, _, _, _, [], _, _, _, _, _, hrun, _, _, _ => by simp [RunL] at hrun
  | _ :: _, _, _, _, _ :: _, [], _, _, _, _, hrun, _, _, _ => by simp [RunL] at hrun

/-- a region in the order of the text -/
theorem region_text {id : Nat} {a : Act} {w : World} {I : Nat → Nat} (hrun : RunL sp n ops ops.toList E H xs fs) (hW : WF E H) (hA : At M w0 n I E H a w)
    (hQ : ∀ a w I, WF (stFinE xs E) (stFinH xs H) → At M w0 n I (stFinE xs E) (stFinH xs H) a w → Q .normal a w) : (Code.region id ops false).wp P Q a w := by
  refine wp_region ?_
  have := text_ops (Q := Q) ops.toList 0 E H xs fs a w I (fun j => by simp [Array.getElem?_toList]) hrun hW hA hQ
  rwa [Array.length_toList, ← List.range_eq_range'] at this
end
end Go.Sx
