/- The document's graph and the program's are the same, for any statements. No conditions but those in each statement. -/
import Derived.Test.YtiipmaoonnjlpaaLq5
set_option linter.unusedVariables false
set_option linter.unusedSimpArgs false
namespace Go.Proofs.Ytiipmaoonnjlpaa
open Go Go.Sy Go.RowKit
/- changes of single nodes -/
abbrev Up := Nat × (Nd → Nd)
def up (l : List Nd) (u : Up) : List Nd := l.set u.1 (u.2 (l.getD u.1 nd0))
def run (U : List Up) (l : List Nd) : List Nd := U.foldl up l
theorem run_nil (l : List Nd) : run [] l = l := rfl
theorem run_cons (u : Up) (U : List Up) (l : List Nd) : run (u :: U) l = run U (up l u) := rfl
theorem run_add (U V : List Up) (l : List Nd) : run (U ++ V) l = run V (run U l) := List.foldl_append
theorem up_len (l : List Nd) (u : Up) : (up l u).length = l.length := by simp [up]
theorem run_len : ∀ (U : List Up) (l : List Nd), (run U l).length = l.length
  | [], l => rfl
  | u :: U, l => by rw [run_cons, run_len U, up_len]
theorem up_app {a b : List Nd} {u : Up} (h : u.1 < a.length) : up (a ++ b) u = up a u ++ b := by
  unfold up
  rw [List.set_append_left _ _ h]
  have : (a ++ b).getD u.1 nd0 = a.getD u.1 nd0 := by simp [List.getD, List.getElem?_append_left h]
  rw [this]
theorem up_new {a b : List Nd} {x : Nd} {F : Nd → Nd} {n : Nat} (h : n = a.length) : up (a ++ x :: b) (n, F) = a ++ F x :: b := by
  subst h
  unfold up
  dsimp only
  rw [List.set_append_right _ _ (Nat.le_refl _)]
  simp [List.getD]
theorem run_app {b : List Nd} : ∀ {U : List Up} {a : List Nd}, (∀ u ∈ U, u.1 < a.length) → run U (a ++ b) = run U a ++ b
  | [], a, h => rfl
  | u :: U, a, h => by
    rw [run_cons, run_cons, up_app (h u (List.mem_cons_self ..))]
    exact run_app fun v hv => by rw [up_len]; exact h v (List.mem_cons_of_mem _ hv)
def cm (u v : Up) : Prop := u.1 ≠ v.1 ∨ ∀ x, u.2 (v.2 x) = v.2 (u.2 x)
theorem up_comm {u v : Up} (h : cm u v) (l : List Nd) : up (up l u) v = up (up l v) u := by
  obtain ⟨i, F⟩ := u
  obtain ⟨j, G⟩ := v
  unfold up
  dsimp only [cm] at h ⊢
  by_cases e : i = j
  · subst e
    have h : ∀ x, F (G x) = G (F x) := h.resolve_left fun h => h rfl
    by_cases hi : i < l.length
    · simp [List.getD, hi, h]
    · have hi : l.length ≤ i := by omega
      simp [List.set_eq_of_length_le hi]
  · have e1 : (l.set i (F (l.getD i nd0))).getD j nd0 = l.getD j nd0 := by simp [List.getD, List.getElem?_set_ne e]
    have e2 : (l.set j (G (l.getD j nd0))).getD i nd0 = l.getD i nd0 := by simp [List.getD, List.getElem?_set_ne (Ne.symm e)]
    rw [e1, e2, List.set_comm _ _ e]
theorem run_up {u : Up} : ∀ {V : List Up} (l : List Nd), (∀ v ∈ V, cm u v) → up (run V l) u = run V (up l u)
  | [], l, h => rfl
  | v :: V, l, h => by rw [run_cons, run_cons, run_up _ fun w hw => h w (List.mem_cons_of_mem _ hw), up_comm (h v (List.mem_cons_self ..))]
theorem run_comm {V : List Up} : ∀ {U : List Up} (l : List Nd), (∀ u ∈ U, ∀ v ∈ V, cm u v) → run U (run V l) = run V (run U l)
  | [], l, h => rfl
  | u :: U, l, h => by rw [run_cons, run_cons, run_up _ (h u (List.mem_cons_self ..)), run_comm _ fun w hw => h w (List.mem_cons_of_mem _ hw)]
/- what comes of statements, all ways in place -/
section
variable (D : List Sm → Nat → Int → Int → List Nd) (c : List Sm → Nat)
def jn (s : Sm) (n : Nat) : Nat := n + 1 + c s.th + c s.el
def DS (s : Sm) (n : Nat) (K X : Int) : List Nd :=
  if (s.k == 10) = true then ⟨2, s, [if s.th.isEmpty = true then (jn c s n : Int) else ((n + 1 : Nat) : Int), if s.el.isEmpty = true then (jn c s n : Int) else ((n + 1 + c s.th : Nat) : Int)], false⟩ :: (D s.th (n + 1) (jn c s n) X ++ (D s.el (n + 1 + c s.th) (jn c s n) X ++ [⟨4, sm00, [K], false⟩]))
  else if (s.k == 11) = true then ⟨2, s, [if s.th.isEmpty = true then (n : Int) else ((n + 1 : Nat) : Int), K], true⟩ :: D s.th (n + 1) n X
  else [⟨1, s, [if (s.k == 9) = true then X else K], false⟩]
def ctS (s : Sm) : Nat := if (s.k == 10) = true then 2 + c s.th + c s.el else if (s.k == 11) = true then 1 + c s.th else 1
def DL : List Sm → Nat → Int → Int → List Nd
  | [], _, _, _ => []
  | s :: r, n, K, X => DS D c s n (if r.isEmpty = true then K else ((n + ctS c s : Nat) : Int)) X ++ DL r (n + ctS c s) K X
end
def ctL (c : List Sm → Nat) : List Sm → Nat
  | [] => 0
  | s :: r => ctS c s + ctL c r
def ctB : Nat → List Sm → Nat
  | 0 => fun _ => 0
  | m + 1 => ctL (ctB m)
def DB : Nat → List Sm → Nat → Int → Int → List Nd
  | 0 => fun _ _ _ _ => []
  | m + 1 => DL (DB m) (ctB m)
/- the program's -/
def oK (o b : Int) : List Up := if (o == -1) = true then [] else [(o.toNat, fun x => x.to b)]
def rK (l : List Int) (X : Int) : List Up := l.map fun r => (r.toNat, fun x => x.to X)
theorem lnkW_up (a b : Int) (w : Lw) : (lnkW a b w).l = up w.l (a.toNat, fun x => x.to b) := rfl
theorem lnkO_run (o b : Int) (w : Lw) : (lnkO o b w).l = run (oK o b) w.l := by
  unfold lnkO oK
  split <;> rfl
theorem lnkO_r (o b : Int) (w : Lw) : (lnkO o b w).r = w.r := by
  unfold lnkO
  split <;> rfl
theorem lnkR_run (X : Int) : ∀ (l : List Int) (w : Lw), (lnkR X l w).l = run (rK l X) w.l
  | [], w => rfl
  | r :: l, w => by simp only [lnkR]; rw [lnkR_run X l]; rfl
theorem oK_m {o b : Int} {u : Up} (h : u ∈ oK o b) : o ≠ -1 ∧ u = (o.toNat, fun x => x.to b) := by
  unfold oK at h
  split at h
  · cases h
  · rename_i hn
    exact ⟨fun e => hn (by rw [e]; rfl), List.mem_singleton.1 h⟩
theorem rK_m {l : List Int} {X : Int} {u : Up} (h : u ∈ rK l X) : ∃ r ∈ l, u = (r.toNat, fun x => x.to X) := by
  obtain ⟨r, h1, h2⟩ := List.mem_map.1 h
  exact ⟨r, h1, h2.symm⟩
/-- in a part of the nodes -/
def inN (a b : Nat) (i : Int) : Prop := (a : Int) ≤ i ∧ i < (b : Int)
def inO (a b : Nat) (i : Int) : Prop := i = -1 ∨ inN a b i
theorem oK_in {a b : Nat} {o K : Int} (h : inO a b o) : ∀ u ∈ oK o K, a ≤ u.1 ∧ u.1 < b := by
  intro u hu
  obtain ⟨h1, rfl⟩ := oK_m hu
  have := h.resolve_left h1
  obtain ⟨h2, h3⟩ := this
  exact ⟨by omega, by omega⟩
theorem rK_in {a b : Nat} {l : List Int} {X : Int} (h : ∀ r ∈ l, inN a b r) : ∀ u ∈ rK l X, a ≤ u.1 ∧ u.1 < b := by
  intro u hu
  obtain ⟨r, h1, rfl⟩ := rK_m hu
  obtain ⟨h2, h3⟩ := h r h1
  exact ⟨by omega, by omega⟩
structure FlS (w : Lw) (R : LR) (rn : List Int) (c : Nat) (Dd : Int → Int → List Nd) : Prop where
  r : R.2.r = w.r ++ rn
  ri : ∀ r ∈ rn, inN w.l.length (w.l.length + c) r
  o : inO w.l.length (w.l.length + c) R.1.2
  e : R.1.1 = (w.l.length : Int)
  len : R.2.l.length = w.l.length + c
  d : ∀ K X, run (rK rn X) (run (oK R.1.2 K) R.2.l) = w.l ++ Dd K X
structure FlL (p : Int × Int) (z : Bool) (l : List Sm) (w : Lw) (R : LR) (rn : List Int) (c : Nat) (Dd : Int → Int → List Nd) : Prop where
  r : R.2.r = w.r ++ rn
  ri : ∀ r ∈ rn, inN w.l.length (w.l.length + c) r
  o : R.1.2 = p.2 ∨ inO w.l.length (w.l.length + c) R.1.2
  e : R.1.1 = if (z && !l.isEmpty) = true then (w.l.length : Int) else p.1
  len : R.2.l.length = w.l.length + c
  d : ∀ K X, run (rK rn X) (run (oK R.1.2 K) R.2.l) = run (oK p.2 (if l.isEmpty = true then K else (w.l.length : Int))) w.l ++ Dd K X
def FlB (bl : List Sm → Lw → LR) (D : List Sm → Nat → Int → Int → List Nd) (c : List Sm → Nat) (m : Nat) : Prop :=
  ∀ l w, okD m l → ∃ rn, FlL (-1, -1) true l w (bl l w) rn (c l) (D l w.l.length)
theorem orI_e (z : Bool) (n J : Nat) : orI (if (true && !z) = true then (n : Int) else -1) (J : Int) = if z = true then (J : Int) else (n : Int) := by
  cases z
  · have : ((n : Int) == -1) = false := by simp
    simp [orI, this]
  · simp [orI]
theorem cm_ne {u v : Up} {a b c d : Nat} (h : a ≤ u.1 ∧ u.1 < b) (k : c ≤ v.1 ∧ v.1 < d) (g : b ≤ c ∨ d ≤ a) : cm u v := .inl (by omega)
theorem oK_1 (K : Int) : oK (-1) K = [] := rfl
theorem oK_n (n : Nat) (K : Int) : oK (n : Int) K = [(n, fun x => x.to K)] := by
  have : ((n : Int) == -1) = false := by simp
  simp [oK, this]
section
variable {bl : List Sm → Lw → LR} {D : List Sm → Nat → Int → Int → List Nd} {c : List Sm → Nat} {m : Nat} (hb : FlB bl D c m) {s : Sm} (h1 : okD m s.th) (h2 : okD m s.el) (w : Lw)
theorem fl_pla (hk : (s.k == 10) = false) (hk2 : (s.k == 11) = false) : ∃ rn, FlS w (plaL s w) rn (ctS c s) (DS D c s w.l.length) := by
  have e1 : ctS c s = 1 := by simp [ctS, hk, hk2]
  have e2 : ∀ K X, DS D c s w.l.length K X = [⟨1, s, [if (s.k == 9) = true then X else K], false⟩] := fun K X => by simp [DS, hk, hk2]
  by_cases hk9 : (s.k == 9) = true
  · have e : plaL s w = (((w.l.length : Int), -1), addR (w.l.length : Int) (addW 1 s false w)) := by simp [plaL, hk9]
    rw [e, e1]
    refine ⟨[(w.l.length : Int)], rfl, fun r hr => ?_, .inl rfl, rfl, addW_len 1 s false w, fun K X => ?_⟩
    · rw [List.mem_singleton.1 hr]; exact ⟨Int.le_refl _, by omega⟩
    · rw [e2, hk9]
      exact up_new rfl
  · have e : plaL s w = (((w.l.length : Int), (w.l.length : Int)), addW 1 s false w) := by simp [plaL, hk9]
    rw [e, e1]
    refine ⟨[], by simp [addW], (fun r hr => by cases hr), .inr ⟨Int.le_refl _, by show (w.l.length : Int) < _; omega⟩, rfl, addW_len 1 s false w, fun K X => ?_⟩
    rw [e2, if_neg hk9]
    dsimp only
    rw [oK_n]
    exact up_new rfl
include hb h1
theorem fl_loo (hk : (s.k == 10) = false) (hk2 : (s.k == 11) = true) : ∃ rn, FlS w (looL bl s w) rn (ctS c s) (DS D c s w.l.length) := by
  have e1 : ctS c s = 1 + c s.th := by simp [ctS, hk, hk2]
  have e2 : ∀ K X, DS D c s w.l.length K X = ⟨2, s, [if s.th.isEmpty = true then (w.l.length : Int) else ((w.l.length + 1 : Nat) : Int), K], true⟩ :: D s.th (w.l.length + 1) w.l.length X := fun K X => by simp [DS, hk, hk2]
  obtain ⟨rn, A⟩ := hb s.th (addW 2 s true w) h1
  have hA : loA bl s w = bl s.th (addW 2 s true w) := rfl
  rw [← hA] at A
  have hl : (addW 2 s true w).l.length = w.l.length + 1 := addW_len 2 s true w
  have hw : (addW 2 s true w).l = w.l ++ [⟨2, s, [], true⟩] := rfl
  obtain ⟨A1, A2, A3, A4, A5, A6⟩ := A
  rw [hl] at A2 A3 A4 A5 A6
  dsimp only at A3 A4 A6
  rw [hw] at A6
  have A3 : inO (w.l.length + 1) (w.l.length + 1 + c s.th) (loA bl s w).1.2 := A3.elim .inl id
  rw [e1]
  refine ⟨rn, ?_, fun r hr => ?_, .inr ⟨Int.le_refl _, by show (w.l.length : Int) < _; omega⟩, rfl, ?_, fun K X => ?_⟩
  · show (lo2 bl s w).r = _
    unfold lo2; rw [lnkO_r]; exact A1
  · have := A2 r hr; exact ⟨by have := this.1; omega, by have := this.2; omega⟩
  · show (lo2 bl s w).l.length = _
    unfold lo2; rw [lnkO_len]; unfold lo1; rw [lnkW_len]; omega
  · show run (rK rn X) (run (oK (w.l.length : Int) K) (lo2 bl s w).l) = _
    unfold lo2
    rw [lnkO_run]
    unfold lo1
    rw [lnkW_up, A4, orI_e, oK_n]
    have B := A6 (w.l.length : Int) X
    have q1 : ∀ (y : Int) (V : List Up), (∀ u ∈ V, w.l.length + 1 ≤ u.1 ∧ u.1 < w.l.length + 1 + c s.th) → ∀ v ∈ V, cm (w.l.length, fun x => x.to y) v := fun y V hV v hv => cm_ne (a := w.l.length) (b := w.l.length + 1) ⟨Nat.le_refl _, Nat.lt_succ_self _⟩ (hV v hv) (.inl (Nat.le_refl _))
    have o1 := oK_in (K := (w.l.length : Int)) A3
    have r1 := rK_in (X := X) A2
    show run (rK rn X) (up (run (oK (loA bl s w).1.2 (w.l.length : Int)) (up (loA bl s w).2.l (w.l.length, _))) (w.l.length, _)) = _
    rw [← run_up _ (q1 _ _ o1), ← run_up _ (q1 _ _ r1), ← run_up _ (q1 _ _ r1), B, e2, oK_1, run_nil, List.append_assoc]
    show up (up (w.l ++ (_ :: _)) _) _ = _
    rw [up_new rfl, up_new rfl]
    rfl
include h2
theorem fl_bra (hk : (s.k == 10) = true) : ∃ rn, FlS w (braL bl s w) rn (ctS c s) (DS D c s w.l.length) := by
  have e1 : ctS c s = 2 + c s.th + c s.el := by simp [ctS, hk]
  have e2 : ∀ K X, DS D c s w.l.length K X = ⟨2, s, [if s.th.isEmpty = true then (jn c s w.l.length : Int) else ((w.l.length + 1 : Nat) : Int), if s.el.isEmpty = true then (jn c s w.l.length : Int) else ((w.l.length + 1 + c s.th : Nat) : Int)], false⟩ :: (D s.th (w.l.length + 1) (jn c s w.l.length) X ++ (D s.el (w.l.length + 1 + c s.th) (jn c s w.l.length) X ++ [⟨4, sm00, [K], false⟩])) := fun K X => by simp [DS, hk]
  obtain ⟨ra, A⟩ := hb s.th (addW 2 s false w) h1
  have hA : brA bl s w = bl s.th (addW 2 s false w) := rfl
  rw [← hA] at A
  have hl : (addW 2 s false w).l.length = w.l.length + 1 := addW_len 2 s false w
  have hw : (addW 2 s false w).l = w.l ++ [⟨2, s, [], false⟩] := rfl
  obtain ⟨A1, A2, A3, A4, A5, A6⟩ := A
  rw [hl] at A2 A3 A4 A5 A6
  dsimp only at A3 A4 A6
  rw [hw] at A6
  have A3 : inO (w.l.length + 1) (w.l.length + 1 + c s.th) (brA bl s w).1.2 := A3.elim .inl id
  obtain ⟨rb, B⟩ := hb s.el (brA bl s w).2 h2
  have hB : brB bl s w = bl s.el (brA bl s w).2 := rfl
  rw [← hB] at B
  obtain ⟨B1, B2, B3, B4, B5, B6⟩ := B
  rw [A5] at B2 B3 B4 B5 B6
  dsimp only at B3 B4 B6
  have B3 : inO (w.l.length + 1 + c s.th) (w.l.length + 1 + c s.th + c s.el) (brB bl s w).1.2 := B3.elim .inl id
  have hJ : brJ bl s w = ((jn c s w.l.length : Nat) : Int) := by unfold brJ; rw [B5]; rfl
  have hJ2 : jn c s w.l.length = w.l.length + 1 + c s.th + c s.el := rfl
  have hJ3 : (brB bl s w).2.l.length = jn c s w.l.length := B5
  rw [e1]
  refine ⟨ra ++ rb, ?_, fun r hr => ?_, .inr ?_, rfl, ?_, fun K X => ?_⟩
  · show (br6 bl s w).r = _
    unfold br6 br5; rw [lnkO_r, lnkO_r]
    show (brB bl s w).2.r = _
    rw [B1, A1, List.append_assoc]
    rfl
  · rcases List.mem_append.1 hr with hr | hr
    · have := A2 r hr; exact ⟨by have := this.1; omega, by have := this.2; omega⟩
    · have := B2 r hr; exact ⟨by have := this.1; omega, by have := this.2; omega⟩
  · show inN _ _ (brJ bl s w)
    rw [hJ]
    exact ⟨by omega, by omega⟩
  · show (br6 bl s w).l.length = _
    simp only [br6, br5, br4, br3, br2, lnkO_len, lnkW_len, addW_len]
    omega
  · show run (rK (ra ++ rb) X) (run (oK (brJ bl s w) K) (br6 bl s w).l) = _
    unfold br6 br5 br4 br3 br2
    rw [lnkO_run, lnkO_run, lnkW_up, lnkW_up, A4, B4, hJ, orI_e, orI_e, oK_n, e2]
    have hn : (addW 4 sm00 false (brB bl s w).2).l = (brB bl s w).2.l ++ [⟨4, sm00, [], false⟩] := rfl
    rw [hn]
    have C := A6 (jn c s w.l.length : Int) X
    have G := B6 (jn c s w.l.length : Int) X
    have o1 := oK_in (K := (jn c s w.l.length : Int)) A3
    have r1 := rK_in (X := X) A2
    have o2 := oK_in (K := (jn c s w.l.length : Int)) B3
    have r2 := rK_in (X := X) B2
    have hr : rK (ra ++ rb) X = rK ra X ++ rK rb X := List.map_append
    rw [hr, oK_1, run_nil] at *
    generalize (if s.th.isEmpty = true then (jn c s w.l.length : Int) else ((w.l.length + 1 : Nat) : Int)) = f1
    generalize (if s.el.isEmpty = true then (jn c s w.l.length : Int) else ((w.l.length + 1 + c s.th : Nat) : Int)) = f2
    generalize (brB bl s w).2.l = LB at *
    generalize (brA bl s w).2.l = LA at *
    generalize oK (brA bl s w).1.2 (jn c s w.l.length : Int) = OA at *
    generalize oK (brB bl s w).1.2 (jn c s w.l.length : Int) = OB at *
    generalize rK ra X = RA at *
    generalize rK rb X = RB at *
    show run (RA ++ RB) (up (run OB (run OA (up (up (LB ++ [_]) (w.l.length, fun x => x.to f1)) (w.l.length, fun x => x.to f2)))) (jn c s w.l.length, fun x => x.to K)) = _
    rw [up_app (by dsimp only; omega), up_app (by dsimp only; rw [up_len]; omega), run_app (fun u hu => by have := o1 u hu; rw [up_len, up_len]; omega), run_app (fun u hu => by have := o2 u hu; rw [run_len, up_len, up_len]; omega), up_new (by rw [run_len, run_len, up_len, up_len]; omega)]
    have q1 : ∀ (y : Int) (V : List Up), (∀ u ∈ V, w.l.length + 1 ≤ u.1) → ∀ v ∈ V, cm (w.l.length, fun x => x.to y) v := fun y V hV v hv => .inl (by have := hV v hv; dsimp only; omega)
    have p1 := q1 f1 OB fun u hu => by have := o2 u hu; omega
    have p2 := q1 f2 OB fun u hu => by have := o2 u hu; omega
    have p3 := q1 f1 RB fun u hu => by have := r2 u hu; omega
    have p4 := q1 f2 RB fun u hu => by have := r2 u hu; omega
    have p5 := q1 f1 OA fun u hu => by have := o1 u hu; omega
    have p6 := q1 f2 OA fun u hu => by have := o1 u hu; omega
    have p7 := q1 f1 RA fun u hu => by have := r1 u hu; omega
    have p8 := q1 f2 RA fun u hu => by have := r1 u hu; omega
    have p9 : ∀ u ∈ OB, ∀ v ∈ OA, cm u v := fun u hu v hv => cm_ne (o2 u hu) (o1 v hv) (.inr (Nat.le_refl _))
    have p10 : ∀ u ∈ RB, ∀ v ∈ OA, cm u v := fun u hu v hv => cm_ne (r2 u hu) (o1 v hv) (.inr (Nat.le_refl _))
    have p11 : ∀ u ∈ RB, ∀ v ∈ RA, cm u v := fun u hu v hv => cm_ne (r2 u hu) (r1 v hv) (.inr (Nat.le_refl _))
    rw [run_app (fun u hu => by
      rw [run_len, run_len, up_len, up_len]
      rcases List.mem_append.1 hu with hu | hu
      · have := r1 u hu; omega
      · have := r2 u hu; omega)]
    rw [run_add, run_comm _ p11, run_comm _ p9, run_comm _ p10, ← run_up _ p2, ← run_up _ p1, ← run_up _ p4, ← run_up _ p3, G]
    rw [up_app (by dsimp only; omega), up_app (by rw [up_len]; dsimp only; omega), run_app (fun u hu => by have := o1 u hu; rw [up_len, up_len]; omega), run_app (fun u hu => by have := r1 u hu; rw [run_len, up_len, up_len]; omega)]
    rw [← run_up _ p6, ← run_up _ p5, ← run_up _ p8, ← run_up _ p7, C, List.append_assoc w.l]
    show up (up (w.l ++ (_ :: _)) _) _ ++ _ ++ _ = _
    rw [up_new rfl, up_new rfl]
    simp only [List.append_assoc, List.cons_append]
    rfl
theorem fl_S : ∃ rn, FlS w (lwS bl s w) rn (ctS c s) (DS D c s w.l.length) := by
  unfold lwS
  cases hk : (s.k == 10) with
  | true => exact fl_bra hb h1 h2 w hk
  | false =>
    cases hk2 : (s.k == 11) with
    | true => exact fl_loo hb h1 w hk hk2
    | false => exact fl_pla w hk hk2
end
theorem fl_L {bl : List Sm → Lw → LR} {D : List Sm → Nat → Int → Int → List Nd} {c : List Sm → Nat} {m : Nat} (hb : FlB bl D c m) :
    ∀ (l : List Sm) (z : Bool) (p : Int × Int) (w : Lw), (∀ s ∈ l, okD m s.th ∧ okD m s.el) → (p.2 = -1 ∨ 0 ≤ p.2 ∧ p.2 < (w.l.length : Int)) → ∃ rn, FlL p z l w (bkL (lwS bl) l z p w) rn (ctL c l) (DL D c l w.l.length)
  | [], z, p, w, hd, hp => ⟨[], (List.append_nil _).symm, (fun r hr => by cases hr), .inl rfl, by simp [bkL], rfl, fun K X => (List.append_nil _).symm⟩
  | s :: l, z, p, w, hd, hp => by
    obtain ⟨d1, d2⟩ := hd s (List.mem_cons_self ..)
    obtain ⟨rs, S⟩ := fl_S hb d1 d2 w
    obtain ⟨S1, S2, S3, S4, S5, S6⟩ := S
    have hl : (lnkO p.2 (lwS bl s w).1.1 (lwS bl s w).2).l.length = w.l.length + ctS c s := by rw [lnkO_len, S5]
    obtain ⟨rn, L⟩ := fl_L hb l false (if z = true then (lwS bl s w).1.1 else p.1, (lwS bl s w).1.2) (lnkO p.2 (lwS bl s w).1.1 (lwS bl s w).2) (fun s hs => hd s (List.mem_cons_of_mem _ hs)) (by
      rw [hl]
      exact S3.imp id fun h => ⟨by have := h.1; omega, h.2⟩)
    obtain ⟨L1, L2, L3, L4, L5, L6⟩ := L
    rw [hl] at L2 L3 L5 L6
    have hc : ctL c (s :: l) = ctS c s + ctL c l := rfl
    have hb2 : bkL (lwS bl) (s :: l) z p w = bkL (lwS bl) l false (if z = true then (lwS bl s w).1.1 else p.1, (lwS bl s w).1.2) (lnkO p.2 (lwS bl s w).1.1 (lwS bl s w).2) := rfl
    rw [← hb2] at L1 L3 L4 L5 L6
    generalize bkL (lwS bl) (s :: l) z p w = R at *
    refine ⟨rs ++ rn, ?_, fun r hr => ?_, .inr ?_, ?_, by omega, fun K X => ?_⟩
    · rw [L1, lnkO_r, S1, List.append_assoc]
    · rcases List.mem_append.1 hr with hr | hr
      · have := S2 r hr; exact ⟨this.1, by have := this.2; omega⟩
      · have := L2 r hr; exact ⟨by have := this.1; omega, by have := this.2; omega⟩
    · rcases L3 with e | h
      · rw [e]
        exact S3.imp id fun h => ⟨h.1, by have := h.2; dsimp only at this ⊢; omega⟩
      · exact h.imp id fun h => ⟨by have := h.1; omega, by have := h.2; omega⟩
    · rw [L4, S4]
      cases z <;> rfl
    · have hr : rK (rs ++ rn) X = rK rs X ++ rK rn X := List.map_append
      have G := L6 K X
      have H := S6 (if l.isEmpty = true then K else ((w.l.length + ctS c s : Nat) : Int)) X
      dsimp only at G
      have o1 := oK_in (K := (if l.isEmpty = true then K else ((w.l.length + ctS c s : Nat) : Int))) S3
      have r1 := rK_in (X := X) S2
      have r2 := rK_in (X := X) L2
      rw [lnkO_run, S4] at G
      have p1 : ∀ u ∈ oK p.2 (w.l.length : Int), u.1 < w.l.length := by
        intro u hu
        obtain ⟨h, rfl⟩ := oK_m hu
        have := hp.resolve_left h
        dsimp only; omega
      have c1 : ∀ u ∈ rK rn X, ∀ v ∈ rK rs X, cm u v := fun u hu v hv => cm_ne (r2 u hu) (r1 v hv) (.inr (Nat.le_refl _))
      rw [hr, run_add, run_comm _ c1, G, run_app (fun u hu => by have := r1 u hu; rw [run_len, run_len, S5]; omega)]
      have c2 : ∀ u ∈ oK (lwS bl s w).1.2 (if l.isEmpty = true then K else ((w.l.length + ctS c s : Nat) : Int)), ∀ v ∈ oK p.2 (w.l.length : Int), cm u v := fun u hu v hv => .inl (by have := o1 u hu; have := p1 v hv; omega)
      have c3 : ∀ u ∈ rK rs X, ∀ v ∈ oK p.2 (w.l.length : Int), cm u v := fun u hu v hv => .inl (by have := r1 u hu; have := p1 v hv; omega)
      rw [run_comm _ c2, run_comm _ c3, H, run_app p1, List.append_assoc]
      rfl
theorem fl_B : ∀ m, FlB (lwB m) (DB m) (ctB m) m
  | 0 => fun l w h => h.elim
  | m + 1 => fun l w h => fl_L (fl_B m) l true (-1, -1) w h.2 (.inl rfl)
/- the document's -/
def gK (f : List Pq) (t : Int) : List Up := f.map fun p => (p.1.toNat, fun x => x.st p.2 t)
theorem lnkG_run : ∀ (f : List Pq) (t : Int) (g : List Nd), lnkG f t g = run (gK f t) g
  | [], t, g => rfl
  | p :: f, t, g => by simp only [lnkG]; rw [lnkG_run f]; rfl
theorem gK_m {f : List Pq} {t : Int} {u : Up} (h : u ∈ gK f t) : ∃ p ∈ f, u = (p.1.toNat, fun x => x.st p.2 t) := by
  obtain ⟨r, h1, h2⟩ := List.mem_map.1 h
  exact ⟨r, h1, h2.symm⟩
theorem st_same (x : Nd) (i j t : Int) : (x.st i t).st j t = (x.st j t).st i t := by
  unfold Nd.st
  dsimp only
  by_cases e : i.toNat = j.toNat
  · rw [e]
  · rw [List.set_comm _ _ e]
theorem st_ne (x : Nd) {i j : Int} (h : i.toNat ≠ j.toNat) (t u : Int) : (x.st i t).st j u = (x.st j u).st i t := by
  unfold Nd.st
  dsimp only
  rw [List.set_comm _ _ h]
theorem gK_same (f r : List Pq) (t : Int) : ∀ u ∈ gK f t, ∀ v ∈ gK r t, cm u v := by
  intro u hu v hv
  obtain ⟨p, _, rfl⟩ := gK_m hu
  obtain ⟨q, _, rfl⟩ := gK_m hv
  exact .inr fun x => st_same _ _ _ _
theorem gK_in {a b : Nat} {l : List Pq} {X : Int} (h : ∀ r ∈ l, inN a b r.1) : ∀ u ∈ gK l X, a ≤ u.1 ∧ u.1 < b := by
  intro u hu
  obtain ⟨r, h1, rfl⟩ := gK_m hu
  obtain ⟨h2, h3⟩ := h r h1
  exact ⟨by dsimp only; omega, by dsimp only; omega⟩
structure QsS (f : List Pq) (g : List Nd) (r : List Pq) (R : QS) (rn : List Pq) (c : Nat) (Dd : Int → Int → List Nd) : Prop where
  r : R.2.2 = r ++ rn
  ri : ∀ p ∈ rn, inN g.length (g.length + c) p.1
  o : ∀ p ∈ R.1, inN g.length (g.length + c) p.1
  len : R.2.1.length = g.length + c
  d : ∀ K X, run (gK rn X) (run (gK R.1 K) R.2.1) = run (gK f (g.length : Int)) g ++ Dd K X
structure QsL (l : List Sm) (f : List Pq) (g : List Nd) (r : List Pq) (R : QS) (rn : List Pq) (c : Nat) (Dd : Int → Int → List Nd) : Prop where
  r : R.2.2 = r ++ rn
  ri : ∀ p ∈ rn, inN g.length (g.length + c) p.1
  o : ∀ p ∈ R.1, p ∈ f ∨ inN g.length (g.length + c) p.1
  len : R.2.1.length = g.length + c
  d : ∀ K X, run (gK rn X) (run (gK R.1 K) R.2.1) = run (gK f (if l.isEmpty = true then K else (g.length : Int))) g ++ Dd K X
def QsB (gb : List Sm → List Pq → List Nd → List Pq → QS) (D : List Sm → Nat → Int → Int → List Nd) (c : List Sm → Nat) (m : Nat) : Prop :=
  ∀ l f g r, okD m l → (∀ p ∈ f, inN 0 g.length p.1) → ∃ rn, QsL l f g r (gb l f g r) rn (c l) (D l g.length)
theorem gN_run (s : Sm) (f : List Pq) (g : List Nd) (k : Int) (nx : List Int) (h : Bool) (hf : ∀ p ∈ f, inN 0 g.length p.1) : gN s f g k nx h = run (gK f (g.length : Int)) g ++ [⟨k, s, nx, h⟩] := by
  unfold gN
  rw [lnkG_run, run_app fun u hu => (gK_in hf u hu).2]
theorem gN_len (s : Sm) (f : List Pq) (g : List Nd) (k : Int) (nx : List Int) (h : Bool) : (gN s f g k nx h).length = g.length + 1 := by
  unfold gN
  rw [lnkG_len, List.length_append]
  rfl
theorem gK_add (a b : List Pq) (t : Int) : gK (a ++ b) t = gK a t ++ gK b t := List.map_append
theorem gK_1 (a b t : Int) : gK [(a, b)] t = [(a.toNat, fun x => x.st b t)] := rfl
section
variable {gb : List Sm → List Pq → List Nd → List Pq → QS} {D : List Sm → Nat → Int → Int → List Nd} {c : List Sm → Nat} {m : Nat} (hb : QsB gb D c m) {s : Sm} (h1 : okD m s.th) (h2 : okD m s.el) (f : List Pq) (g : List Nd) (r : List Pq) (hf : ∀ p ∈ f, inN 0 g.length p.1)
include hf
theorem qs_pla (hk : (s.k == 10) = false) (hk2 : (s.k == 11) = false) : ∃ rn, QsS f g r (gpl s f g r) rn (ctS c s) (DS D c s g.length) := by
  have e1 : ctS c s = 1 := by simp [ctS, hk, hk2]
  have e2 : ∀ K X, DS D c s g.length K X = [⟨1, s, [if (s.k == 9) = true then X else K], false⟩] := fun K X => by simp [DS, hk, hk2]
  have el := gN_len s f g 1 [0] false
  have er := gN_run s f g 1 [0] false hf
  have hl : (run (gK f (g.length : Int)) g).length = g.length := run_len _ _
  have hi : ∀ p ∈ [((g.length : Int), (0 : Int))], inN g.length (g.length + 1) p.1 := fun p hp => by rw [List.mem_singleton.1 hp]; exact ⟨Int.le_refl _, by dsimp only; omega⟩
  have hu : ∀ y, run (gK [((g.length : Int), 0)] y) (gN s f g 1 [0] false) = run (gK f (g.length : Int)) g ++ [⟨1, s, [y], false⟩] := fun y => by
    rw [er]
    exact up_new hl.symm
  by_cases hk9 : (s.k == 9) = true
  · have e : gpl s f g r = ([], gN s f g 1 [0] false, r ++ [((g.length : Int), 0)]) := by simp [gpl, hk9]
    rw [e, e1]
    refine ⟨[((g.length : Int), 0)], rfl, hi, (fun p hp => by cases hp), el, fun K X => ?_⟩
    rw [e2, hk9]
    exact hu X
  · have e : gpl s f g r = ([((g.length : Int), 0)], gN s f g 1 [0] false, r) := by simp [gpl, hk9]
    rw [e, e1]
    refine ⟨[], (List.append_nil _).symm, (fun p hp => by cases hp), hi, el, fun K X => ?_⟩
    rw [e2, if_neg hk9]
    exact hu K
include hb h1
theorem qs_loo (hk : (s.k == 10) = false) (hk2 : (s.k == 11) = true) : ∃ rn, QsS f g r (gwh gb s f g r) rn (ctS c s) (DS D c s g.length) := by
  have e1 : ctS c s = 1 + c s.th := by simp [ctS, hk, hk2]
  have e2 : ∀ K X, DS D c s g.length K X = ⟨2, s, [if s.th.isEmpty = true then (g.length : Int) else ((g.length + 1 : Nat) : Int), K], true⟩ :: D s.th (g.length + 1) g.length X := fun K X => by simp [DS, hk, hk2]
  have el := gN_len s f g 2 [0, 0] true
  have er := gN_run s f g 2 [0, 0] true hf
  have hi : ∀ p ∈ [((g.length : Int), (0 : Int))], inN 0 (g.length + 1) p.1 := fun p hp => by rw [List.mem_singleton.1 hp]; exact ⟨by dsimp only; omega, by dsimp only; omega⟩
  obtain ⟨rn, A⟩ := hb s.th [((g.length : Int), 0)] (gN s f g 2 [0, 0] true) r h1 (by rw [el]; exact hi)
  have hA : gwA gb s f g r = gb s.th [((g.length : Int), 0)] (gN s f g 2 [0, 0] true) r := rfl
  rw [← hA] at A
  obtain ⟨A1, A2, A3, A4, A5⟩ := A
  rw [el] at A2 A3 A4 A5
  rw [er] at A5
  have hl : (run (gK f (g.length : Int)) g).length = g.length := run_len _ _
  rw [e1]
  refine ⟨rn, A1, fun p hp => ?_, fun p hp => ?_, ?_, fun K X => ?_⟩
  · have := A2 p hp; exact ⟨by have := this.1; omega, by have := this.2; omega⟩
  · rw [List.mem_singleton.1 hp]; exact ⟨Int.le_refl _, by dsimp only; omega⟩
  · show (lnkG _ _ _).length = _
    rw [lnkG_len]; omega
  · show run (gK rn X) (run (gK [((g.length : Int), 1)] K) (lnkG (gwA gb s f g r).1 (g.length : Int) (gwA gb s f g r).2.1)) = _
    rw [lnkG_run, gK_1]
    have r1 := gK_in (X := X) A2
    show run (gK rn X) (up (run (gK (gwA gb s f g r).1 (g.length : Int)) (gwA gb s f g r).2.1) _) = _
    rw [← run_up _ (fun v hv => .inl (by have := r1 v hv; dsimp only; omega)), A5, gK_1]
    show up (up (run (gK f (g.length : Int)) g ++ [_]) _ ++ _) _ = _
    rw [up_new (by rw [hl]; rfl), List.append_assoc]
    show up (_ ++ (_ :: _)) _ = _
    rw [up_new (by rw [hl]; rfl), e2]
    rfl
include h2
theorem qs_if (hk : (s.k == 10) = true) : ∃ rn, QsS f g r (gif gb s f g r) rn (ctS c s) (DS D c s g.length) := by
  have e1 : ctS c s = 2 + c s.th + c s.el := by simp [ctS, hk]
  have e2 : ∀ K X, DS D c s g.length K X = ⟨2, s, [if s.th.isEmpty = true then (jn c s g.length : Int) else ((g.length + 1 : Nat) : Int), if s.el.isEmpty = true then (jn c s g.length : Int) else ((g.length + 1 + c s.th : Nat) : Int)], false⟩ :: (D s.th (g.length + 1) (jn c s g.length) X ++ (D s.el (g.length + 1 + c s.th) (jn c s g.length) X ++ [⟨4, sm00, [K], false⟩])) := fun K X => by simp [DS, hk]
  have el := gN_len s f g 2 [0, 0] false
  have er := gN_run s f g 2 [0, 0] false hf
  have hl : (run (gK f (g.length : Int)) g).length = g.length := run_len _ _
  obtain ⟨ra, A⟩ := hb s.th [((g.length : Int), 0)] (gN s f g 2 [0, 0] false) r h1 (by rw [el]; exact fun p hp => by rw [List.mem_singleton.1 hp]; exact ⟨by dsimp only; omega, by dsimp only; omega⟩)
  have hA : giA gb s f g r = gb s.th [((g.length : Int), 0)] (gN s f g 2 [0, 0] false) r := rfl
  rw [← hA] at A
  obtain ⟨A1, A2, A3, A4, A5⟩ := A
  rw [el] at A2 A3 A4 A5
  rw [er] at A5
  obtain ⟨rb, B⟩ := hb s.el [((g.length : Int), 1)] (giA gb s f g r).2.1 (giA gb s f g r).2.2 h2 (by rw [A4]; exact fun p hp => by rw [List.mem_singleton.1 hp]; exact ⟨by dsimp only; omega, by dsimp only; omega⟩)
  have hB : giB gb s f g r = gb s.el [((g.length : Int), 1)] (giA gb s f g r).2.1 (giA gb s f g r).2.2 := rfl
  rw [← hB] at B
  obtain ⟨B1, B2, B3, B4, B5⟩ := B
  rw [A4] at B2 B3 B4 B5
  have hJ : giJ gb s f g r = ((jn c s g.length : Nat) : Int) := by unfold giJ; rw [B4]; rfl
  have hJ2 : jn c s g.length = g.length + 1 + c s.th + c s.el := rfl
  have hJ3 : (giB gb s f g r).2.1.length = jn c s g.length := B4
  rw [e1]
  refine ⟨ra ++ rb, ?_, fun p hp => ?_, fun p hp => ?_, ?_, fun K X => ?_⟩
  · show (giB gb s f g r).2.2 = _
    rw [B1, A1, List.append_assoc]
  · rcases List.mem_append.1 hp with hp | hp
    · have := A2 p hp; exact ⟨by have := this.1; omega, by have := this.2; omega⟩
    · have := B2 p hp; exact ⟨by have := this.1; omega, by have := this.2; omega⟩
  · rw [List.mem_singleton.1 hp]
    show inN _ _ (giJ gb s f g r)
    rw [hJ]
    exact ⟨by omega, by omega⟩
  · show (lnkG _ _ _).length = _
    rw [lnkG_len, List.length_append, B4]
    show _ + 1 = _
    omega
  · show run (gK (ra ++ rb) X) (run (gK [(giJ gb s f g r, 0)] K) (lnkG ((giA gb s f g r).1 ++ (giB gb s f g r).1) (giJ gb s f g r) ((giB gb s f g r).2.1 ++ [⟨4, sm00, [0], false⟩]))) = _
    rw [lnkG_run, hJ, e2, gK_add, gK_add]
    have C := A5 (jn c s g.length : Int) X
    have G := B5 (jn c s g.length : Int) X
    have s1 := gK_same (giB gb s f g r).1 (giA gb s f g r).1 (jn c s g.length : Int)
    have s2 := gK_same rb ra X
    have n1 : ∀ (q : List Pq) (t : Int), (∀ p ∈ q, p.1 = (g.length : Int) ∧ p.2 = 0 ∨ inN (g.length + 1) (g.length + 1 + c s.th) p.1) → ∀ (y : Int), ∀ u ∈ gK q t, cm (g.length, fun x => x.st 1 y) u := fun q t hq y u hu => by
      obtain ⟨p, hp, rfl⟩ := gK_m hu
      rcases hq p hp with ⟨e, e'⟩ | ⟨e, _⟩
      · exact .inr fun x => by rw [e']; exact st_ne x (by decide) _ _
      · exact .inl (by dsimp only; omega)
    have nA : ∀ p ∈ (giA gb s f g r).1, p.1 = (g.length : Int) ∧ p.2 = 0 ∨ inN (g.length + 1) (g.length + 1 + c s.th) p.1 := fun p hp => (A3 p hp).imp (fun h => by rw [List.mem_singleton.1 h]; exact ⟨rfl, rfl⟩) id
    have nR : ∀ p ∈ ra, p.1 = (g.length : Int) ∧ p.2 = 0 ∨ inN (g.length + 1) (g.length + 1 + c s.th) p.1 := fun p hp => .inr (A2 p hp)
    have m1 := n1 _ (jn c s g.length : Int) nA
    have m2 := n1 _ X nR
    have o1 : ∀ u ∈ gK (giA gb s f g r).1 (jn c s g.length : Int), u.1 < g.length + 1 + c s.th := fun u hu => by
      obtain ⟨p, hp, rfl⟩ := gK_m hu
      rcases nA p hp with ⟨e, _⟩ | ⟨_, e⟩ <;> dsimp only <;> omega
    have o2 : ∀ u ∈ gK (giB gb s f g r).1 (jn c s g.length : Int), u.1 < jn c s g.length := fun u hu => by
      obtain ⟨p, hp, rfl⟩ := gK_m hu
      rcases B3 p hp with e | ⟨_, e⟩
      · rw [List.mem_singleton.1 e]; dsimp only; omega
      · dsimp only; omega
    have r1 := gK_in (X := X) A2
    have r2 := gK_in (X := X) B2
    have s3 : ∀ u ∈ gK rb X, ∀ v ∈ gK (giA gb s f g r).1 (jn c s g.length : Int), cm u v := fun u hu v hv => .inl (by have := r2 u hu; have := o1 v hv; omega)
    generalize (if s.th.isEmpty = true then (jn c s g.length : Int) else ((g.length + 1 : Nat) : Int)) = f1 at *
    generalize hf2 : (if s.el.isEmpty = true then (jn c s g.length : Int) else ((g.length + 1 + c s.th : Nat) : Int)) = f2 at *
    clear A5 B5 B3 A3 nA nR n1
    generalize (giB gb s f g r).2.1 = LB at *
    generalize (giA gb s f g r).2.1 = LA at *
    generalize gK (giA gb s f g r).1 (jn c s g.length : Int) = OA at *
    generalize gK (giB gb s f g r).1 (jn c s g.length : Int) = OB at *
    generalize gK ra X = RA at *
    generalize gK rb X = RB at *
    rw [run_app (fun u hu => by
      rw [hJ3]
      rcases List.mem_append.1 hu with hu | hu
      · have := o1 u hu; omega
      · exact o2 u hu), gK_1]
    show run (RA ++ RB) (up (run (OA ++ OB) LB ++ [_]) _) = _
    rw [up_new (by rw [run_len, hJ3]; rfl), run_app (fun u hu => by
      rw [run_len, hJ3]
      rcases List.mem_append.1 hu with hu | hu
      · have := r1 u hu; omega
      · have := r2 u hu; omega)]
    rw [run_add, run_add, run_comm _ s2, run_comm _ s1, run_comm _ s3, G, gK_1]
    show run RA (run OA (up LA (g.length, fun x => x.st 1 f2) ++ _)) ++ _ = _
    rw [run_app (fun u hu => by rw [up_len, A4]; exact o1 u hu), run_app (fun u hu => by rw [run_len, up_len, A4]; exact (r1 u hu).2)]
    rw [← run_up _ (m1 f2), ← run_up _ (m2 f2), C, gK_1]
    show up (up (run (gK f (g.length : Int)) g ++ [_]) _ ++ _) _ ++ _ ++ _ = _
    rw [up_new (by rw [hl]; rfl), List.append_assoc (run (gK f (g.length : Int)) g)]
    show up (_ ++ (_ :: _)) _ ++ _ ++ _ = _
    rw [up_new hl.symm]
    simp only [List.append_assoc, List.cons_append]
    rfl
theorem qs_S : ∃ rn, QsS f g r (qS gb s f g r) rn (ctS c s) (DS D c s g.length) := by
  unfold qS
  cases hk : (s.k == 10) with
  | true => exact qs_if hb h1 h2 f g r hf hk
  | false =>
    cases hk2 : (s.k == 11) with
    | true => exact qs_loo hb h1 f g r hf hk hk2
    | false => exact qs_pla f g r hf hk hk2
end
theorem qs_L {gb : List Sm → List Pq → List Nd → List Pq → QS} {D : List Sm → Nat → Int → Int → List Nd} {c : List Sm → Nat} {m : Nat} (hb : QsB gb D c m) :
    ∀ (l : List Sm) (f : List Pq) (g : List Nd) (r : List Pq), (∀ s ∈ l, okD m s.th ∧ okD m s.el) → (∀ p ∈ f, inN 0 g.length p.1) → ∃ rn, QsL l f g r (qL (qS gb) l f g r) rn (ctL c l) (DL D c l g.length)
  | [], f, g, r, hd, hf => ⟨[], (List.append_nil _).symm, (fun r hr => by cases hr), fun p hp => .inl hp, rfl, fun K X => (List.append_nil _).symm⟩
  | s :: l, f, g, r, hd, hf => by
    obtain ⟨d1, d2⟩ := hd s (List.mem_cons_self ..)
    obtain ⟨rs, S1, S2, S3, S4, S5⟩ := qs_S hb d1 d2 f g r hf
    have e : qL (qS gb) (s :: l) f g r = qL (qS gb) l (qS gb s f g r).1 (qS gb s f g r).2.1 (qS gb s f g r).2.2 := rfl
    obtain ⟨rn, L1, L2, L3, L4, L5⟩ := qs_L hb l (qS gb s f g r).1 (qS gb s f g r).2.1 (qS gb s f g r).2.2 (fun s hs => hd s (List.mem_cons_of_mem _ hs)) (fun p hp => by
      have := S3 p hp
      rw [S4]
      exact ⟨by have := this.1; omega, this.2⟩)
    rw [← e] at L1 L3 L4 L5
    rw [S4] at L2 L3 L4 L5
    have hc : ctL c (s :: l) = ctS c s + ctL c l := rfl
    generalize qL (qS gb) (s :: l) f g r = R at *
    refine ⟨rs ++ rn, by rw [L1, S1, List.append_assoc], fun p hp => ?_, fun p hp => ?_, by omega, fun K X => ?_⟩
    · rcases List.mem_append.1 hp with hp | hp
      · have := S2 p hp; exact ⟨this.1, by have := this.2; omega⟩
      · have := L2 p hp; exact ⟨by have := this.1; omega, by have := this.2; omega⟩
    · rcases L3 p hp with h | h
      · have := S3 p h; exact .inr ⟨this.1, by have := this.2; omega⟩
      · exact .inr ⟨by have := h.1; omega, by have := h.2; omega⟩
    · have H := S5 (if l.isEmpty = true then K else ((g.length + ctS c s : Nat) : Int)) X
      have r1 := gK_in (X := X) S2
      have o1 := gK_in (X := (if l.isEmpty = true then K else ((g.length + ctS c s : Nat) : Int))) S3
      rw [gK_add, run_add, run_comm _ (gK_same rn rs X), L5 K X, run_app (fun u hu => by rw [run_len, S4]; exact (r1 u hu).2), H, List.append_assoc]
      rfl
theorem qs_B : ∀ m, QsB (qB m) (DB m) (ctB m) m
  | 0 => fun l f g r h => h.elim
  | m + 1 => fun l f g r h hf => qs_L (qs_B m) l f g r h.2 hf
/-- the graph, all ways in place -/
def grF (n : Nat) (l : List Sm) : List Nd := ⟨0, sm00, [if l.isEmpty = true then lwX n l else 1], false⟩ :: (DB n l 1 (lwX n l) (lwX n l) ++ [⟨3, sm00, [], false⟩])
theorem low_e {n : Nat} {l : List Sm} (h : okD n l) : lowF n l = grF n l ∧ lwX n l = ((1 + ctB n l : Nat) : Int) := by
  obtain ⟨rn, A1, A2, A3, A4, A5, A6⟩ := fl_B n l (addW 0 sm00 false lw0) h
  have a1 : (addW 0 sm00 false lw0).l = [⟨0, sm00, [], false⟩] := rfl
  have a2 : (addW 0 sm00 false lw0).r = [] := rfl
  rw [a2] at A1
  rw [a1] at A2 A3 A4 A5 A6
  have hA : lwA n l = lwB n l (addW 0 sm00 false lw0) := rfl
  rw [← hA] at A1 A3 A4 A5 A6
  have l1 : ([⟨0, sm00, [], false⟩] : List Nd).length = 1 := rfl
  rw [l1] at A2 A3 A4 A5 A6
  dsimp only at A3 A4 A6
  have A3 : inO 1 (1 + ctB n l) (lwA n l).1.2 := A3.elim .inl id
  have hX : lwX n l = ((1 + ctB n l : Nat) : Int) := by unfold lwX; rw [A5]
  refine ⟨?_, hX⟩
  unfold lowF lw5
  have r4 : (lw4 n l).r = rn := by
    unfold lw4
    rw [lnkO_r]
    exact A1
  rw [lnkR_run, r4]
  show run _ (lw4 n l).l = _
  unfold lw4
  rw [lnkO_run]
  unfold lw3
  rw [lnkW_up, A4]
  have a3 : (lw2 n l).l = (lwA n l).2.l ++ [⟨3, sm00, [], false⟩] := rfl
  rw [a3]
  have o1 := oK_in (K := lwX n l) A3
  have r1 := rK_in (X := lwX n l) A2
  have D := A6 (lwX n l) (lwX n l)
  rw [up_app (by show 0 < _; omega), run_app (fun u hu => by rw [up_len, A5]; exact (o1 u hu).2), run_app (fun u hu => by rw [run_len, up_len, A5]; exact (r1 u hu).2)]
  rw [← run_up _ (fun v hv => .inl (by have := o1 v hv; show 0 ≠ _; omega)), ← run_up _ (fun v hv => .inl (by have := r1 v hv; show 0 ≠ _; omega)), D, oK_1, run_nil]
  cases l <;> rfl
/-- the two are the same -/
theorem qF_eq {n : Nat} {l : List Sm} (h : okD n l) : qF n l = lowF n l := by
  obtain ⟨e1, hX⟩ := low_e h
  obtain ⟨rq, B1, B2, B3, B4, B5⟩ := qs_B n l [(0, 0)] [⟨0, sm00, [0], false⟩] [] h (fun p hp => by rw [List.mem_singleton.1 hp]; exact ⟨Int.le_refl _, by decide⟩)
  have hB : qR n l = qB n l [(0, 0)] [⟨0, sm00, [0], false⟩] [] := rfl
  rw [← hB] at B1 B3 B4 B5
  have l2 : ([⟨0, sm00, [0], false⟩] : List Nd).length = 1 := rfl
  rw [l2] at B2 B3 B4 B5
  have hY : (qR n l).2.1.length = 1 + ctB n l := B4
  have e2 : qF n l = grF n l := by
    unfold qF
    rw [lnkG_run, hY, ← hX, B1, List.nil_append, gK_add]
    have D := B5 (lwX n l) (lwX n l)
    have r1 := gK_in (X := lwX n l) B2
    rw [run_app (fun u hu => by
      rw [hY]
      rcases List.mem_append.1 hu with hu | hu
      · obtain ⟨p, hp, rfl⟩ := gK_m hu
        rcases B3 p hp with e | e
        · rw [List.mem_singleton.1 e]; show 0 < _; omega
        · have := e.1; have := e.2; dsimp only; omega
      · exact (r1 u hu).2), run_add, D]
    cases l <;> rfl
  rw [e1, e2]
/- no node has more than two ways -/
theorem DS_two {D : List Sm → Nat → Int → Int → List Nd} {c : List Sm → Nat} (hD : ∀ l n K X, ∀ x ∈ D l n K X, x.nx.length ≤ 2) (s : Sm) (n : Nat) (K X : Int) : ∀ x ∈ DS D c s n K X, x.nx.length ≤ 2 := by
  intro x hx
  unfold DS at hx
  split at hx
  · rcases List.mem_cons.1 hx with rfl | hx
    · exact Nat.le_refl _
    rcases List.mem_append.1 hx with hx | hx
    · exact hD _ _ _ _ x hx
    rcases List.mem_append.1 hx with hx | hx
    · exact hD _ _ _ _ x hx
    · rw [List.mem_singleton.1 hx]; exact Nat.le_succ _
  split at hx
  · rcases List.mem_cons.1 hx with rfl | hx
    · exact Nat.le_refl _
    · exact hD _ _ _ _ x hx
  · rw [List.mem_singleton.1 hx]; exact Nat.le_succ _
theorem DL_two {D : List Sm → Nat → Int → Int → List Nd} {c : List Sm → Nat} (hD : ∀ l n K X, ∀ x ∈ D l n K X, x.nx.length ≤ 2) : ∀ (l : List Sm) (n : Nat) (K X : Int), ∀ x ∈ DL D c l n K X, x.nx.length ≤ 2
  | [], n, K, X => fun x hx => by cases hx
  | s :: l, n, K, X => fun x hx => by
    rcases List.mem_append.1 hx with hx | hx
    · exact DS_two hD s _ _ _ x hx
    · exact DL_two hD l _ _ _ x hx
theorem DB_two : ∀ (m : Nat) (l : List Sm) (n : Nat) (K X : Int), ∀ x ∈ DB m l n K X, x.nx.length ≤ 2
  | 0, l, n, K, X => fun x hx => by cases hx
  | m + 1, l, n, K, X => DL_two (DB_two m) l n K X
theorem low_two {n : Nat} {l : List Sm} (h : okD n l) : ∀ x ∈ lowF n l, x.nx.length ≤ 2 := by
  rw [(low_e h).1]
  intro x hx
  rcases List.mem_cons.1 hx with rfl | hx
  · exact Nat.le_succ _
  rcases List.mem_append.1 hx with hx | hx
  · exact DB_two _ _ _ _ _ x hx
  · rw [List.mem_singleton.1 hx]; exact Nat.zero_le _
end Go.Proofs.Ytiipmaoonnjlpaa
