/- The ways back, plain. No conditions but those in each statement. -/
import Derived.Test.YtiipmaoonnjlpaaGr4
set_option linter.unusedVariables false
set_option linter.unusedSimpArgs false
namespace Go.Proofs.Ytiipmaoonnjlpaa
open Go Go.Sy Go.RowKit

/-- what the ways back are, behind so many nodes and some ways of the next one -/
structure PI (g : List Gq) (i : Nat) (pre : List Int) (p : List (List Int)) : Prop where
  l : p.length = g.length
  w : ∀ k, k < g.length → (p.getD k []).Pairwise (· < ·) ∧ (∀ x ∈ p.getD k [], x ≤ (i : Int)) ∧ ∀ x, x ∈ p.getD k [] ↔ (∃ j : Nat, j < i ∧ x = (j : Int) ∧ (k : Int) ∈ (g.getD j gq0).nx) ∨ (x = (i : Int) ∧ (k : Int) ∈ pre)
theorem getD_el {q : List Int} {k : Nat} (h : k < q.length) (d : Int) : q.getD k d = q[k] := by simp [List.getD, h]
theorem pw_last {q : List Int} {i : Int} (hp : q.Pairwise (· < ·)) (hb : ∀ x ∈ q, x ≤ i) (hm : i ∈ q) : q.getD (q.length - 1) 0 = i := by
  obtain ⟨m, hm1, hm2⟩ := List.mem_iff_getElem.1 hm
  have hl : q.length - 1 < q.length := by omega
  have h1 : q.getD (q.length - 1) 0 = q[q.length - 1] := getD_el hl 0
  rw [h1]
  by_cases e : m = q.length - 1
  · subst e; exact hm2
  · have h2 : q[m] < q[q.length - 1] := List.pairwise_iff_getElem.1 hp m (q.length - 1) hm1 hl (by omega)
    have h3 := hb _ (List.getElem_mem hl)
    rw [hm2] at h2
    omega
theorem getD_setL {p : List (List Int)} {k j : Nat} {v : List Int} (hk : k < p.length) : (p.set k v).getD j [] = if j = k then v else p.getD j [] := by
  simp only [List.getD, List.getElem?_set]
  by_cases h : k = j
  · subst h; simp [hk]
  · simp [h, Ne.symm h]
theorem PI.step {g : List Gq} {i : Nat} {pre : List Int} {p : List (List Int)} (h : PI g i pre p) (s : Int) : PI g i (pre ++ [s]) (prS (i : Int) s p) := by
  unfold prS
  by_cases h0 : s < 0
  · rw [if_pos (by simpa using h0)]
    refine ⟨h.l, fun k hk => ?_⟩
    obtain ⟨a, b, c⟩ := h.w k hk
    refine ⟨a, b, fun x => (c x).trans ?_⟩
    simp only [List.mem_append, List.mem_singleton]
    have : (k : Int) ≠ s := by omega
    simp [this]
  rw [if_neg (by simpa using h0)]
  by_cases h1 : (p.length : Int) ≤ s
  · rw [if_pos (by simpa using h1)]
    refine ⟨h.l, fun k hk => ?_⟩
    obtain ⟨a, b, c⟩ := h.w k hk
    refine ⟨a, b, fun x => (c x).trans ?_⟩
    simp only [List.mem_append, List.mem_singleton]
    have : (k : Int) ≠ s := by have := h.l; omega
    simp [this]
  rw [if_neg (by simpa using h1)]
  have hk : s.toNat < p.length := by omega
  have hkg : s.toNat < g.length := by rw [← h.l]; exact hk
  obtain ⟨a, b, c⟩ := h.w s.toNat hkg
  have hlt : ∀ x ∈ p.getD s.toNat [], x = (i : Int) ∨ x < (i : Int) := fun x hx => by have := b x hx; omega
  split
  · rename_i hN
    have hni : (i : Int) ∉ p.getD s.toNat [] := by
      intro hm
      have hl := pw_last a b hm
      simp only [prN, Bool.or_eq_true, List.isEmpty_iff, bne_iff_ne, ne_eq] at hN
      rcases hN with hN | hN
      · rw [hN] at hm; cases hm
      · exact hN hl
    refine ⟨by simp [h.l], fun k hkk => ?_⟩
    rw [getD_setL hk]
    split
    · rename_i e
      subst e
      refine ⟨?_, ?_, fun x => ?_⟩
      · rw [List.pairwise_append]
        refine ⟨a, by simp, fun x hx y hy => ?_⟩
        rw [List.mem_singleton.1 hy]
        rcases hlt x hx with rfl | h2
        · exact absurd hx hni
        · exact h2
      · intro x hx
        rcases List.mem_append.1 hx with h2 | h2
        · exact b x h2
        · rw [List.mem_singleton.1 h2]; exact Int.le_refl _
      · have hs : ((s.toNat : Nat) : Int) = s := by omega
        simp only [List.mem_append, List.mem_singleton, c x, hs, or_true, and_true]
        constructor
        · rintro ((h2 | h2) | h2)
          · exact .inl h2
          · exact .inr h2.1
          · exact .inr h2
        · rintro (h2 | h2)
          · exact .inl (.inl h2)
          · exact .inr h2
    · rename_i e
      obtain ⟨a', b', c'⟩ := h.w k hkk
      refine ⟨a', b', fun x => (c' x).trans ?_⟩
      have : (k : Int) ≠ s := by omega
      simp [this]
  · rename_i hN
    refine ⟨h.l, fun k hkk => ?_⟩
    obtain ⟨a', b', c'⟩ := h.w k hkk
    refine ⟨a', b', fun x => ?_⟩
    by_cases e : (k : Int) = s
    · have hki : k = s.toNat := by omega
      subst hki
      have hm : (i : Int) ∈ p.getD s.toNat [] := by
        simp only [prN, Bool.or_eq_true, List.isEmpty_iff, bne_iff_ne, ne_eq, not_or, Decidable.not_not] at hN
        have hl : (p.getD s.toNat []).length - 1 < (p.getD s.toNat []).length := by
          have := List.length_pos_iff.2 hN.1; omega
        have h1 : (p.getD s.toNat []).getD ((p.getD s.toNat []).length - 1) 0 = (p.getD s.toNat [])[(p.getD s.toNat []).length - 1] := getD_el hl 0
        rw [← hN.2, h1]; exact List.getElem_mem hl
      rw [c' x]
      simp only [List.mem_append, List.mem_singleton, e, or_true, and_true]
      constructor
      · rintro (h2 | h2)
        · exact .inl h2
        · exact .inr h2.1
      · rintro (h2 | h2)
        · exact .inl h2
        · have h3 := (c' x).1 (by rw [h2]; exact hm)
          rw [e] at h3
          exact h3
    · rw [c' x]; simp [e]
theorem PI.ways {g : List Gq} {i : Nat} : ∀ (l pre : List Int) {p : List (List Int)}, PI g i pre p → PI g i (pre ++ l) (prI (i : Int) l p)
  | [], pre, p, h => by simpa [prI] using h
  | s :: r, pre, p, h => by
    have := PI.ways r (pre ++ [s]) (h.step s)
    rw [List.append_assoc] at this
    exact this
theorem PI.next {g : List Gq} {i : Nat} {x : Gq} {p : List (List Int)} (hx : g[i]? = some x) (h : PI g i x.nx p) : PI g (i + 1) [] p := by
  have hd : g.getD i gq0 = x := by simp [List.getD, hx]
  refine ⟨h.l, fun k hk => ?_⟩
  obtain ⟨a, b, c⟩ := h.w k hk
  refine ⟨a, fun y hy => by have := b y hy; omega, fun y => (c y).trans ?_⟩
  constructor
  · rintro (⟨j, j1, j2, j3⟩ | ⟨j1, j2⟩)
    · exact .inl ⟨j, by omega, j2, j3⟩
    · exact .inl ⟨i, by omega, j1, by rw [hd]; exact j2⟩
  · rintro (⟨j, j1, j2, j3⟩ | ⟨j1, j2⟩)
    · by_cases e : j = i
      · subst e; exact .inr ⟨j2, by rw [hd] at j3; exact j3⟩
      · exact .inl ⟨j, by omega, j2, j3⟩
    · cases j2
theorem PI.all {g : List Gq} : ∀ (r : List Gq) (i : Nat) {p : List (List Int)}, g.drop i = r → PI g i [] p → PI g (i + r.length) [] (prL i r p)
  | [], i, p, _, h => h
  | x :: r, i, p, hr, h => by
    have hx : g[i]? = some x := by
      have := List.getElem?_drop (xs := g) (i := i) (j := 0)
      rw [hr] at this; simpa using this.symm
    have h1 := PI.ways x.nx [] h
    have h2 := PI.all r (i + 1) (p := prI (i : Int) x.nx p) (by
      have := List.drop_drop (l := g) (i := 1) (j := i)
      rw [hr] at this; rw [Nat.add_comm] at this; simpa [Nat.add_comm] using this.symm) (PI.next hx (by simpa using h1))
    simp only [prL, List.length_cons]
    rw [show i + (r.length + 1) = i + 1 + r.length by omega]
    exact h2
theorem prF_pi (g : List Gq) : PI g g.length [] (prF g) := by
  have h0 : PI g 0 [] (List.replicate g.length []) := by
    refine ⟨by simp, fun k hk => ?_⟩
    have : (List.replicate g.length ([] : List Int)).getD k [] = [] := by simp only [List.getD, List.getElem?_replicate]; split <;> rfl
    rw [this]
    refine ⟨List.Pairwise.nil, (fun x hx => by cases hx), fun x => ?_⟩
    constructor
    · intro h; cases h
    · rintro (⟨j, j1, _⟩ | ⟨_, j2⟩)
      · omega
      · cases j2
  have := PI.all g 0 rfl h0
  simpa [prF] using this
/-- who leads there: the nodes whose ways lead there -/
theorem prF_mem {g : List Gq} {k : Nat} (hk : k < g.length) (x : Int) : x ∈ (prF g).getD k [] ↔ ∃ j : Nat, j < g.length ∧ x = (j : Int) ∧ (k : Int) ∈ (g.getD j gq0).nx := by
  rw [((prF_pi g).w k hk).2.2 x]; simp
theorem prF_inc {g : List Gq} {k : Nat} (hk : k < g.length) {a b : Nat} (hab : a < b) (hb : b < ((prF g).getD k []).length) : ((prF g).getD k []).getD a 0 < ((prF g).getD k []).getD b 0 := by
  have h := List.pairwise_iff_getElem.1 ((prF_pi g).w k hk).1 a b (by omega) hb hab
  have h1 : ((prF g).getD k []).getD a 0 = ((prF g).getD k [])[a]'(by omega) := getD_el (by omega) 0
  have h2 : ((prF g).getD k []).getD b 0 = ((prF g).getD k [])[b] := getD_el hb 0
  rw [h1, h2]; exact h
theorem rcF_get {g : List Gq} {k : Nat} (hk : k < g.length) : (rcF g).getD k false = true ↔ Rc g k := by
  simp [rcF, List.getD, List.getElem?_map, List.getElem?_range hk]
theorem rc_pred {g : List Gq} {k : Nat} (hk : k < g.length) (h : Rc g k) : k = 0 ∨ ∃ j : Nat, j < g.length ∧ Rc g j ∧ (j : Int) ∈ (prF g).getD k [] := by
  cases h with
  | zero _ => exact .inl rfl
  | step i s hi hs h0 h1 =>
    have hil : i < g.length := by
      rcases Nat.lt_or_ge i g.length with h | h
      · exact h
      · rw [show g.getD i gq0 = gq0 by simp [List.getD, List.getElem?_eq_none_iff.2 h]] at hs
        cases hs
    exact .inr ⟨i, hil, hi, (prF_mem hk _).2 ⟨i, hil, rfl, by rw [show ((s.toNat : Nat) : Int) = s by omega]; exact hs⟩⟩
end Go.Proofs.Ytiipmaoonnjlpaa
