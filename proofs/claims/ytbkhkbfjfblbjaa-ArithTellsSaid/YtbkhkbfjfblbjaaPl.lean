/- Plain laws of intervals: what a comparison leaves. No conditions but those in each statement. -/
import Derived.Test.YtbkhkbfjfblbjaaRf
set_option linter.unusedVariables false
set_option linter.unusedSimpArgs false
namespace Go.Proofs.Ytbkhkbfjfblbjaa
open Go Go.Sx Go.RowKit

/-- an interval as it is told: none, or one with its bounds in order -/
def Good (A : Iv) : Prop := A.s = true ∧ A.lo ≤ A.hi ∧ -9223372036854775808 ≤ A.lo ∧ A.hi ≤ 9223372036854775807
def Told (A : Iv) : Prop := A = noIv ∨ Good A

theorem nrm_told (a : Iv) (h : -9223372036854775808 ≤ a.lo ∧ a.lo ≤ 9223372036854775807 ∧ -9223372036854775808 ≤ a.hi ∧ a.hi ≤ 9223372036854775807) : Told (nrm a) := by
  unfold nrm
  split
  · exact .inl rfl
  · rename_i hn
    simp only [Bool.or_eq_true, Bool.not_eq_true', decide_eq_true_eq, not_or, Bool.not_eq_false, Int.not_lt] at hn
    exact .inr ⟨hn.1, hn.2, h.1, h.2.2.2⟩
theorem good_nrm {A : Iv} (h : Good A) : nrm A = A := by
  unfold nrm
  rw [if_neg]
  simp only [Bool.or_eq_true, Bool.not_eq_true', decide_eq_true_eq, not_or, Bool.not_eq_false, Int.not_lt]
  exact ⟨h.1, h.2.1⟩
theorem good_norm {A : Iv} (h : Good A) : normI A = A := by
  obtain ⟨h1, h2, _, _⟩ := h
  obtain ⟨s, lo, hi⟩ := A
  simp only at h1 h2
  subst h1
  have : ¬ hi < lo := by omega
  simp [normI, emptyB, Of, this]
theorem no_norm : normI noIv = noIv := rfl
theorem told_norm {A : Iv} (h : Told A) : normI A = A := by
  rcases h with rfl | h
  · rfl
  · exact good_norm h

theorem Of_n {lo hi : Int} (h : (Of lo hi).s = false) : hi < lo := by
  unfold Of at h
  split at h
  · assumption
  · simp at h
def Within (P X : Iv) : Prop := P.s = true → X.lo ≤ P.lo ∧ P.hi ≤ X.hi ∧ P.lo ≤ P.hi
theorem within_of {lo hi : Int} {X : Iv} (h : lo ≤ hi → X.lo ≤ lo ∧ hi ≤ X.hi) : Within (Of lo hi) X := by
  intro hs
  obtain ⟨h1, h2, h3⟩ := Of_s hs
  rw [h2, h3]
  have := h h1
  omega
def At1 (P : Iv) (x : Int) : Prop := P.s = true ∧ P.lo ≤ x ∧ x ≤ P.hi
theorem at_of {lo hi x : Int} (h1 : lo ≤ x) (h2 : x ≤ hi) : At1 (Of lo hi) x := by
  have : ¬ hi < lo := by omega
  simp [At1, Of, this, h1, h2]

theorem W_in {n : Int} (h1 : -9223372036854775808 ≤ n) (h2 : n ≤ 9223372036854775807) : W n = n := wrap_i64 h1 h2

theorem bel_ok {A B : Iv} (hA : Good A) (hB : Good B) : Within (belI A B).1 A ∧ Within (belI A B).2 B ∧ ∀ x y, A.lo ≤ x → x ≤ A.hi → B.lo ≤ y → y ≤ B.hi → x < y → At1 (belI A B).1 x ∧ At1 (belI A B).2 y := by
  obtain ⟨a1, a2, a3, a4⟩ := hA
  obtain ⟨b1, b2, b3, b4⟩ := hB
  unfold belI
  split
  · rename_i h
    simp only [Bool.or_eq_true, beq_iff_eq] at h
    refine ⟨fun h => by simp at h, fun h => by simp at h, fun x y _ _ _ _ _ => ?_⟩
    omega
  · rename_i h
    simp only [Bool.or_eq_true, beq_iff_eq, not_or] at h
    have w1 : W (B.hi - 1) = B.hi - 1 := W_in (by omega) (by omega)
    have w2 : W (A.lo + 1) = A.lo + 1 := W_in (by omega) (by omega)
    rw [w1, w2]
    simp only [mnI, mxI]
    refine ⟨within_of fun _ => ?_, within_of fun _ => ?_, fun x y _ _ _ _ _ => ⟨at_of ?_ ?_, at_of ?_ ?_⟩⟩
    all_goals (try split) <;> omega

theorem upto_ok {A B : Iv} : Within (Of A.lo (mnI A.hi B.hi)) A ∧ Within (Of (mxI B.lo A.lo) B.hi) B ∧ ∀ x y, A.lo ≤ x → x ≤ A.hi → B.lo ≤ y → y ≤ B.hi → x ≤ y → At1 (Of A.lo (mnI A.hi B.hi)) x ∧ At1 (Of (mxI B.lo A.lo) B.hi) y := by
  simp only [mnI, mxI]
  refine ⟨within_of fun _ => ?_, within_of fun _ => ?_, fun x y _ _ _ _ _ => ⟨at_of ?_ ?_, at_of ?_ ?_⟩⟩
  all_goals (try split) <;> omega
theorem upto_ok' {A B : Iv} : Within (Of (mxI A.lo B.lo) A.hi) A ∧ Within (Of B.lo (mnI B.hi A.hi)) B ∧ ∀ x y, A.lo ≤ x → x ≤ A.hi → B.lo ≤ y → y ≤ B.hi → y ≤ x → At1 (Of (mxI A.lo B.lo) A.hi) x ∧ At1 (Of B.lo (mnI B.hi A.hi)) y := by
  simp only [mnI, mxI]
  refine ⟨within_of fun _ => ?_, within_of fun _ => ?_, fun x y _ _ _ _ _ => ⟨at_of ?_ ?_, at_of ?_ ?_⟩⟩
  all_goals (try split) <;> omega

theorem wit_ok {A B : Iv} (hA : Good A) : Within (witI A B) A ∧ ∀ x y, A.lo ≤ x → x ≤ A.hi → B.lo ≤ y → y ≤ B.hi → x ≠ y → At1 (witI A B) x := by
  obtain ⟨a1, a2, a3, a4⟩ := hA
  unfold witI
  split
  · exact ⟨fun _ => by omega, fun x y _ _ _ _ _ => ⟨a1, by omega, by omega⟩⟩
  · rename_i h
    simp only [bne_iff_ne, ne_eq, Decidable.not_not] at h
    split
    · rename_i h2
      simp only [Bool.and_eq_true, beq_iff_eq] at h2
      exact ⟨fun h => by simp at h, fun x y _ _ _ _ _ => by omega⟩
    · rename_i h2
      simp only [Bool.and_eq_true, beq_iff_eq] at h2
      split
      · rename_i h3
        simp only [beq_iff_eq] at h3
        rw [W_in (by omega) (by omega)]
        exact ⟨within_of fun _ => by omega, fun x y _ _ _ _ _ => at_of (by omega) (by omega)⟩
      · rename_i h3
        simp only [beq_iff_eq] at h3
        split
        · rename_i h4
          simp only [beq_iff_eq] at h4
          rw [W_in (by omega) (by omega)]
          exact ⟨within_of fun _ => by omega, fun x y _ _ _ _ _ => at_of (by omega) (by omega)⟩
        · exact ⟨fun _ => by omega, fun x y _ _ _ _ _ => ⟨a1, by omega, by omega⟩⟩

theorem meet_ok {A B : Iv} (hA : Good A) (hB : Good B) : Within (meetL [A, B]) A ∧ Within (meetL [A, B]) B ∧ ∀ x, A.lo ≤ x → x ≤ A.hi → B.lo ≤ x → x ≤ B.hi → At1 (meetL [A, B]) x := by
  obtain ⟨a1, a2, a3, a4⟩ := hA
  obtain ⟨b1, b2, b3, b4⟩ := hB
  have eA : emptyB A = false := by simp [emptyB, a1]; omega
  have eB : emptyB B = false := by simp [emptyB, b1]; omega
  have e1 : Of (if (-9223372036854775808 : Int) < A.lo then A.lo else -9223372036854775808) (if A.hi < 9223372036854775807 then A.hi else 9223372036854775807) = ⟨true, A.lo, A.hi⟩ := by
    have h1 : (if (-9223372036854775808 : Int) < A.lo then A.lo else -9223372036854775808) = A.lo := by split <;> omega
    have h2 : (if A.hi < 9223372036854775807 then A.hi else 9223372036854775807) = A.hi := by split <;> omega
    rw [h1, h2]
    unfold Of
    rw [if_neg (by omega)]
  have e2 : meetL [A, B] = (if (Of (if A.lo < B.lo then B.lo else A.lo) (if B.hi < A.hi then B.hi else A.hi)).s = true then Of (if A.lo < B.lo then B.lo else A.lo) (if B.hi < A.hi then B.hi else A.hi) else noIv) := by
    show meetGo topIv [A, B] = _
    unfold meetGo
    rw [eA]
    simp only [Bool.false_eq_true, if_false, topIv]
    rw [e1]
    simp only [if_true]
    unfold meetGo
    rw [eB]
    simp only [Bool.false_eq_true, if_false]
    by_cases hs : (Of (if A.lo < B.lo then B.lo else A.lo) (if B.hi < A.hi then B.hi else A.hi)).s = true
    · rw [if_pos hs, if_pos hs]; rfl
    · rw [if_neg hs, if_neg hs]
  rw [e2]
  by_cases hs : (Of (if A.lo < B.lo then B.lo else A.lo) (if B.hi < A.hi then B.hi else A.hi)).s = true
  · rw [if_pos hs]
    refine ⟨within_of fun _ => ?_, within_of fun _ => ?_, fun x _ _ _ _ => at_of ?_ ?_⟩
    all_goals (try split) <;> (try split) <;> omega
  · rw [if_neg hs]
    have := Of_n (by simpa using hs)
    refine ⟨fun h => by simp at h, fun h => by simp at h, fun x _ _ _ _ => ?_⟩
    split at this <;> split at this <;> omega

theorem lessP_ok {j : Int} (hj : 0 ≤ j ∧ j ≤ 5) {A B : Iv} (hA : Good A) (hB : Good B) : Within (lessP j A B).1 A ∧ Within (lessP j A B).2 B ∧
    ∀ x y, A.lo ≤ x → x ≤ A.hi → B.lo ≤ y → y ≤ B.hi → hldI j x y = true → At1 (lessP j A B).1 x ∧ At1 (lessP j A B).2 y := by
  have hj' : j = 0 ∨ j = 1 ∨ j = 2 ∨ j = 3 ∨ j = 4 ∨ j = 5 := by omega
  rcases hj' with rfl | rfl | rfl | rfl | rfl | rfl
  · obtain ⟨h1, h2, h3⟩ := meet_ok hA hB
    refine ⟨h1, h2, fun x y q1 q2 q3 q4 h => ?_⟩
    have : x = y := by simpa [hldI] using h
    subst this
    exact ⟨h3 x q1 q2 q3 q4, h3 x q1 q2 q3 q4⟩
  · obtain ⟨h1, h3⟩ := wit_ok (B := B) hA
    obtain ⟨h2, h4⟩ := wit_ok (B := A) hB
    refine ⟨h1, h2, fun x y q1 q2 q3 q4 h => ?_⟩
    have : x ≠ y := by simpa [hldI] using h
    exact ⟨h3 x y q1 q2 q3 q4 this, h4 y x q3 q4 q1 q2 (Ne.symm this)⟩
  · obtain ⟨h1, h2, h3⟩ := bel_ok hA hB
    exact ⟨h1, h2, fun x y q1 q2 q3 q4 h => h3 x y q1 q2 q3 q4 (by simpa [hldI] using h)⟩
  · obtain ⟨h1, h2, h3⟩ := upto_ok (A := A) (B := B)
    exact ⟨h1, h2, fun x y q1 q2 q3 q4 h => h3 x y q1 q2 q3 q4 (by simpa [hldI] using h)⟩
  · obtain ⟨h1, h2, h3⟩ := bel_ok hB hA
    exact ⟨h2, h1, fun x y q1 q2 q3 q4 h => (h3 y x q3 q4 q1 q2 (by simpa [hldI] using h)).symm⟩
  · obtain ⟨h1, h2, h3⟩ := upto_ok' (A := A) (B := B)
    exact ⟨h1, h2, fun x y q1 q2 q3 q4 h => h3 x y q1 q2 q3 q4 (by simpa [hldI] using h)⟩

theorem rLeq_within {P X : Iv} (hX : Good X) (h : Within P X) (hp : P.s = true) : rLeq P X = true := by
  obtain ⟨h1, h2, h3⟩ := h hp
  have hP : Good P := ⟨hp, h3, by have := hX.2.2.1; omega, by have := hX.2.2.2; omega⟩
  simp [rLeq, good_nrm hP, good_nrm hX, hp, hX.1, h1, h2]
theorem rLeq_no (X : Iv) : rLeq noIv X = true := by simp [rLeq, nrm]

/-- what is left of two intervals by a comparison lies in them; numbers for which it holds stay -/
theorem less_ok {j : Int} (hj : 0 ≤ j ∧ j ≤ 5) {A B : Iv} (hA : Told A) (hB : Told B) :
    rLeq (lessI j A B).1 A = true ∧ rLeq (lessI j A B).2 B = true ∧ (lessI j A B).1.s = (lessI j A B).2.s ∧ ((A.s = false ∨ B.s = false) → (lessI j A B).1.s = false) ∧
    (A.s = true → B.s = true → ∀ x y, A.lo ≤ x → x ≤ A.hi → B.lo ≤ y → y ≤ B.hi → hldI j x y = true → rHas (lessI j A B).1 x = true ∧ rHas (lessI j A B).2 y = true) := by
  unfold lessI
  rw [told_norm hA, told_norm hB]
  rcases hA with rfl | hA
  · simp [rLeq_no]
  rcases hB with rfl | hB
  · simp [rLeq_no]
  rw [hA.1, hB.1]
  simp only [Bool.and_self, Bool.not_true, Bool.false_eq_true, if_false]
  obtain ⟨w1, w2, w3⟩ := lessP_ok hj hA hB
  generalize lessP j A B = p at *
  obtain ⟨p, q⟩ := p
  simp only at w1 w2 w3 ⊢
  cases hp : p.s with
  | false =>
    simp only [Bool.not_false, Bool.true_or, if_true, rLeq_no]
    refine ⟨trivial, trivial, trivial, fun _ => trivial, fun _ _ x y q1 q2 q3 q4 h => ?_⟩
    have := (w3 x y q1 q2 q3 q4 h).1.1
    rw [hp] at this; simp at this
  | true =>
    cases hq : q.s with
    | false =>
      simp only [Bool.not_false, Bool.or_true, if_true, rLeq_no]
      refine ⟨trivial, trivial, trivial, fun _ => trivial, fun _ _ x y q1 q2 q3 q4 h => ?_⟩
      have := (w3 x y q1 q2 q3 q4 h).2.1
      rw [hq] at this; simp at this
    | true =>
      simp only [Bool.not_true, Bool.or_self, Bool.false_eq_true, if_false]
      refine ⟨rLeq_within hA w1 hp, rLeq_within hB w2 hq, by rw [hp, hq], by simp, fun _ _ x y q1 q2 q3 q4 h => ?_⟩
      obtain ⟨⟨u1, u2, u3⟩, v1, v2, v3⟩ := w3 x y q1 q2 q3 q4 h
      exact ⟨by simp [rHas, u1, u2, u3], by simp [rHas, v1, v2, v3]⟩

theorem in_ok {A : Iv} (h : Good A) {m : Int} (hm : 0 ≤ m ∧ m ≤ 18446744073709551615) : A.lo ≤ inI A m ∧ inI A m ≤ A.hi := by
  obtain ⟨_, h2, h3, h4⟩ := h
  have hd : U (U A.hi - U A.lo) = A.hi - A.lo := by
    simp only [U, U_eq]; omega
  unfold inI
  rw [hd]
  split
  · rename_i hw
    simp only [beq_iff_eq] at hw
    simp only [W, W_eq]
    split <;> omega
  · rename_i hw
    simp only [beq_iff_eq] at hw
    have hd1 : U (A.hi - A.lo + 1) = A.hi - A.lo + 1 := by simp only [U, U_eq]; omega
    rw [hd1, Int.tmod_eq_emod_of_nonneg hm.1]
    have g1 := Int.emod_nonneg m (b := A.hi - A.lo + 1) (by omega)
    have g2 := Int.emod_lt_of_pos m (b := A.hi - A.lo + 1) (by omega)
    generalize m % (A.hi - A.lo + 1) = q at *
    simp only [W, W_eq, U, U_eq]
    split <;> omega

theorem kind_ok {k : Int} (hk : 0 ≤ k ∧ k ≤ 255) : IntKind.i64.wrap (0 + IntKind.i64.wrap (k.tmod 6)) = k % 6 ∧ 0 ≤ k % 6 ∧ k % 6 ≤ 5 := by
  rw [Int.tmod_eq_emod_of_nonneg hk.1]
  have : 0 ≤ k % 6 ∧ k % 6 ≤ 5 := by omega
  refine ⟨?_, this⟩
  rw [wrap_i64 (n := k % 6) (by omega) (by omega), Int.zero_add, wrap_i64 (by omega) (by omega)]
end Go.Proofs.Ytbkhkbfjfblbjaa
