/- Plain laws of intervals: whatever numbers are reckoned with, what comes of it lies in the interval. No conditions but those in each statement. -/
import Derived.Test.YtbkhkbfjfblbjaaPl3
set_option linter.unusedVariables false
set_option linter.unusedSimpArgs false
namespace Go.Proofs.Ytbkhkbfjfblbjaa
open Go Go.Sx Go.RowKit

def Bt (v p q : Int) : Prop := (p ≤ v ∧ v ≤ q) ∨ (q ≤ v ∧ v ≤ p)

theorem mul_bt {x a b : Int} (y : Int) (h1 : a ≤ x) (h2 : x ≤ b) : Bt (x * y) (a * y) (b * y) := by
  rcases Int.le_total 0 y with h | h
  · exact .inl ⟨Int.mul_le_mul_of_nonneg_right h1 h, Int.mul_le_mul_of_nonneg_right h2 h⟩
  · exact .inr ⟨Int.mul_le_mul_of_nonpos_right h2 h, Int.mul_le_mul_of_nonpos_right h1 h⟩
theorem mul_bt2 {y c d : Int} (x : Int) (h1 : c ≤ y) (h2 : y ≤ d) : Bt (x * y) (x * c) (x * d) := by
  rw [Int.mul_comm x y, Int.mul_comm x c, Int.mul_comm x d]; exact mul_bt x h1 h2

theorem tdiv_mono {a x y : Int} (hy : 0 < y) (h : a ≤ x) : a.tdiv y ≤ x.tdiv y := by
  rcases Int.le_total 0 a with h0 | h0
  · rw [Int.tdiv_eq_ediv_of_nonneg h0, Int.tdiv_eq_ediv_of_nonneg (by omega)]
    exact Int.ediv_le_ediv hy h
  · have e : a.tdiv y = -((-a) / y) := by
      have : a = -(-a) := by omega
      rw [this, Int.neg_tdiv, Int.neg_neg, Int.tdiv_eq_ediv_of_nonneg (by omega)]
    rcases Int.le_total 0 x with h1 | h1
    · rw [e, Int.tdiv_eq_ediv_of_nonneg h1]
      have := Int.ediv_nonneg (a := -a) (b := y) (by omega) (by omega)
      have := Int.ediv_nonneg (a := x) (b := y) h1 (by omega)
      omega
    · have e2 : x.tdiv y = -((-x) / y) := by
        have : x = -(-x) := by omega
        rw [this, Int.neg_tdiv, Int.neg_neg, Int.tdiv_eq_ediv_of_nonneg (by omega)]
      rw [e, e2]
      have := Int.ediv_le_ediv (a := -x) (b := -a) hy (by omega)
      omega
theorem tdiv_bt {x a b y : Int} (h0 : y ≠ 0) (h1 : a ≤ x) (h2 : x ≤ b) : Bt (x.tdiv y) (a.tdiv y) (b.tdiv y) := by
  rcases Int.lt_or_gt_of_ne h0 with h | h
  · have e : ∀ z : Int, z.tdiv y = -(z.tdiv (-y)) := by intro z; rw [Int.tdiv_neg, Int.neg_neg]
    rw [e x, e a, e b]
    have := tdiv_mono (y := -y) (by omega) h1
    have := tdiv_mono (y := -y) (by omega) h2
    exact .inr ⟨by omega, by omega⟩
  · exact .inl ⟨tdiv_mono h h1, tdiv_mono h h2⟩
theorem ediv_anti {x c y : Int} (hx : 0 ≤ x) (hc : 0 < c) (h : c ≤ y) : x / y ≤ x / c := by
  rw [Int.le_ediv_iff_mul_le hc]
  have h1 := Int.ediv_mul_le x (b := y) (by omega)
  have h2 : 0 ≤ x / y := Int.ediv_nonneg hx (by omega)
  have := Int.mul_le_mul_of_nonneg_left h h2
  omega
theorem tdiv_bt2p {x c d y : Int} (hc : 0 < c) (h1 : c ≤ y) (h2 : y ≤ d) : Bt (x.tdiv y) (x.tdiv c) (x.tdiv d) := by
  rcases Int.le_total 0 x with h | h
  · rw [Int.tdiv_eq_ediv_of_nonneg h, Int.tdiv_eq_ediv_of_nonneg h, Int.tdiv_eq_ediv_of_nonneg h]
    exact .inr ⟨ediv_anti h (by omega) h2, ediv_anti h hc h1⟩
  · have e : ∀ z : Int, x.tdiv z = -((-x) / z) := by
      intro z
      have : x = -(-x) := by omega
      conv => lhs; rw [this]
      rw [Int.neg_tdiv, Int.tdiv_eq_ediv_of_nonneg (by omega)]
    rw [e y, e c, e d]
    have := ediv_anti (x := -x) (by omega) (by omega) h2
    have := ediv_anti (x := -x) (by omega) hc h1
    exact .inl ⟨by omega, by omega⟩
theorem tdiv_bt2 {x c d y : Int} (hs : 0 < c ∨ d < 0) (h1 : c ≤ y) (h2 : y ≤ d) : Bt (x.tdiv y) (x.tdiv c) (x.tdiv d) := by
  rcases hs with h | h
  · exact tdiv_bt2p h h1 h2
  · have e : ∀ z : Int, x.tdiv z = -(x.tdiv (-z)) := by intro z; rw [Int.tdiv_neg, Int.neg_neg]
    rw [e y, e c, e d]
    rcases tdiv_bt2p (x := x) (c := -d) (d := -c) (y := -y) (by omega) (by omega) (by omega) with ⟨g1, g2⟩ | ⟨g1, g2⟩
    · exact .inl ⟨by omega, by omega⟩
    · exact .inr ⟨by omega, by omega⟩
theorem hull_at {v p q a b c d : Int} (h : Bt v p q) (hp : Bt p a b) (hq : Bt q c d) : At1 (hullL a b c d) v := by
  unfold hullL
  unfold Bt at *
  apply at_of <;> (repeat' split) <;> omega
theorem at_has {P : Iv} {v : Int} (h : At1 P v) : rHas P v = true := by
  obtain ⟨h1, h2, h3⟩ := h
  simp [rHas, h1, h2, h3]

section
variable {A B : Iv} (hA : Good A) (hB : Good B) {x y : Int} (h1 : A.lo ≤ x) (h2 : x ≤ A.hi) (h3 : B.lo ≤ y) (h4 : y ≤ B.hi)
include hA hB h1 h2 h3 h4

theorem add_sound : rHas (addI A B) (W (x + y)) = true := by
  unfold addI
  rw [good_norm hA, good_norm hB, if_neg (by simp [hA.1, hB.1])]
  obtain ⟨a1, a2⟩ := good_rg hA
  obtain ⟨b1, b2⟩ := good_rg hB
  rw [plus_ok a1 b1, plus_ok a2 b2]
  split
  · exact top_has (W_rg _)
  · rename_i h
    simp only [Bool.or_eq_true, Bool.not_eq_true', decide_eq_false_iff_not, not_or, Decidable.not_not] at h
    rw [W_id h.1, W_id h.2, W_id (by unfold Rg at *; omega)]
    exact at_has (at_of (by omega) (by omega))
theorem sub_sound : rHas (subI A B) (W (x - y)) = true := by
  unfold subI
  rw [good_norm hA, good_norm hB, if_neg (by simp [hA.1, hB.1])]
  obtain ⟨a1, a2⟩ := good_rg hA
  obtain ⟨b1, b2⟩ := good_rg hB
  rw [minus_ok a1 b2, minus_ok a2 b1]
  split
  · exact top_has (W_rg _)
  · rename_i h
    simp only [Bool.or_eq_true, Bool.not_eq_true', decide_eq_false_iff_not, not_or, Decidable.not_not] at h
    rw [W_id h.1, W_id h.2, W_id (by unfold Rg at *; omega)]
    exact at_has (at_of (by omega) (by omega))
omit hA hB in
theorem mul_at : At1 (hullL (A.lo * B.lo) (A.lo * B.hi) (A.hi * B.lo) (A.hi * B.hi)) (x * y) :=
  hull_at (mul_bt y h1 h2) (mul_bt2 _ h3 h4) (mul_bt2 _ h3 h4)
theorem mul_sound : rHas (mulI A B) (W (x * y)) = true := by
  unfold mulI
  rw [good_norm hA, good_norm hB, if_neg (by simp [hA.1, hB.1])]
  obtain ⟨a1, a2⟩ := good_rg hA
  obtain ⟨b1, b2⟩ := good_rg hB
  simp only [times_ok a1 b1, times_ok a1 b2, times_ok a2 b1, times_ok a2 b2]
  split
  · exact top_has (W_rg _)
  · rename_i h
    simp only [Bool.or_eq_true, Bool.not_eq_true', decide_eq_false_iff_not, not_or, Decidable.not_not] at h
    obtain ⟨⟨⟨r1, r2⟩, r3⟩, r4⟩ := h
    have hat := mul_at h1 h2 h3 h4
    have hr : Rg (x * y) := by
      rcases mul_bt y h1 h2 with ⟨_, _⟩ | ⟨_, _⟩ <;> rcases mul_bt2 A.lo h3 h4 with ⟨_, _⟩ | ⟨_, _⟩ <;> rcases mul_bt2 A.hi h3 h4 with ⟨_, _⟩ | ⟨_, _⟩ <;> (unfold Rg at *; omega)
    rw [W_id r1, W_id r2, W_id r3, W_id r4, W_id hr]
    exact at_has hat
end

theorem tdiv_rg {x y : Int} (hx : Rg x) (h : ¬ (x = -9223372036854775808 ∧ y = -1)) : Rg (x.tdiv y) := by
  unfold Rg at *
  by_cases h1 : y = -1
  · subst h1
    have : x.tdiv (-1) = -x := by rw [Int.tdiv_neg, Int.tdiv_one]
    rw [this]
    omega
  · by_cases h2 : y = 1
    · subst h2; rw [Int.tdiv_one]; omega
    · by_cases h3 : y = 0
      · subst h3; rw [Int.tdiv_zero]; omega
      · have h2 : y.natAbs ≥ 2 := by omega
        have : (x.tdiv y).natAbs ≤ x.natAbs / 2 := by
          rw [Int.natAbs_tdiv]
          exact Nat.div_le_div_left h2 (by omega)
        omega
theorem hasB_good {A : Iv} (hA : Good A) (m : Int) : hasB A m = decide (A.lo ≤ m ∧ m ≤ A.hi) := by
  obtain ⟨h1, h2, _⟩ := hA
  rw [Bool.eq_iff_iff]
  simp [hasB, emptyB, h1]
  omega
theorem quo_at {A P : Iv} (hA : Good A) (hP : P.s = true) (hs : 0 < P.lo ∨ P.hi < 0) (hw : ¬ (A.lo = -9223372036854775808 ∧ P.lo ≤ -1 ∧ -1 ≤ P.hi)) {x y : Int} (h1 : A.lo ≤ x) (h2 : x ≤ A.hi) (h3 : P.lo ≤ y) (h4 : y ≤ P.hi) :
    At1 (quoI A P) (x.tdiv y) := by
  obtain ⟨a1, a2⟩ := good_rg hA
  unfold quoI
  rw [if_neg (by simp [hP])]
  have hAl : -9223372036854775808 ≤ A.lo := a1.1
  rw [W_id (tdiv_rg a1 (by omega)), W_id (tdiv_rg a1 (by omega)), W_id (tdiv_rg a2 (by omega)), W_id (tdiv_rg a2 (by omega))]
  exact hull_at (tdiv_bt (by omega) h1 h2) (tdiv_bt2 hs h3 h4) (tdiv_bt2 hs h3 h4)
theorem join_at {P Q : Iv} {v : Int} (h : At1 P v ∨ At1 Q v) : At1 (joinL [P, Q]) v := by
  simp only [joinL, List.foldl]
  rcases h with ⟨h1, h2, h3⟩ | ⟨h1, h2, h3⟩
  · have e : emptyB P = false := by simp [emptyB, h1]; omega
    have hj : join1 noIv P = ⟨true, P.lo, P.hi⟩ := by
      simp only [join1, e, noIv, Bool.false_eq_true, if_false]
      unfold Of
      rw [if_neg (by omega)]
    rw [hj]
    unfold join1
    split
    · exact ⟨rfl, h2, h3⟩
    · simp only [if_true]
      apply at_of <;> split <;> omega
  · have e : emptyB Q = false := by simp [emptyB, h1]; omega
    generalize join1 noIv P = R
    unfold join1
    simp only [e, Bool.false_eq_true, if_false]
    split
    · apply at_of <;> split <;> omega
    · exact at_of h2 h3
theorem div_sound {A B : Iv} (hA : Good A) (hB : Good B) {x y : Int} (h1 : A.lo ≤ x) (h2 : x ≤ A.hi) (h3 : B.lo ≤ y) (h4 : y ≤ B.hi) (h0 : y ≠ 0) : rHas (divI A B).1 (W (x.tdiv y)) = true := by
  obtain ⟨a1, a2⟩ := good_rg hA
  unfold divI
  rw [good_norm hA, good_norm hB, if_neg (by simp [hA.1, hB.1]), hasB_good hA, hasB_good hB]
  have hAl : -9223372036854775808 ≤ A.lo := a1.1
  have hAu : x ≤ 9223372036854775807 := by have := a2.2; omega
  split
  · exact top_has (W_rg _)
  · rename_i h
    simp only [Bool.and_eq_true, decide_eq_true_eq, not_and] at h
    have hw : ¬ (x = -9223372036854775808 ∧ y = -1) := by omega
    rw [W_id (tdiv_rg ⟨by omega, hAu⟩ hw)]
    refine at_has (join_at ?_)
    rcases Int.lt_or_gt_of_ne h0 with hy | hy
    · left
      have hb : (belowZ B).s = true := by
        unfold belowZ Of
        rw [if_neg (by split <;> omega)]
      obtain ⟨_, e1, e2⟩ := Of_s hb
      have e1 : (belowZ B).lo = B.lo := e1
      have e2 : (belowZ B).hi = if -1 < B.hi then -1 else B.hi := e2
      refine quo_at hA hb (.inr ?_) ?_ h1 h2 ?_ ?_ <;> (try rw [e2]) <;> (try rw [e1]) <;> (try split) <;> omega
    · right
      have hb : (aboveZ B).s = true := by
        unfold aboveZ Of
        rw [if_neg (by split <;> omega)]
      obtain ⟨_, e1, e2⟩ := Of_s hb
      have e1 : (aboveZ B).lo = if B.lo < 1 then 1 else B.lo := e1
      have e2 : (aboveZ B).hi = B.hi := e2
      refine quo_at hA hb (.inl ?_) ?_ h1 h2 ?_ ?_ <;> (try rw [e2]) <;> (try rw [e1]) <;> (try split) <;> omega
theorem div_zero {A B : Iv} (hA : Good A) (hB : Good B) (h3 : B.lo ≤ 0) (h4 : 0 ≤ B.hi) : (divI A B).2 = true ∧ (modI A B).2 = true := by
  have hg : ¬ (!(A.s && B.s)) = true := by simp [hA.1, hB.1]
  unfold divI modI
  rw [good_norm hA, good_norm hB, if_neg hg, if_neg hg, hasB_good hB 0, decide_eq_true (And.intro h3 h4)]
  constructor
  · split <;> rfl
  · split <;> rfl
theorem bef_all {y : Int} (hy : Rg y) : befI y = y.natAbs - 1 := by
  by_cases h : y = 0
  · subst h; rfl
  · exact bef_ok hy h
theorem mod_at {A B : Iv} (hA : Good A) (hB : Good B) {x y : Int} (h1 : A.lo ≤ x) (h2 : x ≤ A.hi) (h3 : B.lo ≤ y) (h4 : y ≤ B.hi) (h0 : y ≠ 0) : At1 (modI A B).1 (x.tmod y) := by
  obtain ⟨a1, a2⟩ := good_rg hA
  obtain ⟨b1, b2⟩ := good_rg hB
  unfold modI
  rw [good_norm hA, good_norm hB, if_neg (by simp [hA.1, hB.1]), if_neg (by simp; omega)]
  have hm : (x.tmod y).natAbs < y.natAbs := by
    rw [Int.natAbs_tmod]
    exact Nat.mod_lt _ (by omega)
  have hm2 : (x.tmod y).natAbs ≤ x.natAbs := by
    rw [Int.natAbs_tmod]
    exact Nat.mod_le _ _
  have s1 : 0 ≤ x → 0 ≤ x.tmod y := fun h => Int.tmod_nonneg y h
  have s2 : x ≤ 0 → x.tmod y ≤ 0 := fun h => by
    have := Int.tmod_nonneg y (a := -x) (by omega)
    rw [Int.neg_tmod] at this
    omega
  rw [bef_all b1, bef_all b2]
  generalize x.tmod y = r at *
  have hM : ∃ M : Int, mxI ((B.lo.natAbs : Int) - 1) ((B.hi.natAbs : Int) - 1) = M ∧ (y.natAbs : Int) - 1 ≤ M ∧ Rg M := by
    refine ⟨_, rfl, ?_, ?_⟩
    · unfold mxI; split <;> omega
    · unfold mxI; unfold Rg at *; split <;> omega
  obtain ⟨M, e, g1, g2⟩ := hM
  rw [e]
  have hW : W (0 - M) = 0 - M := W_id (by unfold Rg at *; omega)
  rw [hW]
  unfold Rg at *
  apply at_of
  · split
    · rename_i h; simp only [decide_eq_true_eq] at h; unfold mxI; split <;> omega
    · rename_i h; simp only [decide_eq_true_eq] at h; omega
  · split
    · rename_i h; simp only [decide_eq_true_eq] at h; unfold mnI; split <;> omega
    · rename_i h; simp only [decide_eq_true_eq] at h; omega
end Go.Proofs.Ytbkhkbfjfblbjaa
