/- Plain laws of intervals of one number each. No conditions but those in each statement. -/
import Derived.Test.YtbkhkbfjfblbjaaPl2
set_option linter.unusedVariables false
set_option linter.unusedSimpArgs false
namespace Go.Proofs.Ytbkhkbfjfblbjaa
open Go Go.Sx Go.RowKit

theorem rOf_one {x : Int} : rOf x x = ⟨true, x, x⟩ := by
  unfold rOf nrm
  rw [if_neg (by simp)]
theorem one_good {x : Int} (h : Rg x) : Good ⟨true, x, x⟩ := ⟨rfl, Int.le_refl _, h.1, h.2⟩
theorem Of_one (x : Int) : Of x x = ⟨true, x, x⟩ := by
  unfold Of
  rw [if_neg (by omega)]
theorem top_has {x : Int} (h : Rg x) : rHas topIv x = true := by
  obtain ⟨h1, h2⟩ := h
  simp [rHas, h1, h2]
theorem one_has (x : Int) : rHas ⟨true, x, x⟩ x = true := by simp [rHas]
theorem add_one {x y : Int} (hx : Rg x) (hy : Rg y) : addI ⟨true, x, x⟩ ⟨true, y, y⟩ = if Rg (x + y) then ⟨true, W (x + y), W (x + y)⟩ else topIv := by
  unfold addI
  rw [good_norm (one_good hx), good_norm (one_good hy)]
  simp only [plus_ok hx hy, Of_one]
  by_cases h : Rg (x + y) <;> simp [h]
theorem sub_one {x y : Int} (hx : Rg x) (hy : Rg y) : subI ⟨true, x, x⟩ ⟨true, y, y⟩ = if Rg (x - y) then ⟨true, W (x - y), W (x - y)⟩ else topIv := by
  unfold subI
  rw [good_norm (one_good hx), good_norm (one_good hy)]
  simp only [minus_ok hx hy, Of_one]
  by_cases h : Rg (x - y) <;> simp [h]
theorem hull_one (p : Int) : hullL p p p p = ⟨true, p, p⟩ := by
  unfold hullL
  simp [Of_one]
theorem mul_one {x y : Int} (hx : Rg x) (hy : Rg y) : mulI ⟨true, x, x⟩ ⟨true, y, y⟩ = if Rg (x * y) then ⟨true, W (x * y), W (x * y)⟩ else topIv := by
  unfold mulI
  rw [good_norm (one_good hx), good_norm (one_good hy)]
  simp only [times_ok hx hy, hull_one]
  by_cases h : Rg (x * y) <;> simp [h]
theorem hasB_one (x m : Int) : hasB ⟨true, x, x⟩ m = decide (x = m) := by
  rw [Bool.eq_iff_iff]
  simp [hasB, emptyB]
  omega
theorem div_one {x y : Int} (hx : Rg x) (hy : Rg y) : divI ⟨true, x, x⟩ ⟨true, y, y⟩ =
    (if x = -9223372036854775808 ∧ y = -1 then topIv else if y = 0 then noIv else ⟨true, W (x.tdiv y), W (x.tdiv y)⟩, decide (y = 0)) := by
  unfold divI
  rw [good_norm (one_good hx), good_norm (one_good hy)]
  simp only [hasB_one, Bool.and_self, Bool.not_true, Bool.false_eq_true, if_false]
  by_cases h : x = -9223372036854775808 ∧ y = -1
  · rw [if_pos (by simp [h.1, h.2]), if_pos h]
  · rw [if_neg (by simpa using h), if_neg h]
    congr 1
    have hq : quoI ⟨true, x, x⟩ ⟨true, y, y⟩ = ⟨true, W (x.tdiv y), W (x.tdiv y)⟩ := by
      unfold quoI
      rw [if_neg (by simp)]
      exact hull_one _
    have hn : quoI ⟨true, x, x⟩ noIv = noIv := rfl
    have hj : ∀ z, joinL [⟨true, z, z⟩, noIv] = ⟨true, z, z⟩ := by
      intro z; simp [joinL, join1, emptyB, Of_one]
    have hj2 : ∀ z, joinL [noIv, ⟨true, z, z⟩] = ⟨true, z, z⟩ := by
      intro z; simp [joinL, join1, emptyB, Of_one]
    by_cases h0 : y = 0
    · subst h0; rfl
    · rw [if_neg h0]
      by_cases hlt : y < 0
      · have e1 : belowZ ⟨true, y, y⟩ = ⟨true, y, y⟩ := by
          show Of y (if -1 < y then -1 else y) = _
          rw [if_neg (by omega), Of_one]
        have e2 : aboveZ ⟨true, y, y⟩ = noIv := by
          show Of (if y < 1 then 1 else y) y = _
          rw [if_pos (by omega)]
          unfold Of
          rw [if_pos (by omega)]
        rw [e1, e2, hq, hn, hj]
      · have e1 : belowZ ⟨true, y, y⟩ = noIv := by
          show Of y (if -1 < y then -1 else y) = _
          rw [if_pos (by omega)]
          unfold Of
          rw [if_pos (by omega)]
        have e2 : aboveZ ⟨true, y, y⟩ = ⟨true, y, y⟩ := by
          show Of (if y < 1 then 1 else y) y = _
          rw [if_neg (by omega), Of_one]
        rw [e1, e2, hq, hn, hj2]
theorem bef_ok {y : Int} (hy : Rg y) (h0 : y ≠ 0) : befI y = y.natAbs - 1 := by
  unfold Rg at hy
  unfold befI
  by_cases h : y < 0
  · rw [if_pos (by simpa using h), W_in (n := y + 1) (by omega) (by omega), W_in (by omega) (by omega)]
    omega
  · rw [if_neg (by simpa using h), W_in (by omega) (by omega)]
    omega
theorem mod_one0 {x : Int} (hx : Rg x) : modI ⟨true, x, x⟩ ⟨true, 0, 0⟩ = (noIv, true) := by
  unfold modI
  rw [good_norm (one_good hx), good_norm (one_good (x := 0) (by unfold Rg; omega))]
  simp [hasB_one]
theorem mod_one {x y : Int} (hx : Rg x) (hy : Rg y) (h0 : y ≠ 0) : rHas (modI ⟨true, x, x⟩ ⟨true, y, y⟩).1 (x.tmod y) = true ∧ (modI ⟨true, x, x⟩ ⟨true, y, y⟩).2 = false := by
  unfold modI
  rw [good_norm (one_good hx), good_norm (one_good hy)]
  simp only [hasB_one, Bool.and_self, Bool.not_true, Bool.false_eq_true, if_false]
  rw [if_neg (by simpa using h0)]
  refine ⟨?_, by simpa using h0⟩
  simp only [bef_ok hy h0, mxI, mnI, Int.lt_irrefl, if_false]
  have hm : (x.tmod y).natAbs < y.natAbs := by
    rw [Int.natAbs_tmod]
    exact Nat.mod_lt _ (by omega)
  have hm2 : (x.tmod y).natAbs ≤ x.natAbs := by
    rw [Int.natAbs_tmod]
    exact Nat.mod_le _ _
  have hb : Rg ((y.natAbs : Int) - 1) := by unfold Rg at *; omega
  have hw : W (0 - ((y.natAbs : Int) - 1)) = 0 - ((y.natAbs : Int) - 1) := W_in (by unfold Rg at hb; omega) (by unfold Rg at hb; omega)
  rw [hw]
  have s1 : 0 ≤ x → 0 ≤ x.tmod y := fun h => Int.tmod_nonneg y h
  have s2 : x ≤ 0 → x.tmod y ≤ 0 := fun h => by
    have := Int.tmod_nonneg y (a := -x) (by omega)
    rw [Int.neg_tmod] at this
    omega
  generalize x.tmod y = r at *
  have key : ∀ lo hi : Int, lo ≤ r → r ≤ hi → rHas (Of lo hi) r = true := by
    intro lo hi h1 h2
    unfold Of
    rw [if_neg (by omega)]
    simp [rHas, h1, h2]
  apply key
  · by_cases h : x < 0
    · rw [if_pos (by simpa using h)]; split <;> omega
    · rw [if_neg (by simpa using h)]; exact s1 (by omega)
  · by_cases h : 0 < x
    · rw [if_pos (by simpa using h)]; split <;> omega
    · rw [if_neg (by simpa using h)]; exact s2 (by omega)
end Go.Proofs.Ytbkhkbfjfblbjaa
