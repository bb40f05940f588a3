/- Plain laws of intervals: package arith answers as the reference does. No conditions but those in each statement. -/
import Derived.Test.YtbkhkbfjfblbjaaPl5
import Derived.Test.YtbkhkbfjfblbjaaRg6
set_option linter.unusedVariables false
set_option linter.unusedSimpArgs false
namespace Go.Proofs.Ytbkhkbfjfblbjaa
open Go Go.RowKit

theorem rOf_Of (lo hi : Int) : rOf lo hi = Of lo hi := by
  unfold rOf nrm Of
  by_cases h : hi < lo <;> simp [h]
theorem adB_ok {x y : Int} (hx : Rg x) (hy : Rg y) : adB x y = decide (Rg (x + y)) := by
  unfold adB
  rw [Bool.eq_iff_iff]
  simp only [Bool.not_eq_true', Bool.or_eq_false_iff, Bool.and_eq_false_iff, decide_eq_false_iff_not, decide_eq_true_eq, W, W_eq]
  unfold Rg at *
  split <;> omega
theorem suB_ok {x y : Int} (hx : Rg x) (hy : Rg y) : suB x y = decide (Rg (x - y)) := by
  unfold suB
  rw [Bool.eq_iff_iff]
  simp only [Bool.not_eq_true', Bool.or_eq_false_iff, Bool.and_eq_false_iff, decide_eq_false_iff_not, decide_eq_true_eq, W, W_eq]
  unfold Rg at *
  split <;> omega
theorem times_mu (x y : Int) : timesI x y = (muV x y, muB x y) := by
  unfold timesI muV muB muZ muA
  split
  · rfl
  · split <;> rfl
theorem hull_mn (a b c d : Int) : hullL a b c d = rOf (Sy.mn (Sy.mn (Sy.mn a b) c) d) (Sy.mx (Sy.mx (Sy.mx a b) c) d) := by
  rw [rOf_Of]; rfl
theorem emB_norm (a b : Iv) : emB a b = !((normI a).s && (normI b).s) := by
  unfold emB; rw [normI_nrm, normI_nrm]; cases (nrm a).s <;> cases (nrm b).s <;> rfl
theorem add_ref {a b : Iv} (ha : wfIv a) (hb : wfIv b) : addI a b = arI' 2 a b := by
  unfold addI arI'
  rw [emB_norm]
  by_cases h : (!((normI a).s && (normI b).s)) = true
  · rw [if_pos h, if_pos h]
  · rw [if_neg h, if_neg h]
    simp only [Bool.not_eq_true', Bool.not_eq_false, Bool.and_eq_true] at h
    rcases normI_told ha with e | hA
    · rw [e] at h; cases h.1
    rcases normI_told hb with e | hB
    · rw [e] at h; cases h.2
    obtain ⟨a1, a2⟩ := good_rg hA
    obtain ⟨b1, b2⟩ := good_rg hB
    rw [normI_nrm] at a1 a2
    rw [normI_nrm] at b1 b2
    rw [normI_nrm, normI_nrm, plus_ok a1 b1, plus_ok a2 b2, adB_ok a1 b1, adB_ok a2 b2]
    by_cases h1 : Rg ((nrm a).lo + (nrm b).lo) <;> by_cases h2 : Rg ((nrm a).hi + (nrm b).hi) <;> simp [h1, h2, rOf_Of]
theorem sub_ref {a b : Iv} (ha : wfIv a) (hb : wfIv b) : subI a b = arI' 3 a b := by
  unfold subI arI'
  rw [emB_norm]
  by_cases h : (!((normI a).s && (normI b).s)) = true
  · rw [if_pos h, if_pos h]
  · rw [if_neg h, if_neg h]
    simp only [Bool.not_eq_true', Bool.not_eq_false, Bool.and_eq_true] at h
    rcases normI_told ha with e | hA
    · rw [e] at h; cases h.1
    rcases normI_told hb with e | hB
    · rw [e] at h; cases h.2
    obtain ⟨a1, a2⟩ := good_rg hA
    obtain ⟨b1, b2⟩ := good_rg hB
    rw [normI_nrm] at a1 a2
    rw [normI_nrm] at b1 b2
    rw [normI_nrm, normI_nrm, minus_ok a1 b2, minus_ok a2 b1, suB_ok a1 b2, suB_ok a2 b1]
    by_cases h1 : Rg ((nrm a).lo - (nrm b).hi) <;> by_cases h2 : Rg ((nrm a).hi - (nrm b).lo) <;> simp [h1, h2, rOf_Of]
theorem mul_ref (a b : Iv) : mulI a b = arI' 4 a b := by
  unfold mulI arI'
  rw [emB_norm]
  by_cases h : (!((normI a).s && (normI b).s)) = true
  · rw [if_pos h, if_pos h]
  · rw [if_neg h, if_neg h, normI_nrm, normI_nrm]
    simp only [times_mu, hull_mn]
    cases muB (nrm a).lo (nrm b).lo <;> cases muB (nrm a).lo (nrm b).hi <;> cases muB (nrm a).hi (nrm b).lo <;> cases muB (nrm a).hi (nrm b).hi <;> simp
theorem mt_two {A D : Iv} (hA : Good A) (hD : Told D) : mtL topIv [A, D] = if D.s = true then Of (Sy.mx A.lo D.lo) (Sy.mn A.hi D.hi) else noIv := by
  obtain ⟨a1, a2, a3, a4⟩ := id hA
  have e1 : Sy.mx topIv.lo A.lo = A.lo := by simp only [Sy.mx, topIv]; split <;> omega
  have e2 : Sy.mn topIv.hi A.hi = A.hi := by simp only [Sy.mn, topIv]; split <;> omega
  have e3 : Of A.lo A.hi = A := by
    obtain ⟨s, lo, hi⟩ := A
    simp only at a1 a2
    subst a1
    unfold Of
    rw [if_neg (Int.not_lt.2 a2)]
  simp only [mtL, good_nrm hA, a1, Bool.not_true, Bool.or_self, Bool.false_or, e1, e2, rOf_Of, e3]
  rcases hD with e | hD
  · subst e; rfl
  · rw [good_nrm hD, hD.1]; simp
theorem ne_ref {B : Iv} (hB : Good B) : neI B = belowZ B := by
  unfold neI
  rw [mt_two hB (by rw [rOf_Of]; exact told_of (by decide) (by decide))]
  have e : rOf (-9223372036854775808) (-1) = ⟨true, -9223372036854775808, -1⟩ := rfl
  obtain ⟨_, _, h3, h4⟩ := hB
  simp only [e, if_true, belowZ, Sy.mx, Sy.mn]
  congr 1
  split <;> omega
theorem po_ref {B : Iv} (hB : Good B) : poI B = aboveZ B := by
  unfold poI
  rw [mt_two hB (by rw [rOf_Of]; exact told_of (by decide) (by decide))]
  have e : rOf 1 9223372036854775807 = ⟨true, 1, 9223372036854775807⟩ := rfl
  obtain ⟨_, _, h3, h4⟩ := hB
  simp only [e, if_true, aboveZ, Sy.mx, Sy.mn]
  congr 1
  split <;> omega
end Go.Proofs.Ytbkhkbfjfblbjaa
