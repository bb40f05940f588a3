/- Plain laws of intervals: comparisons as the reference has them. No conditions but those in each statement. -/
import Derived.Test.YtbkhkbfjfblbjaaPl7
set_option linter.unusedVariables false
set_option linter.unusedSimpArgs false
namespace Go.Proofs.Ytbkhkbfjfblbjaa
open Go Go.RowKit

theorem wo_ref {A B : Iv} (hA : Good A) : (if (B.lo == B.hi) = true then woI A B.lo else A) = witI A B := by
  obtain ⟨h1, _⟩ := hA
  unfold woI witI
  simp only [h1, rOf_Of, Bool.not_true, Bool.false_or]
  by_cases e1 : B.lo = B.hi
  · by_cases e2 : A.lo = B.lo <;> by_cases e3 : A.hi = B.lo <;> by_cases e4 : A.lo = A.hi <;> simp [e1, e2, e3, e4] <;> simp_all
  · simp [e1]
theorem up_told {n : Int} (h : Rg n) : Told (upI n) := by
  unfold upI
  split
  · exact .inl rfl
  · rename_i e
    simp only [beq_iff_eq] at e
    rw [rOf_Of, W_in (by unfold Rg at h; omega) (by unfold Rg at h; omega)]
    exact told_of (by decide) (by unfold Rg at h; omega)
theorem fr_told {n : Int} (h : Rg n) : Told (frI n) := by
  unfold frI
  split
  · exact .inl rfl
  · rename_i e
    simp only [beq_iff_eq] at e
    rw [rOf_Of, W_in (by unfold Rg at h; omega) (by unfold Rg at h; omega)]
    exact told_of (by unfold Rg at h; omega) (by decide)
/-- two answers, none where one is none -/
def both (P Q : Iv) : Iv × Iv := if (!P.s || !Q.s) = true then (noIv, noIv) else (P, Q)
theorem up_two {A B : Iv} (hA : Good A) (hB : Good B) : mtL topIv [A, upI B.hi] = if (B.hi == -9223372036854775808) = true then noIv else Of A.lo (mnI A.hi (W (B.hi - 1))) := by
  obtain ⟨b1, b2⟩ := good_rg hB
  rw [mt_two hA (up_told b2)]
  obtain ⟨_, a2, a3, a4⟩ := hA
  unfold upI Rg at *
  by_cases e : B.hi = -9223372036854775808
  · simp [e]
  · simp only [beq_iff_eq, e, if_false]
    rw [rOf_Of, W_in (by omega) (by omega)]
    have : Of (-9223372036854775808) (B.hi - 1) = ⟨true, -9223372036854775808, B.hi - 1⟩ := by unfold Of; rw [if_neg (by omega)]
    rw [this]
    simp only [if_true, Sy.mx, Sy.mn, mnI]
    congr 1
    split <;> omega
theorem fr_two {A B : Iv} (hA : Good A) (hB : Good B) : mtL topIv [B, frI A.lo] = if (A.lo == 9223372036854775807) = true then noIv else Of (mxI B.lo (W (A.lo + 1))) B.hi := by
  obtain ⟨b1, b2⟩ := good_rg hA
  rw [mt_two hB (fr_told b1)]
  obtain ⟨_, a2, a3, a4⟩ := hB
  unfold frI Rg at *
  by_cases e : A.lo = 9223372036854775807
  · simp [e]
  · simp only [beq_iff_eq, e, if_false]
    rw [rOf_Of, W_in (by omega) (by omega)]
    have : Of (A.lo + 1) 9223372036854775807 = ⟨true, A.lo + 1, 9223372036854775807⟩ := by unfold Of; rw [if_neg (by omega)]
    rw [this]
    simp only [if_true, Sy.mx, Sy.mn, mxI]
    congr 1
    split <;> omega
theorem Of_big {lo hi : Int} (h : hi < lo) : Of lo hi = noIv := by unfold Of; rw [if_pos h]
theorem k2_ref {A B : Iv} (hA : Good A) (hB : Good B) : both (mtL topIv [A, upI B.hi]) (mtL topIv [B, frI A.lo]) = both (belI A B).1 (belI A B).2 := by
  rw [up_two hA hB, fr_two hA hB]
  unfold belI
  by_cases e1 : B.hi = -9223372036854775808
  · simp [e1, both]
  · by_cases e2 : A.lo = 9223372036854775807
    · simp [e1, e2, both]
    · simp [e1, e2]
theorem le_two {A B : Iv} (hA : Good A) (hB : Good B) : mtL topIv [A, rOf (-9223372036854775808) B.hi] = Of A.lo (mnI A.hi B.hi) ∧ mtL topIv [B, rOf A.lo 9223372036854775807] = Of (mxI B.lo A.lo) B.hi := by
  obtain ⟨_, a2, a3, a4⟩ := id hA
  obtain ⟨_, b2, b3, b4⟩ := id hB
  have e1 : rOf (-9223372036854775808) B.hi = ⟨true, -9223372036854775808, B.hi⟩ := by rw [rOf_Of]; unfold Of; rw [if_neg (by omega)]
  have e2 : rOf A.lo 9223372036854775807 = ⟨true, A.lo, 9223372036854775807⟩ := by rw [rOf_Of]; unfold Of; rw [if_neg (by omega)]
  constructor
  · rw [e1, mt_two hA (.inr ⟨rfl, by simp only; omega, by simp, by simp only; omega⟩)]
    simp only [if_true, Sy.mx, Sy.mn, mnI]
    congr 1
    split <;> omega
  · rw [e2, mt_two hB (.inr ⟨rfl, by simp only; omega, by simp only; omega, by simp⟩)]
    simp only [if_true, Sy.mx, Sy.mn, mxI]
    congr 1
    split <;> omega
theorem eq_two {A B : Iv} (hA : Good A) (hB : Good B) : mtL topIv [A, B] = meetL [A, B] := by
  rw [meet_eq hA hB, mt_two hA (.inr hB), hB.1]; rfl
theorem both_good {P Q : Iv} (hP : Good P) (hQ : Good Q) : both P Q = (P, Q) := by unfold both; rw [hP.1, hQ.1]; rfl
theorem both_swap (P Q : Iv) : both (both P Q).2 (both P Q).1 = both Q P := by
  unfold both
  cases h1 : P.s <;> cases h2 : Q.s <;> simp [h1, h2]
theorem em_good {A B : Iv} (hA : Good A) (hB : Good B) : emB A B = false := by unfold emB; rw [good_nrm hA, good_nrm hB, hA.1, hB.1]; rfl
theorem ls_ref {k : Int} {A B : Iv} (hA : Good A) (hB : Good B) (h4 : k ≠ 4) (h5 : k ≠ 5) : (lsX k A B, lsY k A B) = both (lessP k A B).1 (lessP k A B).2 := by
  have key : (lsX k A B, lsY k A B) = if outB k = true then (A, B) else both (lsA k A B) (lsB k A B) := by
    unfold lsX lsY
    rw [em_good hA hB, good_nrm hA, good_nrm hB]
    unfold both
    simp only [Bool.false_eq_true, if_false]
    split
    · rfl
    · split <;> rfl
  rw [key]
  by_cases ho : outB k = true
  · rw [if_pos ho]
    simp only [outB, Bool.or_eq_true, decide_eq_true_eq] at ho
    have e : lessP k A B = (A, B) := by
      unfold lessP
      simp only [beq_iff_eq, show k ≠ 0 by omega, show k ≠ 1 by omega, show k ≠ 2 by omega, show k ≠ 3 by omega, h4, h5, if_false]
    rw [e, both_good hA hB]
  · rw [if_neg ho]
    simp only [outB, Bool.or_eq_true, decide_eq_true_eq, not_or] at ho
    have : k = 0 ∨ k = 1 ∨ k = 2 ∨ k = 3 := by omega
    rcases this with rfl | rfl | rfl | rfl
    · show both (mtL topIv [A, B]) (mtL topIv [A, B]) = both (meetL [A, B]) (meetL [A, B])
      rw [eq_two hA hB]
    · show both (if (B.lo == B.hi) = true then woI A B.lo else A) (if (A.lo == A.hi) = true then woI B A.lo else B) = both (witI A B) (witI B A)
      rw [wo_ref hA, wo_ref hB]
    · exact k2_ref hA hB
    · show both (mtL topIv [A, rOf (-9223372036854775808) B.hi]) (mtL topIv [B, rOf A.lo 9223372036854775807]) = both (Of A.lo (mnI A.hi B.hi)) (Of (mxI B.lo A.lo) B.hi)
      rw [(le_two hA hB).1, (le_two hA hB).2]
theorem ls_nrm {a b : Iv} (hA : Good (nrm a)) (hB : Good (nrm b)) (k : Int) : lsX k a b = lsX k (nrm a) (nrm b) ∧ lsY k a b = lsY k (nrm a) (nrm b) := by
  unfold lsX lsY emB
  rw [good_nrm hA, good_nrm hB]; exact ⟨rfl, rfl⟩
theorem less_ref {a b : Iv} (ha : wfIv a) (hb : wfIv b) (k : Int) : lessI k a b = (lXk k a b, lYk k a b) := by
  unfold lessI
  by_cases h : (!((normI a).s && (normI b).s)) = true
  · rw [if_pos h]
    rw [← emB_norm] at h
    unfold lXk lYk l4X l4Y l5X l5Y lsX lsY
    simp only [h, if_true, ite_self]
  · rw [if_neg h]
    have he : emB a b = false := by rw [emB_norm]; simpa using h
    simp only [Bool.not_eq_true', Bool.not_eq_false, Bool.and_eq_true] at h
    rcases normI_told ha with e | hA
    · rw [e] at h; cases h.1
    rcases normI_told hb with e | hB
    · rw [e] at h; cases h.2
    rw [normI_nrm] at hA hB ⊢
    rw [normI_nrm]
    show both (lessP k (nrm a) (nrm b)).1 (lessP k (nrm a) (nrm b)).2 = _
    by_cases h4 : k = 4
    · subst h4
      have hl := ls_ref (k := 2) hB hA (by decide) (by decide)
      have e2 := congrArg Prod.fst hl
      have e3 := congrArg Prod.snd hl
      simp only at e2 e3
      have e1 : (lXk 4 a b, lYk 4 a b) = both (lsY 2 (nrm b) (nrm a)) (lsX 2 (nrm b) (nrm a)) := by
        unfold lXk lYk l4X l4Y both
        rw [he]
        simp only [if_true, Bool.false_eq_true, if_false]
        split <;> rfl
      rw [e1, e2, e3, both_swap]; rfl
    · by_cases h5 : k = 5
      · subst h5
        have hl := ls_ref (k := 3) hB hA (by decide) (by decide)
        have e2 := congrArg Prod.fst hl
        have e3 := congrArg Prod.snd hl
        simp only at e2 e3
        have e1 : (lXk 5 a b, lYk 5 a b) = both (lsY 3 (nrm b) (nrm a)) (lsX 3 (nrm b) (nrm a)) := by
          unfold lXk lYk l5X l5Y both
          rw [he]
          simp only [if_true, Bool.false_eq_true, if_false, show ¬ (5 : Int) = 4 by decide]
          split <;> rfl
        rw [e1, e2, e3, both_swap]; rfl
      · unfold lXk lYk
        rw [if_neg h4, if_neg h4, if_neg h5, if_neg h5, (ls_nrm hA hB k).1, (ls_nrm hA hB k).2, ls_ref hA hB h4 h5]
theorem neg_ref {a : Iv} (ha : wfIv a) : subI (Of 0 0) a = arI' 3 (Of 0 0) a := sub_ref (by unfold wfIv Of; decide) ha
end Go.Proofs.Ytbkhkbfjfblbjaa
