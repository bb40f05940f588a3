/- Plain laws of intervals: quotients, rests and comparisons as the reference has them. No conditions but those in each statement. -/
import Derived.Test.YtbkhkbfjfblbjaaPl6
set_option linter.unusedVariables false
set_option linter.unusedSimpArgs false
namespace Go.Proofs.Ytbkhkbfjfblbjaa
open Go Go.RowKit

theorem jn_step (acc : Iv) {P : Iv} (hP : Told P) (r : List Iv) : jnL acc (P :: r) = jnL (join1 acc P) r := by
  simp only [jnL]
  rcases hP with e | h
  · subst e; rfl
  · obtain ⟨h1, h2, _, _⟩ := id h
    rw [good_nrm h]
    have he : emptyB P = false := by unfold emptyB; rw [h1]; simp; omega
    unfold join1
    rw [he, h1]
    have e3 : Of P.lo P.hi = P := by
      obtain ⟨s, lo, hi⟩ := P
      simp only at h1 h2
      subst h1
      unfold Of
      rw [if_neg (Int.not_lt.2 h2)]
    rw [e3]
    cases acc.s <;> simp [rOf_Of, Sy.mn, Sy.mx]
theorem dq_hull (A d : Iv) : dqI A d = hullL (W (A.lo.tdiv d.lo)) (W (A.lo.tdiv d.hi)) (W (A.hi.tdiv d.lo)) (W (A.hi.tdiv d.hi)) := by rw [hull_mn]; rfl
theorem join_no (acc : Iv) : join1 acc noIv = acc := rfl
theorem jn_dv (A P Q : Iv) : jnL noIv (dvO A Q (dvO A P [])) = joinL [quoI A P, quoI A Q] := by
  have hP := told_quo A P
  have hQ := told_quo A Q
  have key : ∀ (acc D : Iv), (D.s = true → quoI A D = dqI A D) ∧ (D.s = false → quoI A D = noIv) := by
    intro acc D
    constructor
    · intro h; unfold quoI; rw [h, dq_hull]; rfl
    · intro h; unfold quoI; rw [h]; rfl
  show _ = join1 (join1 noIv (quoI A P)) (quoI A Q)
  unfold dvO
  cases hp : P.s <;> cases hq : Q.s
  · rw [(key noIv P).2 hp, (key noIv Q).2 hq]; rfl
  · rw [(key noIv P).2 hp]
    rw [(key noIv Q).1 hq] at hQ ⊢
    simp only [Bool.false_eq_true, if_false, if_true, List.nil_append, jn_step _ hQ, jnL, join_no]
  · rw [(key noIv Q).2 hq]
    rw [(key noIv P).1 hp] at hP ⊢
    simp only [Bool.false_eq_true, if_false, if_true, List.nil_append, jn_step _ hP, jnL, join_no]
  · rw [(key noIv P).1 hp] at hP ⊢
    rw [(key noIv Q).1 hq] at hQ ⊢
    show jnL noIv (dqI A P :: [dqI A Q]) = _
    rw [jn_step _ hP, jn_step _ hQ]
    rfl
theorem rHas_good {A : Iv} (hA : Good A) (m : Int) : rHas A m = hasB A m := by
  rw [hasB_good hA]
  unfold rHas
  rw [hA.1]
  simp
theorem ne_has {B : Iv} (hB : Good B) : rHas (belowZ B) (-1) = hasB B (-1) := by
  rw [hasB_good hB]
  obtain ⟨_, h2, h3, h4⟩ := hB
  unfold rHas belowZ Of
  rw [Bool.eq_iff_iff]
  simp only [decide_eq_true_eq, Bool.and_eq_true]
  split <;> split <;> simp <;> omega
theorem div_ref {a b : Iv} (ha : wfIv a) (hb : wfIv b) : divI a b = (dvV a b, dvB a b) := by
  unfold divI dvV dvB
  rw [emB_norm]
  by_cases h : (!((normI a).s && (normI b).s)) = true
  · rw [if_pos h, if_pos h, if_pos h]
  · rw [if_neg h, if_neg h, if_neg h]
    simp only [Bool.not_eq_true', Bool.not_eq_false, Bool.and_eq_true] at h
    rcases normI_told ha with e | hA
    · rw [e] at h; cases h.1
    rcases normI_told hb with e | hB
    · rw [e] at h; cases h.2
    unfold ovB
    rw [normI_nrm] at hA hB ⊢
    rw [normI_nrm, ne_ref hB, po_ref hB, ne_has hB, rHas_good hA, rHas_good hB, jn_dv]
    by_cases h2 : (hasB (nrm a) (-9223372036854775808) && hasB (nrm b) (-1)) = true
    · rw [if_pos h2, if_pos h2]
    · rw [if_neg h2, if_neg h2]
theorem sz_bef {n : Int} (h : Rg n) : szI n = befI n := by
  rw [bef_all h]
  unfold szI Rg at *
  split
  · rename_i e; simp only [beq_iff_eq] at e; subst e; rfl
  · rename_i e
    simp only [beq_iff_eq] at e
    split
    · rename_i e2
      simp only [decide_eq_true_eq] at e2
      rw [W_in (n := 0 - n) (by omega) (by omega), W_in (by omega) (by omega)]; omega
    · rename_i e2
      simp only [decide_eq_true_eq] at e2
      rw [W_in (by omega) (by omega)]; omega
theorem ze_ref {B : Iv} (hB : Good B) : zeB B = (B.lo == 0 && B.hi == 0) := by
  unfold zeB
  rw [ne_ref hB, po_ref hB, Bool.eq_iff_iff]
  obtain ⟨_, h2, h3, h4⟩ := hB
  unfold belowZ aboveZ Of
  simp only [Bool.and_eq_true, Bool.not_eq_true', beq_iff_eq]
  (repeat' split) <;> simp <;> omega
theorem mod_ref {a b : Iv} (ha : wfIv a) (hb : wfIv b) : modI a b = (mdV a b, mdB a b) := by
  unfold modI mdV mdB
  rw [emB_norm]
  by_cases h : (!((normI a).s && (normI b).s)) = true
  · rw [if_pos h, if_pos h, if_pos h]
  · rw [if_neg h, if_neg h, if_neg h]
    simp only [Bool.not_eq_true', Bool.not_eq_false, Bool.and_eq_true] at h
    rcases normI_told ha with e | hA
    · rw [e] at h; cases h.1
    rcases normI_told hb with e | hB
    · rw [e] at h; cases h.2
    rw [normI_nrm] at hA hB ⊢
    rw [normI_nrm, ze_ref hB, rHas_good hB]
    obtain ⟨b1, b2⟩ := good_rg hB
    by_cases h2 : ((nrm b).lo == 0 && (nrm b).hi == 0) = true
    · rw [if_pos h2, if_pos h2, if_pos h2]
      simp only [Bool.and_eq_true, beq_iff_eq] at h2
      rw [hasB_good hB, h2.1, h2.2]; rfl
    · rw [if_neg h2, if_neg h2, if_neg h2]
      unfold mdLo mdHi mdM
      rw [sz_bef b1, sz_bef b2, rOf_Of]
      congr 2
      · by_cases h3 : (nrm a).lo < 0
        · simp [h3, Sy.mx, show ¬ 0 ≤ (nrm a).lo by omega]
        · simp [h3, show 0 ≤ (nrm a).lo by omega]
      · by_cases h3 : 0 < (nrm a).hi
        · simp [h3, show ¬ (nrm a).hi ≤ 0 by omega]; rfl
        · simp [h3, show (nrm a).hi ≤ 0 by omega]
end Go.Proofs.Ytbkhkbfjfblbjaa
