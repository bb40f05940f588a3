/- Plain laws of intervals: of more comes no less. No conditions but those in each statement. -/
import Derived.Test.YtbkhkbfjfblbjaaPl4
set_option linter.unusedVariables false
set_option linter.unusedSimpArgs false
namespace Go.Proofs.Ytbkhkbfjfblbjaa
open Go Go.Sx Go.RowKit

def In (P Q : Iv) : Prop := P.s = true → P.lo ≤ P.hi → Q.s = true ∧ Q.lo ≤ P.lo ∧ P.hi ≤ Q.hi
theorem leq_mk {P Q : Iv} (hQ : Told Q) (h : In P Q) : rLeq P Q = true := by
  unfold rLeq
  by_cases hp : (nrm P).s = true
  · have hP : P.s = true ∧ P.lo ≤ P.hi ∧ nrm P = P := by
      unfold nrm at *
      split at hp
      · simp at hp
      · rename_i h1
        simp only [Bool.or_eq_true, Bool.not_eq_true', decide_eq_true_eq, not_or, Bool.not_eq_false] at h1
        rw [if_neg (by simp [h1.1]; omega)]
        exact ⟨h1.1, by omega, rfl⟩
    obtain ⟨p1, p2, p3⟩ := hP
    obtain ⟨q1, q2, q3⟩ := h p1 p2
    have gQ : Good Q := hQ.resolve_left fun q => by rw [q] at q1; cases q1
    rw [good_nrm gQ, p3, q1]
    simp [q2, q3]
  · simp [hp]
theorem in_no (Q : Iv) : In noIv Q := fun h => by cases h
theorem in_top {P : Iv} (h : Told P) : In P topIv := by
  rcases h with rfl | ⟨h1, h2, h3, h4⟩
  · exact in_no _
  · exact fun _ _ => ⟨rfl, h3, h4⟩
theorem told_top : Told topIv := .inr ⟨rfl, by decide, by decide, by decide⟩
theorem told_no : Told noIv := .inl rfl
theorem in_of {a b : Int} {Q : Iv} (h : a ≤ b → At1 Q a ∧ At1 Q b) : In (Of a b) Q := by
  unfold Of
  split
  · exact in_no _
  · intro _ _
    obtain ⟨⟨h1, h2, h3⟩, h4, h5, h6⟩ := h (by omega)
    exact ⟨h1, h2, h6⟩
theorem told_hull {a b c d : Int} (h1 : Rg a) (h2 : Rg b) (h3 : Rg c) (h4 : Rg d) : Told (hullL a b c d) := by
  unfold hullL
  unfold Rg at *
  apply told_of <;> (repeat' split) <;> omega
theorem in_hull {a b c d : Int} {Q : Iv} (h1 : At1 Q a) (h2 : At1 Q b) (h3 : At1 Q c) (h4 : At1 Q d) : In (hullL a b c d) Q := by
  unfold hullL
  apply in_of
  intro _
  constructor <;> (repeat' split) <;> assumption
theorem at_rg {Q : Iv} (hQ : Told Q) {v : Int} (h : At1 Q v) : Rg v := by
  obtain ⟨h1, h2, h3⟩ := h
  have gQ : Good Q := hQ.resolve_left fun q => by rw [q] at h1; cases h1
  obtain ⟨_, _, g3, g4⟩ := gQ
  exact ⟨by omega, by omega⟩
theorem told_join {P Q : Iv} (hP : Told P) (hQ : Told Q) : Told (joinL [P, Q]) := by
  simp only [joinL, List.foldl]
  have one : ∀ R S : Iv, Told R → Told S → Told (join1 R S) := by
    intro R S hR hS
    unfold join1
    split
    · exact hR
    · rcases hS with rfl | ⟨s1, s2, s3, s4⟩
      · rename_i h; simp [emptyB] at h
      · split
        · rename_i h
          rcases hR with rfl | ⟨r1, r2, r3, r4⟩
          · cases h
          · apply told_of <;> split <;> omega
        · exact told_of s3 s4
  exact one _ _ (one _ _ told_no hP) hQ
theorem in_join {P Q R : Iv} (hP : In P R) (hQ : In Q R) : In (joinL [P, Q]) R := by
  simp only [joinL, List.foldl]
  have one : ∀ S T : Iv, In S R → In T R → (S = noIv ∨ S.lo ≤ S.hi) → In (join1 S T) R := by
    intro S T hS hT hs
    unfold join1
    split
    · exact hS
    · rename_i h
      simp only [emptyB, Bool.or_eq_true, Bool.not_eq_true', decide_eq_true_eq, not_or, Bool.not_eq_false] at h
      obtain ⟨t1, t2, t3⟩ := hT h.1 (by omega)
      split
      · rename_i h2
        have hs' : S.lo ≤ S.hi := hs.resolve_left fun q => by rw [q] at h2; cases h2
        obtain ⟨s1, s2, s3⟩ := hS h2 hs'
        apply in_of
        intro _
        refine ⟨⟨s1, ?_, ?_⟩, s1, ?_, ?_⟩ <;> split <;> omega
      · apply in_of
        intro _
        exact ⟨⟨t1, by omega, by omega⟩, t1, by omega, by omega⟩
  refine one _ _ (one _ _ (in_no _) hP (.inl rfl)) hQ ?_
  unfold join1
  split
  · exact .inl rfl
  · rename_i h
    simp only [emptyB, Bool.or_eq_true, Bool.not_eq_true', decide_eq_true_eq, not_or, Bool.not_eq_false] at h
    right
    simp only [noIv, Bool.false_eq_true, if_false]
    unfold Of
    rw [if_neg (by omega)]
    show P.lo ≤ P.hi
    omega

theorem told_add (a b : Iv) : Told (addI a b) := by
  unfold addI
  split
  · exact told_no
  · split
    · exact told_top
    · exact told_of (W_rg _).1 (W_rg _).2
theorem told_sub (a b : Iv) : Told (subI a b) := by
  unfold subI
  split
  · exact told_no
  · split
    · exact told_top
    · exact told_of (W_rg _).1 (W_rg _).2
theorem told_mul {A B : Iv} (hA : Good A) (hB : Good B) : Told (mulI A B) := by
  unfold mulI
  rw [good_norm hA, good_norm hB, if_neg (by simp [hA.1, hB.1])]
  obtain ⟨a1, a2⟩ := good_rg hA
  obtain ⟨b1, b2⟩ := good_rg hB
  simp only [times_ok a1 b1, times_ok a1 b2, times_ok a2 b1, times_ok a2 b2]
  split
  · exact told_top
  · exact told_hull (W_rg _) (W_rg _) (W_rg _) (W_rg _)
theorem told_quo (A P : Iv) : Told (quoI A P) := by
  unfold quoI
  split
  · exact told_no
  · exact told_hull (W_rg _) (W_rg _) (W_rg _) (W_rg _)
theorem told_div (a b : Iv) : Told (divI a b).1 := by
  unfold divI
  split
  · exact told_no
  · split
    · exact told_top
    · exact told_join (told_quo _ _) (told_quo _ _)

theorem addI_good {A B : Iv} (hA : Good A) (hB : Good B) : addI A B = if (!decide (Rg (A.lo + B.lo)) || !decide (Rg (A.hi + B.hi))) = true then topIv else Of (W (A.lo + B.lo)) (W (A.hi + B.hi)) := by
  have n : ¬ (!(A.s && B.s)) = true := by simp [hA.1, hB.1]
  have rA := good_rg hA; have rB := good_rg hB
  unfold addI
  rw [good_norm hA, good_norm hB, if_neg n, plus_ok rA.1 rB.1, plus_ok rA.2 rB.2]
theorem subI_good {A B : Iv} (hA : Good A) (hB : Good B) : subI A B = if (!decide (Rg (A.lo - B.hi)) || !decide (Rg (A.hi - B.lo))) = true then topIv else Of (W (A.lo - B.hi)) (W (A.hi - B.lo)) := by
  have n : ¬ (!(A.s && B.s)) = true := by simp [hA.1, hB.1]
  have rA := good_rg hA; have rB := good_rg hB
  unfold subI
  rw [good_norm hA, good_norm hB, if_neg n, minus_ok rA.1 rB.2, minus_ok rA.2 rB.1]
theorem mulI_good {A B : Iv} (hA : Good A) (hB : Good B) : mulI A B = if (!decide (Rg (A.lo * B.lo)) || !decide (Rg (A.lo * B.hi)) || !decide (Rg (A.hi * B.lo)) || !decide (Rg (A.hi * B.hi))) = true then topIv else
    hullL (W (A.lo * B.lo)) (W (A.lo * B.hi)) (W (A.hi * B.lo)) (W (A.hi * B.hi)) := by
  have n : ¬ (!(A.s && B.s)) = true := by simp [hA.1, hB.1]
  have rA := good_rg hA; have rB := good_rg hB
  unfold mulI
  rw [good_norm hA, good_norm hB, if_neg n]
  simp only [times_ok rA.1 rB.1, times_ok rA.1 rB.2, times_ok rA.2 rB.1, times_ok rA.2 rB.2]

section
variable {A B X Y : Iv} (hA : Good A) (hB : Good B) (hX : Good X) (hY : Good Y) (a1 : X.lo ≤ A.lo) (a2 : A.hi ≤ X.hi) (b1 : Y.lo ≤ B.lo) (b2 : B.hi ≤ Y.hi)
include hA hB hX hY a1 a2 b1 b2

theorem add_grow : In (addI A B) (addI X Y) := by
  have t := told_add A B
  rw [addI_good hX hY]
  by_cases h : (!decide (Rg (X.lo + Y.lo)) || !decide (Rg (X.hi + Y.hi))) = true
  · rw [if_pos h]; exact in_top t
  · rw [if_neg h, addI_good hA hB]
    simp only [Bool.or_eq_true, Bool.not_eq_true', decide_eq_false_iff_not, not_or, Decidable.not_not] at h
    have la := hA.2.1
    have lb := hB.2.1
    have q1 : Rg (A.lo + B.lo) := by unfold Rg at *; omega
    have q2 : Rg (A.hi + B.hi) := by unfold Rg at *; omega
    rw [if_neg (by simp [q1, q2]), W_id h.1, W_id h.2, W_id q1, W_id q2]
    exact in_of fun _ => ⟨at_of (by omega) (by omega), at_of (by omega) (by omega)⟩
theorem sub_grow : In (subI A B) (subI X Y) := by
  have t := told_sub A B
  rw [subI_good hX hY]
  by_cases h : (!decide (Rg (X.lo - Y.hi)) || !decide (Rg (X.hi - Y.lo))) = true
  · rw [if_pos h]; exact in_top t
  · rw [if_neg h, subI_good hA hB]
    simp only [Bool.or_eq_true, Bool.not_eq_true', decide_eq_false_iff_not, not_or, Decidable.not_not] at h
    have la := hA.2.1
    have lb := hB.2.1
    have q1 : Rg (A.lo - B.hi) := by unfold Rg at *; omega
    have q2 : Rg (A.hi - B.lo) := by unfold Rg at *; omega
    rw [if_neg (by simp [q1, q2]), W_id h.1, W_id h.2, W_id q1, W_id q2]
    exact in_of fun _ => ⟨at_of (by omega) (by omega), at_of (by omega) (by omega)⟩
theorem mul_grow : In (mulI A B) (mulI X Y) := by
  have t := told_mul hA hB
  rw [mulI_good hX hY]
  by_cases h : (!decide (Rg (X.lo * Y.lo)) || !decide (Rg (X.lo * Y.hi)) || !decide (Rg (X.hi * Y.lo)) || !decide (Rg (X.hi * Y.hi))) = true
  · rw [if_pos h]; exact in_top t
  · rw [if_neg h, mulI_good hA hB]
    simp only [Bool.or_eq_true, Bool.not_eq_true', decide_eq_false_iff_not, not_or, Decidable.not_not] at h
    have la := hA.2.1
    have lb := hB.2.1
    obtain ⟨⟨⟨r1, r2⟩, r3⟩, r4⟩ := h
    have tQ := told_hull r1 r2 r3 r4
    have c1 := mul_at (A := X) (B := Y) (x := A.lo) (y := B.lo) a1 (by omega) b1 (by omega)
    have c2 := mul_at (A := X) (B := Y) (x := A.lo) (y := B.hi) a1 (by omega) (by omega) b2
    have c3 := mul_at (A := X) (B := Y) (x := A.hi) (y := B.lo) (by omega) a2 b1 (by omega)
    have c4 := mul_at (A := X) (B := Y) (x := A.hi) (y := B.hi) (by omega) a2 (by omega) b2
    have q1 := at_rg tQ c1; have q2 := at_rg tQ c2; have q3 := at_rg tQ c3; have q4 := at_rg tQ c4
    rw [if_neg (by simp [q1, q2, q3, q4]), W_id r1, W_id r2, W_id r3, W_id r4, W_id q1, W_id q2, W_id q3, W_id q4]
    exact in_hull c1 c2 c3 c4
omit hB hY b1 b2 in
theorem quo_in {P Q : Iv} (hw : ¬ (X.lo = -9223372036854775808 ∧ Q.lo ≤ -1 ∧ -1 ≤ Q.hi)) (hq : P.s = true → Q.s = true ∧ Q.lo ≤ P.lo ∧ P.lo ≤ P.hi ∧ P.hi ≤ Q.hi ∧ (0 < Q.lo ∨ Q.hi < 0)) {R : Iv} (hR : ∀ v, At1 (quoI X Q) v → At1 R v) : In (quoI A P) R := by
  by_cases hp : P.s = true
  · obtain ⟨q1, q2, q3, q4, q5⟩ := hq hp
    have rA := good_rg hA
    have hAl := rA.1.1
    have rX := (good_rg hX).1.1
    obtain ⟨_, la, _⟩ := hA
    have c1 := quo_at hX q1 q5 hw (x := A.lo) (y := P.lo) a1 (by omega) q2 (by omega)
    have c2 := quo_at hX q1 q5 hw (x := A.lo) (y := P.hi) a1 (by omega) (by omega) q4
    have c3 := quo_at hX q1 q5 hw (x := A.hi) (y := P.lo) (by omega) a2 q2 (by omega)
    have c4 := quo_at hX q1 q5 hw (x := A.hi) (y := P.hi) (by omega) a2 (by omega) q4
    unfold quoI
    rw [if_neg (by simp [hp]), W_id (tdiv_rg rA.1 (by omega)), W_id (tdiv_rg rA.1 (by omega)), W_id (tdiv_rg rA.2 (by omega)), W_id (tdiv_rg rA.2 (by omega))]
    exact in_hull (hR _ c1) (hR _ c2) (hR _ c3) (hR _ c4)
  · unfold quoI
    rw [if_pos (by simp [hp])]
    exact in_no _
theorem div_grow : In (divI A B).1 (divI X Y).1 ∧ ((divI A B).2 = true → (divI X Y).2 = true) := by
  have t := told_div A B
  have nAB : ¬ (!(A.s && B.s)) = true := by simp [hA.1, hB.1]
  have nXY : ¬ (!(X.s && Y.s)) = true := by simp [hX.1, hY.1]
  have hz : hasB B 0 = true → hasB Y 0 = true := by
    rw [hasB_good hB, hasB_good hY]
    simp only [decide_eq_true_eq]
    omega
  have eA : divI A B = if (hasB A (-9223372036854775808) && hasB B (-1)) = true then (topIv, hasB B 0) else (joinL [quoI A (belowZ B), quoI A (aboveZ B)], hasB B 0) := by
    unfold divI; rw [good_norm hA, good_norm hB, if_neg nAB]
  have eX : divI X Y = if (hasB X (-9223372036854775808) && hasB Y (-1)) = true then (topIv, hasB Y 0) else (joinL [quoI X (belowZ Y), quoI X (aboveZ Y)], hasB Y 0) := by
    unfold divI; rw [good_norm hX, good_norm hY, if_neg nXY]
  have hXl := (good_rg hX).1.1
  have lb := hB.2.1
  have ly := hY.2.1
  rw [hasB_good hX, hasB_good hY (-1)] at eX
  rw [hasB_good hA, hasB_good hB (-1)] at eA
  by_cases h : (decide (X.lo ≤ -9223372036854775808 ∧ -9223372036854775808 ≤ X.hi) && decide (Y.lo ≤ -1 ∧ -1 ≤ Y.hi)) = true
  · rw [if_pos h] at eX
    rw [eX]
    refine ⟨in_top t, ?_⟩
    rw [eA]
    split <;> exact hz
  · have h' : ¬ (decide (A.lo ≤ -9223372036854775808 ∧ -9223372036854775808 ≤ A.hi) && decide (B.lo ≤ -1 ∧ -1 ≤ B.hi)) = true := by
      intro h2
      apply h
      simp only [Bool.and_eq_true, decide_eq_true_eq] at *
      omega
    rw [if_neg h] at eX
    rw [if_neg h'] at eA
    rw [eX, eA]
    refine ⟨?_, hz⟩
    simp only [Bool.and_eq_true, decide_eq_true_eq, not_and] at h
    have lX := hX.2.1
    refine in_join (quo_in hA hX a1 a2 (Q := belowZ Y) ?_ ?_ (fun v hv => join_at (.inl hv))) (quo_in hA hX a1 a2 (Q := aboveZ Y) ?_ ?_ (fun v hv => join_at (.inr hv)))
    · unfold belowZ Of; split <;> (try split) <;> simp <;> omega
    · intro hs
      obtain ⟨s1, e1, e2⟩ := Of_s hs
      have hs2 : (belowZ Y).s = true := by unfold belowZ Of; rw [if_neg (by split at s1 <;> split <;> omega)]
      obtain ⟨s2, f1, f2⟩ := Of_s hs2
      unfold belowZ
      rw [e1, e2, f1, f2]
      refine ⟨hs2, b1, s1, ?_, .inr ?_⟩ <;> (repeat' split) <;> omega
    · unfold aboveZ Of; split <;> (try split) <;> simp <;> omega
    · intro hs
      obtain ⟨s1, e1, e2⟩ := Of_s hs
      have hs2 : (aboveZ Y).s = true := by unfold aboveZ Of; rw [if_neg (by split at s1 <;> split <;> omega)]
      obtain ⟨s2, f1, f2⟩ := Of_s hs2
      unfold aboveZ
      rw [e1, e2, f1, f2]
      refine ⟨hs2, ?_, s1, b2, .inl ?_⟩ <;> (repeat' split) <;> omega
theorem mod_grow : In (modI A B).1 (modI X Y).1 ∧ ((modI A B).2 = true → (modI X Y).2 = true) := by
  have nAB : ¬ (!(A.s && B.s)) = true := by simp [hA.1, hB.1]
  have nXY : ¬ (!(X.s && Y.s)) = true := by simp [hX.1, hY.1]
  have hz : hasB B 0 = true → hasB Y 0 = true := by
    rw [hasB_good hB, hasB_good hY]
    simp only [decide_eq_true_eq]
    omega
  have rA := good_rg hA; have rB := good_rg hB; have rX := good_rg hX; have rY := good_rg hY
  unfold modI
  rw [good_norm hA, good_norm hB, if_neg nAB, good_norm hX, good_norm hY, if_neg nXY, bef_all rB.1, bef_all rB.2, bef_all rY.1, bef_all rY.2]
  have lb := hB.2.1
  have la := hA.2.1
  have la := hA.2.1
  by_cases h0 : (B.lo == 0 && B.hi == 0) = true
  · rw [if_pos h0]
    refine ⟨in_no _, ?_⟩
    split <;> exact hz
  · have h1 : ¬ (Y.lo == 0 && Y.hi == 0) = true := by
      simp only [Bool.and_eq_true, beq_iff_eq] at *
      omega
    rw [if_neg h0, if_neg h1]
    refine ⟨?_, hz⟩
    simp only [Bool.and_eq_true, beq_iff_eq] at h0
    have hM : ∃ M N : Int, mxI ((B.lo.natAbs : Int) - 1) ((B.hi.natAbs : Int) - 1) = M ∧ mxI ((Y.lo.natAbs : Int) - 1) ((Y.hi.natAbs : Int) - 1) = N ∧ 0 ≤ M ∧ M ≤ N ∧ N ≤ 9223372036854775807 := by
      refine ⟨_, _, rfl, rfl, ?_, ?_, ?_⟩ <;> unfold mxI <;> unfold Rg at * <;> (repeat' split) <;> omega
    obtain ⟨M, N, e1, e2, g1, g2, g3⟩ := hM
    rw [e1, e2, W_id (n := 0 - M) (by unfold Rg; omega), W_id (n := 0 - N) (by unfold Rg; omega)]
    apply in_of
    intro _
    simp only [decide_eq_true_eq]
    constructor <;> apply at_of <;> (try unfold mxI) <;> (try unfold mnI) <;> (repeat' split) <;> omega
end

/-- the join of two, as the reference makes it -/
def rjoin1 (r a : Iv) : Iv := if (!(nrm a).s) = true then r else if (!r.s) = true then nrm a else rOf (if (nrm a).lo < r.lo then (nrm a).lo else r.lo) (if r.hi < (nrm a).hi then (nrm a).hi else r.hi)
def rjoinL (l : List Iv) : Iv := l.foldl rjoin1 noIv
theorem rjoin_good {a c : Iv} (ha : wfIv a) (hc : wfIv c) : Told (rjoinL [a, c]) ∧ ((nrm a).s = true → Good (rjoinL [a, c]) ∧ (rjoinL [a, c]).lo ≤ (nrm a).lo ∧ (nrm a).hi ≤ (rjoinL [a, c]).hi) := by
  have tA := nrm_told a ha
  have tC := nrm_told c hc
  simp only [rjoinL, List.foldl]
  rcases tA with e | gA
  · have h1 : rjoin1 noIv a = noIv := by unfold rjoin1; rw [e, if_pos (by rfl)]
    rw [h1, e]
    refine ⟨?_, fun h => by cases h⟩
    unfold rjoin1
    split
    · exact told_no
    · rw [if_pos (by rfl)]; exact tC
  · have h1 : rjoin1 noIv a = nrm a := by unfold rjoin1; rw [if_neg (by simp [gA.1]), if_pos (by rfl)]
    rw [h1]
    rcases tC with e | gC
    · have h2 : rjoin1 (nrm a) c = nrm a := by unfold rjoin1; rw [e, if_pos (by rfl)]
      rw [h2]
      exact ⟨.inr gA, fun _ => ⟨gA, by omega, by omega⟩⟩
    · have h2 : rjoin1 (nrm a) c = rOf (if (nrm c).lo < (nrm a).lo then (nrm c).lo else (nrm a).lo) (if (nrm a).hi < (nrm c).hi then (nrm c).hi else (nrm a).hi) := by
        unfold rjoin1; rw [if_neg (by simp [gC.1]), if_neg (by simp [gA.1])]
      obtain ⟨x1, x2, x3, x4⟩ := gA
      obtain ⟨y1, y2, y3, y4⟩ := gC
      have hle : (if (nrm c).lo < (nrm a).lo then (nrm c).lo else (nrm a).lo) ≤ (if (nrm a).hi < (nrm c).hi then (nrm c).hi else (nrm a).hi) := by (repeat' split) <;> omega
      have e3 : ∀ p q : Int, p ≤ q → rOf p q = ⟨true, p, q⟩ := by intro p q h; unfold rOf nrm; rw [if_neg (by simp; omega)]
      rw [h2, e3 _ _ hle]
      have g : Good ⟨true, (if (nrm c).lo < (nrm a).lo then (nrm c).lo else (nrm a).lo), (if (nrm a).hi < (nrm c).hi then (nrm c).hi else (nrm a).hi)⟩ := ⟨rfl, hle, by show _ ≤ _; dsimp only; split <;> omega, by show _ ≤ _; dsimp only; split <;> omega⟩
      exact ⟨.inr g, fun _ => ⟨g, by dsimp only; split <;> omega, by dsimp only; split <;> omega⟩⟩

/-- what the law asks, in one -/
theorem grows {a b c d : Iv} (ha : wfIv a) (hb : wfIv b) (hc : wfIv c) (hd : wfIv d) :
    rLeq (addI a b) (addI (rjoinL [a, c]) (rjoinL [b, d])) = true ∧ rLeq (subI a b) (subI (rjoinL [a, c]) (rjoinL [b, d])) = true ∧ rLeq (mulI a b) (mulI (rjoinL [a, c]) (rjoinL [b, d])) = true ∧
    rLeq (subI (Of 0 0) a) (subI (Of 0 0) (rjoinL [a, c])) = true ∧ rLeq (divI a b).1 (divI (rjoinL [a, c]) (rjoinL [b, d])).1 = true ∧ rLeq (modI a b).1 (modI (rjoinL [a, c]) (rjoinL [b, d])).1 = true ∧
    ((divI a b).2 = true → (divI (rjoinL [a, c]) (rjoinL [b, d])).2 = true) ∧ ((modI a b).2 = true → (modI (rjoinL [a, c]) (rjoinL [b, d])).2 = true) := by
  obtain ⟨tX, hX⟩ := rjoin_good ha hc
  obtain ⟨tY, hY⟩ := rjoin_good hb hd
  generalize rjoinL [a, c] = X at *
  generalize rjoinL [b, d] = Y at *
  have tA := nrm_told a ha
  have tB := nrm_told b hb
  have idem : ∀ z : Iv, wfIv z → normI z = normI (nrm z) := by
    intro z hz
    rw [normI_nrm, told_norm (nrm_told z hz)]
  have eA := idem a ha
  have eB := idem b hb
  have add_n : addI a b = addI (nrm a) (nrm b) := by unfold addI; rw [eA, eB]
  have sub_n : subI a b = subI (nrm a) (nrm b) := by unfold subI; rw [eA, eB]
  have neg_n : subI (Of 0 0) a = subI (Of 0 0) (nrm a) := by unfold subI; rw [eA]
  have mul_n : mulI a b = mulI (nrm a) (nrm b) := by unfold mulI; rw [eA, eB]
  have div_n : divI a b = divI (nrm a) (nrm b) := by unfold divI; rw [eA, eB]
  have mod_n : modI a b = modI (nrm a) (nrm b) := by unfold modI; rw [eA, eB]
  rw [add_n, sub_n, neg_n, mul_n, div_n, mod_n]
  have tm : Told (mulI X Y) := by
    rcases tX with rfl | gX
    · left; unfold mulI; rw [no_norm, if_pos (by rfl)]
    · rcases tY with rfl | gY
      · left; unfold mulI; rw [no_norm, if_pos (by simp)]
      · exact told_mul gX gY
  have td := told_div X Y
  have to : ∀ x, Told (subI (Of 0 0) x) := told_sub _
  have tmd : Told (modI X Y).1 := by
    rcases tX with rfl | gX
    · left; unfold modI; rw [no_norm, if_pos (by rfl)]
    · rcases tY with rfl | gY
      · left; unfold modI; rw [no_norm, if_pos (by simp)]
      · unfold modI
        rw [good_norm gX, good_norm gY, if_neg (by simp [gX.1, gY.1])]
        split
        · exact told_no
        · have rX := good_rg gX; have rY := good_rg gY
          rw [bef_all rY.1, bef_all rY.2]
          have w := W_rg (0 - mxI ((Y.lo.natAbs : Int) - 1) ((Y.hi.natAbs : Int) - 1))
          unfold Rg at *
          apply told_of
          · split
            · unfold mxI at *; split <;> omega
            · omega
          · split
            · unfold mnI; split <;> omega
            · omega
  rcases tA with e | gA
  · rw [e]
    have n1 : ∀ y, addI noIv y = noIv := by intro y; unfold addI; rw [no_norm, if_pos (by rfl)]
    have n2 : ∀ y, subI noIv y = noIv := by intro y; unfold subI; rw [no_norm, if_pos (by rfl)]
    have n3 : ∀ y, mulI noIv y = noIv := by intro y; unfold mulI; rw [no_norm, if_pos (by rfl)]
    have n4 : ∀ y, divI noIv y = (noIv, false) := by intro y; unfold divI; rw [no_norm, if_pos (by rfl)]
    have n5 : ∀ y, modI noIv y = (noIv, false) := by intro y; unfold modI; rw [no_norm, if_pos (by rfl)]
    have n6 : ∀ x, subI x noIv = noIv := by intro x; unfold subI; rw [no_norm, if_pos (by simp)]
    rw [n1, n2, n3, n4, n5, n6]
    exact ⟨rLeq_no _, rLeq_no _, rLeq_no _, rLeq_no _, rLeq_no _, rLeq_no _, (fun h => by cases h), (fun h => by cases h)⟩
  · obtain ⟨gX, x1, x2⟩ := hX gA.1
    have g0 := (of_good (lo := 0) (hi := 0) (by omega) (by unfold Rg; omega) (by unfold Rg; omega)).1
    have nn := leq_mk (to X) (sub_grow g0 gA g0 gX (Int.le_refl _) (Int.le_refl _) x1 x2)
    rcases tB with e | gB
    · rw [e]
      have n1 : ∀ y, addI y noIv = noIv := by intro y; unfold addI; rw [no_norm, if_pos (by simp)]
      have n2 : ∀ y, subI y noIv = noIv := by intro y; unfold subI; rw [no_norm, if_pos (by simp)]
      have n3 : ∀ y, mulI y noIv = noIv := by intro y; unfold mulI; rw [no_norm, if_pos (by simp)]
      have n4 : ∀ y, divI y noIv = (noIv, false) := by intro y; unfold divI; rw [no_norm, if_pos (by simp)]
      have n5 : ∀ y, modI y noIv = (noIv, false) := by intro y; unfold modI; rw [no_norm, if_pos (by simp)]
      rw [n1, n2, n3, n4, n5]
      exact ⟨rLeq_no _, rLeq_no _, rLeq_no _, nn, rLeq_no _, rLeq_no _, (fun h => by cases h), (fun h => by cases h)⟩
    · obtain ⟨gY, y1, y2⟩ := hY gB.1
      have dg := div_grow gA gB gX gY x1 x2 y1 y2
      have mg := mod_grow gA gB gX gY x1 x2 y1 y2
      exact ⟨leq_mk (told_add _ _) (add_grow gA gB gX gY x1 x2 y1 y2), leq_mk (told_sub _ _) (sub_grow gA gB gX gY x1 x2 y1 y2), leq_mk tm (mul_grow gA gB gX gY x1 x2 y1 y2), nn, leq_mk td dg.1, leq_mk tmd mg.1, dg.2, mg.2⟩
end Go.Proofs.Ytbkhkbfjfblbjaa
