/- Plain laws of intervals: sums, differences, products and comparisons turned. No conditions but those in each statement. -/
import Derived.Test.YtbkhkbfjfblbjaaPl
import Derived.Test.YtbkhkbfjfblbjaaLf
set_option linter.unusedVariables false
set_option linter.unusedSimpArgs false
namespace Go.Proofs.Ytbkhkbfjfblbjaa
open Go Go.Sx Go.RowKit

theorem told_of {lo hi : Int} (h1 : -9223372036854775808 ≤ lo) (h2 : hi ≤ 9223372036854775807) : Told (Of lo hi) := by
  unfold Of
  split
  · exact .inl rfl
  · rename_i h; exact .inr ⟨rfl, by simp only; omega, h1, h2⟩
theorem normI_told {a : Iv} (h : wfIv a) : Told (normI a) := by
  unfold normI
  split
  · exact .inl rfl
  · exact told_of h.1 h.2.2.2
theorem normI_nrm (a : Iv) : normI a = nrm a := by
  obtain ⟨s, lo, hi⟩ := a
  unfold normI nrm emptyB Of
  cases s with
  | false => rfl
  | true =>
    by_cases h : hi < lo
    · simp [h]
    · simp [h]

def Rg (n : Int) : Prop := -9223372036854775808 ≤ n ∧ n ≤ 9223372036854775807
instance (n : Int) : Decidable (Rg n) := by unfold Rg; infer_instance

theorem plus_ok {x y : Int} (hx : Rg x) (hy : Rg y) : (decide (W (x + y) < x) == decide (y < 0)) = decide (Rg (x + y)) := by
  rw [Bool.eq_iff_iff]
  simp only [beq_iff_eq, decide_eq_decide, decide_eq_true_eq, W, W_eq]
  unfold Rg at *
  split <;> omega
theorem minus_ok {x y : Int} (hx : Rg x) (hy : Rg y) : (decide (x < W (x - y)) == decide (y < 0)) = decide (Rg (x - y)) := by
  rw [Bool.eq_iff_iff]
  simp only [beq_iff_eq, decide_eq_decide, decide_eq_true_eq, W, W_eq]
  unfold Rg at *
  split <;> omega
theorem good_rg {A : Iv} (h : Good A) : Rg A.lo ∧ Rg A.hi := by
  obtain ⟨_, h2, h3, h4⟩ := h
  unfold Rg
  omega

theorem add_turn {a b : Iv} (ha : wfIv a) (hb : wfIv b) : addI a b = addI b a := by
  unfold addI
  rcases normI_told ha with h | hA
  · rw [h]; simp
  rcases normI_told hb with h | hB
  · rw [h]; simp
  obtain ⟨a1, a2⟩ := good_rg hA
  obtain ⟨b1, b2⟩ := good_rg hB
  rw [plus_ok a1 b1, plus_ok a2 b2, plus_ok b1 a1, plus_ok b2 a2, Int.add_comm (normI b).lo, Int.add_comm (normI b).hi, Bool.and_comm]

theorem W_rg (n : Int) : Rg (W n) := by
  simp only [W, W_eq, Rg]
  split <;> omega
theorem W_mod (n : Int) : ∃ k, W n = n + 18446744073709551616 * k := by
  simp only [W, W_eq]
  split
  · exact ⟨-(n / 18446744073709551616) - 1, by omega⟩
  · exact ⟨-(n / 18446744073709551616), by omega⟩
theorem W_id {n : Int} (h : Rg n) : W n = n := W_in h.1 h.2

theorem times_ok {x y : Int} (hx : Rg x) (hy : Rg y) : timesI x y = (W (x * y), decide (Rg (x * y))) := by
  unfold timesI
  split
  · rename_i h
    simp only [Bool.or_eq_true, beq_iff_eq] at h
    rcases h with rfl | rfl
    · simp [W, W_eq, Rg]
    · simp [W, W_eq, Rg]
  · rename_i h0
    simp only [Bool.or_eq_true, beq_iff_eq, not_or] at h0
    split
    · rename_i h
      simp only [Bool.or_eq_true, Bool.and_eq_true, beq_iff_eq] at h
      rcases h with ⟨rfl, rfl⟩ | ⟨rfl, rfl⟩
      · simp [Rg]
      · simp [Rg]
    · rename_i h
      simp only [Bool.or_eq_true, Bool.and_eq_true, beq_iff_eq, not_or, not_and] at h
      congr 1
      rw [Bool.eq_iff_iff]
      simp only [beq_iff_eq, decide_eq_true_eq]
      constructor
      · intro hq
        by_cases hr : Rg (x * y)
        · exact hr
        · exfalso
          have hneg : y ≠ -1 := by
            rintro rfl
            have := h.2 rfl
            unfold Rg at hx hr
            omega
          have hp := W_rg (x * y)
          obtain ⟨k, hk⟩ := W_mod (x * y)
          generalize W (x * y) = p at *
          have hd := Int.mul_tdiv_add_tmod p y
          have hm : (p.tmod y).natAbs < y.natAbs := by
            rw [Int.natAbs_tmod]
            exact Nat.mod_lt _ (by omega)
          have hqb : (p.tdiv y).natAbs ≤ p.natAbs := by
            rw [Int.natAbs_tdiv]
            exact Nat.div_le_self _ _
          have hq2 : p.tdiv y = x := by
            by_cases he : Rg (p.tdiv y)
            · rw [W_id he] at hq; exact hq
            · exfalso
              have h1 : y ≠ 1 := by
                rintro rfl
                rw [Int.tdiv_one] at he
                exact he hp
              have h2 : y.natAbs ≥ 2 := by omega
              have : (p.tdiv y).natAbs ≤ p.natAbs / 2 := by
                rw [Int.natAbs_tdiv]
                exact Nat.div_le_div_left h2 (by omega)
              unfold Rg at he hp
              omega
          rw [hq2, Int.mul_comm y x] at hd
          have hk0 : k ≠ 0 := by rintro rfl; apply hr; rw [Int.mul_zero, Int.add_zero] at hk; rw [← hk]; exact hp
          unfold Rg at hy
          generalize x * y = z at *
          omega
      · intro hr
        rw [W_id hr, Int.mul_tdiv_cancel _ h0.2, W_id hx]

theorem hull_perm (p q r t : Int) : hullL p q r t = hullL p r q t := by
  unfold hullL
  congr 1
  · repeat' split
    all_goals omega
  · repeat' split
    all_goals omega

theorem mul_turn {a b : Iv} (ha : wfIv a) (hb : wfIv b) : mulI a b = mulI b a := by
  unfold mulI
  rcases normI_told ha with h | hA
  · rw [h]; simp
  rcases normI_told hb with h | hB
  · rw [h]; simp
  obtain ⟨a1, a2⟩ := good_rg hA
  obtain ⟨b1, b2⟩ := good_rg hB
  rw [times_ok a1 b1, times_ok a1 b2, times_ok a2 b1, times_ok a2 b2, times_ok b1 a1, times_ok b1 a2, times_ok b2 a1, times_ok b2 a2]
  simp only [Int.mul_comm (normI b).lo, Int.mul_comm (normI b).hi, Bool.and_comm (normI b).s]
  rw [hull_perm]
  cases decide (Rg ((normI a).lo * (normI b).lo)) <;> cases decide (Rg ((normI a).lo * (normI b).hi)) <;> cases decide (Rg ((normI a).hi * (normI b).lo)) <;> rfl

theorem meet_eq {A B : Iv} (hA : Good A) (hB : Good B) : meetL [A, B] = Of (mxI A.lo B.lo) (mnI A.hi B.hi) := by
  obtain ⟨a1, a2, a3, a4⟩ := hA
  obtain ⟨b1, b2, b3, b4⟩ := hB
  have eA : emptyB A = false := by simp [emptyB, a1]; omega
  have eB : emptyB B = false := by simp [emptyB, b1]; omega
  have e1 : Of (if (-9223372036854775808 : Int) < A.lo then A.lo else -9223372036854775808) (if A.hi < 9223372036854775807 then A.hi else 9223372036854775807) = ⟨true, A.lo, A.hi⟩ := by
    have h1 : (if (-9223372036854775808 : Int) < A.lo then A.lo else -9223372036854775808) = A.lo := by split <;> omega
    have h2 : (if A.hi < 9223372036854775807 then A.hi else 9223372036854775807) = A.hi := by split <;> omega
    rw [h1, h2]
    unfold Of
    rw [if_neg (by omega)]
  show meetGo topIv [A, B] = _
  unfold meetGo
  rw [eA]
  simp only [Bool.false_eq_true, if_false, topIv]
  rw [e1]
  simp only [if_true]
  unfold meetGo
  rw [eB]
  simp only [Bool.false_eq_true, if_false]
  by_cases hs : (Of (if A.lo < B.lo then B.lo else A.lo) (if B.hi < A.hi then B.hi else A.hi)).s = true
  · rw [if_pos hs]; rfl
  · rw [if_neg hs]
    have := Of_n (by simpa using hs)
    unfold Of mxI mnI
    rw [if_pos this]
theorem meet_turn {A B : Iv} (hA : Good A) (hB : Good B) : meetL [A, B] = meetL [B, A] := by
  rw [meet_eq hA hB, meet_eq hB hA]
  congr 1
  · simp only [mxI]; repeat' split
    all_goals omega
  · simp only [mnI]; repeat' split
    all_goals omega

def turnK (j : Int) : Int := if j = 2 then 4 else if j = 3 then 5 else if j = 4 then 2 else if j = 5 then 3 else j
theorem lessP_turn {j : Int} (hj : j = 0 ∨ j = 1 ∨ j = 2 ∨ j = 3 ∨ j = 4 ∨ j = 5) {A B : Iv} (hA : Good A) (hB : Good B) : lessP (turnK j) B A = ((lessP j A B).2, (lessP j A B).1) := by
  rcases hj with rfl | rfl | rfl | rfl | rfl | rfl
  · show (meetL [B, A], meetL [B, A]) = (meetL [A, B], meetL [A, B])
    rw [meet_turn hA hB]
  · rfl
  · rfl
  · rfl
  · rfl
  · rfl
theorem less_turn {j : Int} (hj : j = 0 ∨ j = 1 ∨ j = 2 ∨ j = 3 ∨ j = 4 ∨ j = 5) {a b : Iv} (ha : wfIv a) (hb : wfIv b) : lessI (turnK j) b a = ((lessI j a b).2, (lessI j a b).1) := by
  unfold lessI
  rcases normI_told ha with h | hA
  · rw [h]; simp
  rcases normI_told hb with h | hB
  · rw [h]; simp
  rw [lessP_turn hj hA hB, hA.1, hB.1]
  simp only [Bool.and_self, Bool.not_true, Bool.false_eq_true, if_false]
  rw [Bool.or_comm]
  by_cases hs : (!(lessP j (normI a) (normI b)).1.s || !(lessP j (normI a) (normI b)).2.s) = true
  · rw [if_pos hs, if_pos hs]
  · rw [if_neg hs, if_neg hs]

theorem of_good {lo hi : Int} (h : lo ≤ hi) (h1 : Rg lo) (h2 : Rg hi) : Good (Of lo hi) ∧ Of lo hi = ⟨true, lo, hi⟩ := by
  have e : Of lo hi = ⟨true, lo, hi⟩ := by unfold Of; rw [if_neg (by omega)]
  rw [e]
  exact ⟨⟨rfl, h, h1.1, h2.2⟩, rfl⟩
theorem zero_norm : normI (Of 0 0) = ⟨true, 0, 0⟩ := rfl
theorem neg_of {a A : Iv} (e : normI a = A) (hA : Good A) (h1 : -4611686018427387904 < A.lo) (h2 : A.hi < 4611686018427387904) : subI (Of 0 0) a = ⟨true, 0 - A.hi, 0 - A.lo⟩ := by
  obtain ⟨a1, a2⟩ := good_rg hA
  have r1 : Rg (0 - A.hi) := by have := hA.2.1; unfold Rg; omega
  have r2 : Rg (0 - A.lo) := by have := hA.2.1; unfold Rg; omega
  have z : Rg 0 := by unfold Rg; omega
  unfold subI
  rw [e, zero_norm, hA.1]
  simp only
  rw [minus_ok z a1, minus_ok z a2, decide_eq_true r1, decide_eq_true r2, W_id r1, W_id r2]
  simp only [Bool.and_self, Bool.not_true, Bool.or_self, Bool.false_eq_true, if_false]
  exact (of_good (by have := hA.2.1; omega) r1 r2).2
def smB (a : Iv) : Bool := decide (-4611686018427387904 < a.lo) && decide (a.hi < 4611686018427387904)
theorem sub_small {a b : Iv} (ha : wfIv a) (hb : wfIv b) (sa : smB a = true) (sb : smB b = true) : subI a b = addI a (subI (Of 0 0) b) ∧ subI (Of 0 0) (subI (Of 0 0) a) = nrm a := by
  unfold smB at sa sb
  simp only [Bool.and_eq_true, decide_eq_true_eq] at sa sb
  have e0 : subI (Of 0 0) noIv = noIv := rfl
  have key : ∀ c : Iv, normI c = noIv → subI (Of 0 0) c = noIv := by
    intro c hc; unfold subI; rw [hc]; simp
  have bnd : ∀ c : Iv, Good (normI c) → (normI c).lo = c.lo ∧ (normI c).hi = c.hi := by
    intro c hc
    unfold normI at *
    split at hc
    · have := hc.1; simp at this
    · rename_i h
      rw [if_neg h]
      exact (Of_s hc.1).2
  constructor
  · rcases normI_told hb with h | hB
    · rw [key b h]
      unfold subI addI
      rw [h, no_norm]; simp
    · obtain ⟨q1, q2⟩ := bnd b hB
      rw [neg_of rfl hB (by omega) (by omega)]
      rcases normI_told ha with h | hA
      · unfold subI addI; rw [h]; simp
      · obtain ⟨p1, p2⟩ := bnd a hA
        have hb2 := hB.2.1
        have hn : Good ⟨true, 0 - (normI b).hi, 0 - (normI b).lo⟩ := ⟨rfl, by simp only; omega, by simp only; omega, by simp only; omega⟩
        obtain ⟨a1, a2⟩ := good_rg hA
        obtain ⟨b1, b2⟩ := good_rg hB
        obtain ⟨n1, n2⟩ := good_rg hn
        unfold subI addI
        rw [good_norm hn, hA.1, hB.1, minus_ok a1 b2, minus_ok a2 b1, plus_ok a1 n1, plus_ok a2 n2]
        simp only at n1 n2 ⊢
        have g1 : (normI a).lo + (0 - (normI b).hi) = (normI a).lo - (normI b).hi := by omega
        have g2 : (normI a).hi + (0 - (normI b).lo) = (normI a).hi - (normI b).lo := by omega
        rw [g1, g2]
  · rw [← normI_nrm]
    rcases normI_told ha with h | hA
    · rw [key a h, h]; exact e0
    · obtain ⟨p1, p2⟩ := bnd a hA
      have ha2 := hA.2.1
      rw [neg_of rfl hA (by omega) (by omega)]
      have hn : Good ⟨true, 0 - (normI a).hi, 0 - (normI a).lo⟩ := ⟨rfl, by simp only; omega, by simp only; omega, by simp only; omega⟩
      rw [neg_of (good_norm hn) hn (by simp only; omega) (by simp only; omega)]
      simp only
      have e : normI a = ⟨true, (normI a).lo, (normI a).hi⟩ := by
        have := hA.1
        generalize normI a = A at *
        obtain ⟨s, lo, hi⟩ := A
        simp only at this
        rw [this]
      rw [e]
      simp only
      congr 1 <;> omega
end Go.Proofs.Ytbkhkbfjfblbjaa
