/- IvalOrder. No conditions but those in each statement. -/
import Derived.Test.YtbkhkbfjfblbjaaDoorIv8
set_option linter.unusedVariables false
set_option linter.unusedSimpArgs false
namespace Go.Proofs.YtbkhkbfjfblbjaaDoor
open Go Go.Sy Go.RowKit

/-- an interval as Join of one tells it -/
def nmI (a : Iv) : Iv := if emptyB a = true then noIv else ⟨true, a.lo, a.hi⟩
abbrev Gd (x : Iv) : Prop := x = noIv ∨ (x.s = true ∧ x.lo ≤ x.hi ∧ w64 x.lo ∧ w64 x.hi)
theorem jL_one (a : Iv) : jL noIv [a] = nmI a := by
  simp only [jL, nmI]
  cases h : emptyB a with
  | true => rfl
  | false =>
    unfold emptyB at h
    simp only [Bool.or_eq_false_iff, decide_eq_false_iff_not, Bool.not_eq_false'] at h
    simp only [Bool.false_eq_true, if_false, if_true]
    unfold Of
    rw [if_neg (by simpa using h.2)]
theorem nm_gd {a : Iv} (h : wIv a) : Gd (nmI a) := by
  unfold nmI
  cases he : emptyB a with
  | true => exact .inl rfl
  | false =>
    unfold emptyB at he
    simp only [Bool.or_eq_false_iff, decide_eq_false_iff_not, Bool.not_eq_false'] at he
    exact .inr ⟨rfl, by show a.lo ≤ a.hi; omega, h⟩
theorem emp_gd {x : Iv} (h : Gd x) : emptyB x = !x.s := by
  rcases h with rfl | ⟨h1, h2, _⟩
  · rfl
  · unfold emptyB; rw [h1]; simp; omega
theorem leq_gd {x y : Iv} (hx : Gd x) (hy : Gd y) : leqB x y = (!x.s || (y.s && decide (y.lo ≤ x.lo) && decide (x.hi ≤ y.hi))) := by
  unfold leqB
  rw [emp_gd hx, emp_gd hy]
  cases x.s <;> simp
theorem leq_self {x : Iv} (hx : Gd x) : leqB x x = true := by
  rw [leq_gd hx hx]; cases x.s <;> simp
theorem leq_trans {x y z : Iv} (hx : Gd x) (hy : Gd y) (hz : Gd z) (h1 : leqB x y = true) (h2 : leqB y z = true) : leqB x z = true := by
  rw [leq_gd hx hy] at h1
  rw [leq_gd hy hz] at h2
  rw [leq_gd hx hz]
  cases h : x.s with
  | false => rfl
  | true =>
    rw [h] at h1
    simp only [Bool.not_true, Bool.false_or, Bool.and_eq_true, decide_eq_true_eq] at h1
    rw [h1.1.1] at h2
    simp only [Bool.not_true, Bool.false_or, Bool.and_eq_true, decide_eq_true_eq] at h2 ⊢
    exact ⟨⟨h2.1.1, by omega⟩, by omega⟩
theorem eqI_iff {a b : Iv} : eqI a b = true ↔ a = b := by
  obtain ⟨s, x, y⟩ := a
  obtain ⟨s', x', y'⟩ := b
  unfold eqI
  simp [Bool.and_eq_true, beq_iff_eq]
theorem eqI_dec (a b : Iv) [Decidable (a = b)] : eqI a b = decide (a = b) := by rw [Bool.eq_iff_iff, decide_eq_true_eq]; exact eqI_iff
theorem eqI_self (a : Iv) : eqI a a = true := eqI_iff.2 rfl
theorem Of_le {lo hi : Int} (h : lo ≤ hi) : Of lo hi = ⟨true, lo, hi⟩ := by unfold Of; rw [if_neg (by simpa using h)]
theorem Of_gt {lo hi : Int} (h : hi < lo) : Of lo hi = noIv := by unfold Of; rw [if_pos (by simpa using h)]
theorem emp_cases (a : Iv) : (emptyB a = true ∧ nmI a = noIv) ∨ (emptyB a = false ∧ a.lo ≤ a.hi ∧ nmI a = ⟨true, a.lo, a.hi⟩) := by
  unfold nmI
  cases h : emptyB a with
  | true => exact .inl ⟨rfl, rfl⟩
  | false =>
    unfold emptyB at h
    simp only [Bool.or_eq_false_iff, decide_eq_false_iff_not, Bool.not_eq_false'] at h
    exact .inr ⟨rfl, by omega, rfl⟩
/-- join, meet and widening of what Join of one tells -/
def J2 (x y : Iv) : Iv := if x.s = false then y else if y.s = false then x else ⟨true, mn x.lo y.lo, mx x.hi y.hi⟩
def M2 (x y : Iv) : Iv := if x.s = false then noIv else if y.s = false then noIv else if mn x.hi y.hi < mx x.lo y.lo then noIv else ⟨true, mx x.lo y.lo, mn x.hi y.hi⟩
def W2 (x y : Iv) : Iv := if x.s = false then y else if y.s = false then x else ⟨true, if y.lo < x.lo then -9223372036854775808 else x.lo, if x.hi < y.hi then 9223372036854775807 else x.hi⟩
theorem mn_le (a b : Int) : mn a b ≤ a ∧ mn a b ≤ b ∧ (mn a b = a ∨ mn a b = b) := by unfold mn; split <;> omega
theorem mx_le (a b : Int) : a ≤ mx a b ∧ b ≤ mx a b ∧ (mx a b = a ∨ mx a b = b) := by unfold mx; split <;> omega
theorem jL_two (a b : Iv) : jL noIv [a, b] = J2 (nmI a) (nmI b) := by
  rcases emp_cases a with ⟨h1, h2⟩ | ⟨h1, h2, h3⟩ <;> rcases emp_cases b with ⟨g1, g2⟩ | ⟨g1, g2, g3⟩
  · simp [jL, h1, g1, h2, g2, J2]
  · simp [jL, h1, g1, h2, g3, J2, Of_le g2]
  · simp [jL, h1, g1, h3, g2, J2, Of_le h2]
  · have m1 := mn_le a.lo b.lo
    have m2 := mx_le a.hi b.hi
    simp [jL, h1, g1, h3, g3, J2, Of_le h2, Of_le (show mn a.lo b.lo ≤ mx a.hi b.hi by omega)]
theorem mL_one {a : Iv} (h : wIv a) : mL topIv [a] = nmI a := by
  rcases emp_cases a with ⟨h1, h2⟩ | ⟨h1, h2, h3⟩
  · simp [mL, h1, h2]
  · obtain ⟨⟨w1, w2⟩, w3, w4⟩ := h
    have e1 : mx (-9223372036854775808) a.lo = a.lo := by unfold mx; split <;> omega
    have e2 : mn 9223372036854775807 a.hi = a.hi := by unfold mn; split <;> omega
    simp [mL, h1, h3, e1, e2, Of_le h2]
theorem mL_two {a b : Iv} (h : wIv a) : mL topIv [a, b] = M2 (nmI a) (nmI b) := by
  rcases emp_cases a with ⟨h1, h2⟩ | ⟨h1, h2, h3⟩
  · simp [mL, h1, h2, M2]
  · obtain ⟨⟨w1, w2⟩, w3, w4⟩ := h
    have e1 : mx (-9223372036854775808) a.lo = a.lo := by unfold mx; split <;> omega
    have e2 : mn 9223372036854775807 a.hi = a.hi := by unfold mn; split <;> omega
    rcases emp_cases b with ⟨g1, g2⟩ | ⟨g1, g2, g3⟩
    · simp [mL, h1, h3, e1, e2, Of_le h2, g1, g2, M2]
    · by_cases hm : mn a.hi b.hi < mx a.lo b.lo
      · simp [mL, h1, h3, e1, e2, Of_le h2, g1, g3, M2, hm, Of_gt hm]
      · simp [mL, h1, h3, e1, e2, Of_le h2, g1, g3, M2, hm, Of_le (Int.not_lt.1 hm)]
theorem wdI_two {a b : Iv} (ha : wIv a) : wdI a b = W2 (nmI a) (nmI b) := by
  unfold wdI
  rw [jL_one, jL_one]
  rcases emp_cases a with ⟨h1, h2⟩ | ⟨h1, h2, h3⟩
  · simp [h1, h2, W2]
  · obtain ⟨⟨w1, w2⟩, w3, w4⟩ := ha
    rcases emp_cases b with ⟨g1, g2⟩ | ⟨g1, g2, g3⟩
    · simp [h1, h3, g1, g2, W2]
    · simp only [h1, h3, g1, g3, W2, Bool.false_eq_true, if_false, decide_eq_true_eq, Bool.true_eq_false]
      rw [Of_le]
      split <;> split <;> omega
theorem leq_nm (a b : Iv) : leqB a b = leqB (nmI a) (nmI b) := by
  have key : ∀ a : Iv, emptyB (nmI a) = emptyB a := by
    intro a
    rcases emp_cases a with ⟨h1, h2⟩ | ⟨h1, h2, h3⟩
    · rw [h1, h2]; rfl
    · rw [h1, h3]; unfold emptyB; simp; omega
  unfold leqB
  rw [key, key]
  rcases emp_cases a with ⟨h1, h2⟩ | ⟨h1, h2, h3⟩ <;> rcases emp_cases b with ⟨g1, g2⟩ | ⟨g1, g2, g3⟩ <;> simp [*]
theorem has_nm (a : Iv) (n : Int) : hasB a n = hasB (nmI a) n := by
  have key : emptyB (nmI a) = emptyB a := by
    rcases emp_cases a with ⟨h1, h2⟩ | ⟨h1, h2, h3⟩
    · rw [h1, h2]; rfl
    · rw [h1, h3]; unfold emptyB; simp; omega
  unfold hasB
  rw [key]
  rcases emp_cases a with ⟨h1, h2⟩ | ⟨h1, h2, h3⟩ <;> simp [*]
theorem nm_of_gd {x : Iv} (h : Gd x) : nmI x = x := by
  rcases h with rfl | ⟨h1, h2, _⟩
  · rfl
  · unfold nmI emptyB; rw [h1, if_neg (by simp; omega)]; cases x; simp_all
theorem gd_w {x : Iv} (h : Gd x) : wIv x := by
  rcases h with rfl | ⟨h1, h2, h3⟩
  · exact ⟨⟨by decide, by decide⟩, by decide, by decide⟩
  · exact h3
theorem gd_cases {x : Iv} (h : Gd x) : x = noIv ∨ ∃ lo hi, x = ⟨true, lo, hi⟩ ∧ lo ≤ hi ∧ w64 lo ∧ w64 hi := by
  rcases h with rfl | ⟨h1, h2, h3⟩
  · exact .inl rfl
  · refine .inr ⟨x.lo, x.hi, ?_, h2, h3⟩
    obtain ⟨s, lo, hi⟩ := x
    obtain rfl : s = true := h1
    rfl
theorem J2_gd {x y : Iv} (hx : Gd x) (hy : Gd y) : Gd (J2 x y) := by
  rcases gd_cases hx with rfl | ⟨xl, xh, rfl, h1, h2⟩ <;> rcases gd_cases hy with rfl | ⟨yl, yh, rfl, g1, g2⟩
  · exact hy
  · exact hy
  · exact hx
  · have m1 := mn_le xl yl
    have m2 := mx_le xh yh
    refine .inr ⟨rfl, ?_, ?_, ?_⟩ <;> simp only [J2, Bool.true_eq_false, if_false, w64] at * <;> omega
theorem M2_gd {x y : Iv} (hx : Gd x) (hy : Gd y) : Gd (M2 x y) := by
  rcases gd_cases hx with rfl | ⟨xl, xh, rfl, h1, h2⟩ <;> rcases gd_cases hy with rfl | ⟨yl, yh, rfl, g1, g2⟩
  · exact .inl rfl
  · exact .inl rfl
  · exact .inl rfl
  · have m1 := mx_le xl yl
    have m2 := mn_le xh yh
    by_cases hm : mn xh yh < mx xl yl
    · exact .inl (by simp [M2, hm])
    · refine .inr ?_
      simp only [M2, Bool.true_eq_false, if_false, if_neg hm]
      refine ⟨trivial, by omega, ?_, ?_⟩ <;> simp only [w64] at * <;> omega
theorem W2_gd {x y : Iv} (hx : Gd x) (hy : Gd y) : Gd (W2 x y) := by
  rcases gd_cases hx with rfl | ⟨xl, xh, rfl, h1, h2⟩ <;> rcases gd_cases hy with rfl | ⟨yl, yh, rfl, g1, g2⟩
  · exact hy
  · exact hy
  · exact hx
  · refine .inr ⟨rfl, ?_, ?_, ?_⟩ <;> simp only [W2, Bool.true_eq_false, if_false, w64] at * <;> (repeat' split) <;> omega
theorem no_gd : Gd noIv := .inl rfl
theorem top_gd : Gd topIv := .inr ⟨rfl, by decide, ⟨by decide, by decide⟩, by decide, by decide⟩
/-- what the statement's function answers -/
def ordB (x y z : Iv) : Bool := leqB x x && (!leqB x y || !leqB y x || eqI x y) && (!leqB x y || !leqB y z || leqB x z) && leqB noIv x && leqB x topIv && (leqB x y == eqI (mL topIv [x, y]) x) && (leqB x y == eqI (jL noIv [x, y]) y)
theorem leq_lit (a b c d : Int) (s t : Bool) (h1 : s = true → a ≤ b) (h2 : t = true → c ≤ d) : leqB ⟨s, a, b⟩ ⟨t, c, d⟩ = (!s || (t && decide (c ≤ a) && decide (b ≤ d))) := by
  unfold leqB emptyB
  cases s
  · simp
  · have e : decide (b < a) = false := by have := h1 rfl; simp; omega
    cases t
    · simp [e]
    · have e2 : decide (d < c) = false := by have := h2 rfl; simp; omega
      simp [e, e2]
theorem ordB_true {x y z : Iv} (hx : Gd x) (hy : Gd y) (hz : Gd z) : ordB x y z = true := by
  have e1 := leq_self hx
  have e2 : (!leqB x y || !leqB y x || eqI x y) = true := by
    rw [leq_gd hx hy, leq_gd hy hx]
    rcases gd_cases hx with rfl | ⟨xl, xh, rfl, h1, h2⟩ <;> rcases gd_cases hy with rfl | ⟨yl, yh, rfl, g1, g2⟩
    · rfl
    · rfl
    · rfl
    · rw [Bool.eq_iff_iff]
      simp only [eqI, Bool.not_true, Bool.false_or, Bool.true_and, Bool.or_eq_true, Bool.not_eq_true', Bool.and_eq_false_imp, Bool.and_eq_true, decide_eq_true_eq, decide_eq_false_iff_not, beq_iff_eq, BEq.rfl, iff_true]
      omega
  have e3 : (!leqB x y || !leqB y z || leqB x z) = true := by
    cases h1 : leqB x y with
    | false => rfl
    | true => cases h2 : leqB y z with
      | false => rfl
      | true => rw [leq_trans hx hy hz h1 h2]; rfl
  have e4 : leqB noIv x = true := by rw [leq_gd no_gd hx]; rfl
  have e5 : leqB x topIv = true := by
    rw [leq_gd hx top_gd]
    rcases gd_cases hx with rfl | ⟨xl, xh, rfl, h1, h2⟩
    · rfl
    · simp only [w64] at h2; simp; omega
  have e6 : (leqB x y == eqI (mL topIv [x, y]) x) = true := by
    rw [mL_two (gd_w hx), nm_of_gd hx, nm_of_gd hy, leq_gd hx hy]
    rcases gd_cases hx with rfl | ⟨xl, xh, rfl, h1, h2⟩ <;> rcases gd_cases hy with rfl | ⟨yl, yh, rfl, g1, g2⟩
    · rfl
    · rfl
    · rfl
    · have m1 := mx_le xl yl
      have m2 := mn_le xh yh
      by_cases hm : mn xh yh < mx xl yl
      · simp [M2, hm, eqI]; omega
      · simp only [M2, hm, eqI, Bool.true_eq_false, if_false, beq_iff_eq, Bool.not_true, Bool.false_or, Bool.true_and, BEq.rfl]
        rw [Bool.eq_iff_iff]
        simp only [Bool.and_eq_true, decide_eq_true_eq, beq_iff_eq]
        omega
  have e7 : (leqB x y == eqI (jL noIv [x, y]) y) = true := by
    rw [jL_two, nm_of_gd hx, nm_of_gd hy, leq_gd hx hy]
    rcases gd_cases hx with rfl | ⟨xl, xh, rfl, h1, h2⟩ <;> rcases gd_cases hy with rfl | ⟨yl, yh, rfl, g1, g2⟩
    · rfl
    · simp [J2, eqI]
    · simp [J2, eqI]
    · have m1 := mn_le xl yl
      have m2 := mx_le xh yh
      simp only [J2, eqI, Bool.true_eq_false, if_false, beq_iff_eq, Bool.not_true, Bool.false_or, Bool.true_and, BEq.rfl]
      rw [Bool.eq_iff_iff]
      simp only [Bool.and_eq_true, decide_eq_true_eq, beq_iff_eq]
      omega
  unfold ordB
  rw [e1, e2, e3, e4, e5, e6, e7]; rfl
theorem ord_facts {a b c : Iv} (ha : wIv a) (hb : wIv b) (hc : wIv c) : ∃ (xs : Bool) (xl xh : Int) (ys : Bool) (yl yh : Int) (zs : Bool) (zl zh : Int) (ms : Bool) (ml mh : Int) (js : Bool) (jl jh : Int),
    jL noIv [a] = ⟨xs, xl, xh⟩ ∧ jL noIv [b] = ⟨ys, yl, yh⟩ ∧ jL noIv [c] = ⟨zs, zl, zh⟩ ∧ mL topIv [⟨xs, xl, xh⟩, ⟨ys, yl, yh⟩] = ⟨ms, ml, mh⟩ ∧ jL noIv [⟨xs, xl, xh⟩, ⟨ys, yl, yh⟩] = ⟨js, jl, jh⟩ ∧
    leqB ⟨xs, xl, xh⟩ ⟨xs, xl, xh⟩ = true ∧ (!leqB ⟨xs, xl, xh⟩ ⟨ys, yl, yh⟩ || !leqB ⟨ys, yl, yh⟩ ⟨xs, xl, xh⟩ || (xs == ys && (xl == yl && xh == yh))) = true ∧ (!leqB ⟨xs, xl, xh⟩ ⟨ys, yl, yh⟩ || !leqB ⟨ys, yl, yh⟩ ⟨zs, zl, zh⟩ || leqB ⟨xs, xl, xh⟩ ⟨zs, zl, zh⟩) = true ∧
    leqB ⟨false, 0, 0⟩ ⟨xs, xl, xh⟩ = true ∧ leqB ⟨xs, xl, xh⟩ ⟨true, -9223372036854775808, 9223372036854775807⟩ = true ∧ (leqB ⟨xs, xl, xh⟩ ⟨ys, yl, yh⟩ == (ms == xs && (ml == xl && mh == xh))) = true ∧ (leqB ⟨xs, xl, xh⟩ ⟨ys, yl, yh⟩ == (js == ys && (jl == yl && jh == yh))) = true := by
  have h := ordB_true (x := jL noIv [a]) (y := jL noIv [b]) (z := jL noIv [c]) (by rw [jL_one]; exact nm_gd ha) (by rw [jL_one]; exact nm_gd hb) (by rw [jL_one]; exact nm_gd hc)
  generalize jL noIv [a] = x at h ⊢
  generalize jL noIv [b] = y at h ⊢
  generalize jL noIv [c] = z at h ⊢
  obtain ⟨xs, xl, xh⟩ := x
  obtain ⟨ys, yl, yh⟩ := y
  obtain ⟨zs, zl, zh⟩ := z
  generalize hm : mL topIv [⟨xs, xl, xh⟩, ⟨ys, yl, yh⟩] = m
  generalize hj : jL noIv [⟨xs, xl, xh⟩, ⟨ys, yl, yh⟩] = j
  unfold ordB at h
  rw [hm, hj] at h
  obtain ⟨ms, ml, mh⟩ := m
  obtain ⟨js, jl, jh⟩ := j
  simp only [eqI] at h
  simp only [Bool.and_eq_true] at h
  obtain ⟨⟨⟨⟨⟨⟨h1, h2⟩, h3⟩, h4⟩, h5⟩, h6⟩, h7⟩ := h
  exact ⟨xs, xl, xh, ys, yl, yh, zs, zl, zh, ms, ml, mh, js, jl, jh, rfl, rfl, rfl, hm, hj, h1, h2, h3, h4, h5, h6, h7⟩
theorem decL_iv (l : List Iv) : decL rwIv (l.map reIv) = some l := decL_map rIv l
theorem sm1 (a : Iv) : smallL [a] := by simp [smallL]
/-- the lattice's laws -/
theorem J2_comm {x y : Iv} (hx : Gd x) (hy : Gd y) : J2 x y = J2 y x := by
  rcases gd_cases hx with rfl | ⟨xl, xh, rfl, h1, h2⟩ <;> rcases gd_cases hy with rfl | ⟨yl, yh, rfl, g1, g2⟩
  · rfl
  · rfl
  · rfl
  · simp only [J2, mn, mx, Bool.true_eq_false, if_false, Iv.mk.injEq, true_and]
    omega
theorem M2_comm {x y : Iv} (hx : Gd x) (hy : Gd y) : M2 x y = M2 y x := by
  rcases gd_cases hx with rfl | ⟨xl, xh, rfl, h1, h2⟩ <;> rcases gd_cases hy with rfl | ⟨yl, yh, rfl, g1, g2⟩
  · rfl
  · rfl
  · rfl
  · have e1 : mn xh yh = mn yh xh := by simp only [mn]; omega
    have e2 : mx xl yl = mx yl xl := by simp only [mx]; omega
    simp only [M2, Bool.true_eq_false, if_false, e1, e2]
theorem mn_assoc (a b c : Int) : mn (mn a b) c = mn a (mn b c) := by simp only [mn]; omega
theorem mx_assoc (a b c : Int) : mx (mx a b) c = mx a (mx b c) := by simp only [mx]; omega
theorem J2_assoc {x y z : Iv} (hx : Gd x) (hy : Gd y) (hz : Gd z) : J2 (J2 x y) z = J2 x (J2 y z) := by
  rcases gd_cases hx with rfl | ⟨xl, xh, rfl, h1, h2⟩ <;> rcases gd_cases hy with rfl | ⟨yl, yh, rfl, g1, g2⟩ <;> rcases gd_cases hz with rfl | ⟨zl, zh, rfl, k1, k2⟩
  all_goals simp [J2, mn_assoc, mx_assoc]
theorem M2_no (x : Iv) : M2 x noIv = noIv := by unfold M2; split <;> rfl
theorem M2_no' (x : Iv) : M2 noIv x = noIv := rfl
theorem M2_assoc {x y z : Iv} (hx : Gd x) (hy : Gd y) (hz : Gd z) : M2 (M2 x y) z = M2 x (M2 y z) := by
  rcases gd_cases hx with rfl | ⟨xl, xh, rfl, h1, h2⟩
  · rfl
  rcases gd_cases hy with rfl | ⟨yl, yh, rfl, g1, g2⟩
  · rfl
  rcases gd_cases hz with rfl | ⟨zl, zh, rfl, k1, k2⟩
  · rw [M2_no, M2_no]; rw [M2_no]
  have m1 := mx_le xl yl
  have m2 := mn_le xh yh
  have n1 := mx_le yl zl
  have n2 := mn_le yh zh
  have a1 := mx_assoc xl yl zl
  have a2 := mn_assoc xh yh zh
  have o1 := mx_le (mx xl yl) zl
  have o2 := mn_le (mn xh yh) zh
  have o3 := mx_le xl (mx yl zl)
  have o4 := mn_le xh (mn yh zh)
  by_cases hm : mn xh yh < mx xl yl <;> by_cases hn : mn yh zh < mx yl zl
  · simp [M2, hm, hn]
  · simp only [M2, Bool.true_eq_false, if_false, hm, hn, if_true]
    rw [if_pos (by omega)]
  · simp only [M2, Bool.true_eq_false, if_false, hm, hn, if_true]
    rw [if_pos (by omega)]
  · simp only [M2, Bool.true_eq_false, if_false, hm, hn, a1, a2]
def latB (a b c j m w : Iv) (n : Int) : Bool := leqB a j && leqB b j && leqB m a && leqB m b && !(leqB a c && leqB b c && !leqB j c) && !(leqB c a && leqB c b && !leqB c m) && (hasB m n == (hasB a n && hasB b n)) && (hasB j n || (!hasB a n && !hasB b n)) && leqB j w
theorem has_gd {x : Iv} (hx : Gd x) (n : Int) : hasB x n = (x.s && decide (x.lo ≤ n) && decide (n ≤ x.hi)) := by
  unfold hasB; rw [emp_gd hx]; cases x.s <;> simp
theorem and9 {a b c d e f g h i : Bool} (h1 : a = true) (h2 : b = true) (h3 : c = true) (h4 : d = true) (h5 : e = true) (h6 : f = true) (h7 : g = true) (h8 : h = true) (h9 : i = true) : (a && b && c && d && e && f && g && h && i) = true := by
  rw [h1, h2, h3, h4, h5, h6, h7, h8, h9]; rfl
theorem latB_gd {a b c : Iv} (ha : Gd a) (hb : Gd b) (hc : Gd c) (n : Int) : latB a b c (J2 a b) (M2 a b) (W2 a b) n = true := by
  have hj := J2_gd ha hb
  have hm := M2_gd ha hb
  have hw := W2_gd ha hb
  unfold latB
  rw [leq_gd ha hj, leq_gd hb hj, leq_gd hm ha, leq_gd hm hb, leq_gd ha hc, leq_gd hb hc, leq_gd hj hc, leq_gd hc ha, leq_gd hc hb, leq_gd hc hm, leq_gd hj hw, has_gd hm, has_gd ha, has_gd hb, has_gd hj]
  clear hj hm hw
  apply and9
  all_goals rcases gd_cases ha with rfl | ⟨xl, xh, rfl, h1, h2⟩ <;> rcases gd_cases hb with rfl | ⟨yl, yh, rfl, g1, g2⟩ <;> rcases gd_cases hc with rfl | ⟨zl, zh, rfl, k1, k2⟩
  all_goals clear ha hb hc
  all_goals try
    have m1 := mx_le xl yl
    have m2 := mn_le xh yh
    have n1 := mn_le xl yl
    have n2 := mx_le xh yh
    simp only [w64] at h2 g2
  all_goals try clear k2
  all_goals try (by_cases hm : mn xh yh < mx xl yl)
  all_goals try simp only [J2, M2, W2, hm, Bool.true_eq_false, if_false, if_true, Bool.not_true, Bool.not_false, Bool.false_or, Bool.true_or, Bool.true_and, Bool.false_and, Bool.and_true, Bool.and_false, BEq.rfl, Int.le_refl, decide_true, Bool.or_true, Bool.and_self, Bool.or_false, Bool.false_beq, Bool.true_beq]
  all_goals try simp only [J2, M2, W2, Bool.true_eq_false, if_false, if_true, Bool.not_true, Bool.not_false, Bool.false_or, Bool.true_or, Bool.true_and, Bool.false_and, Bool.and_true, Bool.and_false, BEq.rfl, Int.le_refl, decide_true, Bool.or_true, Bool.and_self, Bool.or_false, Bool.false_beq, Bool.true_beq]
  all_goals first
    | rfl
    | ((try rw [beq_iff_eq, Bool.eq_iff_iff]) <;> simp only [Bool.and_eq_true, Bool.or_eq_true, Bool.not_eq_true', decide_eq_true_eq, decide_eq_false_iff_not, Bool.and_eq_false_imp, Bool.not_eq_false', Bool.not_eq_false, Bool.false_eq_true, iff_false, false_iff, not_and, not_false_eq_true, true_and, and_true] <;> omega)
    | ((repeat' split) <;> simp <;> omega)
    | (simp; omega)
    | trace_state
end Go.Proofs.YtbkhkbfjfblbjaaDoor
