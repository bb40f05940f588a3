/- ParseDeep, walked. No conditions but those in each statement. -/
import Derived.Test.YtodppgiaimihfabDoorPz1
import Derived.Test.YtodppgiaimihfabDoorPz15
set_option linter.unusedVariables false
set_option linter.unusedSimpArgs false
namespace Go.Proofs.YtodppgiaimihfabDoor
open Go Go.Sy Go.RowKit
abbrev yc_times (s : List UInt8) (n : Int) : Prop := s.length ≤ 20 ∧ 0 ≤ n ∧ n ≤ 100
abbrev yr_times (s : List UInt8) (n : Int) : SV := .one (.v (.string (bs (tmL s n.toNat))))
theorem y_times : CallsY Tryd.prog 7 (acS (cStr) (acS (cInt .i64) ac0)) (fun p : (List UInt8 × (Int × Unit)) => yc_times p.1 p.2.1) (fun p : (List UInt8 × (Int × Unit)) => yr_times p.1 p.2.1) := by
  rintro ⟨s, n, _u⟩ w fz xs hc hfz hl hx
  refine calls_toL Tryd.func7 rfl w fz [] [] (acS (cStr) (acS (cInt .i64) ac0)) (fun p : (List UInt8 × (Int × Unit)) => yr_times p.1 p.2.1) _ xs hfz hl hx (Nat.le_of_ble_eq_true rfl) ?_
  clear hx hl hfz xs
  simp only [Tryd.f7]
  obtain ⟨hs, h0, h1⟩ := hc
  dsimp only at hs h0 h1
  simp only [↓eB, seval, go_sem, Fn.c, List.length_append]
  refine loop_ok (Y := Nat) (fun z => (z : Int) ≤ n) (fun z => ⟨[(0, true, .one (.v (.string (bs s)))), (1, true, .one (.v (.int .i64 n))), (5, true, .one (.v (.string (bs (tmL s z))))), (6, true, .one (.v (.int .i64 (z : Int))))], []⟩)
    (fun z => n.toNat - z) 0 (by show ((0 : Nat) : Int) ≤ n; omega) ?_ ?_
  · refine to_with [] ?_; simp only [↓eB, seval, go_sem, Fn.c, List.length_append, tmL]
  · rintro i hi
    refine vc_ok [] [] _ _ _ ?_
    cases hx : decide ((i : Int) < n) with
    | false =>
      have h2 := of_decide_eq_false hx
      have e : n.toNat = i := by omega
      simp only [↓eB, seval, go_sem, Fn.c, List.length_append, hx]
      try simp only [impB, impN]
      repeat' first | exact ck | with_reducible apply And.intro | intro _
      all_goals first | exact trivial | (rename_i h; first | exact oI h | exact nah h) | (rename_i _ h _ g; exact sL h g) | decide | omega | (refine ret_with [] ?_; simp only [↓eB, seval, go_sem, bne, yr_times, e])
    | true =>
      have h2 := of_decide_eq_true hx
      have hl := tmL_le hs (show i ≤ 100 by omega)
      have e : tmL s (i + 1) = tmL s i ++ s := rfl
      have h3 : (tmL s i).length + s.length ≤ 2020 := by omega
      have e2 : ((i + 1 : Nat) : Int) = (i : Int) + 1 := by omega
      have e3 : IntKind.i64.wrap ((i : Int) + 1) = (i : Int) + 1 := wrap_i64 (by omega) (by omega)
      simp only [↓eB, seval, go_sem, Fn.c, List.length_append, hx, e3]
      try simp only [impB, impN]
      repeat' (first | exact ck | with_reducible apply And.intro)
      all_goals try first | exact hs | exact hl | exact h3 | decide | omega
      refine ⟨i + 1, by omega, by omega, to_with [] ?_⟩
      simp only [↓eB, seval, go_sem, Fn.c, List.length_append, e, e2, e3]
theorem yn_times : ∀ p : (List UInt8 × (Int × Unit)), ((fun p : (List UInt8 × (Int × Unit)) => yr_times p.1 p.2.1) p).names = [] := by intro p; first | rfl | simp [SV.names, C.names]
noncomputable def yp_times {X : Ctx} {w0 : World} : Sy.Spec Tryd.prog X w0 := specD 7 Tryd.call7 (acS (cStr) (acS (cInt .i64) ac0)) (fun p : (List UInt8 × (Int × Unit)) => yc_times p.1 p.2.1) (fun p : (List UInt8 × (Int × Unit)) => yr_times p.1 p.2.1) yn_times y_times
abbrev yc_ParseDeep (n : Int) (v : Int) : Prop := 0 ≤ n ∧ 0 ≤ v
abbrev yr_ParseDeep (n : Int) (v : Int) : SV := .one (.v (.bool true))
set_option maxRecDepth 20000 in set_option maxHeartbeats 4000000 in
theorem y_ParseDeep : CallsY Tryd.prog 3 (acS (cInt .u8) (acS (cInt .u8) ac0)) (fun p : (Int × (Int × Unit)) => yc_ParseDeep p.1 p.2.1) (fun p : (Int × (Int × Unit)) => yr_ParseDeep p.1 p.2.1) := by
  rintro ⟨n, v, _u⟩ w fz xs hc hfz hl hx
  refine calls_toL Tryd.func3 rfl w fz [yp_known7, yp_times, yp_qFunc] [] (acS (cInt .u8) (acS (cInt .u8) ac0)) (fun p : (Int × (Int × Unit)) => yr_ParseDeep p.1 p.2.1) _ xs hfz hl hx (Nat.le_of_ble_eq_true rfl) ?_
  clear hx hl hfz xs
  simp only [Tryd.f3]
  obtain ⟨hn, hw⟩ := hc
  dsimp only at hn hw
  generalize hN : n.tmod 8 = N at *
  have n1 : 0 ≤ N := by rw [← hN]; exact Int.tmod_nonneg _ hn
  have n2 : N < 8 := by rw [← hN]; exact Int.tmod_lt_of_pos _ (by decide)
  obtain ⟨k, hk⟩ : ∃ k : Nat, (k : Int) = 36 + N := ⟨(36 + N).toNat, by omega⟩
  have hk1 : 36 ≤ k := by omega
  have hk2 : k ≤ 43 := by omega
  have e0 : (k : Int).toNat = k := Int.toNat_natCast k
  have e1 : IntKind.i64.wrap N = N := wrap_i64 (by omega) (by omega)
  have e2 : IntKind.i64.wrap (36 + N) = (k : Int) := by rw [hk]; exact wrap_i64 (by omega) (by omega)
  have e3 : IntKind.i64.wrap ((k : Int) + 1) = (k : Int) + 1 := wrap_i64 (by omega) (by omega)
  have hw4 : v.tmod 4 = 0 ∨ v.tmod 4 = 1 ∨ v.tmod 4 = 2 ∨ v.tmod 4 = 3 := by
    have h1 := Int.tmod_nonneg 4 hw
    have h2 := Int.tmod_lt_of_pos v (b := 4) (by decide)
    omega
  rcases hw4 with hM | hM | hM | hM
  · have hD := dp0 k hk1 hk2
    have hs := dp_len hD
    have l0 := tmL_le (s := [40]) (by decide) (show k ≤ 100 by omega)
    have l1 := tmL_le (s := [41]) (by decide) (show k ≤ 100 by omega)
    have q0 : ∀ s : List UInt8, s.length ≤ 20 → yc_times s (k : Int) := fun s h => ⟨h, by omega, by omega⟩
    cases hq : decide (40 < (k : Int) + 1) with
    | true =>
      have hq1 := of_decide_eq_true hq
      obtain ⟨f1, f2⟩ := dp_bad hD (by omega)
      simp only [↓eB, seval, go_sem, Fn.c, List.length_append, yp_known7, yr_known7, yp_times, yp_qFunc, hN, hM, e0, e1, e2, e3, dT0_f, hq, f1, f2]
      try simp only [impB, impN]
      repeat' first | exact ck | with_reducible apply And.intro | intro _
      all_goals first | exact hs | exact l0 | exact l1 | (refine q0 _ ?_; decide) | (rename_i h; first | exact oI h | exact nah h) | (rename_i _ h _ g; exact sL h g) | decide | omega | (refine ret_with [] ?_; simp only [↓eB, seval, go_sem, bne, yr_ParseDeep])
    | false =>
      have hq1 := of_decide_eq_false hq
      obtain ⟨f1, f2⟩ := dp_good hD (by omega)
      have f3 : (((funF (dT0 k)).1.body.length : Nat) : Int) = 1 := by rw [f2]; rfl
      simp only [↓eB, seval, go_sem, Fn.c, List.length_append, yp_known7, yr_known7, yp_times, yp_qFunc, hN, hM, e0, e1, e2, e3, dT0_f, hq, f1, f3]
      try simp only [impB, impN]
      repeat' first | exact ck | with_reducible apply And.intro | intro _
      all_goals first | exact hs | exact l0 | exact l1 | (refine q0 _ ?_; decide) | (rename_i h; first | exact oI h | exact nah h) | (rename_i _ h _ g; exact sL h g) | decide | omega | (refine ret_with [] ?_; simp only [↓eB, seval, go_sem, bne, yr_ParseDeep])
  · have hD := dp1 k hk1 hk2
    have hs := dp_len hD
    have l0 := tmL_le (s := [45]) (by decide) (show k ≤ 100 by omega)
    have q0 : ∀ s : List UInt8, s.length ≤ 20 → yc_times s (k : Int) := fun s h => ⟨h, by omega, by omega⟩
    cases hq : decide (40 < (k : Int) + 1) with
    | true =>
      have hq1 := of_decide_eq_true hq
      obtain ⟨f1, f2⟩ := dp_bad hD (by omega)
      simp only [↓eB, seval, go_sem, Fn.c, List.length_append, yp_known7, yr_known7, yp_times, yp_qFunc, hN, hM, e0, e1, e2, e3, dT1_f, hq, f1, f2]
      try simp only [impB, impN]
      repeat' first | exact ck | with_reducible apply And.intro | intro _
      all_goals first | exact hs | exact l0 | (refine q0 _ ?_; decide) | (rename_i h; first | exact oI h | exact nah h) | (rename_i _ h _ g; exact sL h g) | decide | omega | (refine ret_with [] ?_; simp only [↓eB, seval, go_sem, bne, yr_ParseDeep])
    | false =>
      have hq1 := of_decide_eq_false hq
      obtain ⟨f1, f2⟩ := dp_good hD (by omega)
      have f3 : (((funF (dT1 k)).1.body.length : Nat) : Int) = 1 := by rw [f2]; rfl
      simp only [↓eB, seval, go_sem, Fn.c, List.length_append, yp_known7, yr_known7, yp_times, yp_qFunc, hN, hM, e0, e1, e2, e3, dT1_f, hq, f1, f3]
      try simp only [impB, impN]
      repeat' first | exact ck | with_reducible apply And.intro | intro _
      all_goals first | exact hs | exact l0 | (refine q0 _ ?_; decide) | (rename_i h; first | exact oI h | exact nah h) | (rename_i _ h _ g; exact sL h g) | decide | omega | (refine ret_with [] ?_; simp only [↓eB, seval, go_sem, bne, yr_ParseDeep])
  · have hD := dp2 k hk1 hk2
    have hs := dp_len hD
    have l0 := tmL_le (s := [33]) (by decide) (show k ≤ 100 by omega)
    have q0 : ∀ s : List UInt8, s.length ≤ 20 → yc_times s (k : Int) := fun s h => ⟨h, by omega, by omega⟩
    cases hq : decide (40 < (k : Int) + 1) with
    | true =>
      have hq1 := of_decide_eq_true hq
      obtain ⟨f1, f2⟩ := dp_bad hD (by omega)
      simp only [↓eB, seval, go_sem, Fn.c, List.length_append, yp_known7, yr_known7, yp_times, yp_qFunc, hN, hM, e0, e1, e2, e3, dT2_f, hq, f1, f2]
      try simp only [impB, impN]
      repeat' first | exact ck | with_reducible apply And.intro | intro _
      all_goals first | exact hs | exact l0 | (refine q0 _ ?_; decide) | (rename_i h; first | exact oI h | exact nah h) | (rename_i _ h _ g; exact sL h g) | decide | omega | (refine ret_with [] ?_; simp only [↓eB, seval, go_sem, bne, yr_ParseDeep])
    | false =>
      have hq1 := of_decide_eq_false hq
      obtain ⟨f1, f2⟩ := dp_good hD (by omega)
      have f3 : (((funF (dT2 k)).1.body.length : Nat) : Int) = 1 := by rw [f2]; rfl
      simp only [↓eB, seval, go_sem, Fn.c, List.length_append, yp_known7, yr_known7, yp_times, yp_qFunc, hN, hM, e0, e1, e2, e3, dT2_f, hq, f1, f3]
      try simp only [impB, impN]
      repeat' first | exact ck | with_reducible apply And.intro | intro _
      all_goals first | exact hs | exact l0 | (refine q0 _ ?_; decide) | (rename_i h; first | exact oI h | exact nah h) | (rename_i _ h _ g; exact sL h g) | decide | omega | (refine ret_with [] ?_; simp only [↓eB, seval, go_sem, bne, yr_ParseDeep])
  · have hD := dp3 k hk1 hk2
    have hs := dp_len hD
    have l0 := tmL_le (s := [105, 102, 32, 40, 120, 32, 61, 61, 32, 49, 41, 32, 123, 32]) (by decide) (show k ≤ 100 by omega)
    have l1 := tmL_le (s := [125, 32]) (by decide) (show k ≤ 100 by omega)
    have q0 : ∀ s : List UInt8, s.length ≤ 20 → yc_times s (k : Int) := fun s h => ⟨h, by omega, by omega⟩
    cases hq : decide (40 < (k : Int) + 1) with
    | true =>
      have hq1 := of_decide_eq_true hq
      obtain ⟨f1, f2⟩ := dp_bad hD (by omega)
      simp only [↓eB, seval, go_sem, Fn.c, List.length_append, yp_known7, yr_known7, yp_times, yp_qFunc, hN, hM, e0, e1, e2, e3, dT3_f, hq, f1, f2]
      try simp only [impB, impN]
      repeat' first | exact ck | with_reducible apply And.intro | intro _
      all_goals first | exact hs | exact l0 | exact l1 | (refine q0 _ ?_; decide) | (rename_i h; first | exact oI h | exact nah h) | (rename_i _ h _ g; exact sL h g) | decide | omega | (refine ret_with [] ?_; simp only [↓eB, seval, go_sem, bne, yr_ParseDeep])
    | false =>
      have hq1 := of_decide_eq_false hq
      obtain ⟨f1, f2⟩ := dp_good hD (by omega)
      have f3 : (((funF (dT3 k)).1.body.length : Nat) : Int) = 1 := by rw [f2]; rfl
      simp only [↓eB, seval, go_sem, Fn.c, List.length_append, yp_known7, yr_known7, yp_times, yp_qFunc, hN, hM, e0, e1, e2, e3, dT3_f, hq, f1, f3]
      try simp only [impB, impN]
      repeat' first | exact ck | with_reducible apply And.intro | intro _
      all_goals first | exact hs | exact l0 | exact l1 | (refine q0 _ ?_; decide) | (rename_i h; first | exact oI h | exact nah h) | (rename_i _ h _ g; exact sL h g) | decide | omega | (refine ret_with [] ?_; simp only [↓eB, seval, go_sem, bne, yr_ParseDeep])
end Go.Proofs.YtodppgiaimihfabDoor
