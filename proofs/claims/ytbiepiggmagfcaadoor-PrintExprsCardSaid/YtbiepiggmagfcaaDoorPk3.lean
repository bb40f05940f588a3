/- Any sum's text is the document's, walked. Conditions: the numbers are of 64 bits; the table of powers of ten is laid. -/
import Derived.Test.YtbiepiggmagfcaaDoorPk1
import Derived.Test.YtbiepiggmagfcaaDoorPk2
import Derived.Test.YtbiepiggmagfcaaDoorPr2
set_option linter.unusedVariables false
set_option linter.unusedSimpArgs false
namespace Go.Proofs.YtbiepiggmagfcaaDoor
open Go Go.Sy Go.RowKit
theorem ri_rg : ∀ e : Ex, riE e = true → rgE e
  | .nil, h => by cases h
  | .mk k n s a b, h => by
    simp only [riE] at h
    split at h
    · rename_i hk; exact .inl (eq_of_beq hk)
    split at h
    · rename_i hk; exact .inr (.inl (eq_of_beq hk))
    split at h
    · rename_i hk
      simp only [Bool.and_eq_true] at h
      exact .inr (.inr (.inl ⟨eq_of_beq hk, ri_rg a h.1.1.1⟩))
    split at h
    · rename_i hk
      simp only [Bool.and_eq_true] at h
      simp only [Bool.or_eq_true, beq_iff_eq] at hk
      exact .inr (.inr (.inr ⟨by omega, by omega, ri_rg a h.1.1.1, ri_rg b h.1.1.2⟩))
    · cases h
/-- a light sum's text is short -/
theorem lg_len : ∀ (e : Ex) (l d : Int), 0 ≤ l → okN e → (lgE e l d).1 = true → ((exT e).length : Int) ≤ 60 * (l - (lgE e l d).2)
  | .nil, l, d, h, _, _ => by simp only [lgE, exT, List.length_nil]; omega
  | .mk k n s a b, l, d, h, ho, ht => by
    obtain ⟨o1, o2, o3⟩ := ho
    simp only [lgE] at ht ⊢
    split at ht
    · cases ht
    · rename_i h1
      rw [if_neg h1]
      simp only [Bool.or_eq_true, decide_eq_true_eq, not_or] at h1
      split at ht
      · rename_i h2
        rw [if_pos h2]
        obtain ⟨a1, a2, a3⟩ := lgE_b a (l - 1) (d - 1) (by omega)
        have q1 := lg_len a (l - 1) (d - 1) (by omega) o2 h2
        have q2 := lg_len b _ (d - 1) (a3 h2) o3 ht
        obtain ⟨b1, b2, b3⟩ := lgE_b b _ (d - 1) (a3 h2)
        have q3 := itoa_w64 o1
        have q4 : (itT n).length ≤ 22 := q3
        have e1 : ∀ p t, (enT p t).length ≤ t.length + 2 := fun p t => by unfold enT; split <;> simp <;> omega
        have e2 := e1 (suB b) (exT b)
        have e3 := e1 (suB a) (exT a)
        have e4 := e1 (suB b || prdB b) (exT b)
        have e5 := e1 (suB a || prdB a) (exT a)
        simp only [exT]
        repeat' split
        all_goals try simp only [List.length_append, List.length_cons, List.length_nil]
        all_goals omega
      · cases ht
abbrev yc_PrintExprs (m : Nat) (e : Ex) : Prop := e.dp < m ∧ okN e
abbrev yr_PrintExprs (m : Nat) (e : Ex) : SV := .one (.v (.bool true))
noncomputable abbrev ya_PrintExprs : ArgC ((Ex) × Unit) := (acS (cEx) ac0)
abbrev yq_PrintExprs (m : Nat) : Prop := CallsG Tryd.prog 3 powT ya_PrintExprs (fun p : (Ex) × Unit => yc_PrintExprs m p.1) (fun p : (Ex) × Unit => yr_PrintExprs m p.1)
set_option maxRecDepth 20000 in set_option maxHeartbeats 4000000 in
theorem y_PrintExprs (m : Nat) : yq_PrintExprs m := by
  rintro ⟨e, _u⟩ w fz xs hT hc hfz hl hx
  have hG := staysN_clX powT_keptB powT_size (fz := fz) hT
  refine calls_toL Tryd.func3 rfl w fz [(yp_pknown hG), (yg_LightE m (y_LightE m)), (yg_RightE m (y_RightE m)), (yg_Expr m (y_Expr m) hG), (yg_rExpr m (y_rExpr m))] [] ya_PrintExprs (fun p : (Ex) × Unit => yr_PrintExprs m p.1) _ xs hfz hl hx (Nat.le_of_ble_eq_true rfl) ?_
  clear hx hl hfz xs
  simp only [Tryd.f3]
  obtain ⟨h1, h2⟩ := hc
  dsimp only at h1 h2
  cases c1 : (lgE e 60 20).1 with
  | false =>
    simp only [↓eB, seval, go_sem, cEx_e, cEx_d, cEx_n, mIn_d, mIn_e, mIn_z, zIn1_t, zIn1_ln, inR, pairO_n, pairN_o, spFn_n, yp_pknown, yg_pknown, yg_LightE, yg_RightE, c1]
    try simp only [impB, impN]
    repeat' first | exact ck | with_reducible apply And.intro | intro _
    all_goals first | exact h1 | (rename_i h; first | exact oI h | exact nah h) | (rename_i _ h _ g; exact sL h g) | decide | omega | (refine ret_with [] ?_; simp only [↓eB, seval, go_sem, bne, yr_PrintExprs])
  | true =>
    cases c2 : riE e with
    | false =>
      simp only [↓eB, seval, go_sem, cEx_e, cEx_d, cEx_n, mIn_d, mIn_e, mIn_z, zIn1_t, zIn1_ln, inR, pairO_n, pairN_o, spFn_n, yp_pknown, yg_pknown, yg_LightE, yg_RightE, c1, c2]
      try simp only [impB, impN]
      repeat' first | exact ck | with_reducible apply And.intro | intro _
      all_goals first | exact h1 | (rename_i h; first | exact oI h | exact nah h) | (rename_i _ h _ g; exact sL h g) | decide | omega | (refine ret_with [] ?_; simp only [↓eB, seval, go_sem, bne, yr_PrintExprs])
    | true =>
      have g1 := ri_rg e c2
      have g2 := lg_len e 60 20 (by decide) h2 c1
      obtain ⟨b1, b2, b3⟩ := lgE_b e 60 20 (by decide)
      have g3 : (exT e).length ≤ 1000000000 := by omega
      simp only [↓eB, seval, go_sem, cEx_e, cEx_d, cEx_n, mIn_d, mIn_e, mIn_z, zIn1_t, zIn1_ln, inR, pairO_n, pairN_o, spFn_n, yp_pknown, yg_pknown, yg_LightE, yg_RightE, yg_Expr, yg_rExpr, c1, c2, beq_self_eq_true]
      try simp only [impB, impN]
      repeat' first | exact ck | with_reducible apply And.intro | intro _
      all_goals first | exact h1 | exact h2 | exact g1 | exact g3 | (rename_i h; first | exact oI h | exact nah h) | (rename_i _ h _ g; exact sL h g) | decide | omega | (refine ret_with [] ?_; simp only [↓eB, seval, go_sem, bne, yr_PrintExprs])
end Go.Proofs.YtbiepiggmagfcaaDoor
