/- The function that the laws ask for. No conditions but those in each statement. -/
import Derived.Test.YtiipmaoonnjlpaaPg1
import Derived.Test.YtiipmaoonnjlpaaMk5
set_option linter.unusedVariables false
set_option linter.unusedSimpArgs false
namespace Go.Proofs.Ytiipmaoonnjlpaa
open Go Go.Sy Go.RowKit

theorem mUn_d (s t : List UInt8) : mUn.d [.v (.string (bs s)), .v (.string (bs t))] = some ⟨s, t⟩ := rowMOf_d unc_inj ⟨s, t⟩
def fnF (s : Int) (b : List Int) (m : Nat) : Fn := (pgF ⟨nmS s, txT s b⟩ m).headD fn0
theorem nm_glo (s : Int) : (nmS s == gloB) = false := by
  have h : (nmS s).length ≤ 1 := nm_len s
  cases e : (nmS s == gloB) with
  | false => rfl
  | true => rw [eq_of_beq e] at h; exact absurd h (by decide)
theorem txT_len (s : Int) (b : List Int) : (txT s b).length ≤ 2000000 := by
  have hv : nxV 6 (m0 b) < 6 := Int.tmod_lt_of_pos _ (by decide)
  have h1 := bl_len (f := stT 2 s) (fun q => st_len 2 s q) (1 + nxV 6 (m0 b)).toNat (txH s) (nxM (m0 b))
  have h2 := bn6 (c := stL 2) (1 + nxV 6 (m0 b)).toNat (by omega)
  have h3 := stL_le 2 (by decide)
  have h4 := txH_len s
  have h5 := iv_len (nxM (txB s b).2)
  have h6 : (txB s b).1.length ≤ 60 + 6 * 200000 := by unfold txB; omega
  unfold txT
  split <;> simp only [List.length_append, List.length_cons, List.length_nil] <;> omega
theorem pgF_one (u : Un) (m : Nat) : pgF u m = [] ∨ ∃ g, pgF u m = [g] := by
  unfold pgF
  split
  · exact .inl rfl
  split
  · exact .inl rfl
  · exact .inr ⟨_, rfl⟩
abbrev yc_Fn (n : Nat) (m : Nat) (s : Int) (b : List Int) : Prop := 0 ≤ s ∧ okY b ∧ okF (funF (txT s b)).1 ∧ okB n m (funF (txT s b)).1.body
abbrev yr_Fn (n : Nat) (m : Nat) (s : Int) (b : List Int) : SV := .agg (fnF s b m).c
noncomputable abbrev ya_Fn : ArgC ((Int) × (List Int) × Unit) := (acS (cInt .i64) (acS (cBy) ac0))
abbrev yq_Fn (n : Nat) (m : Nat) : Prop := CallsY Try.prog 12 ya_Fn (fun p : (Int) × (List Int) × Unit => yc_Fn n m p.1 p.2.1) (fun p : (Int) × (List Int) × Unit => yr_Fn n m p.1 p.2.1)
theorem yn_Fn (n : Nat) (m : Nat) : ∀ p : (Int) × (List Int) × Unit, ((fun p : (Int) × (List Int) × Unit => yr_Fn n m p.1 p.2.1) p).names = [] := by intro p; rfl
noncomputable def yg_Fn {X : Ctx} {w0 : World} (n : Nat) (m : Nat) (h : yq_Fn n m) : Sy.Spec Try.prog X w0 := specD 12 Try.call12 ya_Fn (fun p : (Int) × (List Int) × Unit => yc_Fn n m p.1 p.2.1) (fun p : (Int) × (List Int) × Unit => yr_Fn n m p.1 p.2.1) (yn_Fn n m) h
set_option maxRecDepth 20000 in set_option maxHeartbeats 8000000 in
theorem y_Fn (n : Nat) (m : Nat) : yq_Fn n m := by
  rintro ⟨s, b, _u⟩ w fz xs hc hfz hl hx
  refine calls_toL Try.func12 rfl w fz [yp_Name, yp_Text, (yg_Program n m (y_Program n m))] [] ya_Fn (fun p : (Int) × (List Int) × Unit => yr_Fn n m p.1 p.2.1) _ xs hfz hl hx (Nat.le_of_ble_eq_true rfl) ?_
  clear hx hl hfz xs
  simp only [Try.f12]
  obtain ⟨g0, g1, g2, g3⟩ := hc
  dsimp only at g0 g1 g2 g3
  have hs : smallB (txT s b) := Nat.le_trans (txT_len s b) (by decide)
  have hc1 : ∃ u : Un, [(⟨nmS s, txT s b⟩ : Un)] = [u] ∧ (u.s == gloB) = false ∧ smallB u.t ∧ okF (funF u.t).1 ∧ okB n m (funF u.t).1.body := ⟨_, rfl, nm_glo s, hs, g2, g3⟩
  have h0 : ([⟨nmS s, txT s b⟩] : List Un).headD ⟨[], []⟩ = ⟨nmS s, txT s b⟩ := rfl
  rcases pgF_one ⟨nmS s, txT s b⟩ m with hp | ⟨G, hp⟩
  · have hr : fnF s b m = fn0 := by unfold fnF; rw [hp]; rfl
    simp only [↓eB, seval, ↓reduceIte, reduceCtorEq, Nat.reduceEqDiff, Nat.reduceLeDiff, go_sem, yp_Name, yp_Text, yg_Program, Fn.c, fn_eta, pairO_n, pairN_o, spFn_n, mUn_e, mUn_z, mUn_d, Un.c, cBy_e, cBy_d, pgC, h0, hp, zFn, zBy]
    try simp only [impB, impN]
    repeat' (first | exact chk_ok (by kernel_rfl) | with_reducible apply And.intro | intro _)
    all_goals first
      | exact g0
      | exact g1
      | exact hc1
      | (rename_i h; exact (Option.some.inj h).symm)
      | (rename_i r h1 c h2; exact storL1 (by simp only [go_sem]) r h1 c h2)
      | (rename_i h; exact absurd h (by decide))
      | (decide)
      | omega
      | (refine ret_with [] ?_; simp only [↓eB, seval, ↓reduceIte, reduceCtorEq, Nat.reduceEqDiff, Nat.reduceLeDiff, go_sem, bne, yr_Fn, hr, Fn.c, fn_eta, pairO_n, pairN_o, spFn_n, mUn_e, mUn_z, mUn_d, Un.c])
  · have hr : fnF s b m = G := by unfold fnF; rw [hp]; rfl
    simp only [↓eB, seval, ↓reduceIte, reduceCtorEq, Nat.reduceEqDiff, Nat.reduceLeDiff, go_sem, yp_Name, yp_Text, yg_Program, Fn.c, fn_eta, pairO_n, pairN_o, spFn_n, mUn_e, mUn_z, mUn_d, Un.c, cBy_e, cBy_d, pgC, h0, hp, zFn, zBy, Fn.r]
    try simp only [impB, impN]
    repeat' (first | exact chk_ok (by kernel_rfl) | with_reducible apply And.intro | intro _)
    all_goals first
      | exact g0
      | exact g1
      | exact hc1
      | (rename_i h; exact (Option.some.inj h).symm)
      | (rename_i r h1 c h2; exact storL1 (by simp only [go_sem]) r h1 c h2)
      | (rename_i h; exact absurd h (by decide))
      | (decide)
      | omega
      | (refine ret_with [] ?_; simp only [↓eB, seval, ↓reduceIte, reduceCtorEq, Nat.reduceEqDiff, Nat.reduceLeDiff, go_sem, bne, yr_Fn, hr, Fn.c, fn_eta, pairO_n, pairN_o, spFn_n, mUn_e, mUn_z, mUn_d, Un.c])
end Go.Proofs.Ytiipmaoonnjlpaa
