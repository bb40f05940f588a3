/- The function that the laws ask for, whatever its depths. No conditions but those in each statement. -/
import Derived.Test.YtiipmaoonnjlpaaPg3
set_option linter.unusedVariables false
set_option linter.unusedSimpArgs false
namespace Go.Proofs.Ytiipmaoonnjlpaa
open Go Go.Sy Go.RowKit

noncomputable def dpN (t : List UInt8) : Nat := (funF_good t).2.choose
noncomputable def dpM (t : List UInt8) : Nat := (funF_good t).2.choose_spec.choose
theorem dp_ok (t : List UInt8) : okB (dpN t) (dpM t) (funF t).1.body := (funF_good t).2.choose_spec.choose_spec
noncomputable def fnA (s : Int) (b : List Int) : Fn := fnF s b (dpM (txT s b))
noncomputable section
abbrev yc_FnA (s : Int) (b : List Int) : Prop := 0 ≤ s ∧ okY b
abbrev yr_FnA (s : Int) (b : List Int) : SV := .agg (fnA s b).c
noncomputable abbrev ya_FnA : ArgC ((Int) × (List Int) × Unit) := (acS (cInt .i64) (acS (cBy) ac0))
abbrev yq_FnA : Prop := CallsY Try.prog 12 ya_FnA (fun p : (Int) × (List Int) × Unit => yc_FnA p.1 p.2.1) (fun p : (Int) × (List Int) × Unit => yr_FnA p.1 p.2.1)
theorem yn_FnA : ∀ p : (Int) × (List Int) × Unit, ((fun p : (Int) × (List Int) × Unit => yr_FnA p.1 p.2.1) p).names = [] := by intro p; rfl
noncomputable def yg_FnA {X : Ctx} {w0 : World} (h : yq_FnA) : Sy.Spec Try.prog X w0 := specD 12 Try.call12 ya_FnA (fun p : (Int) × (List Int) × Unit => yc_FnA p.1 p.2.1) (fun p : (Int) × (List Int) × Unit => yr_FnA p.1 p.2.1) (yn_FnA) h
end
theorem y_FnA : yq_FnA := by
  rintro ⟨s, b, _u⟩ w fz xs hc hfz hl hx
  exact y_Fn (dpN (txT s b)) (dpM (txT s b)) ⟨s, b, _u⟩ w fz xs ⟨hc.1, hc.2, (funF_good _).1, dp_ok _⟩ hfz hl hx
end Go.Proofs.Ytiipmaoonnjlpaa
