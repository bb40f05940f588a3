/- Less of the reference, all kinds. No conditions but those in each statement. -/
import Derived.Test.YtbkhkbfjfblbjaaRg5
set_option linter.unusedVariables false
set_option linter.unusedSimpArgs false
namespace Go.Proofs.Ytbkhkbfjfblbjaa
open Go Go.Sy Go.RowKit

def yLs (k : Int) (a b : Iv) : SV := SV.tup [.inr [.v (.bool (lXk k a b).s), .v (.int .i64 (lXk k a b).lo), .v (.int .i64 (lXk k a b).hi)], .inr [.v (.bool (lYk k a b).s), .v (.int .i64 (lYk k a b).lo), .v (.int .i64 (lYk k a b).hi)]]
theorem less_all (p : Int × (Iv × (Iv × Unit))) (w : World) (fz : Nat → Prop) (xs : List Value) (hfz : ∀ b, fz b → b < w.heap.size) (hl : xs.length = ((acS (cInt .i64) (acS yI (acS yI ac0))).e p).length)
    (hx : ∀ (j : Nat) (v : SV) (x : Value), ((acS (cInt .i64) (acS yI (acS yI ac0))).e p)[j]? = some v → xs[j]? = some x → CD (hp w) fz v x) : Calls Try.prog 28 xs.toArray w (DPost w fz (fun v => v = yLs p.1 p.2.1 p.2.2.1)) := by
  by_cases h4 : p.1 = 4
  · have e : yLs p.1 p.2.1 p.2.2.1 = yr_rLess4 p.1 p.2.1 p.2.2.1 := by simp only [yLs, lXk, lYk, h4, if_true]
    rw [e]
    exact y_rLess4 p w fz xs h4 hfz hl hx
  · by_cases h5 : p.1 = 5
    · have e : yLs p.1 p.2.1 p.2.2.1 = yr_rLess5 p.1 p.2.1 p.2.2.1 := by simp only [yLs, lXk, lYk, if_neg h4, if_pos h5]
      rw [e]
      exact y_rLess5 p w fz xs h5 hfz hl hx
    · have e : yLs p.1 p.2.1 p.2.2.1 = yr_rLess1 p.1 p.2.1 p.2.2.1 := by simp only [yLs, lXk, lYk, if_neg h4, if_neg h5]
      rw [e]
      exact y_rLess1 p w fz xs ⟨h4, h5⟩ hfz hl hx
abbrev yc_rLess (k : Int) (a : Iv) (b : Iv) : Prop := True
abbrev yr_rLess (k : Int) (a : Iv) (b : Iv) : SV := yLs k a b
theorem y_rLess : CallsY Try.prog 28 (acS (cInt .i64) (acS (yI) (acS (yI) ac0))) (fun p : (Int × (Iv × (Iv × Unit))) => yc_rLess p.1 p.2.1 p.2.2.1) (fun p : (Int × (Iv × (Iv × Unit))) => yr_rLess p.1 p.2.1 p.2.2.1) := fun p w fz xs _ hfz hl hx => less_all p w fz xs hfz hl hx

theorem yn_rLess : ∀ p : (Int × (Iv × (Iv × Unit))), ((fun p : (Int × (Iv × (Iv × Unit))) => yr_rLess p.1 p.2.1 p.2.2.1) p).names = [] := by intro p; first | rfl | simp [SV.names, C.names]
def yp_rLess : Sy.Spec Try.prog := specD 28 Try.call28 (acS (cInt .i64) (acS (yI) (acS (yI) ac0))) (fun p : (Int × (Iv × (Iv × Unit))) => yc_rLess p.1 p.2.1 p.2.2.1) (fun p : (Int × (Iv × (Iv × Unit))) => yr_rLess p.1 p.2.1 p.2.2.1) yn_rLess y_rLess
end Go.Proofs.Ytbkhkbfjfblbjaa
