/- The laws of intervals, as calls of plain values. No conditions but those in each statement. -/
import Derived.Test.YtbkhkbfjfblbjaaDoorIv13
set_option linter.unusedVariables false
set_option linter.unusedSimpArgs false
namespace Go.Proofs.YtbkhkbfjfblbjaaDoor
open Go Go.Sy Go.RowKit Go.ChangeShapes Go.WideShapes Go.ChangeAt

theorem sd_iv {w : World} (a : Iv) : CD (hp w) (fun _ => False) (yI.e a) (pV a) := sd_ofV (x := pV a) rfl
theorem sd_iv' {w : World} {fz : Nat → Prop} (a : Iv) : CD (hp w) fz (yI.e a) (pV a) := sd_ofV (x := pV a) rfl
theorem c_IvalOrder (a : Iv) (h1 : wIv a) (b : Iv) (h2 : wIv b) (c : Iv) (h3 : wIv c) (w : World) (ht : powT w) : Calls Tryd.prog 7 #[pV a, pV b, pV c] w (fun e w' => e = .returned (.bool true) ∧ Below w.heap.size w w') :=
  to_plainG y_IvalOrder (a, b, c, ()) w ht ⟨h1, h2, h3⟩ [pV a, pV b, pV c] (.bool true) rfl (fun j v x h1 h2 => by
    match j with
    | 0 => simp only [List.getElem?_cons_zero, Option.some.injEq, acS_e] at h1 h2; subst h1; subst h2; exact sd_iv a
    | 1 => simp only [List.getElem?_cons_zero, List.getElem?_cons_succ, Option.some.injEq, acS_e] at h1 h2; subst h1; subst h2; exact sd_iv b
    | 2 => simp only [List.getElem?_cons_zero, List.getElem?_cons_succ, Option.some.injEq, acS_e] at h1 h2; subst h1; subst h2; exact sd_iv c
    | j + 3 => simp at h2) rfl
theorem c_IvalLattice (a : Iv) (h1 : wIv a) (b : Iv) (h2 : wIv b) (c : Iv) (h3 : wIv c) (n : Int) (h4 : (Lit.int .i64 n).wf = true) (w : World) (ht : powT w) : Calls Tryd.prog 6 #[pV a, pV b, pV c, .int .i64 n] w (fun e w' => e = .returned (.bool true) ∧ Below w.heap.size w w') :=
  to_plainG y_IvalLattice (a, b, c, n, ()) w ht ⟨h1, h2, h3⟩ [pV a, pV b, pV c, .int .i64 n] (.bool true) rfl (fun j v x h1 h2 => by
    match j with
    | 0 => simp only [List.getElem?_cons_zero, Option.some.injEq, acS_e] at h1 h2; subst h1; subst h2; exact sd_iv a
    | 1 => simp only [List.getElem?_cons_zero, List.getElem?_cons_succ, Option.some.injEq, acS_e] at h1 h2; subst h1; subst h2; exact sd_iv b
    | 2 => simp only [List.getElem?_cons_zero, List.getElem?_cons_succ, Option.some.injEq, acS_e] at h1 h2; subst h1; subst h2; exact sd_iv c
    | 3 => simp only [List.getElem?_cons_zero, List.getElem?_cons_succ, Option.some.injEq, acS_e] at h1 h2; subst h1; subst h2; exact sd_ofV (x := .int .i64 n) rfl
    | j + 4 => simp at h2) rfl
theorem c_IvalWidens (l : List Iv) (v : Value) (h : l.length ≤ maxLen ∧ ∀ a ∈ l, wIv a) (w : World) (hv : CD (hp w) (fun b => b < w.heap.size) (.one (.d (.sl rIv.z (l.map reIv)))) v) (ht : powT w) : Calls Tryd.prog 3 #[v] w (fun e w' => e = .returned (.bool true) ∧ Below w.heap.size w w') :=
  to_plainRG y_IvalWidens (l, ()) w ht h.2 [v] (.bool true) rfl (fun j v x h1 h2 => by
    match j with
    | 0 => simp only [List.getElem?_cons_zero, Option.some.injEq, ahS_e] at h1 h2; subst h1; subst h2; exact hv
    | j + 1 => simp at h2) rfl
theorem c_IvalJoins (l : List Iv) (v : Value) (h : l.length ≤ maxLen ∧ ∀ a ∈ l, wIv a) (a : Iv) (h1 : wIv a) (b : Iv) (h2 : wIv b) (n : Int) (h4 : (Lit.int .i64 n).wf = true) (w : World) (hv : CD (hp w) (fun b => b < w.heap.size) (.one (.d (.sl rIv.z (l.map reIv)))) v) (ht : powT w) : Calls Tryd.prog 5 #[v, pV a, pV b, .int .i64 n] w (fun e w' => e = .returned (.bool true) ∧ Below w.heap.size w w') :=
  to_plainRG y_IvalJoins (l, a, b, n, ()) w ht ⟨h.1, h1⟩ [v, pV a, pV b, .int .i64 n] (.bool true) rfl (fun j v x h1 h2 => by
    match j with
    | 0 => simp only [List.getElem?_cons_zero, Option.some.injEq, ahS_e] at h1 h2; subst h1; subst h2; exact hv
    | 1 => simp only [List.getElem?_cons_zero, List.getElem?_cons_succ, Option.some.injEq, ahS_e] at h1 h2; subst h1; subst h2; exact sd_iv' a
    | 2 => simp only [List.getElem?_cons_zero, List.getElem?_cons_succ, Option.some.injEq, ahS_e] at h1 h2; subst h1; subst h2; exact sd_iv' b
    | 3 => simp only [List.getElem?_cons_zero, List.getElem?_cons_succ, Option.some.injEq, ahS_e] at h1 h2; subst h1; subst h2; exact sd_ofV (x := .int .i64 n) rfl
    | j + 4 => simp at h2) rfl
section
variable {H : Type} {enc : TypeId × Value → H} {W : World}
theorem opn_iv (fuel : Nat) : OpnF enc Tryd.prog W 25 fuel reIv wIv := by
  cases fuel with
  | zero => exact opnF_zero
  | succ n =>
    refine opnF_map (fun p : Bool × Int × Int × Unit => (⟨p.1, p.2.1, p.2.2.1⟩ : Iv)) _ _ (opnF_struct Tryd.underlying25 (n := 3) (by kernel_rfl)
      (opnL_cons (m := 1) (n := 2) rfl (by kernel_rfl) (opnF_bool Tryd.underlying4) (opnL_cons (m := 1) (n := 1) rfl (by kernel_rfl) (opnF_int Tryd.underlying2) (opnL_cons (m := 1) (n := 0) rfl (by kernel_rfl) (opnF_int Tryd.underlying2) (opnL_nil _))))) (fun _ => rfl) (fun p hp => ⟨wf_i64' hp.2.1, wf_i64' hp.2.2.1⟩)
theorem opn_ivs (fuel : Nat) : OpnF enc Tryd.prog W 22 fuel (fun l : List Iv => [.sl rIv.z (l.map reIv)]) (fun l => l.length ≤ maxLen ∧ ∀ a ∈ l, wIv a) := by
  cases fuel with
  | zero => exact opnF_zero
  | succ n => exact opnF_slice Tryd.underlying22 rIv.z (by kernel_rfl) (by decide) (opn_iv n)
theorem open_ivs {b0 base : Nat} {v : Value} {d : DataW H} {p : List MemPlace} (hv : Value.okWide Tryd.prog W .any base 22 v) (h : DataW.Trod enc Tryd.prog W 0 (fun _ => true) true 22 v d p) :
    ∃ l : List Iv, (l.length ≤ maxLen ∧ ∀ a ∈ l, wIv a) ∧ CD (hp W) (fun b => b < W.heap.size) (.one (.d (.sl rIv.z (l.map reIv)))) v := open_one (f := fun l : List Iv => D.sl rIv.z (l.map reIv)) (r := .any) (base := base) (okWide_sl Tryd.underlying22 hv) h opn_ivs
end
end Go.Proofs.YtbkhkbfjfblbjaaDoor
