/- The chapter's example, parsed. No conditions but those in each statement. -/
import Derived.Test.YtodppgiaimihfabDoorPq15
set_option linter.unusedVariables false
set_option linter.unusedSimpArgs false
namespace Go.Proofs.YtodppgiaimihfabDoor
open Go Go.Sy Go.RowKit
theorem yn_qFunc : ∀ p : List UInt8 × Unit, (yr_qFunc p.1).names = [] := by intro p; first | rfl | simp [SV.names, C.names]
noncomputable def yp_qFunc {X : Ctx} {w0 : World} : Sy.Spec Tryd.prog X w0 := specD 8 Tryd.call8 (acS cStr ac0) (fun p : List UInt8 × Unit => smallB p.1) (fun p => yr_qFunc p.1) yn_qFunc y_qFunc
theorem yn_qGlobals : ∀ p : List UInt8 × Unit, (yr_qGlobals p.1).names = [] := by intro p; first | rfl | simp [SV.names, C.names]
noncomputable def yp_qGlobals {X : Ctx} {w0 : World} : Sy.Spec Tryd.prog X w0 := specD 9 Tryd.call9 (acS cStr ac0) (fun p : List UInt8 × Unit => smallB p.1) (fun p => yr_qGlobals p.1) yn_qGlobals y_qGlobals
def zE1 : Ex := .mk 2 0 [] (.mk 1 0 [120] .nil .nil) (.mk 0 1 [] .nil .nil)
theorem zf1 : funF [102, 110, 32, 102, 40, 120, 41, 32, 123, 32, 114, 101, 116, 117, 114, 110, 32, 120, 32, 43, 32, 49, 59, 32, 125] = (⟨[102], [⟨[120], false⟩], [], [.mk 9 [] [] zE1 .nil .nil [] [] [] 0]⟩, 0, 0) := by kernel_rfl
theorem zf2 : (funF [102, 110, 32, 102, 40, 120, 41, 32, 123, 32, 114, 101, 116, 117, 114, 110, 32, 59, 32, 125]).2.1 = 17 := by kernel_rfl
theorem zf2' : (funF [102, 110, 32, 102, 40, 120, 41, 32, 123, 32, 114, 101, 116, 117, 114, 110, 32, 59, 32, 125]).2.2 = 51 := by kernel_rfl
theorem zg3 : gloQ [99, 101, 108, 108, 32, 99, 59, 32, 97, 114, 114, 97, 121, 32, 97, 91, 51, 93, 59] = (⟨[[99]], [⟨[97], 3⟩]⟩, 0, 0) := by kernel_rfl
abbrev yc_known7  : Prop := True
abbrev yr_known7  : SV := .one (.v (.bool true))
set_option maxRecDepth 20000 in set_option maxHeartbeats 4000000 in
theorem y_known7 : CallsY Tryd.prog 6 ac0 (fun p : Unit => yc_known7 ) (fun p : Unit => yr_known7 ) := by
  rintro _u w fz xs hc hfz hl hx
  refine calls_toL Tryd.func6 rfl w fz [yp_qFunc, yp_qGlobals] [] ac0 (fun p : Unit => yr_known7 ) _ xs hfz hl hx (Nat.le_of_ble_eq_true rfl) ?_
  clear hx hl hfz xs
  simp only [Tryd.f6]
  have s1 : smallB [102, 110, 32, 102, 40, 120, 41, 32, 123, 32, 114, 101, 116, 117, 114, 110, 32, 120, 32, 43, 32, 49, 59, 32, 125] := by unfold smallB; decide
  have s2 : smallB [102, 110, 32, 102, 40, 120, 41, 32, 123, 32, 114, 101, 116, 117, 114, 110, 32, 59, 32, 125] := by unfold smallB; decide
  have s3 : smallB [99, 101, 108, 108, 32, 99, 59, 32, 97, 114, 114, 97, 121, 32, 97, 91, 51, 93, 59] := by unfold smallB; decide
  simp only [↓eB, seval, go_sem, yp_qFunc, yp_qGlobals, ex_mk, ex_nil, Ex.isNil, Fn.c, Gl.d, Gy.r, cSd, zSqD, zGyD, Sm.r, zf1, zf2, zf2', zg3, zE1]
  try simp only [impB, impN]
  repeat' first | exact ck | with_reducible apply And.intro | intro _
  all_goals first | exact s1 | exact s2 | exact s3 | (rename_i h; first | exact oI h | exact nah h) | (rename_i _ h _ g; exact sL h g) | decide | omega | (refine ret_with [] ?_; simp only [↓eB, seval, go_sem, bne, yr_known7])
theorem yn_known7 : ∀ p : Unit, ((fun p : Unit => yr_known7 ) p).names = [] := by intro p; first | rfl | simp [SV.names, C.names]
noncomputable def yp_known7 {X : Ctx} {w0 : World} : Sy.Spec Tryd.prog X w0 := specD 6 Tryd.call6 ac0 (fun p : Unit => yc_known7 ) (fun p : Unit => yr_known7 ) yn_known7 y_known7
end Go.Proofs.YtodppgiaimihfabDoor
