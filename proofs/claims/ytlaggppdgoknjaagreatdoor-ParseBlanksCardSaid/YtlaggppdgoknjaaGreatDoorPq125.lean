/- The parser's recovering closures: their first operations. No conditions but those in each statement. -/
import Derived.Test.YtlaggppdgoknjaaGreatDoorSy38
import Derived.Test.YtlaggppdgoknjaaGreatDoorTy2
import Derived.Recover
set_option linter.unusedVariables false
set_option linter.unusedSimpArgs false
namespace Go.Proofs.YtlaggppdgoknjaaGreatDoor
open Go Go.Sy Go.RowKit
theorem idle_Func (xs:Array Value) (hx:xs.size=4) (w:World):CallsD Tryz.prog 21 xs .returning w fun e u' w'=>e= .returned (.tuple #[])∧u'= .returning∧w'=w:=by
 refine callsD_of_wpS Tryz.func21 rfl fun c₀ cs hu=>?_
 refine wpS_seq (wpS_first (v:=.nilIface) (cs':=c₀::cs) rfl rfl rfl (by simp[recoverD,hu]) ?_)
 have hs:(xs++Array.replicate (Tryz.f21.ntmps-xs.size) undef).size=15:=by simp[hx,Tryz.ntmps21]
 generalize xs++Array.replicate (Tryz.f21.ntmps-xs.size) undef=T at hs
 change wpOps _ _ _ (List.range' 1 (0+1)) _ _
 refine wp_asks (v:=.bool false) rfl rfl ?_ ?_
 ·simp[execOp,go_sem,Act.eval,Act.put,hs]
 ·show Code.wpS _ _ _ _ _ _
  refine wpS_cond (t:=false) (by simp[Act.eval,Act.put,hs]) ?_
  simp only[Bool.false_eq_true,if_false]
  refine wpS_of_wp (wp_skip ?_)
  cases c₀
  simp_all [bodyPostS,results,Tryz.results21,Act.put,go_sem]
theorem idleG (xs:Array Value) (hx:xs.size=4) (w:World):CallsD Tryz.prog 35 xs .returning w fun e u' w'=>e= .returned (.tuple #[])∧u'= .returning∧w'=w:=by
 refine callsD_of_wpS Tryz.func35 rfl fun c₀ cs hu=>?_
 refine wpS_seq (wpS_first (v:=.nilIface) (cs':=c₀::cs) rfl rfl rfl (by simp[recoverD,hu]) ?_)
 have hs:(xs++Array.replicate (Tryz.f35.ntmps-xs.size) undef).size=15:=by simp[hx,Tryz.ntmps35]
 generalize xs++Array.replicate (Tryz.f35.ntmps-xs.size) undef=T at hs
 change wpOps _ _ _ (List.range' 1 (0+1)) _ _
 refine wp_asks (v:=.bool false) rfl rfl ?_ ?_
 ·simp[execOp,go_sem,Act.eval,Act.put,hs]
 ·show Code.wpS _ _ _ _ _ _
  refine wpS_cond (t:=false) (by simp[Act.eval,Act.put,hs]) ?_
  simp only[Bool.false_eq_true,if_false]
  refine wpS_of_wp (wp_skip ?_)
  cases c₀
  simp_all [bodyPostS,results,Tryz.results35,Act.put,go_sem]
end Go.Proofs.YtlaggppdgoknjaaGreatDoor
