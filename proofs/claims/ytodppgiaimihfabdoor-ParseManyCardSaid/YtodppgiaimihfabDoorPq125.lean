/- The parser's recovering closures: their first operations. No conditions but those in each statement. -/
import Derived.Test.YtodppgiaimihfabDoorSy40
import Derived.Test.YtodppgiaimihfabDoorTy2
import Derived.Recover
set_option linter.unusedVariables false
set_option linter.unusedSimpArgs false
namespace Go.Proofs.YtodppgiaimihfabDoor
open Go Go.Sy Go.RowKit
theorem idle_Func (xs:Array Value) (hx:xs.size=4) (w:World):CallsD Tryd.prog 13 xs .returning w fun e u' w'=>e= .returned (.tuple #[])∧u'= .returning∧w'=w:=by
 refine callsD_of_wpS Tryd.func13 rfl fun c₀ cs hu=>?_
 refine wpS_seq (wpS_first (v:=.nilIface) (cs':=c₀::cs) rfl rfl rfl (by simp[recoverD,hu]) ?_)
 have hs:(xs++Array.replicate (Tryd.f13.ntmps-xs.size) undef).size=15:=by simp[hx,Tryd.ntmps13]
 generalize xs++Array.replicate (Tryd.f13.ntmps-xs.size) undef=T at hs
 change wpOps _ _ _ (List.range' 1 (0+1)) _ _
 refine wp_asks (v:=.bool false) rfl rfl ?_ ?_
 ·simp[execOp,go_sem,Act.eval,Act.put,hs]
 ·show Code.wpS _ _ _ _ _ _
  refine wpS_cond (t:=false) (by simp[Act.eval,Act.put,hs]) ?_
  simp only[Bool.false_eq_true,if_false]
  refine wpS_of_wp (wp_skip ?_)
  cases c₀
  simp_all [bodyPostS,results,Tryd.results13,Act.put,go_sem]
theorem idleG (xs:Array Value) (hx:xs.size=4) (w:World):CallsD Tryd.prog 17 xs .returning w fun e u' w'=>e= .returned (.tuple #[])∧u'= .returning∧w'=w:=by
 refine callsD_of_wpS Tryd.func17 rfl fun c₀ cs hu=>?_
 refine wpS_seq (wpS_first (v:=.nilIface) (cs':=c₀::cs) rfl rfl rfl (by simp[recoverD,hu]) ?_)
 have hs:(xs++Array.replicate (Tryd.f17.ntmps-xs.size) undef).size=15:=by simp[hx,Tryd.ntmps17]
 generalize xs++Array.replicate (Tryd.f17.ntmps-xs.size) undef=T at hs
 change wpOps _ _ _ (List.range' 1 (0+1)) _ _
 refine wp_asks (v:=.bool false) rfl rfl ?_ ?_
 ·simp[execOp,go_sem,Act.eval,Act.put,hs]
 ·show Code.wpS _ _ _ _ _ _
  refine wpS_cond (t:=false) (by simp[Act.eval,Act.put,hs]) ?_
  simp only[Bool.false_eq_true,if_false]
  refine wpS_of_wp (wp_skip ?_)
  cases c₀
  simp_all [bodyPostS,results,Tryd.results17,Act.put,go_sem]
end Go.Proofs.YtodppgiaimihfabDoor
