/- Rows of statements as results. No conditions but those in each statement. -/
import Derived.Test.YtodppgiaimihfabDoorSo
set_option linter.unusedVariables false
set_option linter.unusedSimpArgs false
namespace Go.Proofs.YtodppgiaimihfabDoor
open Go Go.Sy Go.RowKit
abbrev smS (l:List Sm):C:=.d (.sl zSm (l.map Sm.r))
theorem sm_out (n:Nat) (s:Sm):outV n (.agg s.c)=true:=by
 show s.c.all (outC n)=true
 unfold Sm.c
 simp only[List.all_cons,List.all_nil,ex_out,cd_out,Bool.and_true]
 rfl
end Go.Proofs.YtodppgiaimihfabDoor
