/- How many globals there may be. No conditions but those in each statement. -/
import Derived.Test.YtodppgiaimihfabDoorPz1
import Derived.Test.YtodppgiaimihfabDoorPy2
set_option linter.unusedVariables false
set_option linter.unusedSimpArgs false
namespace Go.Proofs.YtodppgiaimihfabDoor
open Go Go.Sy Go.RowKit
theorem pm_small {p l n:Nat} (hp:p≤8) (hl:l≤23) (hn:n≤204):smallB (pmT p l n):=by
 unfold smallB
 have:=pm_len hp hl hn
 omega
def gcT (g:Nat):List UInt8:=rpL [99,101,108,108,32,99,59] g
def gcB (g:Nat):Bool:=if 20<g then (gloQ (gcT g)).2.2==53&&(gloQ (gcT g)).2.1==145 else (gloQ (gcT g)).2.2==0&&(gloQ (gcT g)).1.c.length==g
theorem gc_all:((List.range 24).all gcB)=true:=by kernel_rfl
theorem gc_of {g:Nat} (h:g≤23):gcB g=true:=List.all_eq_true.1 gc_all g (List.mem_range.2 (by omega))
theorem gc_bad {g:Nat} (h:g≤23) (h2:20<g):(gloQ (gcT g)).2.2=53∧(gloQ (gcT g)).2.1=145:=by
 have h3:=gc_of h
 unfold gcB at h3
 rw[if_pos h2]at h3
 simp only[Bool.and_eq_true,beq_iff_eq]at h3
 exact h3
theorem gc_good {g:Nat} (h2:g≤20):(gloQ (gcT g)).2.2=0∧(gloQ (gcT g)).1.c.length=g:=by
 have h3:=gc_of (show g≤23 by omega)
 unfold gcB at h3
 rw[if_neg (by omega)]at h3
 simp only[Bool.and_eq_true,beq_iff_eq]at h3
 exact h3
theorem gc_small {g:Nat} (h:g≤23):smallB (gcT g):=by
 unfold smallB gcT
 rw[rpL_len];simp;omega
end Go.Proofs.YtodppgiaimihfabDoor
