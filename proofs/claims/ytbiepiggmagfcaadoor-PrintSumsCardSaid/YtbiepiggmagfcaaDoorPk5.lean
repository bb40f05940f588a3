/- augurlaw8.plain. No conditions but those in each statement. -/
import Derived.Test.YtbiepiggmagfcaaDoorPk2
set_option linter.unusedVariables false
set_option linter.unusedSimpArgs false
namespace Go.Proofs.YtbiepiggmagfcaaDoor
open Go Go.Sy Go.RowKit
def plB:Ex→Bool
 | .nil=>true
 | .mk k _ s a b=>(k != 1||s==[97]||s==[98]||s==[120]||s==[99])&&plB a&&plB b
abbrev yc_plain (m:Nat) (e:Ex):Prop:=e.dp<m
abbrev yr_plain (m:Nat) (e:Ex):SV:=.one (.v (.bool (plB e)))
noncomputable abbrev ya_plain:ArgC ((Ex)×Unit):=(acS (cEx) ac0)
abbrev yq_plain (m:Nat):Prop:=CallsY Tryd.prog 21 ya_plain (fun p:(Ex)×Unit=>yc_plain m p.1) (fun p:(Ex)×Unit=>yr_plain m p.1)
theorem yn_plain (m:Nat):∀p:(Ex)×Unit,((fun p:(Ex)×Unit=>yr_plain m p.1) p).names=[]:=by intro p;first|rfl|exact ex_names _|exact cd_names _
noncomputable def yg_plain {X:Ctx} {w0:World} (m:Nat) (h:yq_plain m):Sy.Spec Tryd.prog X w0:=specD 21 Tryd.call21 ya_plain (fun p:(Ex)×Unit=>yc_plain m p.1) (fun p:(Ex)×Unit=>yr_plain m p.1) (yn_plain m) h
attribute [local go_sem] cEx_e cEx_d cEx_n cEx_dp ex_mk ex_nil exDmk pairO_n pairN_o spFn_n Ex.isNil
set_option maxRecDepth 20000 in set_option maxHeartbeats 8000000 in
theorem y_plainS (m:Nat) (hE:yq_plain m):yq_plain (m+1):=by
 rintro ⟨e,_u⟩ w fz xs hc hfz hl hx
 refine calls_toL Tryd.func21 rfl w fz [(yg_plain m hE)] [] ya_plain (fun p:(Ex)×Unit=>yr_plain (m+1) p.1) _ xs hfz hl hx (Nat.le_of_ble_eq_true rfl) ?_
 clear hx hl hfz xs
 simp only[Tryd.f21]
 have h1:e.dp<m+1:=hc
 cases e with
 |nil=>
  simp only[↓eB,seval,go_sem]
  try simp only[impB,impN]
  repeat' first|exact ck|with_reducible apply And.intro|intro _
  all_goals first|exact trivial|(rename_i h;first|exact oI h|exact nah h)|(rename_i _ h _ g;exact sL h g)|decide|omega|(refine ret_with [] ?_;simp only[↓eB,seval,go_sem,bne,yr_plain,plB])
 |mk k n s a b=>
  simp only[Ex.dp]at h1
  have d1:a.dp<m:=by omega
  have d2:b.dp<m:=by omega
  cases c0:(k != 1||s==[97]||s==[98]||s==[120]||s==[99]) with
  |false=>
   have c0':((!k==1)||s==[97]||s==[98]||s==[120]||s==[99])=false:=c0
   simp only[↓eB,seval,go_sem,yg_plain,c0]
   try simp only[impB,impN]
   repeat' first|exact ck|with_reducible apply And.intro|intro _
   all_goals first|exact d1|exact d2|(rename_i h;first|exact oI h|exact nah h)|(rename_i _ h _ g;exact sL h g)|decide|omega|(refine ret_with [] ?_;simp only[↓eB,seval,go_sem,bne,yr_plain,plB,c0'])
  |true=>
  have c0':((!k==1)||s==[97]||s==[98]||s==[120]||s==[99])=true:=c0
  cases c1:plB a with
  |false=>
   simp only[↓eB,seval,go_sem,yg_plain,c0,c1]
   try simp only[impB,impN]
   repeat' first|exact ck|with_reducible apply And.intro|intro _
   all_goals first|exact d1|exact d2|(rename_i h;first|exact oI h|exact nah h)|(rename_i _ h _ g;exact sL h g)|decide|omega|(refine ret_with [] ?_;simp only[↓eB,seval,go_sem,bne,yr_plain,plB,c0',c1])
  |true=>
   simp only[↓eB,seval,go_sem,yg_plain,c0,c1]
   try simp only[impB,impN]
   repeat' first|exact ck|with_reducible apply And.intro|intro _
   all_goals first|exact d1|exact d2|(rename_i h;first|exact oI h|exact nah h)|(rename_i _ h _ g;exact sL h g)|decide|omega|(refine ret_with [] ?_;simp only[↓eB,seval,go_sem,bne,yr_plain,plB,c0',c1])
theorem y_plain:∀m:Nat,yq_plain m
 |0=>by
  rintro ⟨e,_u⟩ w fz xs hc hfz hl hx
  exact absurd hc (Nat.not_lt_zero _)
 |m+1=>y_plainS m (y_plain m)
end Go.Proofs.YtbiepiggmagfcaaDoor
