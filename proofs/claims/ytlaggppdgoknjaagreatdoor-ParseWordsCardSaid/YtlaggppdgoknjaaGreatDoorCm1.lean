/- Trees that are the same are told to be the same. No conditions but those in each statement. -/
import Derived.Test.YtlaggppdgoknjaaGreatDoorAt
set_option linter.unusedVariables false
set_option linter.unusedSimpArgs false
namespace Go.Proofs.YtlaggppdgoknjaaGreatDoor
open Go Go.Sy Go.RowKit
theorem smr_ac {l:List Sm} {i:Nat} {x:Sm} (h:l[i]?=some x) (z:List D):(l.map Sm.r).getD i z=x.r:=by simp[List.getD,h]
abbrev yc_eqE (n:Nat) (a:Ex) (b:Ex):Prop:=a=b∧a.dp<n
abbrev yr_eqE (n:Nat) (a:Ex) (b:Ex):SV:=.one (.v (.bool true))
noncomputable abbrev ya_eqE:ArgC ((Ex)×(Ex)×Unit):=(acS (cEx) (acS (cEx) ac0))
abbrev yq_eqE (n:Nat):Prop:=CallsY Tryz.prog 66 ya_eqE (fun p:(Ex)×(Ex)×Unit=>yc_eqE n p.1 p.2.1) (fun p:(Ex)×(Ex)×Unit=>yr_eqE n p.1 p.2.1)
theorem yn_eqE (n:Nat):∀p:(Ex)×(Ex)×Unit,((fun p:(Ex)×(Ex)×Unit=>yr_eqE n p.1 p.2.1) p).names=[]:=by intro p;first|rfl|exact ex_names _|exact cd_names _
noncomputable def yg_eqE {X:Ctx} {w0:World} (n:Nat) (h:yq_eqE n):Sy.Spec Tryz.prog X w0:=specD 66 Tryz.call66 ya_eqE (fun p:(Ex)×(Ex)×Unit=>yc_eqE n p.1 p.2.1) (fun p:(Ex)×(Ex)×Unit=>yr_eqE n p.1 p.2.1) (yn_eqE n) h
abbrev yc_eqC (n:Nat) (a:Cd) (b:Cd):Prop:=a=b∧a.dp<n
abbrev yr_eqC (n:Nat) (a:Cd) (b:Cd):SV:=.one (.v (.bool true))
noncomputable abbrev ya_eqC:ArgC ((Cd)×(Cd)×Unit):=(acS (cCd) (acS (cCd) ac0))
abbrev yq_eqC (n:Nat):Prop:=CallsY Tryz.prog 67 ya_eqC (fun p:(Cd)×(Cd)×Unit=>yc_eqC n p.1 p.2.1) (fun p:(Cd)×(Cd)×Unit=>yr_eqC n p.1 p.2.1)
theorem yn_eqC (n:Nat):∀p:(Cd)×(Cd)×Unit,((fun p:(Cd)×(Cd)×Unit=>yr_eqC n p.1 p.2.1) p).names=[]:=by intro p;first|rfl|exact ex_names _|exact cd_names _
noncomputable def yg_eqC {X:Ctx} {w0:World} (n:Nat) (h:yq_eqC n):Sy.Spec Tryz.prog X w0:=specD 67 Tryz.call67 ya_eqC (fun p:(Cd)×(Cd)×Unit=>yc_eqC n p.1 p.2.1) (fun p:(Cd)×(Cd)×Unit=>yr_eqC n p.1 p.2.1) (yn_eqC n) h
abbrev yc_eqS (n:Nat) (m:Nat) (a:Sm) (b:Sm):Prop:=a=b∧OkS n a∧okB n m a.th∧okB n m a.el
abbrev yr_eqS (n:Nat) (m:Nat) (a:Sm) (b:Sm):SV:=.one (.v (.bool true))
noncomputable abbrev ya_eqS:ArgC ((Sm)×(Sm)×Unit):=(acS (cSm) (acS (cSm) ac0))
abbrev yq_eqS (n:Nat) (m:Nat):Prop:=CallsY Tryz.prog 54 ya_eqS (fun p:(Sm)×(Sm)×Unit=>yc_eqS n m p.1 p.2.1) (fun p:(Sm)×(Sm)×Unit=>yr_eqS n m p.1 p.2.1)
theorem yn_eqS (n:Nat) (m:Nat):∀p:(Sm)×(Sm)×Unit,((fun p:(Sm)×(Sm)×Unit=>yr_eqS n m p.1 p.2.1) p).names=[]:=by intro p;first|rfl|exact ex_names _|exact cd_names _
noncomputable def yg_eqS {X:Ctx} {w0:World} (n:Nat) (m:Nat) (h:yq_eqS n m):Sy.Spec Tryz.prog X w0:=specD 54 Tryz.call54 ya_eqS (fun p:(Sm)×(Sm)×Unit=>yc_eqS n m p.1 p.2.1) (fun p:(Sm)×(Sm)×Unit=>yr_eqS n m p.1 p.2.1) (yn_eqS n m) h
abbrev yc_eqB (n:Nat) (m:Nat) (a:List Sm) (b:List Sm):Prop:=a=b∧okB n m a
abbrev yr_eqB (n:Nat) (m:Nat) (a:List Sm) (b:List Sm):SV:=.one (.v (.bool true))
noncomputable abbrev ya_eqB:ArgC ((List Sm)×(List Sm)×Unit):=(acS (cSs) (acS (cSs) ac0))
abbrev yq_eqB (n:Nat) (m:Nat):Prop:=CallsY Tryz.prog 26 ya_eqB (fun p:(List Sm)×(List Sm)×Unit=>yc_eqB n m p.1 p.2.1) (fun p:(List Sm)×(List Sm)×Unit=>yr_eqB n m p.1 p.2.1)
theorem yn_eqB (n:Nat) (m:Nat):∀p:(List Sm)×(List Sm)×Unit,((fun p:(List Sm)×(List Sm)×Unit=>yr_eqB n m p.1 p.2.1) p).names=[]:=by intro p;first|rfl|exact ex_names _|exact cd_names _
noncomputable def yg_eqB {X:Ctx} {w0:World} (n:Nat) (m:Nat) (h:yq_eqB n m):Sy.Spec Tryz.prog X w0:=specD 26 Tryz.call26 ya_eqB (fun p:(List Sm)×(List Sm)×Unit=>yc_eqB n m p.1 p.2.1) (fun p:(List Sm)×(List Sm)×Unit=>yr_eqB n m p.1 p.2.1) (yn_eqB n m) h
attribute [local go_sem] Sm.ar Sm.c Sm.cd Sm.e Sm.el Sm.f Sm.k Sm.no Sm.th Sm.x Sm.y
set_option maxRecDepth 20000 in set_option maxHeartbeats 8000000 in
theorem y_eqES (n:Nat) (hu:yq_eqE n):yq_eqE (n+1):=by
 rintro ⟨a,b,_u⟩ w fz xs hc hfz hl hx
 refine calls_toL Tryz.func66 rfl w fz [(yg_eqE n hu)] [] ya_eqE (fun p:(Ex)×(Ex)×Unit=>yr_eqE (n+1) p.1 p.2.1) _ xs hfz hl hx (Nat.le_of_ble_eq_true rfl) ?_
 clear hx hl hfz xs
 simp only[Tryz.f66]
 obtain⟨hc1,hc2⟩:=hc
 dsimp only at hc1 hc2
 subst hc1
 cases a with
 |nil=>
  simp only[↓eB,seval,go_sem,cEx_e,cEx_d,cEx_n,cCd_e,cCd_d,cCd_n,cSm_e,cSm_d,cSs_e,cSs_d,sm_r,pairO_n,pairN_o,spFn_n,beq_self_eq_true,bne_self_eq_false,yr_eqE,yr_eqC,yr_eqS,yr_eqB,yg_eqE,ex_nil]
  try simp only[impB,impN]
  repeat' first|exact ck|with_reducible apply And.intro|intro _
  all_goals first|exact trivial|(rename_i h;first|exact oI h|exact nah h)|(rename_i _ h _ g;exact sL h g)|decide|omega|(refine ret_with [] ?_;simp only[↓eB,seval,go_sem,bne,yr_eqE])
 |mk k n' s a b=>
  simp only[Ex.dp]at hc2
  have h1:yc_eqE n a a:=⟨rfl,by omega⟩
  have h2:yc_eqE n b b:=⟨rfl,by omega⟩
  simp only[↓eB,seval,go_sem,cEx_e,cEx_d,cEx_n,cCd_e,cCd_d,cCd_n,cSm_e,cSm_d,cSs_e,cSs_d,sm_r,pairO_n,pairN_o,spFn_n,beq_self_eq_true,bne_self_eq_false,yr_eqE,yr_eqC,yr_eqS,yr_eqB,yg_eqE,ex_mk]
  try simp only[impB,impN]
  repeat' first|exact ck|with_reducible apply And.intro|intro _
  all_goals first|exact h1.2|exact h2.2|exact rfl|(rename_i h;first|exact oI h|exact nah h)|(rename_i _ h _ g;exact sL h g)|decide|omega|(refine ret_with [] ?_;simp only[↓eB,seval,go_sem,bne,yr_eqE])
theorem y_eqE:∀n:Nat,yq_eqE n
 |0=>by
  rintro ⟨a,b,_u⟩ w fz xs hc hfz hl hx
  exact absurd hc.2 (Nat.not_lt_zero _)
 |n+1=>y_eqES n (y_eqE n)
set_option maxRecDepth 20000 in set_option maxHeartbeats 8000000 in
theorem y_eqCS (n:Nat) (hu:yq_eqC n):yq_eqC (n+1):=by
 rintro ⟨a,b,_u⟩ w fz xs hc hfz hl hx
 refine calls_toL Tryz.func67 rfl w fz [(yg_eqE n (y_eqE n)),(yg_eqC n hu)] [] ya_eqC (fun p:(Cd)×(Cd)×Unit=>yr_eqC (n+1) p.1 p.2.1) _ xs hfz hl hx (Nat.le_of_ble_eq_true rfl) ?_
 clear hx hl hfz xs
 simp only[Tryz.f67]
 obtain⟨hc1,hc2⟩:=hc
 dsimp only at hc1 hc2
 subst hc1
 cases a with
 |nil=>
  simp only[↓eB,seval,go_sem,cEx_e,cEx_d,cEx_n,cCd_e,cCd_d,cCd_n,cSm_e,cSm_d,cSs_e,cSs_d,sm_r,pairO_n,pairN_o,spFn_n,beq_self_eq_true,bne_self_eq_false,yr_eqE,yr_eqC,yr_eqS,yr_eqB,yg_eqE,yg_eqC,cd_nil]
  try simp only[impB,impN]
  repeat' first|exact ck|with_reducible apply And.intro|intro _
  all_goals first|exact trivial|(rename_i h;first|exact oI h|exact nah h)|(rename_i _ h _ g;exact sL h g)|decide|omega|(refine ret_with [] ?_;simp only[↓eB,seval,go_sem,bne,yr_eqC])
 |mk k a b p q s=>
  simp only[Cd.dp]at hc2
  have h1:yc_eqE n a a:=⟨rfl,by omega⟩
  have h2:yc_eqE n b b:=⟨rfl,by omega⟩
  have h3:yc_eqC n p p:=⟨rfl,by omega⟩
  have h4:yc_eqC n q q:=⟨rfl,by omega⟩
  simp only[↓eB,seval,go_sem,cEx_e,cEx_d,cEx_n,cCd_e,cCd_d,cCd_n,cSm_e,cSm_d,cSs_e,cSs_d,sm_r,pairO_n,pairN_o,spFn_n,beq_self_eq_true,bne_self_eq_false,yr_eqE,yr_eqC,yr_eqS,yr_eqB,yg_eqE,yg_eqC,cd_mk]
  try simp only[impB,impN]
  repeat' first|exact ck|with_reducible apply And.intro|intro _
  all_goals first|exact h1.2|exact h2.2|exact h3.2|exact h4.2|exact rfl|(rename_i h;first|exact oI h|exact nah h)|(rename_i _ h _ g;exact sL h g)|decide|omega|(refine ret_with [] ?_;simp only[↓eB,seval,go_sem,bne,yr_eqC])
theorem y_eqC:∀n:Nat,yq_eqC n
 |0=>by
  rintro ⟨a,b,_u⟩ w fz xs hc hfz hl hx
  exact absurd hc.2 (Nat.not_lt_zero _)
 |n+1=>y_eqCS n (y_eqC n)
theorem arr_at {l:List Ar} {i:Nat} {x:Ar} (h:l[i]?=some x) (z:List D):(l.map Ar.r).getD i z=x.r:=by simp[List.getD,h]
theorem zAr_ln:zAr.length=3:=rfl
theorem zSm_ln:zSm.length=10:=rfl
set_option maxRecDepth 20000 in set_option maxHeartbeats 8000000 in
theorem y_eqSS (n:Nat) (m:Nat) (hu:yq_eqB n m):yq_eqS n m:=by
 rintro ⟨a,b,_u⟩ w fz xs hc hfz hl hx
 refine calls_toL Tryz.func54 rfl w fz [(yg_eqE n (y_eqE n)),(yg_eqC n (y_eqC n)),(yg_eqB n m hu)] [] ya_eqS (fun p:(Sm)×(Sm)×Unit=>yr_eqS n m p.1 p.2.1) _ xs hfz hl hx (Nat.le_of_ble_eq_true rfl) ?_
 clear hx hl hfz xs
 simp only[Tryz.f54]
 obtain⟨hc1,hc2,hc3,hc4⟩:=hc
 dsimp only at hc1 hc2 hc3 hc4
 subst hc1
 obtain⟨k,x,y,e,g,cd,ar,th,el,no⟩:=a
 obtain⟨o1,o2,o3,o4,o5⟩:=hc2
 have h1:yc_eqE n e e:=⟨rfl,o1⟩
 have h2:yc_eqE n g g:=⟨rfl,o2⟩
 have h3:yc_eqC n cd cd:=⟨rfl,o3⟩
 have h4:yc_eqB n m th th:=⟨rfl,hc3⟩
 have h5:yc_eqB n m el el:=⟨rfl,hc4⟩
 have o5:ar.length≤5000:=o5
 have o4:∀a∈ar,a.e.dp<n:=o4
 simp only[↓eB,seval,go_sem,cEx_e,cEx_d,cEx_n,cCd_e,cCd_d,cCd_n,cSm_e,cSm_d,cSs_e,cSs_d,sm_r,pairO_n,pairN_o,spFn_n,beq_self_eq_true,bne_self_eq_false,yr_eqE,yr_eqC,yr_eqS,yr_eqB,yg_eqE,yg_eqC,yg_eqB]
 refine loop_ok (Y:=Nat) (fun i=>i≤ar.length)
  (fun i=>⟨[(2,true,.one (.p 2 0 0)),(3,true,.one (.p 3 0 0)),(5,true,.one (.v (.int .i64 (i:Int))))],[(2,.vec 0 fl10 [(Sm.mk k x y e g cd ar th el no).c]),(3,.vec 0 fl10 [(Sm.mk k x y e g cd ar th el no).c])]⟩)
  (fun i=>ar.length-i) 0 (Nat.zero_le _) ?_ ?_
 ·refine to_with [] ?_;simp only[↓eB,seval,go_sem,fl10]
 ·intro i hi
  refine vc_ok [yg_eqE n (y_eqE n),yg_eqC n (y_eqC n),yg_eqB n m hu] [] _ _ _ ?_
  cases hx:ar[i]? with
  |none=>
   have b1:=natI_ge (List.getElem?_eq_none_iff.1 hx)
   simp only[↓eB,seval,go_sem,cEx_e,cEx_d,cEx_n,cCd_e,cCd_d,cCd_n,cSm_e,cSm_d,cSs_e,cSs_d,sm_r,pairO_n,pairN_o,spFn_n,beq_self_eq_true,bne_self_eq_false,yr_eqE,yr_eqC,yr_eqS,yr_eqB,yg_eqE,yg_eqC,yg_eqB,b1,fl10]
   try simp only[impB,impN]
   repeat' first|exact ck|with_reducible apply And.intro|intro _
   all_goals first|exact h1.2|exact h2.2|exact h3.2|exact h4.2|exact h5.2|exact rfl|(rename_i h;first|exact oI h|exact nah h)|(rename_i _ h _ g;exact sL h g)|decide|omega|(refine ret_with [] ?_;simp only[↓eB,seval,go_sem,bne,yr_eqS])
  |some a=>
   have hil:i<ar.length:=(List.getElem?_eq_some_iff.1 hx).1
   have b1:=natI_lt hil
   have b2:=natI_ltp hil
   have b3:=arr_at hx
   have b4:=natI_succ (n:=ar.length) hi (by omega)
   have h6:yc_eqE n a.e a.e:=⟨rfl,o4 a (List.mem_of_getElem? hx)⟩
   obtain⟨ap,an,ae⟩:=a
   simp only[↓eB,seval,go_sem,cEx_e,cEx_d,cEx_n,cCd_e,cCd_d,cCd_n,cSm_e,cSm_d,cSs_e,cSs_d,sm_r,pairO_n,pairN_o,spFn_n,beq_self_eq_true,bne_self_eq_false,yr_eqE,yr_eqC,yr_eqS,yr_eqB,yg_eqE,yg_eqC,yg_eqB,b1,b2,b3,b4,fl10,Ar.r,zAr_ln]
   try simp only[impB,impN]
   repeat' first|exact ck|with_reducible apply And.intro|intro _
   all_goals try first|exact hil|exact h6.2|exact rfl|(rename_i h;first|exact oI h|exact nah h)|(rename_i _ h _ g;exact sL h g)|decide|omega
   refine⟨i+1,hil,by omega,to_with [] ?_⟩
   simp only[↓eB,seval,go_sem,fl10]
set_option maxRecDepth 20000 in set_option maxHeartbeats 8000000 in
theorem y_eqBS (n:Nat) (m:Nat) (hu:yq_eqS n m):yq_eqB n (m+1):=by
 rintro ⟨a,b,_u⟩ w fz xs hc hfz hl hx
 refine calls_toL Tryz.func26 rfl w fz [(yg_eqS n m hu)] [] ya_eqB (fun p:(List Sm)×(List Sm)×Unit=>yr_eqB n (m+1) p.1 p.2.1) _ xs hfz hl hx (Nat.le_of_ble_eq_true rfl) ?_
 clear hx hl hfz xs
 simp only[Tryz.f26]
 obtain⟨hc1,hc2,hc3⟩:=hc
 dsimp only at hc1 hc2 hc3
 subst hc1
 simp only[↓eB,seval,go_sem,cEx_e,cEx_d,cEx_n,cCd_e,cCd_d,cCd_n,cSm_e,cSm_d,cSs_e,cSs_d,sm_r,pairO_n,pairN_o,spFn_n,beq_self_eq_true,bne_self_eq_false,yr_eqE,yr_eqC,yr_eqS,yr_eqB,yg_eqS]
 refine loop_ok (Y:=Nat) (fun i=>i≤a.length)
  (fun i=>⟨[(0,true,.one (.d (.sl zSm (a.map Sm.r)))),(1,true,.one (.d (.sl zSm (a.map Sm.r)))),(5,true,.one (.v (.int .i64 (i:Int))))],[]⟩)
  (fun i=>a.length-i) 0 (Nat.zero_le _) ?_ ?_
 ·refine to_with [] ?_;simp only[↓eB,seval,go_sem]
 ·intro i hi
  refine vc_ok [yg_eqS n m hu] [] _ _ _ ?_
  cases hx:a[i]? with
  |none=>
   have b1:=natI_ge (List.getElem?_eq_none_iff.1 hx)
   simp only[↓eB,seval,go_sem,cEx_e,cEx_d,cEx_n,cCd_e,cCd_d,cCd_n,cSm_e,cSm_d,cSs_e,cSs_d,sm_r,pairO_n,pairN_o,spFn_n,beq_self_eq_true,bne_self_eq_false,yr_eqE,yr_eqC,yr_eqS,yr_eqB,yg_eqS,b1]
   try simp only[impB,impN]
   repeat' first|exact ck|with_reducible apply And.intro|intro _
   all_goals first|exact trivial|(rename_i h;first|exact oI h|exact nah h)|(rename_i _ h _ g;exact sL h g)|decide|omega|(refine ret_with [] ?_;simp only[↓eB,seval,go_sem,bne,yr_eqB])
  |some s=>
   have hil:i<a.length:=(List.getElem?_eq_some_iff.1 hx).1
   have b1:=natI_lt hil
   have b2:=natI_ltp hil
   have b3:=smr_ac hx
   have b4:=natI_succ (n:=a.length) hi (by omega)
   obtain⟨g1,g2,g3⟩:=hc3 s (List.mem_of_getElem? hx)
   obtain⟨k,x,y,e,g,cd,ar,th,el,no⟩:=s
   simp only[↓eB,seval,go_sem,cEx_e,cEx_d,cEx_n,cCd_e,cCd_d,cCd_n,cSm_e,cSm_d,cSs_e,cSs_d,sm_r,pairO_n,pairN_o,spFn_n,beq_self_eq_true,bne_self_eq_false,yr_eqE,yr_eqC,yr_eqS,yr_eqB,yg_eqS,b1,b2,b3,b4,zSm_ln]
   try simp only[impB,impN]
   repeat' first|exact ck|with_reducible apply And.intro|intro _
   all_goals try first|exact hil|exact g1|exact g2|exact g3|exact rfl|(rename_i h;first|exact oI h|exact nah h)|(rename_i _ h _ g;exact sL h g)|decide|omega
   refine⟨i+1,hil,by omega,to_with [] ?_⟩
   simp only[↓eB,seval,go_sem]
theorem y_eqB (n:Nat):∀m:Nat,yq_eqB n m
 |0=>by
  rintro ⟨a,b,_u⟩ w fz xs hc hfz hl hx
  exact hc.2.elim
 |m+1=>y_eqBS n m (y_eqSS n m (y_eqB n m))
end Go.Proofs.YtlaggppdgoknjaaGreatDoor
