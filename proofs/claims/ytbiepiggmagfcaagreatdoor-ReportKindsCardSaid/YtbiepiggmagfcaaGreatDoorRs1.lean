/- Names of a function: of what kind they are. No conditions but those in each statement. -/
import Derived.Test.YtbiepiggmagfcaaGreatDoorSh1
import Derived.Test.YtbiepiggmagfcaaGreatDoorPi1
set_option linter.unusedVariables false
set_option linter.unusedSimpArgs false
namespace Go.Proofs.YtbiepiggmagfcaaGreatDoor
open Go Go.Sy Go.RowKit
def kinL (nm:List UInt8):List Vr→Int
 |[]=>0
 |v::l=>if (v.s==nm)=true then (if v.p=true then 2 else 1) else kinL nm l
def kinF (f:Fn) (nm:List UInt8):Int:=kinL nm (f.ps++f.ls)
def okF (f:Fn):Prop:=f.ps.length≤5000∧f.ls.length≤5000
abbrev yc_kind (f:Fn) (nm:List UInt8):Prop:=okF f
abbrev yr_kind (f:Fn) (nm:List UInt8):SV:=.one (.v (.int .i64 (kinF f nm)))
noncomputable abbrev ya_kind:ArgC ((Fn)×(List UInt8)×Unit):=(acS (cFn) (acS (cStr) ac0))
abbrev yq_kind:Prop:=CallsY Tryz.prog 139 ya_kind (fun p:(Fn)×(List UInt8)×Unit=>yc_kind p.1 p.2.1) (fun p:(Fn)×(List UInt8)×Unit=>yr_kind p.1 p.2.1)
theorem yn_kind:∀p:(Fn)×(List UInt8)×Unit,((fun p:(Fn)×(List UInt8)×Unit=>yr_kind p.1 p.2.1) p).names=[]:=by intro p;first|rfl|exact ex_names _|exact cd_names _
set_option maxRecDepth 20000 in set_option maxHeartbeats 8000000 in
theorem y_kind:yq_kind:=by
 rintro ⟨f,nm,_u⟩ w fz xs hc hfz hl hx
 refine calls_toL Tryz.func139 rfl w fz [] [] ya_kind (fun p:(Fn)×(List UInt8)×Unit=>yr_kind p.1 p.2.1) _ xs hfz hl hx (Nat.le_of_ble_eq_true rfl) ?_
 clear hx hl hfz xs
 simp only[Tryz.f139]
 obtain⟨hc1,hc2⟩:=hc
 dsimp only at hc1 hc2
 simp only[↓eB,seval,go_sem,cFn_e,cFn_d,cEx_e,cEx_d,cEx_n,cCd_e,cCd_d,cCd_n,Fn.c,fn_eta,pairO_n,pairN_o,spFn_n,vr_map]
 refine⟨⟨fun q h=>(by cases h;rfl),stor_of _ vr_stor _,by omega,by omega⟩,⟨fun q h=>(by cases h;rfl),stor_of _ vr_stor _,by omega,by omega⟩,chk_ok (by kernel_rfl),?_⟩
 refine loop_ok (Y:=Nat) (fun i=>i≤(f.ps++f.ls).length∧kinL nm ((f.ps++f.ls).drop i)=kinF f nm)
  (fun i=>⟨[(1,true,.one (.v (.string (bs nm)))),(5,true,.one (.s 1000)),(6,true,.one (.v (.int .i64 (i:Int))))],[(1000,.vec 0 zVc ((f.ps++f.ls).map Vr.c))]⟩)
  (fun i=>(f.ps++f.ls).length-i) 0 ⟨Nat.zero_le _,rfl⟩ ?_ ?_
 ·refine to_with [.mv 12 1000] ?_;simp only[↓eB,seval,go_sem,rowsV.mv,rowsV.fn,zVc,List.map_append,List.flatMap_append]
 ·rintro i ⟨hi,hJ⟩
  refine vc_ok [] [] _ _ _ ?_
  have hsm:(f.ps++f.ls).length≤4294967296:=by simp only[List.length_append];omega
  generalize f.ps++f.ls=L at hi hJ hsm ⊢
  cases hx:L[i]? with
  |none=>
   have hi2:L.length≤i:=List.getElem?_eq_none_iff.1 hx
   have h1:=natI_ge hi2
   rw[List.drop_eq_nil_of_le hi2]at hJ
   have hR:kinF f nm=0:=hJ.symm
   simp only[↓eB,seval,go_sem,h1]
   refine ret_with [] ?_;simp only[↓eB,seval,go_sem,bne,yr_kind,hR]
  |some x=>
   have hlt:i<L.length:=(List.getElem?_eq_some_iff.1 hx).1
   have h1:=natI_lt hlt
   have h2:=natI_ltp hlt
   have h3:=vr_at hx
   have h4:=natI_succ hi hsm
   rw[drop_get hx]at hJ
   simp only[kinL]at hJ
   simp only[↓eB,seval,go_sem,h1,h2,h3,h4,zVc,Vr.c]
   simp only[impB,impN]
   refine⟨hlt,hlt,fun hb=>⟨hlt,hlt,fun hc=>?_,fun hc=>?_⟩,fun hb=>?_⟩
   ·rw[if_pos hb,if_pos hc]at hJ
    refine ret_with [] ?_;simp only[↓eB,seval,go_sem,bne,yr_kind,← hJ]
   ·rw[if_pos hb,if_neg (by rw[hc];decide)]at hJ
    refine ret_with [] ?_;simp only[↓eB,seval,go_sem,bne,yr_kind,← hJ]
   ·rw[if_neg (by rw[hb];decide)]at hJ
    refine⟨i+1,⟨hlt,hJ⟩,by omega,to_with [] ?_⟩
    simp only[↓eB,seval,go_sem,rowsV.fn]
noncomputable def yp_kind {X:Ctx} {w0:World}:Sy.Spec Tryz.prog X w0:=specD 139 Tryz.call139 ya_kind (fun p:(Fn)×(List UInt8)×Unit=>yc_kind p.1 p.2.1) (fun p:(Fn)×(List UInt8)×Unit=>yr_kind p.1 p.2.1) yn_kind y_kind
def ptrF (f:Fn):Ex→Bool
 | .nil=>false
 | .mk k _ s _ _=>k==1&&kinF f s==2
abbrev yc_pointer (f:Fn) (e:Ex):Prop:=okF f
abbrev yr_pointer (f:Fn) (e:Ex):SV:=.one (.v (.bool (ptrF f e)))
noncomputable abbrev ya_pointer:ArgC ((Fn)×(Ex)×Unit):=(acS (cFn) (acS (cEx) ac0))
abbrev yq_pointer:Prop:=CallsY Tryz.prog 140 ya_pointer (fun p:(Fn)×(Ex)×Unit=>yc_pointer p.1 p.2.1) (fun p:(Fn)×(Ex)×Unit=>yr_pointer p.1 p.2.1)
theorem yn_pointer:∀p:(Fn)×(Ex)×Unit,((fun p:(Fn)×(Ex)×Unit=>yr_pointer p.1 p.2.1) p).names=[]:=by intro p;first|rfl|exact ex_names _|exact cd_names _
set_option maxRecDepth 20000 in set_option maxHeartbeats 8000000 in
theorem y_pointer:yq_pointer:=by
 rintro ⟨f,e,_u⟩ w fz xs hc hfz hl hx
 refine calls_toL Tryz.func140 rfl w fz [yp_kind] [] ya_pointer (fun p:(Fn)×(Ex)×Unit=>yr_pointer p.1 p.2.1) _ xs hfz hl hx (Nat.le_of_ble_eq_true rfl) ?_
 clear hx hl hfz xs
 simp only[Tryz.f140]
 have hc1:okF f:=hc
 cases e with
 |nil=>
  simp only[↓eB,seval,go_sem,cFn_e,cFn_d,cEx_e,cEx_d,cEx_n,cCd_e,cCd_d,cCd_n,Fn.c,fn_eta,pairO_n,pairN_o,spFn_n,yp_kind,ex_nil]
  try simp only[impB,impN]
  repeat' first|exact ck|with_reducible apply And.intro|intro _
  all_goals first|exact hc1|(rename_i h;first|exact oI h|exact nah h)|(rename_i _ h _ g;exact sL h g)|decide|omega|(refine ret_with [] ?_;simp only[↓eB,seval,go_sem,bne,yr_pointer,ptrF])
 |mk k n s a b=>
  simp only[↓eB,seval,go_sem,cFn_e,cFn_d,cEx_e,cEx_d,cEx_n,cCd_e,cCd_d,cCd_n,Fn.c,fn_eta,pairO_n,pairN_o,spFn_n,yp_kind,ex_mk]
  try simp only[impB,impN]
  repeat' first|exact ck|with_reducible apply And.intro|intro _
  all_goals first|exact hc1|(rename_i h;first|exact oI h|exact nah h)|(rename_i _ h _ g;exact sL h g)|decide|omega|(refine ret_with [] ?_;simp only[↓eB,seval,go_sem,bne,yr_pointer,ptrF])
noncomputable def yp_pointer {X:Ctx} {w0:World}:Sy.Spec Tryz.prog X w0:=specD 140 Tryz.call140 ya_pointer (fun p:(Fn)×(Ex)×Unit=>yc_pointer p.1 p.2.1) (fun p:(Fn)×(Ex)×Unit=>yr_pointer p.1 p.2.1) yn_pointer y_pointer
def intF (f:Fn):Ex→Bool
 | .nil=>true
 | .mk k _ s a b=>if (k==1)=true then kinF f s != 2 else intF f a&&intF f b
def conF (f:Fn):Cd→Bool
 | .nil=>true
 | .mk k a b p q s=>if (k==9)=true then kinF f s==2 else intF f a&&intF f b&&conF f p&&conF f q
abbrev yc_ints (n:Nat) (f:Fn) (e:Ex):Prop:=okF f∧e.dp<n
abbrev yr_ints (n:Nat) (f:Fn) (e:Ex):SV:=.one (.v (.bool (intF f e)))
noncomputable abbrev ya_ints:ArgC ((Fn)×(Ex)×Unit):=(acS (cFn) (acS (cEx) ac0))
abbrev yq_ints (n:Nat):Prop:=CallsY Tryz.prog 141 ya_ints (fun p:(Fn)×(Ex)×Unit=>yc_ints n p.1 p.2.1) (fun p:(Fn)×(Ex)×Unit=>yr_ints n p.1 p.2.1)
theorem yn_ints (n:Nat):∀p:(Fn)×(Ex)×Unit,((fun p:(Fn)×(Ex)×Unit=>yr_ints n p.1 p.2.1) p).names=[]:=by intro p;first|rfl|exact ex_names _|exact cd_names _
noncomputable def yg_ints {X:Ctx} {w0:World} (n:Nat) (h:yq_ints n):Sy.Spec Tryz.prog X w0:=specD 141 Tryz.call141 ya_ints (fun p:(Fn)×(Ex)×Unit=>yc_ints n p.1 p.2.1) (fun p:(Fn)×(Ex)×Unit=>yr_ints n p.1 p.2.1) (yn_ints n) h
set_option maxRecDepth 20000 in set_option maxHeartbeats 8000000 in
theorem y_intsS (n:Nat) (hu:yq_ints n):yq_ints (n+1):=by
 rintro ⟨f,e,_u⟩ w fz xs hc hfz hl hx
 refine calls_toL Tryz.func141 rfl w fz [yp_kind,(yg_ints n hu)] [] ya_ints (fun p:(Fn)×(Ex)×Unit=>yr_ints (n+1) p.1 p.2.1) _ xs hfz hl hx (Nat.le_of_ble_eq_true rfl) ?_
 clear hx hl hfz xs
 simp only[Tryz.f141]
 obtain⟨hc1,hc2⟩:=hc
 dsimp only at hc1 hc2
 cases e with
 |nil=>
  simp only[↓eB,seval,go_sem,cFn_e,cFn_d,cEx_e,cEx_d,cEx_n,cCd_e,cCd_d,cCd_n,Fn.c,fn_eta,pairO_n,pairN_o,spFn_n,yp_kind,yg_ints,ex_nil]
  try simp only[impB,impN]
  repeat' first|exact ck|with_reducible apply And.intro|intro _
  all_goals first|exact hc1|(rename_i h;first|exact oI h|exact nah h)|(rename_i _ h _ g;exact sL h g)|decide|omega|(refine ret_with [] ?_;simp only[↓eB,seval,go_sem,bne,yr_ints,intF])
 |mk k n' s a b=>
  simp only[Ex.dp]at hc2
  cases hk:(k==1) with
  |true=>
   simp only[↓eB,seval,go_sem,cFn_e,cFn_d,cEx_e,cEx_d,cEx_n,cCd_e,cCd_d,cCd_n,Fn.c,fn_eta,pairO_n,pairN_o,spFn_n,yp_kind,yg_ints,ex_mk,hk]
   try simp only[impB,impN]
   repeat' first|exact ck|with_reducible apply And.intro|intro _
   all_goals first|exact hc1|(rename_i h;first|exact oI h|exact nah h)|(rename_i _ h _ g;exact sL h g)|decide|omega|(refine ret_with [] ?_;simp only[↓eB,seval,go_sem,bne,yr_ints,intF,hk])
  |false=>
   simp only[↓eB,seval,go_sem,cFn_e,cFn_d,cEx_e,cEx_d,cEx_n,cCd_e,cCd_d,cCd_n,Fn.c,fn_eta,pairO_n,pairN_o,spFn_n,yp_kind,yg_ints,ex_mk,hk]
   try simp only[impB,impN]
   repeat' first|exact ck|with_reducible apply And.intro|intro _
   all_goals first|exact hc1|(rename_i h;first|exact oI h|exact nah h)|(rename_i _ h _ g;exact sL h g)|decide|omega|(refine ret_with [] ?_;simp only[↓eB,seval,go_sem,bne,yr_ints,intF,hk])
theorem y_ints:∀n:Nat,yq_ints n
 |0=>by
  rintro ⟨f,e,_u⟩ w fz xs hc hfz hl hx
  exact absurd hc.2 (Nat.not_lt_zero _)
 |n+1=>y_intsS n (y_ints n)
abbrev yc_conds (n:Nat) (f:Fn) (e:Cd):Prop:=okF f∧e.dp<n
abbrev yr_conds (n:Nat) (f:Fn) (e:Cd):SV:=.one (.v (.bool (conF f e)))
noncomputable abbrev ya_conds:ArgC ((Fn)×(Cd)×Unit):=(acS (cFn) (acS (cCd) ac0))
abbrev yq_conds (n:Nat):Prop:=CallsY Tryz.prog 142 ya_conds (fun p:(Fn)×(Cd)×Unit=>yc_conds n p.1 p.2.1) (fun p:(Fn)×(Cd)×Unit=>yr_conds n p.1 p.2.1)
theorem yn_conds (n:Nat):∀p:(Fn)×(Cd)×Unit,((fun p:(Fn)×(Cd)×Unit=>yr_conds n p.1 p.2.1) p).names=[]:=by intro p;first|rfl|exact ex_names _|exact cd_names _
noncomputable def yg_conds {X:Ctx} {w0:World} (n:Nat) (h:yq_conds n):Sy.Spec Tryz.prog X w0:=specD 142 Tryz.call142 ya_conds (fun p:(Fn)×(Cd)×Unit=>yc_conds n p.1 p.2.1) (fun p:(Fn)×(Cd)×Unit=>yr_conds n p.1 p.2.1) (yn_conds n) h
set_option maxRecDepth 20000 in set_option maxHeartbeats 8000000 in
theorem y_condsS (n:Nat) (hu:yq_conds n):yq_conds (n+1):=by
 rintro ⟨f,e,_u⟩ w fz xs hc hfz hl hx
 refine calls_toL Tryz.func142 rfl w fz [yp_kind,(yg_ints n (y_ints n)),(yg_conds n hu)] [] ya_conds (fun p:(Fn)×(Cd)×Unit=>yr_conds (n+1) p.1 p.2.1) _ xs hfz hl hx (Nat.le_of_ble_eq_true rfl) ?_
 clear hx hl hfz xs
 simp only[Tryz.f142]
 obtain⟨hc1,hc2⟩:=hc
 dsimp only at hc1 hc2
 cases e with
 |nil=>
  simp only[↓eB,seval,go_sem,cFn_e,cFn_d,cEx_e,cEx_d,cEx_n,cCd_e,cCd_d,cCd_n,Fn.c,fn_eta,pairO_n,pairN_o,spFn_n,yp_kind,yg_ints,yg_conds,cd_nil]
  try simp only[impB,impN]
  repeat' first|exact ck|with_reducible apply And.intro|intro _
  all_goals first|exact hc1|(rename_i h;first|exact oI h|exact nah h)|(rename_i _ h _ g;exact sL h g)|decide|omega|(refine ret_with [] ?_;simp only[↓eB,seval,go_sem,bne,yr_conds,conF])
 |mk k a b p q s=>
  simp only[Cd.dp]at hc2
  cases hk:(k==9) with
  |true=>
   simp only[↓eB,seval,go_sem,cFn_e,cFn_d,cEx_e,cEx_d,cEx_n,cCd_e,cCd_d,cCd_n,Fn.c,fn_eta,pairO_n,pairN_o,spFn_n,yp_kind,yg_ints,yg_conds,cd_mk,hk]
   try simp only[impB,impN]
   repeat' first|exact ck|with_reducible apply And.intro|intro _
   all_goals first|exact hc1|(rename_i h;first|exact oI h|exact nah h)|(rename_i _ h _ g;exact sL h g)|decide|omega|(refine ret_with [] ?_;simp only[↓eB,seval,go_sem,bne,yr_conds,conF,hk])
  |false=>
   simp only[↓eB,seval,go_sem,cFn_e,cFn_d,cEx_e,cEx_d,cEx_n,cCd_e,cCd_d,cCd_n,Fn.c,fn_eta,pairO_n,pairN_o,spFn_n,yp_kind,yg_ints,yg_conds,cd_mk,hk]
   try simp only[impB,impN]
   repeat' first|exact ck|with_reducible apply And.intro|intro _
   all_goals first|exact hc1|(rename_i h;first|exact oI h|exact nah h)|(rename_i _ h _ g;exact sL h g)|decide|omega|(refine ret_with [] ?_;simp only[↓eB,seval,go_sem,bne,yr_conds,conF,hk])
theorem y_conds:∀n:Nat,yq_conds n
 |0=>by
  rintro ⟨f,e,_u⟩ w fz xs hc hfz hl hx
  exact absurd hc.2 (Nat.not_lt_zero _)
 |n+1=>y_condsS n (y_conds n)
end Go.Proofs.YtbiepiggmagfcaaGreatDoor
