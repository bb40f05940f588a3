/- One statement of a function: names by kind. No conditions but those in each statement. -/
import Derived.Test.YtjnnmindcbgjhabCo
set_option linter.unusedVariables false
set_option linter.unusedSimpArgs false
namespace Go.Proofs.Ytjnnmindcbgjhab
open Go Go.Sy Go.RowKit
def Ex.nm:Ex→List UInt8
 | .nil=>[]
 | .mk _ _ s _ _=>s
def raS (f:Fn) (a:Ar):Ar×Bool:=if a.p=true then (a,kinF f a.s==2) else if ptrF f a.e=true then (⟨true,a.e.nm,.nil⟩,true) else (a,intF f a.e)
def raL (f:Fn) (l:List Ar):List Ar:=l.map (fun a=>(raS f a).1)
def raB (f:Fn) (l:List Ar):Bool:=l.all (fun a=>(raS f a).2)
def rsS (f:Fn):Sm→Sm×Bool
 | .mk k x y e g cd ar th el no=>
  if (k==0)=true then
   if (kinF f x==2)=true then if ptrF f e=true then (.mk 2 x e.nm .nil .nil .nil [] [] [] no,true) else (.mk k x y e g cd ar th el no,false)
   else (.mk k x y e g cd ar th el no,intF f e)
  else if (k==2)=true then (.mk k x y e g cd ar th el no,kinF f x==2&&kinF f y==2)
  else if (k==1)=true then (.mk k x y e g cd ar th el no,kinF f x==2&&kinF f y==0)
  else if (k==3)=true then (.mk k x y e g cd ar th el no,kinF f x==2)
  else if (k==4)=true then (.mk k x y e g cd ar th el no,kinF f x != 2&&kinF f y==2)
  else if (k==5)=true then (.mk k x y e g cd ar th el no,kinF f x==2&&intF f e)
  else if (k==6)=true then (.mk k x y e g cd ar th el no,kinF f x != 2&&kinF f y==0&&intF f e)
  else if (k==7)=true then (.mk k x y e g cd ar th el no,kinF f y==0&&intF f e&&intF f g)
  else if (k==8)=true then (.mk k x y e g cd (raL f ar) th el no,(x==[]||kinF f x != 2)&&kinF f y==0&&raB f ar)
  else if (k==9)=true then (.mk k x y e g cd ar th el no,intF f e)
  else (.mk k x y e g cd ar th el no,conF f cd)
abbrev yc_rstmt (n:Nat) (f:Fn) (s:Sm):Prop:=okF f∧OkS n s
abbrev yr_rstmt (n:Nat) (f:Fn) (s:Sm):SV:=.tup [.inr (rsS f s).1.c,.inl (.v (.bool (rsS f s).2))]
noncomputable abbrev ya_rstmt:ArgC ((Fn)×(Sm)×Unit):=(acS (cFn) (acS (cSm) ac0))
abbrev yq_rstmt (n:Nat):Prop:=CallsY Try.prog 42 ya_rstmt (fun p:(Fn)×(Sm)×Unit=>yc_rstmt n p.1 p.2.1) (fun p:(Fn)×(Sm)×Unit=>yr_rstmt n p.1 p.2.1)
theorem yn_rstmt (n:Nat):∀p:(Fn)×(Sm)×Unit,((fun p:(Fn)×(Sm)×Unit=>yr_rstmt n p.1 p.2.1) p).names=[]:=by intro p;exact tup_sm _ _
noncomputable def yg_rstmt {X:Ctx} {w0:World} (n:Nat) (h:yq_rstmt n):Sy.Spec Try.prog X w0:=specD 42 Try.call42 ya_rstmt (fun p:(Fn)×(Sm)×Unit=>yc_rstmt n p.1 p.2.1) (fun p:(Fn)×(Sm)×Unit=>yr_rstmt n p.1 p.2.1) (yn_rstmt n) h
attribute [local go_sem] Fn.c Sm.ar Sm.c Sm.cd Sm.e Sm.el Sm.f Sm.k Sm.no Sm.th Sm.x Sm.y
set_option maxRecDepth 20000 in set_option maxHeartbeats 16000000 in
theorem y_rstmt (n:Nat):yq_rstmt n:=by
 rintro ⟨f,s,_u⟩ w fz xs hc hfz hl hx
 refine calls_toL Try.func42 rfl w fz [yp_kind,yp_pointer,(yg_ints n (y_ints n)),(yg_conds n (y_conds n))] [] ya_rstmt (fun p:(Fn)×(Sm)×Unit=>yr_rstmt n p.1 p.2.1) _ xs hfz hl hx (Nat.le_of_ble_eq_true rfl) ?_
 clear hx hl hfz xs
 simp only[Try.f42]
 obtain⟨hc1,hc2⟩:=hc
 dsimp only at hc1 hc2
 obtain⟨k,x,y,e,g,cd,ar,th,el,no⟩:=s
 obtain⟨he,hg,hcd,har,hal⟩:=hc2
 dsimp only[Sm.e,Sm.f,Sm.cd,Sm.ar]at he hg hcd har hal
 cases k0:(k==0) with
 |true=>
  cases m0:(kinF f x==2) with
  |true=>
   cases e with
   |nil=>
    have hr:rsS f (.mk k x y .nil g cd ar th el no)=(.mk k x y .nil g cd ar th el no,false):=by simp[rsS,k0,m0,ptrF]
    simp only[↓eB,seval,go_sem,yp_kind,yp_pointer,yg_ints,yg_conds,cFn_e,cFn_d,cEx_e,cEx_d,cEx_n,cEx_dp,cCd_e,cCd_d,cCd_n,cSm_e,cSm_d,fn_eta,pairO_n,pairN_o,spFn_n,ar_map,ex_nil,cd_nil,k0,m0,ptrF]
    try simp only[impB,impN]
    repeat' first|exact ck|with_reducible apply And.intro|intro _
    all_goals first|exact hc1|(rename_i h;first|exact oI h|exact nah h)|(rename_i _ h _ g;exact sL h g)|decide|omega|(refine ret_with [] ?_;simp only[↓eB,seval,go_sem,bne,yr_rstmt,hr,cFn_e,cFn_d,cEx_e,cEx_d,cEx_n,cEx_dp,cCd_e,cCd_d,cCd_n,cSm_e,cSm_d,fn_eta,pairO_n,pairN_o,spFn_n,ar_map,ex_nil,cd_nil])
   |mk k' n' s' a' b'=>
    cases m1:ptrF f (.mk k' n' s' a' b') with
    |true=>
     have hr:rsS f (.mk k x y (.mk k' n' s' a' b') g cd ar th el no)=(.mk 2 x s' .nil .nil .nil [] [] [] no,true):=by simp[rsS,k0,m0,m1,Ex.nm]
     simp only[↓eB,seval,go_sem,yp_kind,yp_pointer,yg_ints,yg_conds,cFn_e,cFn_d,cEx_e,cEx_d,cEx_n,cEx_dp,cCd_e,cCd_d,cCd_n,cSm_e,cSm_d,fn_eta,pairO_n,pairN_o,spFn_n,ar_map,ex_nil,cd_nil,ex_mk,k0,m0,m1]
     try simp only[impB,impN]
     repeat' first|exact ck|with_reducible apply And.intro|intro _
     all_goals first|exact hc1|(rename_i h;first|exact oI h|exact nah h)|(rename_i _ h _ g;exact sL h g)|decide|omega|(refine ret_with [] ?_;simp only[↓eB,seval,go_sem,bne,yr_rstmt,hr,cFn_e,cFn_d,cEx_e,cEx_d,cEx_n,cEx_dp,cCd_e,cCd_d,cCd_n,cSm_e,cSm_d,fn_eta,pairO_n,pairN_o,spFn_n,ar_map,ex_nil,cd_nil])
    |false=>
     have hr:rsS f (.mk k x y (.mk k' n' s' a' b') g cd ar th el no)=(.mk k x y (.mk k' n' s' a' b') g cd ar th el no,false):=by simp[rsS,k0,m0,m1]
     simp only[↓eB,seval,go_sem,yp_kind,yp_pointer,yg_ints,yg_conds,cFn_e,cFn_d,cEx_e,cEx_d,cEx_n,cEx_dp,cCd_e,cCd_d,cCd_n,cSm_e,cSm_d,fn_eta,pairO_n,pairN_o,spFn_n,ar_map,ex_nil,cd_nil,k0,m0,m1]
     try simp only[impB,impN]
     repeat' first|exact ck|with_reducible apply And.intro|intro _
     all_goals first|exact hc1|(rename_i h;first|exact oI h|exact nah h)|(rename_i _ h _ g;exact sL h g)|decide|omega|(refine ret_with [] ?_;simp only[↓eB,seval,go_sem,bne,yr_rstmt,hr,cFn_e,cFn_d,cEx_e,cEx_d,cEx_n,cEx_dp,cCd_e,cCd_d,cCd_n,cSm_e,cSm_d,fn_eta,pairO_n,pairN_o,spFn_n,ar_map,ex_nil,cd_nil])
  |false=>
   have hr:rsS f (.mk k x y e g cd ar th el no)=(.mk k x y e g cd ar th el no,intF f e):=by simp[rsS,k0,m0]
   simp only[↓eB,seval,go_sem,yp_kind,yp_pointer,yg_ints,yg_conds,cFn_e,cFn_d,cEx_e,cEx_d,cEx_n,cEx_dp,cCd_e,cCd_d,cCd_n,cSm_e,cSm_d,fn_eta,pairO_n,pairN_o,spFn_n,ar_map,ex_nil,cd_nil,k0,m0]
   try simp only[impB,impN]
   repeat' first|exact ck|with_reducible apply And.intro|intro _
   all_goals first|exact hc1|(rename_i h;first|exact oI h|exact nah h)|(rename_i _ h _ g;exact sL h g)|decide|omega|(refine ret_with [] ?_;simp only[↓eB,seval,go_sem,bne,yr_rstmt,hr,cFn_e,cFn_d,cEx_e,cEx_d,cEx_n,cEx_dp,cCd_e,cCd_d,cCd_n,cSm_e,cSm_d,fn_eta,pairO_n,pairN_o,spFn_n,ar_map,ex_nil,cd_nil])
 |false=>
 cases k2:(k==2) with
 |true=>
  have hr:rsS f (.mk k x y e g cd ar th el no)=((.mk k x y e g cd ar th el no),kinF f x==2&&kinF f y==2):=by simp[rsS,k0,k2]
  simp only[↓eB,seval,go_sem,yp_kind,yp_pointer,yg_ints,yg_conds,cFn_e,cFn_d,cEx_e,cEx_d,cEx_n,cEx_dp,cCd_e,cCd_d,cCd_n,cSm_e,cSm_d,fn_eta,pairO_n,pairN_o,spFn_n,ar_map,ex_nil,cd_nil,k0,k2]
  try simp only[impB,impN]
  repeat' first|exact ck|with_reducible apply And.intro|intro _
  all_goals first|exact hc1|(rename_i h;first|exact oI h|exact nah h)|(rename_i _ h _ g;exact sL h g)|decide|omega|(refine ret_with [] ?_;simp only[↓eB,seval,go_sem,bne,yr_rstmt,hr,cFn_e,cFn_d,cEx_e,cEx_d,cEx_n,cEx_dp,cCd_e,cCd_d,cCd_n,cSm_e,cSm_d,fn_eta,pairO_n,pairN_o,spFn_n,ar_map,ex_nil,cd_nil])
 |false=>
 cases k1:(k==1) with
 |true=>
  have hr:rsS f (.mk k x y e g cd ar th el no)=((.mk k x y e g cd ar th el no),kinF f x==2&&kinF f y==0):=by simp[rsS,k0,k2,k1]
  simp only[↓eB,seval,go_sem,yp_kind,yp_pointer,yg_ints,yg_conds,cFn_e,cFn_d,cEx_e,cEx_d,cEx_n,cEx_dp,cCd_e,cCd_d,cCd_n,cSm_e,cSm_d,fn_eta,pairO_n,pairN_o,spFn_n,ar_map,ex_nil,cd_nil,k0,k2,k1]
  try simp only[impB,impN]
  repeat' first|exact ck|with_reducible apply And.intro|intro _
  all_goals first|exact hc1|(rename_i h;first|exact oI h|exact nah h)|(rename_i _ h _ g;exact sL h g)|decide|omega|(refine ret_with [] ?_;simp only[↓eB,seval,go_sem,bne,yr_rstmt,hr,cFn_e,cFn_d,cEx_e,cEx_d,cEx_n,cEx_dp,cCd_e,cCd_d,cCd_n,cSm_e,cSm_d,fn_eta,pairO_n,pairN_o,spFn_n,ar_map,ex_nil,cd_nil])
 |false=>
 cases k3:(k==3) with
 |true=>
  have hr:rsS f (.mk k x y e g cd ar th el no)=((.mk k x y e g cd ar th el no),kinF f x==2):=by simp[rsS,k0,k2,k1,k3]
  simp only[↓eB,seval,go_sem,yp_kind,yp_pointer,yg_ints,yg_conds,cFn_e,cFn_d,cEx_e,cEx_d,cEx_n,cEx_dp,cCd_e,cCd_d,cCd_n,cSm_e,cSm_d,fn_eta,pairO_n,pairN_o,spFn_n,ar_map,ex_nil,cd_nil,k0,k2,k1,k3]
  try simp only[impB,impN]
  repeat' first|exact ck|with_reducible apply And.intro|intro _
  all_goals first|exact hc1|(rename_i h;first|exact oI h|exact nah h)|(rename_i _ h _ g;exact sL h g)|decide|omega|(refine ret_with [] ?_;simp only[↓eB,seval,go_sem,bne,yr_rstmt,hr,cFn_e,cFn_d,cEx_e,cEx_d,cEx_n,cEx_dp,cCd_e,cCd_d,cCd_n,cSm_e,cSm_d,fn_eta,pairO_n,pairN_o,spFn_n,ar_map,ex_nil,cd_nil])
 |false=>
 cases k4:(k==4) with
 |true=>
  have hr:rsS f (.mk k x y e g cd ar th el no)=((.mk k x y e g cd ar th el no),kinF f x != 2&&kinF f y==2):=by simp[rsS,k0,k2,k1,k3,k4]
  simp only[↓eB,seval,go_sem,yp_kind,yp_pointer,yg_ints,yg_conds,cFn_e,cFn_d,cEx_e,cEx_d,cEx_n,cEx_dp,cCd_e,cCd_d,cCd_n,cSm_e,cSm_d,fn_eta,pairO_n,pairN_o,spFn_n,ar_map,ex_nil,cd_nil,k0,k2,k1,k3,k4]
  try simp only[impB,impN]
  repeat' first|exact ck|with_reducible apply And.intro|intro _
  all_goals first|exact hc1|(rename_i h;first|exact oI h|exact nah h)|(rename_i _ h _ g;exact sL h g)|decide|omega|(refine ret_with [] ?_;simp only[↓eB,seval,go_sem,bne,yr_rstmt,hr,cFn_e,cFn_d,cEx_e,cEx_d,cEx_n,cEx_dp,cCd_e,cCd_d,cCd_n,cSm_e,cSm_d,fn_eta,pairO_n,pairN_o,spFn_n,ar_map,ex_nil,cd_nil])
 |false=>
 cases k5:(k==5) with
 |true=>
  have hr:rsS f (.mk k x y e g cd ar th el no)=((.mk k x y e g cd ar th el no),kinF f x==2&&intF f e):=by simp[rsS,k0,k2,k1,k3,k4,k5]
  simp only[↓eB,seval,go_sem,yp_kind,yp_pointer,yg_ints,yg_conds,cFn_e,cFn_d,cEx_e,cEx_d,cEx_n,cEx_dp,cCd_e,cCd_d,cCd_n,cSm_e,cSm_d,fn_eta,pairO_n,pairN_o,spFn_n,ar_map,ex_nil,cd_nil,k0,k2,k1,k3,k4,k5]
  try simp only[impB,impN]
  repeat' first|exact ck|with_reducible apply And.intro|intro _
  all_goals first|exact hc1|(rename_i h;first|exact oI h|exact nah h)|(rename_i _ h _ g;exact sL h g)|decide|omega|(refine ret_with [] ?_;simp only[↓eB,seval,go_sem,bne,yr_rstmt,hr,cFn_e,cFn_d,cEx_e,cEx_d,cEx_n,cEx_dp,cCd_e,cCd_d,cCd_n,cSm_e,cSm_d,fn_eta,pairO_n,pairN_o,spFn_n,ar_map,ex_nil,cd_nil])
 |false=>
 cases k6:(k==6) with
 |true=>
  have hr:rsS f (.mk k x y e g cd ar th el no)=((.mk k x y e g cd ar th el no),kinF f x != 2&&kinF f y==0&&intF f e):=by simp[rsS,k0,k2,k1,k3,k4,k5,k6]
  simp only[↓eB,seval,go_sem,yp_kind,yp_pointer,yg_ints,yg_conds,cFn_e,cFn_d,cEx_e,cEx_d,cEx_n,cEx_dp,cCd_e,cCd_d,cCd_n,cSm_e,cSm_d,fn_eta,pairO_n,pairN_o,spFn_n,ar_map,ex_nil,cd_nil,k0,k2,k1,k3,k4,k5,k6]
  try simp only[impB,impN]
  repeat' first|exact ck|with_reducible apply And.intro|intro _
  all_goals first|exact hc1|(rename_i h;first|exact oI h|exact nah h)|(rename_i _ h _ g;exact sL h g)|decide|omega|(refine ret_with [] ?_;simp only[↓eB,seval,go_sem,bne,yr_rstmt,hr,cFn_e,cFn_d,cEx_e,cEx_d,cEx_n,cEx_dp,cCd_e,cCd_d,cCd_n,cSm_e,cSm_d,fn_eta,pairO_n,pairN_o,spFn_n,ar_map,ex_nil,cd_nil])
 |false=>
 cases k7:(k==7) with
 |true=>
  have hr:rsS f (.mk k x y e g cd ar th el no)=((.mk k x y e g cd ar th el no),kinF f y==0&&intF f e&&intF f g):=by simp[rsS,k0,k2,k1,k3,k4,k5,k6,k7]
  simp only[↓eB,seval,go_sem,yp_kind,yp_pointer,yg_ints,yg_conds,cFn_e,cFn_d,cEx_e,cEx_d,cEx_n,cEx_dp,cCd_e,cCd_d,cCd_n,cSm_e,cSm_d,fn_eta,pairO_n,pairN_o,spFn_n,ar_map,ex_nil,cd_nil,k0,k2,k1,k3,k4,k5,k6,k7]
  try simp only[impB,impN]
  repeat' first|exact ck|with_reducible apply And.intro|intro _
  all_goals first|exact hc1|(rename_i h;first|exact oI h|exact nah h)|(rename_i _ h _ g;exact sL h g)|decide|omega|(refine ret_with [] ?_;simp only[↓eB,seval,go_sem,bne,yr_rstmt,hr,cFn_e,cFn_d,cEx_e,cEx_d,cEx_n,cEx_dp,cCd_e,cCd_d,cCd_n,cSm_e,cSm_d,fn_eta,pairO_n,pairN_o,spFn_n,ar_map,ex_nil,cd_nil])
 |false=>
 cases k8:(k==8) with
 |true=>
  simp only[↓eB,seval,go_sem,yp_kind,yp_pointer,yg_ints,yg_conds,cFn_e,cFn_d,cEx_e,cEx_d,cEx_n,cEx_dp,cCd_e,cCd_d,cCd_n,cSm_e,cSm_d,fn_eta,pairO_n,pairN_o,spFn_n,ar_map,ex_nil,cd_nil,k0,k2,k1,k3,k4,k5,k6,k7,k8]
  refine⟨hc1,hc1,chk_ok (by kernel_rfl),⟨fun q h=>(by cases h;rfl),rowsA.stor,by omega,by omega⟩,?_⟩
  refine loop_ok (Y:=List Ar×List Ar×Bool) (fun z=>z.1.length+z.2.1.length≤5000∧(∀a∈z.2.1,a.e.dp<n)∧z.1++raL f z.2.1=raL f ar∧(z.2.2&&raB f z.2.1)=((x==[]||kinF f x != 2)&&kinF f y==0&&raB f ar))
   (fun z=>⟨[(2,true,.one (.p 2 0 0)),(3,true,.one (.p 3 0 0)),(4,true,.one (.p 4 0 0)),(8,true,.one (.v (.bool z.2.2))),(9,true,.one (.s 1000)),(10,true,.one (.v (.int .i64 (z.1.length:Int))))],
    [(2,.vec 0 fl4 [f.c]),(3,.vec 0 fl10 [(Sm.mk k x y e g cd ar th el no).c]),(4,.vec 0 fl10 [zSc]),(1000,.vec 0 zAc ((z.1++z.2.1).map Ar.c))]⟩)
   (fun z=>z.2.1.length) ([],ar,(x==[]||kinF f x != 2)&&kinF f y==0) ⟨by simpa using hal,har,rfl,rfl⟩ ?_ ?_
  ·refine to_with [.mv 132 1000] ?_;simp only[↓eB,seval,go_sem,cFn_e,cFn_d,cEx_e,cEx_d,cEx_n,cEx_dp,cCd_e,cCd_d,cCd_n,cSm_e,cSm_d,fn_eta,pairO_n,pairN_o,spFn_n,ar_map,ex_nil,cd_nil,fl4,fl10,zSc,zAc,rowsA.mv,rowsA.fn]
  ·rintro ⟨d,r,b⟩ ⟨g1,g2,g3,g4⟩
   refine vc_ok [yp_kind,yp_pointer,yg_ints n (y_ints n),yg_conds n (y_conds n)] [] _ _ _ ?_
   dsimp only at g1 g2 g3 g4
   cases r with
   |nil=>
    simp only[List.append_nil,raL,raB,List.map_nil,List.all_nil,Bool.and_true]at g3 g4
    have h1:=natI_ge (Nat.le_refl d.length)
    have hr:rsS f (.mk k x y e g cd ar th el no)=(.mk k x y e g cd d th el no,b):=by
     simp[rsS,k0,k1,k2,k3,k4,k5,k6,k7,k8];exact⟨by rw[g3];rfl,by rw[g4];simp[raB]⟩
    simp only[↓eB,seval,go_sem,yp_kind,yp_pointer,yg_ints,yg_conds,cFn_e,cFn_d,cEx_e,cEx_d,cEx_n,cEx_dp,cCd_e,cCd_d,cCd_n,cSm_e,cSm_d,fn_eta,pairO_n,pairN_o,spFn_n,ar_map,ex_nil,cd_nil,h1,fl4,fl10,zSc,zAc]
    refine ret_with [.fz 1000] ?_;simp only[↓eB,seval,go_sem,bne,yr_rstmt,hr,cFn_e,cFn_d,cEx_e,cEx_d,cEx_n,cEx_dp,cCd_e,cCd_d,cCd_n,cSm_e,cSm_d,fn_eta,pairO_n,pairN_o,spFn_n,ar_map,ex_nil,cd_nil,rowsA.ds,rowsA.fz,zAc,zAr]
   |cons a r'=>
    have hL:(d++a::r')[d.length]?=some a:=by simp
    have hlt:d.length<(d++a::r').length:=by simp
    have hsm:(d++a::r').length≤4294967296:=by simp only[List.length_append,List.length_cons]at g1 ⊢;omega
    have hD:d++a::r'=(d++[a])++r':=by simp
    have h1:=natI_lt hlt
    have h2:=natI_ltp hlt
    have h3:=ar_at hL
    have h4:=natI_succ (Nat.le_of_lt hlt) hsm
    have hae:=g2 a (List.mem_cons_self ..)
    have g2':∀a∈r',a.e.dp<n:=fun a h=>g2 a (List.mem_cons_of_mem _ h)
    have g1':((d++[(raS f a).1]).length+r'.length)≤5000:=by simp only[List.length_append,List.length_cons,List.length_nil]at g1 ⊢;omega
    have g3':(d++[(raS f a).1])++raL f r'=raL f ar:=by rw[← g3];simp[raL]
    have g4':((b&&(raS f a).2)&&raB f r')=((x==[]||kinF f x != 2)&&kinF f y==0&&raB f ar):=by rw[← g4];simp[raB,Bool.and_assoc]
    have hn:(d++[(raS f a).1]).length=d.length+1:=by simp
    obtain⟨p,s,e0⟩:=a
    dsimp only at hae
    cases p with
    |true=>
     have ha:raS f ⟨true,s,e0⟩=(⟨true,s,e0⟩,kinF f s==2):=by simp[raS]
     rw[ha]at g1' g3' g4' hn
     dsimp only at g1' g3' g4' hn
     simp only[↓eB,seval,go_sem,yp_kind,yp_pointer,yg_ints,yg_conds,cFn_e,cFn_d,cEx_e,cEx_d,cEx_n,cEx_dp,cCd_e,cCd_d,cCd_n,cSm_e,cSm_d,fn_eta,pairO_n,pairN_o,spFn_n,ar_map,ex_nil,cd_nil,h1,h2,h3,h4,fl4,fl10,zSc,zAc,Ar.c]
     try simp only[impB,impN]
     repeat' first|exact ck|with_reducible apply And.intro|intro _
     all_goals try first|exact hc1|exact hlt|exact hae|(rename_i h;first|exact oI h|exact nah h)|(rename_i _ h _ g;exact sL h g)|decide|omega
     refine⟨(d++[⟨true,s,e0⟩],r',b&&kinF f s==2),⟨g1',g2',g3',g4'⟩,Nat.lt_succ_self _,to_with [] ?_⟩
     simp only[↓eB,seval,go_sem,rowsA.fn,List.append_assoc,List.singleton_append,hn,fl4,fl10,zSc,zAc,Ar.c]
    |false=>
    cases e0 with
    |nil=>
     have ha:raS f ⟨false,s,.nil⟩=(⟨false,s,.nil⟩,intF f .nil):=by simp[raS,ptrF]
     rw[ha]at g1' g3' g4' hn
     dsimp only at g1' g3' g4' hn
     simp only[↓eB,seval,go_sem,yp_kind,yp_pointer,yg_ints,yg_conds,cFn_e,cFn_d,cEx_e,cEx_d,cEx_n,cEx_dp,cCd_e,cCd_d,cCd_n,cSm_e,cSm_d,fn_eta,pairO_n,pairN_o,spFn_n,ar_map,ex_nil,cd_nil,h1,h2,h3,h4,fl4,fl10,zSc,zAc,Ar.c,ptrF]
     try simp only[impB,impN]
     repeat' first|exact ck|with_reducible apply And.intro|intro _
     all_goals try first|exact hc1|exact hlt|exact hae|(rename_i h;first|exact oI h|exact nah h)|(rename_i _ h _ g;exact sL h g)|decide|omega
     refine⟨(d++[⟨false,s,.nil⟩],r',b&&intF f .nil),⟨g1',g2',g3',g4'⟩,Nat.lt_succ_self _,to_with [] ?_⟩
     simp only[↓eB,seval,go_sem,rowsA.fn,List.append_assoc,List.singleton_append,hn,fl4,fl10,zSc,zAc,Ar.c]
    |mk k' n' s' a' b'=>
    cases m1:ptrF f (.mk k' n' s' a' b') with
    |true=>
     have ha:raS f ⟨false,s,.mk k' n' s' a' b'⟩=(⟨true,s',.nil⟩,true):=by simp[raS,m1,Ex.nm]
     rw[ha]at g1' g3' g4' hn
     dsimp only at g1' g3' g4' hn
     simp only[Bool.and_true]at g4'
     have h5:((d++⟨false,s,.mk k' n' s' a' b'⟩::r').map Ar.c).set d.length [.v (.bool true),.v (.string (bs s')),.v (.pointer none)]=(d++⟨true,s',.nil⟩::r').map Ar.c:=by rw[List.map_append,List.map_append,List.set_append_right _ _ (by simp)];simp[Ar.c,ex_nil]
     simp only[↓eB,seval,go_sem,yp_kind,yp_pointer,yg_ints,yg_conds,cFn_e,cFn_d,cEx_e,cEx_d,cEx_n,cEx_dp,cCd_e,cCd_d,cCd_n,cSm_e,cSm_d,fn_eta,pairO_n,pairN_o,spFn_n,ar_map,ex_nil,cd_nil,h1,h2,h3,h4,fl4,fl10,zSc,zAc,Ar.c,ex_mk,m1,h5]
     try simp only[impB,impN]
     repeat' first|exact ck|with_reducible apply And.intro|intro _
     all_goals try first|exact hc1|exact hlt|exact hae|(rename_i h;first|exact oI h|exact nah h)|(rename_i _ h _ g;exact sL h g)|decide|omega
     refine⟨(d++[⟨true,s',.nil⟩],r',b),⟨g1',g2',g3',g4'⟩,Nat.lt_succ_self _,to_with [] ?_⟩
     simp only[↓eB,seval,go_sem,rowsA.fn,List.append_assoc,List.singleton_append,hn,fl4,fl10,zSc,zAc,Ar.c]
    |false=>
     have ha:raS f ⟨false,s,.mk k' n' s' a' b'⟩=(⟨false,s,.mk k' n' s' a' b'⟩,intF f (.mk k' n' s' a' b')):=by simp[raS,m1]
     rw[ha]at g1' g3' g4' hn
     dsimp only at g1' g3' g4' hn
     simp only[↓eB,seval,go_sem,yp_kind,yp_pointer,yg_ints,yg_conds,cFn_e,cFn_d,cEx_e,cEx_d,cEx_n,cEx_dp,cCd_e,cCd_d,cCd_n,cSm_e,cSm_d,fn_eta,pairO_n,pairN_o,spFn_n,ar_map,ex_nil,cd_nil,h1,h2,h3,h4,fl4,fl10,zSc,zAc,Ar.c,m1]
     try simp only[impB,impN]
     repeat' first|exact ck|with_reducible apply And.intro|intro _
     all_goals try first|exact hc1|exact hlt|exact hae|(rename_i h;first|exact oI h|exact nah h)|(rename_i _ h _ g;exact sL h g)|decide|omega
     refine⟨(d++[⟨false,s,.mk k' n' s' a' b'⟩],r',b&&intF f (.mk k' n' s' a' b')),⟨g1',g2',g3',g4'⟩,Nat.lt_succ_self _,to_with [] ?_⟩
     simp only[↓eB,seval,go_sem,rowsA.fn,List.append_assoc,List.singleton_append,hn,fl4,fl10,zSc,zAc,Ar.c]
 |false=>
 cases k9:(k==9) with
 |true=>
  have hr:rsS f (.mk k x y e g cd ar th el no)=((.mk k x y e g cd ar th el no),intF f e):=by simp[rsS,k0,k2,k1,k3,k4,k5,k6,k7,k8,k9]
  simp only[↓eB,seval,go_sem,yp_kind,yp_pointer,yg_ints,yg_conds,cFn_e,cFn_d,cEx_e,cEx_d,cEx_n,cEx_dp,cCd_e,cCd_d,cCd_n,cSm_e,cSm_d,fn_eta,pairO_n,pairN_o,spFn_n,ar_map,ex_nil,cd_nil,k0,k2,k1,k3,k4,k5,k6,k7,k8,k9]
  try simp only[impB,impN]
  repeat' first|exact ck|with_reducible apply And.intro|intro _
  all_goals first|exact hc1|(rename_i h;first|exact oI h|exact nah h)|(rename_i _ h _ g;exact sL h g)|decide|omega|(refine ret_with [] ?_;simp only[↓eB,seval,go_sem,bne,yr_rstmt,hr,cFn_e,cFn_d,cEx_e,cEx_d,cEx_n,cEx_dp,cCd_e,cCd_d,cCd_n,cSm_e,cSm_d,fn_eta,pairO_n,pairN_o,spFn_n,ar_map,ex_nil,cd_nil])
 |false=>
 have hr:rsS f (.mk k x y e g cd ar th el no)=((.mk k x y e g cd ar th el no),conF f cd):=by simp[rsS,k0,k2,k1,k3,k4,k5,k6,k7,k8,k9]
 simp only[↓eB,seval,go_sem,yp_kind,yp_pointer,yg_ints,yg_conds,cFn_e,cFn_d,cEx_e,cEx_d,cEx_n,cEx_dp,cCd_e,cCd_d,cCd_n,cSm_e,cSm_d,fn_eta,pairO_n,pairN_o,spFn_n,ar_map,ex_nil,cd_nil,k0,k2,k1,k3,k4,k5,k6,k7,k8,k9]
 try simp only[impB,impN]
 repeat' first|exact ck|with_reducible apply And.intro|intro _
 all_goals first|exact hc1|(rename_i h;first|exact oI h|exact nah h)|(rename_i _ h _ g;exact sL h g)|decide|omega|(refine ret_with [] ?_;simp only[↓eB,seval,go_sem,bne,yr_rstmt,hr,cFn_e,cFn_d,cEx_e,cEx_d,cEx_n,cEx_dp,cCd_e,cCd_d,cCd_n,cSm_e,cSm_d,fn_eta,pairO_n,pairN_o,spFn_n,ar_map,ex_nil,cd_nil])
end Go.Proofs.Ytjnnmindcbgjhab
