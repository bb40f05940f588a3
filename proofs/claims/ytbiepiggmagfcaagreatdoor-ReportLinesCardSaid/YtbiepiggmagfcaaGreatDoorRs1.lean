/- Names of a function: of what kind they are. No conditions but those in each statement. -/
import Derived.Test.YtbiepiggmagfcaaGreatDoorSh1
import Derived.Test.YtbiepiggmagfcaaGreatDoorPb4
set_option linter.unusedVariables false
set_option linter.unusedSimpArgs false
set_option maxRecDepth 20000
set_option maxHeartbeats 16000000
open List (append_assoc map_append)
namespace Go.Proofs.YtbiepiggmagfcaaGreatDoor
open Go Go.Sy Go.RowKit
def cr (nm:List UInt8):List Vr→Int
 |[]=>0
 |v::l=>if (v.s==nm)=true then (if v.p=true then 2 else 1) else cr nm l
def Bg (f:Fn) (nm:List UInt8):Int:=cr nm (f.ps++f.ls)
def okF (f:Fn):Prop:=f.ps.length≤5000∧f.ls.length≤5000
abbrev aN (f:Fn) (nm:List UInt8):Prop:=okF f
abbrev JI (f:Fn) (nm:List UInt8):SV:=.one (.v (.int .i64 (Bg f nm)))
noncomputable abbrev Ub:ArgC ((Fn)×(List UInt8)×Unit):=(acS (cFn) (acS (cStr) ac0))
abbrev rp:Prop:=AP Tryz.prog 139 Ub (fun p:(Fn)×(List UInt8)×Unit=>aN p.1 p.2.1) (fun p:(Fn)×(List UInt8)×Unit=>JI p.1 p.2.1)
theorem rr:∀p:(Fn)×(List UInt8)×Unit,((fun p:(Fn)×(List UInt8)×Unit=>JI p.1 p.2.1) p).names=[]:=by intro p;first|rfl|exact B8 _|exact BN _
attribute [local go_sem] Fn.c MH QV QW Hs KT KU Ht Jc Hg GU Dm Dl Ev
theorem yE:rp:=by
 rintro ⟨f,nm,_u⟩ w fz xs hc hfz hl hx
 refine A9 Tryz.func139 rfl w fz [] [] Ub (fun p:(Fn)×(List UInt8)×Unit=>JI p.1 p.2.1) _ xs hfz hl hx (jN rfl) ?_
 clear hx hl hfz xs
 simp only[Tryz.f139]
 obtain⟨hc1,hc2⟩:=hc
 dsimp only at hc1 hc2
 simp only[↓eB,seval,go_sem,fL]
 refine⟨⟨fun q h=>(by cases h;rfl),Uy _ ZQ _,by omega,by omega⟩,⟨fun q h=>(by cases h;rfl),Uy _ ZQ _,by omega,by omega⟩,M8 (by kernel_rfl),?_⟩
 refine AH (Y:=Nat) (fun i=>i≤(f.ps++f.ls).length∧cr nm ((f.ps++f.ls).drop i)=Bg f nm)
  (fun i=>⟨[(1,true,.one (.v (.string (bs nm)))),(5,true,.one (.s 1000)),(6,true,.one (.v (.int .i64 (i:Int))))],[(1000,.vec 0 zVc ((f.ps++f.ls).map Vr.c))]⟩)
  (fun i=>(f.ps++f.ls).length-i) 0 ⟨Nat.zero_le _,rfl⟩ ?_ ?_
 ·refine A4 [.mv 12 1000] ?_;simp only[↓eB,seval,go_sem,BR.mv,BR.fn,zVc,map_append,List.flatMap_append]
 ·rintro i ⟨hi,hJ⟩
  refine Ab [] [] _ _ _ ?_
  have hsm:(f.ps++f.ls).length≤4294967296:=by simp only[List.length_append];omega
  generalize f.ps++f.ls=L at hi hJ hsm ⊢
  cases hx:L[i]? with
  |none=>
   have hi2:L.length≤i:=List.getElem?_eq_none_iff.1 hx
   have h1:=Ao hi2
   rw[List.drop_eq_nil_of_le hi2]at hJ
   have hR:Bg f nm=0:=hJ.symm
   simp only[↓eB,seval,go_sem,h1]
   refine A0 [] ?_;simp only[↓eB,seval,go_sem,bne,JI,hR]
  |some x=>
   have hlt:i<L.length:=(List.getElem?_eq_some_iff.1 hx).1
   have h1:=Ah hlt
   have h2:=AX hlt
   have h3:=bg hx
   have h4:=AM hi hsm
   rw[JL hx]at hJ
   simp only[cr]at hJ
   simp only[↓eB,seval,go_sem,h1,h2,h3,h4,zVc,Vr.c]
   simp only[A1,A2]
   refine⟨hlt,hlt,fun hb=>⟨hlt,hlt,fun hc=>?_,fun hc=>?_⟩,fun hb=>?_⟩
   ·rw[if_pos hb,if_pos hc]at hJ
    refine A0 [] ?_;simp only[↓eB,seval,go_sem,bne,JI,← hJ]
   ·rw[if_pos hb,if_neg (by rw[hc];decide)]at hJ
    refine A0 [] ?_;simp only[↓eB,seval,go_sem,bne,JI,← hJ]
   ·rw[if_neg (by rw[hb];decide)]at hJ
    refine⟨i+1,⟨hlt,hJ⟩,by omega,A4 [] ?_⟩
    simp only[↓eB,seval,go_sem,BR.fn]
noncomputable def Do {X:Ctx} {w0:World}:Sy.Spec Tryz.prog X w0:=Am 139 Tryz.call139 Ub (fun p:(Fn)×(List UInt8)×Unit=>aN p.1 p.2.1) (fun p:(Fn)×(List UInt8)×Unit=>JI p.1 p.2.1) rr yE
def IC (f:Fn):Ex→Bool
 | .nil=>false
 | .mk k _ s _ _=>k==1&&Bg f s==2
abbrev TS (f:Fn) (e:Ex):Prop:=okF f
abbrev GE (f:Fn) (e:Ex):SV:=.one (.v (.bool (IC f e)))
noncomputable abbrev OY:ArgC ((Fn)×(Ex)×Unit):=(acS (cFn) (acS (cEx) ac0))
abbrev cu:Prop:=AP Tryz.prog 140 OY (fun p:(Fn)×(Ex)×Unit=>TS p.1 p.2.1) (fun p:(Fn)×(Ex)×Unit=>GE p.1 p.2.1)
theorem cv:∀p:(Fn)×(Ex)×Unit,((fun p:(Fn)×(Ex)×Unit=>GE p.1 p.2.1) p).names=[]:=by intro p;first|rfl|exact B8 _|exact BN _
theorem iD:cu:=by
 rintro ⟨f,e,_u⟩ w fz xs hc hfz hl hx
 refine A9 Tryz.func140 rfl w fz [Do] [] OY (fun p:(Fn)×(Ex)×Unit=>GE p.1 p.2.1) _ xs hfz hl hx (jN rfl) ?_
 clear hx hl hfz xs
 simp only[Tryz.f140]
 have hc1:okF f:=hc
 cases e with
 |nil=>
  simp only[↓eB,seval,go_sem,Do,B3]
  try simp only[A1,A2]
  repeat' first|exact ck|with_reducible apply And.intro|intro _
  all_goals first|exact hc1|(rename_i h;first|exact oI h|exact nah h)|(rename_i _ h _ g;exact sL h g)|decide|omega|(refine A0 [] ?_;simp only[↓eB,seval,go_sem,bne,GE,IC])
 |mk k n s a b=>
  simp only[↓eB,seval,go_sem,Do]
  try simp only[A1,A2]
  repeat' first|exact ck|with_reducible apply And.intro|intro _
  all_goals first|exact hc1|(rename_i h;first|exact oI h|exact nah h)|(rename_i _ h _ g;exact sL h g)|decide|omega|(refine A0 [] ?_;simp only[↓eB,seval,go_sem,bne,GE,IC])
noncomputable def OZ {X:Ctx} {w0:World}:Sy.Spec Tryz.prog X w0:=Am 140 Tryz.call140 OY (fun p:(Fn)×(Ex)×Unit=>TS p.1 p.2.1) (fun p:(Fn)×(Ex)×Unit=>GE p.1 p.2.1) cv iD
def DL (f:Fn):Ex→Bool
 | .nil=>true
 | .mk k _ s a b=>if (k==1)=true then Bg f s != 2 else DL f a&&DL f b
def Pk (f:Fn):Cd→Bool
 | .nil=>true
 | .mk k a b p q s=>if (k==9)=true then Bg f s==2 else DL f a&&DL f b&&Pk f p&&Pk f q
abbrev aO (n:Nat) (f:Fn) (e:Ex):Prop:=okF f∧e.dp<n
abbrev JJ (n:Nat) (f:Fn) (e:Ex):SV:=.one (.v (.bool (DL f e)))
noncomputable abbrev Uc:ArgC ((Fn)×(Ex)×Unit):=(acS (cFn) (acS (cEx) ac0))
abbrev Qn (n:Nat):Prop:=AP Tryz.prog 141 Uc (fun p:(Fn)×(Ex)×Unit=>aO n p.1 p.2.1) (fun p:(Fn)×(Ex)×Unit=>JJ n p.1 p.2.1)
theorem ru (n:Nat):∀p:(Fn)×(Ex)×Unit,((fun p:(Fn)×(Ex)×Unit=>JJ n p.1 p.2.1) p).names=[]:=by intro p;first|rfl|exact B8 _|exact BN _
noncomputable def GF {X:Ctx} {w0:World} (n:Nat) (h:Qn n):Sy.Spec Tryz.prog X w0:=Am 141 Tryz.call141 Uc (fun p:(Fn)×(Ex)×Unit=>aO n p.1 p.2.1) (fun p:(Fn)×(Ex)×Unit=>JJ n p.1 p.2.1) (ru n) h
theorem ry (n:Nat) (hu:Qn n):Qn (n+1):=by
 rintro ⟨f,e,_u⟩ w fz xs hc hfz hl hx
 refine A9 Tryz.func141 rfl w fz [Do,(GF n hu)] [] Uc (fun p:(Fn)×(Ex)×Unit=>JJ (n+1) p.1 p.2.1) _ xs hfz hl hx (jN rfl) ?_
 clear hx hl hfz xs
 simp only[Tryz.f141]
 obtain⟨hc1,hc2⟩:=hc
 dsimp only at hc1 hc2
 cases e with
 |nil=>
  simp only[↓eB,seval,go_sem,Do,GF,B3]
  try simp only[A1,A2]
  repeat' first|exact ck|with_reducible apply And.intro|intro _
  all_goals first|exact hc1|(rename_i h;first|exact oI h|exact nah h)|(rename_i _ h _ g;exact sL h g)|decide|omega|(refine A0 [] ?_;simp only[↓eB,seval,go_sem,bne,JJ,DL])
 |mk k n' s a b=>
  simp only[Ex.dp]at hc2
  cases hk:(k==1) with
  |true=>
   simp only[↓eB,seval,go_sem,Do,GF,hk]
   try simp only[A1,A2]
   repeat' first|exact ck|with_reducible apply And.intro|intro _
   all_goals first|exact hc1|(rename_i h;first|exact oI h|exact nah h)|(rename_i _ h _ g;exact sL h g)|decide|omega|(refine A0 [] ?_;simp only[↓eB,seval,go_sem,bne,JJ,DL,hk])
  |false=>
   simp only[↓eB,seval,go_sem,Do,GF,hk]
   try simp only[A1,A2]
   repeat' first|exact ck|with_reducible apply And.intro|intro _
   all_goals first|exact hc1|(rename_i h;first|exact oI h|exact nah h)|(rename_i _ h _ g;exact sL h g)|decide|omega|(refine A0 [] ?_;simp only[↓eB,seval,go_sem,bne,JJ,DL,hk])
theorem TT:∀n:Nat,Qn n
 |0=>by
  rintro ⟨f,e,_u⟩ w fz xs hc hfz hl hx
  exact absurd hc.2 (Nat.not_lt_zero _)
 |n+1=>ry n (TT n)
abbrev Xv (n:Nat) (f:Fn) (e:Cd):Prop:=okF f∧e.dp<n
abbrev H7 (n:Nat) (f:Fn) (e:Cd):SV:=.one (.v (.bool (Pk f e)))
noncomputable abbrev Rj:ArgC ((Fn)×(Cd)×Unit):=(acS (cFn) (acS (cCd) ac0))
abbrev Oa (n:Nat):Prop:=AP Tryz.prog 142 Rj (fun p:(Fn)×(Cd)×Unit=>Xv n p.1 p.2.1) (fun p:(Fn)×(Cd)×Unit=>H7 n p.1 p.2.1)
theorem lG (n:Nat):∀p:(Fn)×(Cd)×Unit,((fun p:(Fn)×(Cd)×Unit=>H7 n p.1 p.2.1) p).names=[]:=by intro p;first|rfl|exact B8 _|exact BN _
noncomputable def M0 {X:Ctx} {w0:World} (n:Nat) (h:Oa n):Sy.Spec Tryz.prog X w0:=Am 142 Tryz.call142 Rj (fun p:(Fn)×(Cd)×Unit=>Xv n p.1 p.2.1) (fun p:(Fn)×(Cd)×Unit=>H7 n p.1 p.2.1) (lG n) h
attribute[local go_sem] KM M0 GF Do in
theorem lH (n:Nat) (hu:Oa n):Oa (n+1):=by
 rintro ⟨f,e,_u⟩ w fz xs hc hfz hl hx
 refine A9 Tryz.func142 rfl w fz [Do,(GF n (TT n)),(M0 n hu)] [] Rj (fun p:(Fn)×(Cd)×Unit=>H7 (n+1) p.1 p.2.1) _ xs hfz hl hx (jN rfl) ?_
 clear hx hl hfz xs
 simp only[Tryz.f142]
 obtain⟨hc1,hc2⟩:=hc
 dsimp only at hc1 hc2
 cases e with
 |nil=>
  simp only[↓eB,seval,go_sem,CG]
  try simp only[A1,A2]
  repeat' first|exact ck|with_reducible apply And.intro|intro _
  all_goals first|exact hc1|(rename_i h;first|exact oI h|exact nah h)|(rename_i _ h _ g;exact sL h g)|decide|omega|(refine A0 [] ?_;simp only[↓eB,seval,go_sem,bne,H7,Pk])
 |mk k a b p q s=>
  simp only[Cd.dp]at hc2
  cases hk:(k==9) with
  |true=>
   simp only[↓eB,seval,go_sem,hk]
   try simp only[A1,A2]
   repeat' first|exact ck|with_reducible apply And.intro|intro _
   all_goals first|exact hc1|(rename_i h;first|exact oI h|exact nah h)|(rename_i _ h _ g;exact sL h g)|decide|omega|(refine A0 [] ?_;simp only[↓eB,seval,go_sem,bne,H7,Pk,hk])
  |false=>
   simp only[↓eB,seval,go_sem,hk]
   try simp only[A1,A2]
   repeat' first|exact ck|with_reducible apply And.intro|intro _
   all_goals first|exact hc1|(rename_i h;first|exact oI h|exact nah h)|(rename_i _ h _ g;exact sL h g)|decide|omega|(refine A0 [] ?_;simp only[↓eB,seval,go_sem,bne,H7,Pk,hk])
theorem Ud:∀n:Nat,Oa n
 |0=>by
  rintro ⟨f,e,_u⟩ w fz xs hc hfz hl hx
  exact absurd hc.2 (Nat.not_lt_zero _)
 |n+1=>lH n (Ud n)
end Go.Proofs.YtbiepiggmagfcaaGreatDoor
namespace Go.Proofs.YtbiepiggmagfcaaGreatDoor
open Go Go.Sy Go.RowKit
def Ex.nm:Ex→List UInt8
 | .nil=>[]
 | .mk _ _ s _ _=>s
def raS (f:Fn) (a:Ar):Ar×Bool:=if a.p=true then (a,Bg f a.s==2) else if IC f a.e=true then (⟨true,a.e.nm,.nil⟩,true) else (a,DL f a.e)
def raL (f:Fn) (l:List Ar):List Ar:=l.map (fun a=>(raS f a).1)
def raB (f:Fn) (l:List Ar):Bool:=l.all (fun a=>(raS f a).2)
def rsS (f:Fn):Sm→Sm×Bool
 | .mk k x y e g cd ar th el no=>
  if (k==0)=true then
   if (Bg f x==2)=true then if IC f e=true then (.mk 2 x e.nm .nil .nil .nil [] [] [] no,true) else (.mk k x y e g cd ar th el no,false)
   else (.mk k x y e g cd ar th el no,DL f e)
  else if (k==2)=true then (.mk k x y e g cd ar th el no,Bg f x==2&&Bg f y==2)
  else if (k==1)=true then (.mk k x y e g cd ar th el no,Bg f x==2&&Bg f y==0)
  else if (k==3)=true then (.mk k x y e g cd ar th el no,Bg f x==2)
  else if (k==4)=true then (.mk k x y e g cd ar th el no,Bg f x != 2&&Bg f y==2)
  else if (k==5)=true then (.mk k x y e g cd ar th el no,Bg f x==2&&DL f e)
  else if (k==6)=true then (.mk k x y e g cd ar th el no,Bg f x != 2&&Bg f y==0&&DL f e)
  else if (k==7)=true then (.mk k x y e g cd ar th el no,Bg f y==0&&DL f e&&DL f g)
  else if (k==8)=true then (.mk k x y e g cd (raL f ar) th el no,(x==[]||Bg f x != 2)&&Bg f y==0&&raB f ar)
  else if (k==9)=true then (.mk k x y e g cd ar th el no,DL f e)
  else (.mk k x y e g cd ar th el no,Pk f cd)
abbrev Xw (n:Nat) (f:Fn) (s:Sm):Prop:=okF f∧OkS n s
abbrev Bz (n:Nat) (f:Fn) (s:Sm):SV:=.tup [.inr (rsS f s).1.c,.inl (.v (.bool (rsS f s).2))]
noncomputable abbrev Rk:ArgC ((Fn)×(Sm)×Unit):=(acS (cFn) (acS (cSm) ac0))
abbrev Xx (n:Nat):Prop:=AP Tryz.prog 121 Rk (fun p:(Fn)×(Sm)×Unit=>Xw n p.1 p.2.1) (fun p:(Fn)×(Sm)×Unit=>Bz n p.1 p.2.1)
theorem lI (n:Nat):∀p:(Fn)×(Sm)×Unit,((fun p:(Fn)×(Sm)×Unit=>Bz n p.1 p.2.1) p).names=[]:=by intro p;exact wo _ _
noncomputable def Rl {X:Ctx} {w0:World} (n:Nat) (h:Xx n):Sy.Spec Tryz.prog X w0:=Am 121 Tryz.call121 Rk (fun p:(Fn)×(Sm)×Unit=>Xw n p.1 p.2.1) (fun p:(Fn)×(Sm)×Unit=>Bz n p.1 p.2.1) (lI n) h
attribute [local go_sem] Ar.c Fn.c Sm.ar Sm.c Sm.cd Sm.e Sm.el Sm.f Sm.k Sm.no Sm.th Sm.x Sm.y fM MH QV QW Hs Jr KT KU Ht Jc QY QX CG B3 jv fl4 GU Dm Dl Ev M0 GF Do OZ zAc zSc
theorem y_rstmt (n:Nat):Xx n:=by
 rintro ⟨f,s,_u⟩ w fz xs hc hfz hl hx
 refine A9 Tryz.func121 rfl w fz [Do,OZ,(GF n (TT n)),(M0 n (Ud n))] [] Rk (fun p:(Fn)×(Sm)×Unit=>Bz n p.1 p.2.1) _ xs hfz hl hx (jN rfl) ?_
 clear hx hl hfz xs
 simp only[Tryz.f121]
 obtain⟨hc1,hc2⟩:=hc
 dsimp only at hc1 hc2
 obtain⟨k,x,y,e,g,cd,ar,th,el,no⟩:=s
 obtain⟨he,hg,hcd,har,hal⟩:=hc2
 dsimp only[Sm.e,Sm.f,Sm.cd,Sm.ar]at he hg hcd har hal
 cases k0:(k==0) with
 |true=>
  cases m0:(Bg f x==2) with
  |true=>
   cases e with
   |nil=>
    have hr:rsS f (.mk k x y .nil g cd ar th el no)=(.mk k x y .nil g cd ar th el no,false):=by simp[rsS,k0,m0,IC]
    simp only[↓eB,seval,go_sem,k0,m0,IC]
    try simp only[A1,A2]
    repeat' first|exact ck|with_reducible apply And.intro|intro _
    all_goals first|exact hc1|(rename_i h;first|exact oI h|exact nah h)|(rename_i _ h _ g;exact sL h g)|decide|omega|(refine A0 [] ?_;simp only[↓eB,seval,go_sem,bne,Bz,hr])
   |mk k' n' s' a' b'=>
    cases m1:IC f (.mk k' n' s' a' b') with
    |true=>
     have hr:rsS f (.mk k x y (.mk k' n' s' a' b') g cd ar th el no)=(.mk 2 x s' .nil .nil .nil [] [] [] no,true):=by simp[rsS,k0,m0,m1,Ex.nm]
     simp only[↓eB,seval,go_sem,Hg,k0,m0,m1]
     try simp only[A1,A2]
     repeat' first|exact ck|with_reducible apply And.intro|intro _
     all_goals first|exact hc1|(rename_i h;first|exact oI h|exact nah h)|(rename_i _ h _ g;exact sL h g)|decide|omega|(refine A0 [] ?_;simp only[↓eB,seval,go_sem,bne,Bz,hr])
    |false=>
     have hr:rsS f (.mk k x y (.mk k' n' s' a' b') g cd ar th el no)=(.mk k x y (.mk k' n' s' a' b') g cd ar th el no,false):=by simp[rsS,k0,m0,m1]
     simp only[↓eB,seval,go_sem,k0,m0,m1]
     try simp only[A1,A2]
     repeat' first|exact ck|with_reducible apply And.intro|intro _
     all_goals first|exact hc1|(rename_i h;first|exact oI h|exact nah h)|(rename_i _ h _ g;exact sL h g)|decide|omega|(refine A0 [] ?_;simp only[↓eB,seval,go_sem,bne,Bz,hr])
  |false=>
   have hr:rsS f (.mk k x y e g cd ar th el no)=(.mk k x y e g cd ar th el no,DL f e):=by simp[rsS,k0,m0]
   simp only[↓eB,seval,go_sem,k0,m0]
   try simp only[A1,A2]
   repeat' first|exact ck|with_reducible apply And.intro|intro _
   all_goals first|exact hc1|(rename_i h;first|exact oI h|exact nah h)|(rename_i _ h _ g;exact sL h g)|decide|omega|(refine A0 [] ?_;simp only[↓eB,seval,go_sem,bne,Bz,hr])
 |false=>
 cases k2:(k==2) with
 |true=>
  have hr:rsS f (.mk k x y e g cd ar th el no)=((.mk k x y e g cd ar th el no),Bg f x==2&&Bg f y==2):=by simp[rsS,k0,k2]
  simp only[↓eB,seval,go_sem,k0,k2]
  try simp only[A1,A2]
  repeat' first|exact ck|with_reducible apply And.intro|intro _
  all_goals first|exact hc1|(rename_i h;first|exact oI h|exact nah h)|(rename_i _ h _ g;exact sL h g)|decide|omega|(refine A0 [] ?_;simp only[↓eB,seval,go_sem,bne,Bz,hr])
 |false=>
 cases k1:(k==1) with
 |true=>
  have hr:rsS f (.mk k x y e g cd ar th el no)=((.mk k x y e g cd ar th el no),Bg f x==2&&Bg f y==0):=by simp[rsS,k0,k2,k1]
  simp only[↓eB,seval,go_sem,k0,k2,k1]
  try simp only[A1,A2]
  repeat' first|exact ck|with_reducible apply And.intro|intro _
  all_goals first|exact hc1|(rename_i h;first|exact oI h|exact nah h)|(rename_i _ h _ g;exact sL h g)|decide|omega|(refine A0 [] ?_;simp only[↓eB,seval,go_sem,bne,Bz,hr])
 |false=>
 cases k3:(k==3) with
 |true=>
  have hr:rsS f (.mk k x y e g cd ar th el no)=((.mk k x y e g cd ar th el no),Bg f x==2):=by simp[rsS,k0,k2,k1,k3]
  simp only[↓eB,seval,go_sem,k0,k2,k1,k3]
  try simp only[A1,A2]
  repeat' first|exact ck|with_reducible apply And.intro|intro _
  all_goals first|exact hc1|(rename_i h;first|exact oI h|exact nah h)|(rename_i _ h _ g;exact sL h g)|decide|omega|(refine A0 [] ?_;simp only[↓eB,seval,go_sem,bne,Bz,hr])
 |false=>
 cases k4:(k==4) with
 |true=>
  have hr:rsS f (.mk k x y e g cd ar th el no)=((.mk k x y e g cd ar th el no),Bg f x != 2&&Bg f y==2):=by simp[rsS,k0,k2,k1,k3,k4]
  simp only[↓eB,seval,go_sem,k0,k2,k1,k3,k4]
  try simp only[A1,A2]
  repeat' first|exact ck|with_reducible apply And.intro|intro _
  all_goals first|exact hc1|(rename_i h;first|exact oI h|exact nah h)|(rename_i _ h _ g;exact sL h g)|decide|omega|(refine A0 [] ?_;simp only[↓eB,seval,go_sem,bne,Bz,hr])
 |false=>
 cases k5:(k==5) with
 |true=>
  have hr:rsS f (.mk k x y e g cd ar th el no)=((.mk k x y e g cd ar th el no),Bg f x==2&&DL f e):=by simp[rsS,k0,k2,k1,k3,k4,k5]
  simp only[↓eB,seval,go_sem,k0,k2,k1,k3,k4,k5]
  try simp only[A1,A2]
  repeat' first|exact ck|with_reducible apply And.intro|intro _
  all_goals first|exact hc1|(rename_i h;first|exact oI h|exact nah h)|(rename_i _ h _ g;exact sL h g)|decide|omega|(refine A0 [] ?_;simp only[↓eB,seval,go_sem,bne,Bz,hr])
 |false=>
 cases k6:(k==6) with
 |true=>
  have hr:rsS f (.mk k x y e g cd ar th el no)=((.mk k x y e g cd ar th el no),Bg f x != 2&&Bg f y==0&&DL f e):=by simp[rsS,k0,k2,k1,k3,k4,k5,k6]
  simp only[↓eB,seval,go_sem,k0,k2,k1,k3,k4,k5,k6]
  try simp only[A1,A2]
  repeat' first|exact ck|with_reducible apply And.intro|intro _
  all_goals first|exact hc1|(rename_i h;first|exact oI h|exact nah h)|(rename_i _ h _ g;exact sL h g)|decide|omega|(refine A0 [] ?_;simp only[↓eB,seval,go_sem,bne,Bz,hr])
 |false=>
 cases k7:(k==7) with
 |true=>
  have hr:rsS f (.mk k x y e g cd ar th el no)=((.mk k x y e g cd ar th el no),Bg f y==0&&DL f e&&DL f g):=by simp[rsS,k0,k2,k1,k3,k4,k5,k6,k7]
  simp only[↓eB,seval,go_sem,k0,k2,k1,k3,k4,k5,k6,k7]
  try simp only[A1,A2]
  repeat' first|exact ck|with_reducible apply And.intro|intro _
  all_goals first|exact hc1|(rename_i h;first|exact oI h|exact nah h)|(rename_i _ h _ g;exact sL h g)|decide|omega|(refine A0 [] ?_;simp only[↓eB,seval,go_sem,bne,Bz,hr])
 |false=>
 cases k8:(k==8) with
 |true=>
  simp only[↓eB,seval,go_sem,k0,k2,k1,k3,k4,k5,k6,k7,k8]
  refine⟨hc1,hc1,M8 (by kernel_rfl),⟨fun q h=>(by cases h;rfl),Ec.stor,by omega,by omega⟩,?_⟩
  refine AH (Y:=List Ar×List Ar×Bool) (fun z=>z.1.length+z.2.1.length≤5000∧(∀a∈z.2.1,a.e.dp<n)∧z.1++raL f z.2.1=raL f ar∧(z.2.2&&raB f z.2.1)=((x==[]||Bg f x != 2)&&Bg f y==0&&raB f ar))
   (fun z=>⟨[(2,true,.one (.p 2 0 0)),(3,true,.one (.p 3 0 0)),(4,true,.one (.p 4 0 0)),(8,true,.one (.v (.bool z.2.2))),(9,true,.one (.s 1000)),(10,true,.one (.v (.int .i64 (z.1.length:Int))))],
    [(2,.vec 0 fl4 [f.c]),(3,.vec 0 jv [(Sm.mk k x y e g cd ar th el no).c]),(4,.vec 0 jv [zSc]),(1000,.vec 0 zAc ((z.1++z.2.1).map Ar.c))]⟩)
   (fun z=>z.2.1.length) ([],ar,(x==[]||Bg f x != 2)&&Bg f y==0) ⟨by simpa using hal,har,rfl,rfl⟩ ?_ ?_
  ·refine A4 [.mv 132 1000] ?_;simp only[↓eB,seval,go_sem,Ec.mv,Ec.fn]
  ·rintro ⟨d,r,b⟩ ⟨g1,g2,g3,g4⟩
   refine Ab [Do,OZ,GF n (TT n),M0 n (Ud n)] [] _ _ _ ?_
   dsimp only at g1 g2 g3 g4
   cases r with
   |nil=>
    simp only[List.append_nil,raL,raB,List.map_nil,List.all_nil,Bool.and_true]at g3 g4
    have h1:=Ao (Nat.le_refl d.length)
    have hr:rsS f (.mk k x y e g cd ar th el no)=(.mk k x y e g cd d th el no,b):=by
     simp[rsS,k0,k1,k2,k3,k4,k5,k6,k7,k8];exact⟨by rw[g3];rfl,by rw[g4];simp[raB]⟩
    simp only[↓eB,seval,go_sem,h1]
    refine A0 [.fz 1000] ?_;simp only[↓eB,seval,go_sem,bne,Bz,hr,Ec.ds,Ec.fz,zAr]
   |cons a r'=>
    have hL:(d++a::r')[d.length]?=some a:=by simp
    have hlt:d.length<(d++a::r').length:=by simp
    have hsm:(d++a::r').length≤4294967296:=by simp only[List.length_append,List.length_cons]at g1 ⊢;omega
    have hD:d++a::r'=(d++[a])++r':=by simp
    have h1:=Ah hlt
    have h2:=AX hlt
    have h3:=nC hL
    have h4:=AM (Nat.le_of_lt hlt) hsm
    have hae:=g2 a (List.mem_cons_self ..)
    have g2':∀a∈r',a.e.dp<n:=fun a h=>g2 a (List.mem_cons_of_mem _ h)
    have g1':((d++[(raS f a).1]).length+r'.length)≤5000:=by simp only[jL3]at g1 ⊢;omega
    have g3':(d++[(raS f a).1])++raL f r'=raL f ar:=by rw[← g3];simp[raL]
    have g4':((b&&(raS f a).2)&&raB f r')=((x==[]||Bg f x != 2)&&Bg f y==0&&raB f ar):=by rw[← g4];simp[raB,Bool.and_assoc]
    have hn:(d++[(raS f a).1]).length=d.length+1:=by simp
    obtain⟨p,s,e0⟩:=a
    dsimp only at hae
    cases p with
    |true=>
     have ha:raS f ⟨true,s,e0⟩=(⟨true,s,e0⟩,Bg f s==2):=by simp[raS]
     rw[ha]at g1' g3' g4' hn
     dsimp only at g1' g3' g4' hn
     simp only[↓eB,seval,go_sem,h1,h2,h3,h4]
     try simp only[A1,A2]
     repeat' first|exact ck|with_reducible apply And.intro|intro _
     all_goals try first|exact hc1|exact hlt|exact hae|(rename_i h;first|exact oI h|exact nah h)|(rename_i _ h _ g;exact sL h g)|decide|omega
     refine⟨(d++[⟨true,s,e0⟩],r',b&&Bg f s==2),⟨g1',g2',g3',g4'⟩,Nat.lt_succ_self _,A4 [] ?_⟩
     simp only[↓eB,seval,go_sem,Ec.fn,append_assoc,List.singleton_append,hn]
    |false=>
    cases e0 with
    |nil=>
     have ha:raS f ⟨false,s,.nil⟩=(⟨false,s,.nil⟩,DL f .nil):=by simp[raS,IC]
     rw[ha]at g1' g3' g4' hn
     dsimp only at g1' g3' g4' hn
     simp only[↓eB,seval,go_sem,h1,h2,h3,h4,IC]
     try simp only[A1,A2]
     repeat' first|exact ck|with_reducible apply And.intro|intro _
     all_goals try first|exact hc1|exact hlt|exact hae|(rename_i h;first|exact oI h|exact nah h)|(rename_i _ h _ g;exact sL h g)|decide|omega
     refine⟨(d++[⟨false,s,.nil⟩],r',b&&DL f .nil),⟨g1',g2',g3',g4'⟩,Nat.lt_succ_self _,A4 [] ?_⟩
     simp only[↓eB,seval,go_sem,Ec.fn,append_assoc,List.singleton_append,hn]
    |mk k' n' s' a' b'=>
    cases m1:IC f (.mk k' n' s' a' b') with
    |true=>
     have ha:raS f ⟨false,s,.mk k' n' s' a' b'⟩=(⟨true,s',.nil⟩,true):=by simp[raS,m1,Ex.nm]
     rw[ha]at g1' g3' g4' hn
     dsimp only at g1' g3' g4' hn
     simp only[Bool.and_true]at g4'
     have h5:((d++⟨false,s,.mk k' n' s' a' b'⟩::r').map Ar.c).set d.length [.v (.bool true),.v (.string (bs s')),.v (.pointer none)]=(d++⟨true,s',.nil⟩::r').map Ar.c:=by rw[map_append,map_append,List.set_append_right _ _ (by simp)];simp[Ar.c,B3]
     simp only[↓eB,seval,go_sem,h1,h2,h3,h4,Hg,m1,h5]
     try simp only[A1,A2]
     repeat' first|exact ck|with_reducible apply And.intro|intro _
     all_goals try first|exact hc1|exact hlt|exact hae|(rename_i h;first|exact oI h|exact nah h)|(rename_i _ h _ g;exact sL h g)|decide|omega
     refine⟨(d++[⟨true,s',.nil⟩],r',b),⟨g1',g2',g3',g4'⟩,Nat.lt_succ_self _,A4 [] ?_⟩
     simp only[↓eB,seval,go_sem,Ec.fn,append_assoc,List.singleton_append,hn]
    |false=>
     have ha:raS f ⟨false,s,.mk k' n' s' a' b'⟩=(⟨false,s,.mk k' n' s' a' b'⟩,DL f (.mk k' n' s' a' b')):=by simp[raS,m1]
     rw[ha]at g1' g3' g4' hn
     dsimp only at g1' g3' g4' hn
     simp only[↓eB,seval,go_sem,h1,h2,h3,h4,m1]
     try simp only[A1,A2]
     repeat' first|exact ck|with_reducible apply And.intro|intro _
     all_goals try first|exact hc1|exact hlt|exact hae|(rename_i h;first|exact oI h|exact nah h)|(rename_i _ h _ g;exact sL h g)|decide|omega
     refine⟨(d++[⟨false,s,.mk k' n' s' a' b'⟩],r',b&&DL f (.mk k' n' s' a' b')),⟨g1',g2',g3',g4'⟩,Nat.lt_succ_self _,A4 [] ?_⟩
     simp only[↓eB,seval,go_sem,Ec.fn,append_assoc,List.singleton_append,hn]
 |false=>
 cases k9:(k==9) with
 |true=>
  have hr:rsS f (.mk k x y e g cd ar th el no)=((.mk k x y e g cd ar th el no),DL f e):=by simp[rsS,k0,k2,k1,k3,k4,k5,k6,k7,k8,k9]
  simp only[↓eB,seval,go_sem,k0,k2,k1,k3,k4,k5,k6,k7,k8,k9]
  try simp only[A1,A2]
  repeat' first|exact ck|with_reducible apply And.intro|intro _
  all_goals first|exact hc1|(rename_i h;first|exact oI h|exact nah h)|(rename_i _ h _ g;exact sL h g)|decide|omega|(refine A0 [] ?_;simp only[↓eB,seval,go_sem,bne,Bz,hr])
 |false=>
 have hr:rsS f (.mk k x y e g cd ar th el no)=((.mk k x y e g cd ar th el no),Pk f cd):=by simp[rsS,k0,k2,k1,k3,k4,k5,k6,k7,k8,k9]
 simp only[↓eB,seval,go_sem,k0,k2,k1,k3,k4,k5,k6,k7,k8,k9]
 try simp only[A1,A2]
 repeat' first|exact ck|with_reducible apply And.intro|intro _
 all_goals first|exact hc1|(rename_i h;first|exact oI h|exact nah h)|(rename_i _ h _ g;exact sL h g)|decide|omega|(refine A0 [] ?_;simp only[↓eB,seval,go_sem,bne,Bz,hr])
end Go.Proofs.YtbiepiggmagfcaaGreatDoor
