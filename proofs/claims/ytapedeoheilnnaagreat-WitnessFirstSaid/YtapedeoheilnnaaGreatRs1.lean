/- Names of a function: of what kind they are. No conditions but those in each statement. -/
import Derived.Test.YtapedeoheilnnaaGreatPa1
import Derived.Test.YtapedeoheilnnaaGreatGs
set_option linter.all false
set_option maxRecDepth 20000
set_option maxHeartbeats 16000000
open List (append_assoc map_append)
namespace Go.Proofs.YtapedeoheilnnaaGreat
open Go Go.Sy Go.RowKit
theorem By{P:Prop}(h:P:=by
 repeat refine AX ?_
 refine A1 [] ?_;simp only[seval,go_sem,bne,Es,hr,A8,A9,Bi,Be,Bj,Cx,Bk,Bl,CJ,CK,AM,A4,A5,AF,CE,Af,BD]):P:=h
theorem oF{P:Prop}(h:P:=by simp only[seval,go_sem,IE.fn,append_assoc,List.singleton_append,hn,fl4,C3,zSc,zAc,Ar.c]):P:=h
def El(nm:List UInt8):List Vr->Int
 |[]=>0
 |v::l=>if (v.s==nm)=true then (if v.p=true then 2 else 1) else El nm l
def AK(f:Fn)(nm:List UInt8):Int:=El nm (f.ps++f.ls)
abbrev sU(f:Fn)(nm:List UInt8):Prop:=okF f
abbrev Po(f:Fn)(nm:List UInt8):SV:=.one (.v (.int .i64 (AK f nm)))
noncomputable abbrev WX:ArgC ((Fn)×(List UInt8)×Unit):=(acS (cFn) (acS (cStr) ac0))
abbrev sV:Prop:=Ca Tryz.prog 101 WX (λp:(Fn)×(List UInt8)×Unit=>sU p.1 p.2.1) (λp:(Fn)×(List UInt8)×Unit=>Po p.1 p.2.1)
theorem xz:sV:=by
 rintro ⟨f,nm,_u⟩ w fz xs hc hfz hl hx
 refine Bg Tryz.func101 rfl w fz [] [] WX (λp:(Fn)×(List UInt8)×Unit=>Po p.1 p.2.1) _ xs hfz hl hx (jN rfl) ?_
 clear hx hl hfz xs
 simp only[Tryz.f101]
 obtain⟨hc1,hc2⟩:=hc
 dsimp only at hc1 hc2
 simp only[seval,go_sem,A8,A9,Bi,Be,Bj,Bk,Bl,Fn.c,AM,A4,A5,AF,Gr]
 refine⟨⟨λq h=>(by cases h;rfl),Y5 _ ct _,by omega,by omega⟩,⟨λq h=>(by cases h;rfl),Y5 _ ct _,by omega,by omega⟩,Bn (by kernel_rfl),?_⟩
 refine AC (Y:=Nat) (λi=>i<=(f.ps++f.ls).length/\El nm ((f.ps++f.ls).drop i)=AK f nm)
  (λi=>⟨[(1,true,.one (.v (.string (bs nm)))),(5,true,.one (.s 1000)),(6,true,.one (.v (.int .i64 (i:Int))))],[(1000,.vec 0 zVc ((f.ps++f.ls).map Vr.c))]⟩)
  (λi=>(f.ps++f.ls).length-i) 0 ⟨Nat.zero_le _,rfl⟩ ?_ ?_
 .refine A2 [.mv 12 1000] ?_;simp only[seval,go_sem,Dd.mv,Dd.fn,zVc,map_append,List.flatMap_append]
 rintro i ⟨hi,hJ⟩
 refine AP [] [] _ _ _ ?_
 have hsm:(f.ps++f.ls).length<=4294967296:=by simp only[List.length_append];omega
 generalize f.ps++f.ls=L at hi hJ hsm ⊢
 cases hx:L[i]? with
 |none=>
  have hi2:L.length<=i:=List.getElem?_eq_none_iff.1 hx
  have h1:=Ai hi2
  rw[List.drop_eq_nil_of_le hi2]at hJ
  have hR:AK f nm=0:=hJ.symm
  simp only[seval,go_sem,h1]
  refine A1 [] ?_;simp only[seval,go_sem,bne,Po,hR]
 |some x=>
 have hlt:i<L.length:=(List.getElem?_eq_some_iff.1 hx).1
 have h1:=Ah hlt
 have h2:=GU hlt
 have h3:=fG hx
 have h4:=FH hi hsm
 rw[BF hx]at hJ
 simp only[El]at hJ
 simp only[seval,go_sem,h1,h2,h3,h4,zVc,Vr.c]
 simp only[AD,AE]
 refine⟨hlt,hlt,λhb=>⟨hlt,hlt,λhc=>?_,λhc=>?_⟩,λhb=>?_⟩
 .rw[if_pos hb,if_pos hc]at hJ
  refine A1 [] ?_;simp only[seval,go_sem,bne,Po,<- hJ]
 .rw[if_pos hb,if_neg (by rw[hc];decide)]at hJ
  refine A1 [] ?_;simp only[seval,go_sem,bne,Po,<- hJ]
 rw[if_neg (by rw[hb];decide)]at hJ
 refine⟨i+1,⟨hlt,hJ⟩,by omega,A2 [] ?_⟩
 simp only[seval,go_sem,Dd.fn]
theorem KF6{p:Prop}(h:p:=by intro p;first|rfl|exact M2 _|exact Rl _):p:=h
noncomputable def DD{X:Ctx}{w0:World}:Sy.Spec Tryz.prog X w0:=Dq 101 Tryz.call101 WX _ _ KF6 xz
def Ld(f:Fn):Ex->Bool
 | .nil=>false
 | .mk k _ s _ _=>k==1&&AK f s==2
abbrev fH(f:Fn)(e:Ex):Prop:=okF f
abbrev Mz(f:Fn)(e:Ex):SV:=.one (.v (.bool (Ld f e)))
noncomputable abbrev Qt:ArgC ((Fn)×(Ex)×Unit):=(acS (cFn) (acS (cEx) ac0))
abbrev fJ:Prop:=Ca Tryz.prog 102 Qt (λp:(Fn)×(Ex)×Unit=>fH p.1 p.2.1) (λp:(Fn)×(Ex)×Unit=>Mz p.1 p.2.1)
attribute[local go_sem] Fn.c Bl Bk Be Bi Bj A9 A8 AM A5 A4 AF DD in
theorem iT:fJ:=by
 rintro ⟨f,e,_u⟩ w fz xs hc hfz hl hx
 refine Bg Tryz.func102 rfl w fz [DD] [] Qt (λp:(Fn)×(Ex)×Unit=>Mz p.1 p.2.1) _ xs hfz hl hx (jN rfl) ?_
 clear hx hl hfz xs
 simp only[Tryz.f102]
 have hc1:okF f:=hc
 cases e with
 |nil=>
  simp only[seval,go_sem,Af]
  repeat refine AX ?_
  refine A1 [] ?_;simp only[seval,go_sem,bne,Mz,Ld]
 |mk k n s a b=>
 simp only[seval,go_sem,EU]
 repeat refine AX ?_
 refine A1 [] ?_;simp only[seval,go_sem,bne,Mz,Ld]
noncomputable def Cl{X:Ctx}{w0:World}:Sy.Spec Tryz.prog X w0:=Dq 102 Tryz.call102 Qt _ _ KF6 iT
def D9(f:Fn):Ex->Bool
 | .nil=>true
 | .mk k _ s a b=>if (k==1)=true then AK f s != 2 else D9 f a&&D9 f b
def J2(f:Fn):Cd->Bool
 | .nil=>true
 | .mk k a b p q s=>if (k==9)=true then AK f s==2 else D9 f a&&D9 f b&&J2 f p&&J2 f q
abbrev sW(n:Nat)(f:Fn)(e:Ex):Prop:=okF f/\e.dp<n
abbrev Pp(n:Nat)(f:Fn)(e:Ex):SV:=.one (.v (.bool (D9 f e)))
noncomputable abbrev WY:ArgC ((Fn)×(Ex)×Unit):=(acS (cFn) (acS (cEx) ac0))
abbrev T1(n:Nat):Prop:=Ca Tryz.prog 103 WY (λp:(Fn)×(Ex)×Unit=>sW n p.1 p.2.1) (λp:(Fn)×(Ex)×Unit=>Pp n p.1 p.2.1)
noncomputable def De{X:Ctx}{w0:World}(n:Nat)(h:T1 n):Sy.Spec Tryz.prog X w0:=Dq 103 Tryz.call103 WY _ _ KF6 h
attribute[local go_sem] Fn.c Bl Bk Be Bi Bj A9 A8 AM A5 A4 AF De DD in
theorem sX(n:Nat)(hu:T1 n):T1 (n+1):=by
 rintro ⟨f,e,_u⟩ w fz xs hc hfz hl hx
 refine Bg Tryz.func103 rfl w fz [DD,(De n hu)] [] WY (λp:(Fn)×(Ex)×Unit=>Pp (n+1) p.1 p.2.1) _ xs hfz hl hx (jN rfl) ?_
 clear hx hl hfz xs
 simp only[Tryz.f103]
 obtain⟨hc1,hc2⟩:=hc
 dsimp only at hc1 hc2
 cases e with
 |nil=>
  simp only[seval,go_sem,Af]
  repeat refine AX ?_
  refine A1 [] ?_;simp only[seval,go_sem,bne,Pp,D9]
 |mk k n' s a b=>
 simp only[Ex.dp]at hc2
 cases hk:(k==1) with
 |true=>
  simp only[seval,go_sem,EU,hk]
  repeat refine AX ?_
  refine A1 [] ?_;simp only[seval,go_sem,bne,Pp,D9,hk]
 |false=>
 simp only[seval,go_sem,EU,hk]
 repeat refine AX ?_
 refine A1 [] ?_;simp only[seval,go_sem,bne,Pp,D9,hk]
theorem VJ:∀n:Nat,T1 n
 |0=>by
  rintro ⟨f,e,_u⟩ w fz xs hc hfz hl hx
  exact absurd hc.2 (Nat.not_lt_zero _)
 |n+1=>sX n (VJ n)
abbrev mW(n:Nat)(f:Fn)(e:Cd):Prop:=okF f/\e.dp<n
abbrev Nz(n:Nat)(f:Fn)(e:Cd):SV:=.one (.v (.bool (J2 f e)))
noncomputable abbrev UT:ArgC ((Fn)×(Cd)×Unit):=(acS (cFn) (acS (cCd) ac0))
abbrev Qu(n:Nat):Prop:=Ca Tryz.prog 104 UT (λp:(Fn)×(Cd)×Unit=>mW n p.1 p.2.1) (λp:(Fn)×(Cd)×Unit=>Nz n p.1 p.2.1)
noncomputable def DO{X:Ctx}{w0:World}(n:Nat)(h:Qu n):Sy.Spec Tryz.prog X w0:=Dq 104 Tryz.call104 UT _ _ KF6 h
attribute[local go_sem] Fn.c Bl Bk Be Bi Bj A9 A8 AM A5 A4 AF DO De DD in
theorem mY(n:Nat)(hu:Qu n):Qu (n+1):=by
 rintro ⟨f,e,_u⟩ w fz xs hc hfz hl hx
 refine Bg Tryz.func104 rfl w fz [DD,(De n (VJ n)),(DO n hu)] [] UT (λp:(Fn)×(Cd)×Unit=>Nz (n+1) p.1 p.2.1) _ xs hfz hl hx (jN rfl) ?_
 clear hx hl hfz xs
 simp only[Tryz.f104]
 obtain⟨hc1,hc2⟩:=hc
 dsimp only at hc1 hc2
 cases e with
 |nil=>
  simp only[seval,go_sem,BD]
  repeat refine AX ?_
  refine A1 [] ?_;simp only[seval,go_sem,bne,Nz,J2]
 |mk k a b p q s=>
 simp only[Cd.dp]at hc2
 cases hk:(k==9) with
 |true=>
  simp only[seval,go_sem,EF,hk]
  repeat refine AX ?_
  refine A1 [] ?_;simp only[seval,go_sem,bne,Nz,J2,hk]
 |false=>
 simp only[seval,go_sem,EF,hk]
 repeat refine AX ?_
 refine A1 [] ?_;simp only[seval,go_sem,bne,Nz,J2,hk]
theorem WZ:∀n:Nat,Qu n
 |0=>by
  rintro ⟨f,e,_u⟩ w fz xs hc hfz hl hx
  exact absurd hc.2 (Nat.not_lt_zero _)
 |n+1=>mY n (WZ n)
def Ex.nm:Ex->List UInt8
 | .nil=>[]
 | .mk _ _ s _ _=>s
def raS(f:Fn)(a:Ar):Ar×Bool:=if a.p=true then (a,AK f a.s==2) else if Ld f a.e=true then (⟨true,a.e.nm,.nil⟩,true) else (a,D9 f a.e)
def raL(f:Fn)(l:List Ar):List Ar:=l.map (λa=>(raS f a).1)
def raB(f:Fn)(l:List Ar):Bool:=l.all (λa=>(raS f a).2)
def rsS(f:Fn):Sm->Sm×Bool
 | .mk k x y e g cd ar th el no=>
  if (k==0)=true then
   if (AK f x==2)=true then if Ld f e=true then (.mk 2 x e.nm .nil .nil .nil [] [] [] no,true) else (.mk k x y e g cd ar th el no,false)
   else (.mk k x y e g cd ar th el no,D9 f e)
  else if (k==2)=true then (.mk k x y e g cd ar th el no,AK f x==2&&AK f y==2)
  else if (k==1)=true then (.mk k x y e g cd ar th el no,AK f x==2&&AK f y==0)
  else if (k==3)=true then (.mk k x y e g cd ar th el no,AK f x==2)
  else if (k==4)=true then (.mk k x y e g cd ar th el no,AK f x != 2&&AK f y==2)
  else if (k==5)=true then (.mk k x y e g cd ar th el no,AK f x==2&&D9 f e)
  else if (k==6)=true then (.mk k x y e g cd ar th el no,AK f x != 2&&AK f y==0&&D9 f e)
  else if (k==7)=true then (.mk k x y e g cd ar th el no,AK f y==0&&D9 f e&&D9 f g)
  else if (k==8)=true then (.mk k x y e g cd (raL f ar) th el no,(x==[]||AK f x != 2)&&AK f y==0&&raB f ar)
  else if (k==9)=true then (.mk k x y e g cd ar th el no,D9 f e)
  else (.mk k x y e g cd ar th el no,J2 f cd)
abbrev oH(n:Nat)(f:Fn)(s:Sm):Prop:=okF f/\OkS n s
abbrev Es(n:Nat)(f:Fn)(s:Sm):SV:=.tup [.inr (rsS f s).1.c,.inl (.v (.bool (rsS f s).2))]
noncomputable abbrev Up:ArgC ((Fn)×(Sm)×Unit):=(acS (cFn) (acS (cSm) ac0))
abbrev aO(n:Nat):Prop:=Ca Tryz.prog 80 Up (λp:(Fn)×(Sm)×Unit=>oH n p.1 p.2.1) (λp:(Fn)×(Sm)×Unit=>Es n p.1 p.2.1)
noncomputable def Ja{X:Ctx}{w0:World}(n:Nat)(h:aO n):Sy.Spec Tryz.prog X w0:=Dq 80 Tryz.call80 Up _ _ (id (by intro p;exact xy _ _)) h
attribute [local go_sem] Fn.c Sm.ar Sm.c Sm.cd Sm.e Sm.el Sm.f Sm.k Sm.no Sm.th Sm.x Sm.y
theorem y_rstmt(n:Nat):aO n:=by
 rintro ⟨f,s,_u⟩ w fz xs hc hfz hl hx
 refine Bg Tryz.func80 rfl w fz [DD,Cl,(De n (VJ n)),(DO n (WZ n))] [] Up (λp:(Fn)×(Sm)×Unit=>Es n p.1 p.2.1) _ xs hfz hl hx (jN rfl) ?_
 clear hx hl hfz xs
 simp only[Tryz.f80]
 obtain⟨hc1,hc2⟩:=hc
 dsimp only at hc1 hc2
 obtain⟨k,x,y,e,g,cd,ar,th,el,no⟩:=s
 obtain⟨he,hg,hcd,har,hal⟩:=hc2
 dsimp only[Sm.e,Sm.f,Sm.cd,Sm.ar]at he hg hcd har hal
 cases k0:(k==0) with
 |true=>
  cases m0:(AK f x==2) with
  |true=>
   cases e with
   |nil=>
    have hr:rsS f (.mk k x y .nil g cd ar th el no)=(.mk k x y .nil g cd ar th el no,false):=by simp[rsS,k0,m0,Ld]
    simp only[seval,go_sem,DD,Cl,De,DO,A8,A9,Bi,Be,Bj,Cx,Bk,Bl,CJ,CK,AM,A4,A5,AF,CE,Af,BD,k0,m0,Ld]
    exact By
   |mk k' n' s' a' b'=>
   cases m1:Ld f (.mk k' n' s' a' b') with
   |true=>
    have hr:rsS f (.mk k x y (.mk k' n' s' a' b') g cd ar th el no)=(.mk 2 x s' .nil .nil .nil [] [] [] no,true):=by simp[rsS,k0,m0,m1,Ex.nm]
    simp only[seval,go_sem,DD,Cl,De,DO,A8,A9,Bi,Be,Bj,Cx,Bk,Bl,CJ,CK,AM,A4,A5,AF,CE,Af,BD,EU,k0,m0,m1]
    exact By
   |false=>
   have hr:rsS f (.mk k x y (.mk k' n' s' a' b') g cd ar th el no)=(.mk k x y (.mk k' n' s' a' b') g cd ar th el no,false):=by simp[rsS,k0,m0,m1]
   simp only[seval,go_sem,DD,Cl,De,DO,A8,A9,Bi,Be,Bj,Cx,Bk,Bl,CJ,CK,AM,A4,A5,AF,CE,Af,BD,k0,m0,m1]
   exact By
  |false=>
  have hr:rsS f (.mk k x y e g cd ar th el no)=(.mk k x y e g cd ar th el no,D9 f e):=by simp[rsS,k0,m0]
  simp only[seval,go_sem,DD,Cl,De,DO,A8,A9,Bi,Be,Bj,Cx,Bk,Bl,CJ,CK,AM,A4,A5,AF,CE,Af,BD,k0,m0]
  exact By
 |false=>
 cases k2:(k==2) with
 |true=>
  have hr:rsS f (.mk k x y e g cd ar th el no)=((.mk k x y e g cd ar th el no),AK f x==2&&AK f y==2):=by simp[rsS,k0,k2]
  simp only[seval,go_sem,DD,Cl,De,DO,A8,A9,Bi,Be,Bj,Cx,Bk,Bl,CJ,CK,AM,A4,A5,AF,CE,Af,BD,k0,k2]
  exact By
 |false=>
 cases k1:(k==1) with
 |true=>
  have hr:rsS f (.mk k x y e g cd ar th el no)=((.mk k x y e g cd ar th el no),AK f x==2&&AK f y==0):=by simp[rsS,k0,k2,k1]
  simp only[seval,go_sem,DD,Cl,De,DO,A8,A9,Bi,Be,Bj,Cx,Bk,Bl,CJ,CK,AM,A4,A5,AF,CE,Af,BD,k0,k2,k1]
  exact By
 |false=>
 cases k3:(k==3) with
 |true=>
  have hr:rsS f (.mk k x y e g cd ar th el no)=((.mk k x y e g cd ar th el no),AK f x==2):=by simp[rsS,k0,k2,k1,k3]
  simp only[seval,go_sem,DD,Cl,De,DO,A8,A9,Bi,Be,Bj,Cx,Bk,Bl,CJ,CK,AM,A4,A5,AF,CE,Af,BD,k0,k2,k1,k3]
  exact By
 |false=>
 cases k4:(k==4) with
 |true=>
  have hr:rsS f (.mk k x y e g cd ar th el no)=((.mk k x y e g cd ar th el no),AK f x != 2&&AK f y==2):=by simp[rsS,k0,k2,k1,k3,k4]
  simp only[seval,go_sem,DD,Cl,De,DO,A8,A9,Bi,Be,Bj,Cx,Bk,Bl,CJ,CK,AM,A4,A5,AF,CE,Af,BD,k0,k2,k1,k3,k4]
  exact By
 |false=>
 cases k5:(k==5) with
 |true=>
  have hr:rsS f (.mk k x y e g cd ar th el no)=((.mk k x y e g cd ar th el no),AK f x==2&&D9 f e):=by simp[rsS,k0,k2,k1,k3,k4,k5]
  simp only[seval,go_sem,DD,Cl,De,DO,A8,A9,Bi,Be,Bj,Cx,Bk,Bl,CJ,CK,AM,A4,A5,AF,CE,Af,BD,k0,k2,k1,k3,k4,k5]
  exact By
 |false=>
 cases k6:(k==6) with
 |true=>
  have hr:rsS f (.mk k x y e g cd ar th el no)=((.mk k x y e g cd ar th el no),AK f x != 2&&AK f y==0&&D9 f e):=by simp[rsS,k0,k2,k1,k3,k4,k5,k6]
  simp only[seval,go_sem,DD,Cl,De,DO,A8,A9,Bi,Be,Bj,Cx,Bk,Bl,CJ,CK,AM,A4,A5,AF,CE,Af,BD,k0,k2,k1,k3,k4,k5,k6]
  exact By
 |false=>
 cases k7:(k==7) with
 |true=>
  have hr:rsS f (.mk k x y e g cd ar th el no)=((.mk k x y e g cd ar th el no),AK f y==0&&D9 f e&&D9 f g):=by simp[rsS,k0,k2,k1,k3,k4,k5,k6,k7]
  simp only[seval,go_sem,DD,Cl,De,DO,A8,A9,Bi,Be,Bj,Cx,Bk,Bl,CJ,CK,AM,A4,A5,AF,CE,Af,BD,k0,k2,k1,k3,k4,k5,k6,k7]
  exact By
 |false=>
 cases k8:(k==8) with
 |true=>
  simp only[seval,go_sem,DD,Cl,De,DO,A8,A9,Bi,Be,Bj,Cx,Bk,Bl,CJ,CK,AM,A4,A5,AF,CE,Af,BD,k0,k2,k1,k3,k4,k5,k6,k7,k8]
  refine⟨hc1,hc1,Bn (by kernel_rfl),⟨λq h=>(by cases h;rfl),IE.stor,by omega,by omega⟩,?_⟩
  refine AC (Y:=List Ar×List Ar×Bool) (λz=>z.1.length+z.2.1.length<=5000/\(∀a∈z.2.1,a.e.dp<n)/\z.1++raL f z.2.1=raL f ar/\(z.2.2&&raB f z.2.1)=((x==[]||AK f x != 2)&&AK f y==0&&raB f ar))
   (λz=>⟨[(2,true,.one (.p 2 0 0)),(3,true,.one (.p 3 0 0)),(4,true,.one (.p 4 0 0)),(8,true,.one (.v (.bool z.2.2))),(9,true,.one (.s 1000)),(10,true,.one (.v (.int .i64 (z.1.length:Int))))],
    [(2,.vec 0 fl4 [f.c]),(3,.vec 0 C3 [(Sm.mk k x y e g cd ar th el no).c]),(4,.vec 0 C3 [zSc]),(1000,.vec 0 zAc ((z.1++z.2.1).map Ar.c))]⟩)
   (λz=>z.2.1.length) ([],ar,(x==[]||AK f x != 2)&&AK f y==0) ⟨by simpa using hal,har,rfl,rfl⟩ ?_ ?_
  .refine A2 [.mv 132 1000] ?_;simp only[seval,go_sem,A8,A9,Bi,Be,Bj,Cx,Bk,Bl,CJ,CK,AM,A4,A5,AF,CE,Af,BD,fl4,C3,zSc,zAc,IE.mv,IE.fn]
  rintro ⟨d,r,b⟩ ⟨g1,g2,g3,g4⟩
  refine AP [DD,Cl,De n (VJ n),DO n (WZ n)] [] _ _ _ ?_
  dsimp only at g1 g2 g3 g4
  cases r with
  |nil=>
   simp only[List.append_nil,raL,raB,List.map_nil,List.all_nil,Bool.and_true]at g3 g4
   have h1:=Ai (Nat.le_refl d.length)
   have hr:rsS f (.mk k x y e g cd ar th el no)=(.mk k x y e g cd d th el no,b):=by
    simp[rsS,k0,k1,k2,k3,k4,k5,k6,k7,k8];exact⟨by rw[g3];rfl,by rw[g4];simp[raB]⟩
   simp only[seval,go_sem,DD,Cl,De,DO,A8,A9,Bi,Be,Bj,Cx,Bk,Bl,CJ,CK,AM,A4,A5,AF,CE,Af,BD,h1,fl4,C3,zSc,zAc]
   refine A1 [.fz 1000] ?_;simp only[seval,go_sem,bne,Es,hr,A8,A9,Bi,Be,Bj,Cx,Bk,Bl,CJ,CK,AM,A4,A5,AF,CE,Af,BD,IE.ds,IE.fz,zAc,zAr]
  |cons a r'=>
  have hL:(d++a::r')[d.length]?=some a:=by simp
  have hlt:d.length<(d++a::r').length:=by simp
  have hsm:(d++a::r').length<=4294967296:=by simp only[List.length_append,List.length_cons]at g1 ⊢;omega
  have hD:d++a::r'=(d++[a])++r':=by simp
  have h1:=Ah hlt
  have h2:=GU hlt
  have h3:=A2x hL
  have h4:=FH (Nat.le_of_lt hlt) hsm
  have hae:=g2 a (List.mem_cons_self ..)
  have g2':∀a∈r',a.e.dp<n:=λa h=>g2 a (List.mem_cons_of_mem _ h)
  have g1':((d++[(raS f a).1]).length+r'.length)<=5000:=by simp only[jL3]at g1 ⊢;omega
  have g3':(d++[(raS f a).1])++raL f r'=raL f ar:=by rw[<- g3];simp[raL]
  have g4':((b&&(raS f a).2)&&raB f r')=((x==[]||AK f x != 2)&&AK f y==0&&raB f ar):=by rw[<- g4];simp[raB,Bool.and_assoc]
  have hn:(d++[(raS f a).1]).length=d.length+1:=by simp
  obtain⟨p,s,e0⟩:=a
  dsimp only at hae
  cases p with
  |true=>
   have ha:raS f ⟨true,s,e0⟩=(⟨true,s,e0⟩,AK f s==2):=by simp[raS]
   rw[ha]at g1' g3' g4' hn
   dsimp only at g1' g3' g4' hn
   simp only[seval,go_sem,DD,Cl,De,DO,A8,A9,Bi,Be,Bj,Cx,Bk,Bl,CJ,CK,AM,A4,A5,AF,CE,Af,BD,h1,h2,h3,h4,fl4,C3,zSc,zAc,Ar.c]
   repeat refine AX ?_
   refine⟨(d++[⟨true,s,e0⟩],r',b&&AK f s==2),⟨g1',g2',g3',g4'⟩,Nat.lt_succ_self _,A2 [] ?_⟩
   exact oF
  |false=>
  cases e0 with
  |nil=>
   have ha:raS f ⟨false,s,.nil⟩=(⟨false,s,.nil⟩,D9 f .nil):=by simp[raS,Ld]
   rw[ha]at g1' g3' g4' hn
   dsimp only at g1' g3' g4' hn
   simp only[seval,go_sem,DD,Cl,De,DO,A8,A9,Bi,Be,Bj,Cx,Bk,Bl,CJ,CK,AM,A4,A5,AF,CE,Af,BD,h1,h2,h3,h4,fl4,C3,zSc,zAc,Ar.c,Ld]
   repeat refine AX ?_
   refine⟨(d++[⟨false,s,.nil⟩],r',b&&D9 f .nil),⟨g1',g2',g3',g4'⟩,Nat.lt_succ_self _,A2 [] ?_⟩
   exact oF
  |mk k' n' s' a' b'=>
  cases m1:Ld f (.mk k' n' s' a' b') with
  |true=>
   have ha:raS f ⟨false,s,.mk k' n' s' a' b'⟩=(⟨true,s',.nil⟩,true):=by simp[raS,m1,Ex.nm]
   rw[ha]at g1' g3' g4' hn
   dsimp only at g1' g3' g4' hn
   simp only[Bool.and_true]at g4'
   have h5:((d++⟨false,s,.mk k' n' s' a' b'⟩::r').map Ar.c).set d.length [.v (.bool true),.v (.string (bs s')),.v (.pointer none)]=(d++⟨true,s',.nil⟩::r').map Ar.c:=by rw[map_append,map_append,List.set_append_right _ _ (by simp)];simp[Ar.c,Af]
   simp only[seval,go_sem,DD,Cl,De,DO,A8,A9,Bi,Be,Bj,Cx,Bk,Bl,CJ,CK,AM,A4,A5,AF,CE,Af,BD,h1,h2,h3,h4,fl4,C3,zSc,zAc,Ar.c,EU,m1,h5]
   repeat refine AX ?_
   refine⟨(d++[⟨true,s',.nil⟩],r',b),⟨g1',g2',g3',g4'⟩,Nat.lt_succ_self _,A2 [] ?_⟩
   exact oF
  |false=>
  have ha:raS f ⟨false,s,.mk k' n' s' a' b'⟩=(⟨false,s,.mk k' n' s' a' b'⟩,D9 f (.mk k' n' s' a' b')):=by simp[raS,m1]
  rw[ha]at g1' g3' g4' hn
  dsimp only at g1' g3' g4' hn
  simp only[seval,go_sem,DD,Cl,De,DO,A8,A9,Bi,Be,Bj,Cx,Bk,Bl,CJ,CK,AM,A4,A5,AF,CE,Af,BD,h1,h2,h3,h4,fl4,C3,zSc,zAc,Ar.c,m1]
  repeat refine AX ?_
  refine⟨(d++[⟨false,s,.mk k' n' s' a' b'⟩],r',b&&D9 f (.mk k' n' s' a' b')),⟨g1',g2',g3',g4'⟩,Nat.lt_succ_self _,A2 [] ?_⟩
  exact oF
 |false=>
 cases k9:(k==9) with
 |true=>
  have hr:rsS f (.mk k x y e g cd ar th el no)=((.mk k x y e g cd ar th el no),D9 f e):=by simp[rsS,k0,k2,k1,k3,k4,k5,k6,k7,k8,k9]
  simp only[seval,go_sem,DD,Cl,De,DO,A8,A9,Bi,Be,Bj,Cx,Bk,Bl,CJ,CK,AM,A4,A5,AF,CE,Af,BD,k0,k2,k1,k3,k4,k5,k6,k7,k8,k9]
  exact By
 |false=>
 have hr:rsS f (.mk k x y e g cd ar th el no)=((.mk k x y e g cd ar th el no),J2 f cd):=by simp[rsS,k0,k2,k1,k3,k4,k5,k6,k7,k8,k9]
 simp only[seval,go_sem,DD,Cl,De,DO,A8,A9,Bi,Be,Bj,Cx,Bk,Bl,CJ,CK,AM,A4,A5,AF,CE,Af,BD,k0,k2,k1,k3,k4,k5,k6,k7,k8,k9]
 exact By
end Go.Proofs.YtapedeoheilnnaaGreat
