/- One statement of a function: names by kind. No conditions but those in each statement. -/
import Derived.Test.YtapedeoheilnnaaGreatCo
set_option linter.all false
set_option maxRecDepth 20000
set_option maxHeartbeats 16000000
open List (append_assoc map_append)
namespace Go.Proofs.YtapedeoheilnnaaGreat
open Go Go.Sy Go.RowKit
theorem IS{P:Prop}(h:P:=by
 repeat refine AX ?_
 refine A1 [] ?_;simp only[seval,go_sem,bne,Es,hr,A8,A9,Bi,Be,Bj,Cx,Bk,Bl,CJ,CK,AM,A4,A5,AF,CE,Af,BD]):P:=h
theorem wv{P:Prop}(h:P:=by simp only[seval,go_sem,IE.fn,append_assoc,List.singleton_append,hn,fl4,C3,zSc,zAc,Ar.c]):P:=h
theorem AAO{P:Prop}(h:P:=by
 repeat refine AX ?_
 refine A1 [] ?_;simp only[seval,go_sem,bne,IW,hr0,A8,A9,DI,DJ,Gr,AM,A4,A5,AF]):P:=h
theorem AAs{P:Prop}(h:P:=by
 repeat refine AX ?_
 refine A1 [] ?_;simp only[seval,go_sem,bne,Kw,<- g3]):P:=h
def Ex.nm:Ex->List UInt8
 | .nil=>[]
 | .mk _ _ s _ _=>s
def raS(f:Fn)(a:Ar):Ar×Bool:=if a.p=true then (a,AK f a.s==2) else if Ld f a.e=true then (⟨true,a.e.nm,.nil⟩,true) else (a,D9 f a.e)
def raL(f:Fn)(l:List Ar):List Ar:=l.map (λa=>(raS f a).1)
def raB(f:Fn)(l:List Ar):Bool:=l.all (λa=>(raS f a).2)
def rsS(f:Fn):Sm->Sm×Bool
 | .mk k x y e g cd ar th el no=>
  if (k==0)=true then
   if (AK f x==2)=true then if Ld f e=true then (.mk 2 x e.nm .nil .nil .nil [] [] [] no,true) else (.mk k x y e g cd ar th el no,false)
   else (.mk k x y e g cd ar th el no,D9 f e)
  else if (k==2)=true then (.mk k x y e g cd ar th el no,AK f x==2&&AK f y==2)
  else if (k==1)=true then (.mk k x y e g cd ar th el no,AK f x==2&&AK f y==0)
  else if (k==3)=true then (.mk k x y e g cd ar th el no,AK f x==2)
  else if (k==4)=true then (.mk k x y e g cd ar th el no,AK f x != 2&&AK f y==2)
  else if (k==5)=true then (.mk k x y e g cd ar th el no,AK f x==2&&D9 f e)
  else if (k==6)=true then (.mk k x y e g cd ar th el no,AK f x != 2&&AK f y==0&&D9 f e)
  else if (k==7)=true then (.mk k x y e g cd ar th el no,AK f y==0&&D9 f e&&D9 f g)
  else if (k==8)=true then (.mk k x y e g cd (raL f ar) th el no,(x==[]||AK f x != 2)&&AK f y==0&&raB f ar)
  else if (k==9)=true then (.mk k x y e g cd ar th el no,D9 f e)
  else (.mk k x y e g cd ar th el no,J2 f cd)
abbrev oH(n:Nat)(f:Fn)(s:Sm):Prop:=okF f/\OkS n s
abbrev Es(n:Nat)(f:Fn)(s:Sm):SV:=.tup [.inr (rsS f s).1.c,.inl (.v (.bool (rsS f s).2))]
noncomputable abbrev Up:ArgC ((Fn)×(Sm)×Unit):=(acS (cFn) (acS (cSm) ac0))
abbrev aO(n:Nat):Prop:=Ca Tryz.prog 80 Up (λp:(Fn)×(Sm)×Unit=>oH n p.1 p.2.1) (λp:(Fn)×(Sm)×Unit=>Es n p.1 p.2.1)
noncomputable def Ja{X:Ctx}{w0:World}(n:Nat)(h:aO n):Sy.Spec Tryz.prog X w0:=Dq 80 Tryz.call80 Up _ _ (id (by intro p;exact xy _ _)) h
section
attribute [local go_sem] Fn.c Sm.ar Sm.c Sm.cd Sm.e Sm.el Sm.f Sm.k Sm.no Sm.th Sm.x Sm.y
theorem y_rstmt(n:Nat):aO n:=by
 rintro ⟨f,s,_u⟩ w fz xs hc hfz hl hx
 refine Bg Tryz.func80 rfl w fz [DD,Cl,(De n (VJ n)),(DO n (WZ n))] [] Up (λp:(Fn)×(Sm)×Unit=>Es n p.1 p.2.1) _ xs hfz hl hx (jN rfl) ?_
 clear hx hl hfz xs
 simp only[Tryz.f80]
 obtain⟨hc1,hc2⟩:=hc
 dsimp only at hc1 hc2
 obtain⟨k,x,y,e,g,cd,ar,th,el,no⟩:=s
 obtain⟨he,hg,hcd,har,hal⟩:=hc2
 dsimp only[Sm.e,Sm.f,Sm.cd,Sm.ar]at he hg hcd har hal
 cases k0:(k==0) with
 |true=>
  cases m0:(AK f x==2) with
  |true=>
   cases e with
   |nil=>
    have hr:rsS f (.mk k x y .nil g cd ar th el no)=(.mk k x y .nil g cd ar th el no,false):=by simp[rsS,k0,m0,Ld]
    simp only[seval,go_sem,DD,Cl,De,DO,A8,A9,Bi,Be,Bj,Cx,Bk,Bl,CJ,CK,AM,A4,A5,AF,CE,Af,BD,k0,m0,Ld]
    exact IS
   |mk k' n' s' a' b'=>
   cases m1:Ld f (.mk k' n' s' a' b') with
   |true=>
    have hr:rsS f (.mk k x y (.mk k' n' s' a' b') g cd ar th el no)=(.mk 2 x s' .nil .nil .nil [] [] [] no,true):=by simp[rsS,k0,m0,m1,Ex.nm]
    simp only[seval,go_sem,DD,Cl,De,DO,A8,A9,Bi,Be,Bj,Cx,Bk,Bl,CJ,CK,AM,A4,A5,AF,CE,Af,BD,EU,k0,m0,m1]
    exact IS
   |false=>
   have hr:rsS f (.mk k x y (.mk k' n' s' a' b') g cd ar th el no)=(.mk k x y (.mk k' n' s' a' b') g cd ar th el no,false):=by simp[rsS,k0,m0,m1]
   simp only[seval,go_sem,DD,Cl,De,DO,A8,A9,Bi,Be,Bj,Cx,Bk,Bl,CJ,CK,AM,A4,A5,AF,CE,Af,BD,k0,m0,m1]
   exact IS
  |false=>
  have hr:rsS f (.mk k x y e g cd ar th el no)=(.mk k x y e g cd ar th el no,D9 f e):=by simp[rsS,k0,m0]
  simp only[seval,go_sem,DD,Cl,De,DO,A8,A9,Bi,Be,Bj,Cx,Bk,Bl,CJ,CK,AM,A4,A5,AF,CE,Af,BD,k0,m0]
  exact IS
 |false=>
 cases k2:(k==2) with
 |true=>
  have hr:rsS f (.mk k x y e g cd ar th el no)=((.mk k x y e g cd ar th el no),AK f x==2&&AK f y==2):=by simp[rsS,k0,k2]
  simp only[seval,go_sem,DD,Cl,De,DO,A8,A9,Bi,Be,Bj,Cx,Bk,Bl,CJ,CK,AM,A4,A5,AF,CE,Af,BD,k0,k2]
  exact IS
 |false=>
 cases k1:(k==1) with
 |true=>
  have hr:rsS f (.mk k x y e g cd ar th el no)=((.mk k x y e g cd ar th el no),AK f x==2&&AK f y==0):=by simp[rsS,k0,k2,k1]
  simp only[seval,go_sem,DD,Cl,De,DO,A8,A9,Bi,Be,Bj,Cx,Bk,Bl,CJ,CK,AM,A4,A5,AF,CE,Af,BD,k0,k2,k1]
  exact IS
 |false=>
 cases k3:(k==3) with
 |true=>
  have hr:rsS f (.mk k x y e g cd ar th el no)=((.mk k x y e g cd ar th el no),AK f x==2):=by simp[rsS,k0,k2,k1,k3]
  simp only[seval,go_sem,DD,Cl,De,DO,A8,A9,Bi,Be,Bj,Cx,Bk,Bl,CJ,CK,AM,A4,A5,AF,CE,Af,BD,k0,k2,k1,k3]
  exact IS
 |false=>
 cases k4:(k==4) with
 |true=>
  have hr:rsS f (.mk k x y e g cd ar th el no)=((.mk k x y e g cd ar th el no),AK f x != 2&&AK f y==2):=by simp[rsS,k0,k2,k1,k3,k4]
  simp only[seval,go_sem,DD,Cl,De,DO,A8,A9,Bi,Be,Bj,Cx,Bk,Bl,CJ,CK,AM,A4,A5,AF,CE,Af,BD,k0,k2,k1,k3,k4]
  exact IS
 |false=>
 cases k5:(k==5) with
 |true=>
  have hr:rsS f (.mk k x y e g cd ar th el no)=((.mk k x y e g cd ar th el no),AK f x==2&&D9 f e):=by simp[rsS,k0,k2,k1,k3,k4,k5]
  simp only[seval,go_sem,DD,Cl,De,DO,A8,A9,Bi,Be,Bj,Cx,Bk,Bl,CJ,CK,AM,A4,A5,AF,CE,Af,BD,k0,k2,k1,k3,k4,k5]
  exact IS
 |false=>
 cases k6:(k==6) with
 |true=>
  have hr:rsS f (.mk k x y e g cd ar th el no)=((.mk k x y e g cd ar th el no),AK f x != 2&&AK f y==0&&D9 f e):=by simp[rsS,k0,k2,k1,k3,k4,k5,k6]
  simp only[seval,go_sem,DD,Cl,De,DO,A8,A9,Bi,Be,Bj,Cx,Bk,Bl,CJ,CK,AM,A4,A5,AF,CE,Af,BD,k0,k2,k1,k3,k4,k5,k6]
  exact IS
 |false=>
 cases k7:(k==7) with
 |true=>
  have hr:rsS f (.mk k x y e g cd ar th el no)=((.mk k x y e g cd ar th el no),AK f y==0&&D9 f e&&D9 f g):=by simp[rsS,k0,k2,k1,k3,k4,k5,k6,k7]
  simp only[seval,go_sem,DD,Cl,De,DO,A8,A9,Bi,Be,Bj,Cx,Bk,Bl,CJ,CK,AM,A4,A5,AF,CE,Af,BD,k0,k2,k1,k3,k4,k5,k6,k7]
  exact IS
 |false=>
 cases k8:(k==8) with
 |true=>
  simp only[seval,go_sem,DD,Cl,De,DO,A8,A9,Bi,Be,Bj,Cx,Bk,Bl,CJ,CK,AM,A4,A5,AF,CE,Af,BD,k0,k2,k1,k3,k4,k5,k6,k7,k8]
  refine⟨hc1,hc1,Bn (by kernel_rfl),⟨λq h=>(by cases h;rfl),IE.stor,by omega,by omega⟩,?_⟩
  refine AC (Y:=List Ar×List Ar×Bool) (λz=>z.1.length+z.2.1.length<=5000/\(∀a∈z.2.1,a.e.dp<n)/\z.1++raL f z.2.1=raL f ar/\(z.2.2&&raB f z.2.1)=((x==[]||AK f x != 2)&&AK f y==0&&raB f ar))
   (λz=>⟨[(2,true,.one (.p 2 0 0)),(3,true,.one (.p 3 0 0)),(4,true,.one (.p 4 0 0)),(8,true,.one (.v (.bool z.2.2))),(9,true,.one (.s 1000)),(10,true,.one (.v (.int .i64 (z.1.length:Int))))],
    [(2,.vec 0 fl4 [f.c]),(3,.vec 0 C3 [(Sm.mk k x y e g cd ar th el no).c]),(4,.vec 0 C3 [zSc]),(1000,.vec 0 zAc ((z.1++z.2.1).map Ar.c))]⟩)
   (λz=>z.2.1.length) ([],ar,(x==[]||AK f x != 2)&&AK f y==0) ⟨by simpa using hal,har,rfl,rfl⟩ ?_ ?_
  .refine A2 [.mv 132 1000] ?_;simp only[seval,go_sem,A8,A9,Bi,Be,Bj,Cx,Bk,Bl,CJ,CK,AM,A4,A5,AF,CE,Af,BD,fl4,C3,zSc,zAc,IE.mv,IE.fn]
  rintro ⟨d,r,b⟩ ⟨g1,g2,g3,g4⟩
  refine AP [DD,Cl,De n (VJ n),DO n (WZ n)] [] _ _ _ ?_
  dsimp only at g1 g2 g3 g4
  cases r with
  |nil=>
   simp only[List.append_nil,raL,raB,List.map_nil,List.all_nil,Bool.and_true]at g3 g4
   have h1:=Ai (Nat.le_refl d.length)
   have hr:rsS f (.mk k x y e g cd ar th el no)=(.mk k x y e g cd d th el no,b):=by
    simp[rsS,k0,k1,k2,k3,k4,k5,k6,k7,k8];exact⟨by rw[g3];rfl,by rw[g4];simp[raB]⟩
   simp only[seval,go_sem,DD,Cl,De,DO,A8,A9,Bi,Be,Bj,Cx,Bk,Bl,CJ,CK,AM,A4,A5,AF,CE,Af,BD,h1,fl4,C3,zSc,zAc]
   refine A1 [.fz 1000] ?_;simp only[seval,go_sem,bne,Es,hr,A8,A9,Bi,Be,Bj,Cx,Bk,Bl,CJ,CK,AM,A4,A5,AF,CE,Af,BD,IE.ds,IE.fz,zAc,zAr]
  |cons a r'=>
  have hL:(d++a::r')[d.length]?=some a:=by simp
  have hlt:d.length<(d++a::r').length:=by simp
  have hsm:(d++a::r').length<=4294967296:=by simp only[List.length_append,List.length_cons]at g1 ⊢;omega
  have hD:d++a::r'=(d++[a])++r':=by simp
  have h1:=Ah hlt
  have h2:=GU hlt
  have h3:=A2x hL
  have h4:=FH (Nat.le_of_lt hlt) hsm
  have hae:=g2 a (List.mem_cons_self ..)
  have g2':∀a∈r',a.e.dp<n:=λa h=>g2 a (List.mem_cons_of_mem _ h)
  have g1':((d++[(raS f a).1]).length+r'.length)<=5000:=by simp only[jL3]at g1 ⊢;omega
  have g3':(d++[(raS f a).1])++raL f r'=raL f ar:=by rw[<- g3];simp[raL]
  have g4':((b&&(raS f a).2)&&raB f r')=((x==[]||AK f x != 2)&&AK f y==0&&raB f ar):=by rw[<- g4];simp[raB,Bool.and_assoc]
  have hn:(d++[(raS f a).1]).length=d.length+1:=by simp
  obtain⟨p,s,e0⟩:=a
  dsimp only at hae
  cases p with
  |true=>
   have ha:raS f ⟨true,s,e0⟩=(⟨true,s,e0⟩,AK f s==2):=by simp[raS]
   rw[ha]at g1' g3' g4' hn
   dsimp only at g1' g3' g4' hn
   simp only[seval,go_sem,DD,Cl,De,DO,A8,A9,Bi,Be,Bj,Cx,Bk,Bl,CJ,CK,AM,A4,A5,AF,CE,Af,BD,h1,h2,h3,h4,fl4,C3,zSc,zAc,Ar.c]
   repeat refine AX ?_
   refine⟨(d++[⟨true,s,e0⟩],r',b&&AK f s==2),⟨g1',g2',g3',g4'⟩,Nat.lt_succ_self _,A2 [] ?_⟩
   exact wv
  |false=>
  cases e0 with
  |nil=>
   have ha:raS f ⟨false,s,.nil⟩=(⟨false,s,.nil⟩,D9 f .nil):=by simp[raS,Ld]
   rw[ha]at g1' g3' g4' hn
   dsimp only at g1' g3' g4' hn
   simp only[seval,go_sem,DD,Cl,De,DO,A8,A9,Bi,Be,Bj,Cx,Bk,Bl,CJ,CK,AM,A4,A5,AF,CE,Af,BD,h1,h2,h3,h4,fl4,C3,zSc,zAc,Ar.c,Ld]
   repeat refine AX ?_
   refine⟨(d++[⟨false,s,.nil⟩],r',b&&D9 f .nil),⟨g1',g2',g3',g4'⟩,Nat.lt_succ_self _,A2 [] ?_⟩
   exact wv
  |mk k' n' s' a' b'=>
  cases m1:Ld f (.mk k' n' s' a' b') with
  |true=>
   have ha:raS f ⟨false,s,.mk k' n' s' a' b'⟩=(⟨true,s',.nil⟩,true):=by simp[raS,m1,Ex.nm]
   rw[ha]at g1' g3' g4' hn
   dsimp only at g1' g3' g4' hn
   simp only[Bool.and_true]at g4'
   have h5:((d++⟨false,s,.mk k' n' s' a' b'⟩::r').map Ar.c).set d.length [.v (.bool true),.v (.string (bs s')),.v (.pointer none)]=(d++⟨true,s',.nil⟩::r').map Ar.c:=by rw[map_append,map_append,List.set_append_right _ _ (by simp)];simp[Ar.c,Af]
   simp only[seval,go_sem,DD,Cl,De,DO,A8,A9,Bi,Be,Bj,Cx,Bk,Bl,CJ,CK,AM,A4,A5,AF,CE,Af,BD,h1,h2,h3,h4,fl4,C3,zSc,zAc,Ar.c,EU,m1,h5]
   repeat refine AX ?_
   refine⟨(d++[⟨true,s',.nil⟩],r',b),⟨g1',g2',g3',g4'⟩,Nat.lt_succ_self _,A2 [] ?_⟩
   exact wv
  |false=>
  have ha:raS f ⟨false,s,.mk k' n' s' a' b'⟩=(⟨false,s,.mk k' n' s' a' b'⟩,D9 f (.mk k' n' s' a' b')):=by simp[raS,m1]
  rw[ha]at g1' g3' g4' hn
  dsimp only at g1' g3' g4' hn
  simp only[seval,go_sem,DD,Cl,De,DO,A8,A9,Bi,Be,Bj,Cx,Bk,Bl,CJ,CK,AM,A4,A5,AF,CE,Af,BD,h1,h2,h3,h4,fl4,C3,zSc,zAc,Ar.c,m1]
  repeat refine AX ?_
  refine⟨(d++[⟨false,s,.mk k' n' s' a' b'⟩],r',b&&D9 f (.mk k' n' s' a' b')),⟨g1',g2',g3',g4'⟩,Nat.lt_succ_self _,A2 [] ?_⟩
  exact wv
 |false=>
 cases k9:(k==9) with
 |true=>
  have hr:rsS f (.mk k x y e g cd ar th el no)=((.mk k x y e g cd ar th el no),D9 f e):=by simp[rsS,k0,k2,k1,k3,k4,k5,k6,k7,k8,k9]
  simp only[seval,go_sem,DD,Cl,De,DO,A8,A9,Bi,Be,Bj,Cx,Bk,Bl,CJ,CK,AM,A4,A5,AF,CE,Af,BD,k0,k2,k1,k3,k4,k5,k6,k7,k8,k9]
  exact IS
 |false=>
 have hr:rsS f (.mk k x y e g cd ar th el no)=((.mk k x y e g cd ar th el no),J2 f cd):=by simp[rsS,k0,k2,k1,k3,k4,k5,k6,k7,k8,k9]
 simp only[seval,go_sem,DD,Cl,De,DO,A8,A9,Bi,Be,Bj,Cx,Bk,Bl,CJ,CK,AM,A4,A5,AF,CE,Af,BD,k0,k2,k1,k3,k4,k5,k6,k7,k8,k9]
 exact IS
end
open Go Go.Sy Go.RowKit
def Sm.wi:Sm->List Sm->List Sm->Sm
 | .mk k x y e g cd ar _ _ no,th,el=>.mk k x y e g cd ar th el no
def rsW(h:List Sm->List Sm×Int)(f:Fn):List Sm->List Sm->List Sm×Int
 |out,[]=>(out,-1)
 |out,s::r=>
  if (rsS f s).2=true then
   if 0<=(h (rsS f s).1.th).2 then ([],(h (rsS f s).1.th).2)
   else if 0<=(h (rsS f s).1.el).2 then ([],(h (rsS f s).1.el).2)
   else rsW h f (out++[(rsS f s).1.wi (h (rsS f s).1.th).1 (h (rsS f s).1.el).1]) r
  else ([],s.no)
def rsN(f:Fn):Nat->List Sm->List Sm×Int
 |0=>λ_=>([],-1)
 |m+1=>rsW (rsN f m) f []
theorem W4(f:Fn)(s:Sm):((rsS f s).1.th=s.th∨(rsS f s).1.th=[])/\((rsS f s).1.el=s.el∨(rsS f s).1.el=[]):=by
 obtain⟨k,x,y,e,g,cd,ar,th,el,no⟩:=s
 simp only[rsS]
 repeat' split
 all_goals simp[Sm.th,Sm.el]
theorem A01{l:List Sm}{i:Nat}{x:Sm}(h:l[i]?=some x)(z:List D):(l.map Sm.r).getD i z=x.r:=by simp[List.getD,h]
abbrev kL(n:Nat)(m:Nat)(f:Fn)(l:List Sm):Prop:=okF f/\okB n m l
abbrev Kw(n:Nat)(m:Nat)(f:Fn)(l:List Sm):SV:=.tup [.inl (.d (.sl zSm ((rsN f m l).1.map Sm.r))),.inl (.v (.int .i64 (rsN f m l).2))]
noncomputable abbrev SU:ArgC ((Fn)×(List Sm)×Unit):=(acS (cFn) (acS (cSs) ac0))
abbrev P7(n:Nat)(m:Nat):Prop:=Ca Tryz.prog 67 SU (λp:(Fn)×(List Sm)×Unit=>kL n m p.1 p.2.1) (λp:(Fn)×(List Sm)×Unit=>Kw n m p.1 p.2.1)
noncomputable def Da{X:Ctx}{w0:World}(n:Nat)(m:Nat)(h:P7 n m):Sy.Spec Tryz.prog X w0:=Dq 67 Tryz.call67 SU _ _ KF3 h
section
attribute [local go_sem] Fn.c
theorem kM(n:Nat)(m:Nat)(hu:P7 n m):P7 n (m+1):=by
 rintro ⟨f,l,_u⟩ w fz xs hc hfz hl hx
 refine Bg Tryz.func67 rfl w fz [(Ja n (y_rstmt n)),(Da n m hu)] [] SU (λp:(Fn)×(List Sm)×Unit=>Kw n (m+1) p.1 p.2.1) _ xs hfz hl hx (jN rfl) ?_
 clear hx hl hfz xs
 simp only[Tryz.f67]
 obtain⟨hc1,hc2⟩:=hc
 dsimp only at hc1 hc2
 obtain⟨hc2,hc3⟩:=hc2
 simp only[seval,go_sem,Ja,Da,A8,A9,CJ,CK,DI,DJ,Sm.c,Sm.k,Sm.x,Sm.y,Sm.e,Sm.f,Sm.cd,Sm.ar,Sm.th,Sm.el,Sm.no,Fx,AM,A4,A5,AF,CE]
 have sp:∀s∈l,okB n m (rsS f s).1.th/\okB n m (rsS f s).1.el:=λs hs=>by
  obtain⟨_,h1,h2⟩:=hc3 s hs
  have h3:=W4 f s
  refine⟨?_,?_⟩
  .rcases h3.1 with h|h<;>rw[h]
   .exact h1
   exact Sz h1
  rcases h3.2 with h|h<;>rw[h]
  .exact h2
  exact Sz h2
 refine AC (Y:=Nat×List Sm) (λz=>z.1<=l.length/\z.2.length=z.1/\rsW (rsN f m) f z.2 (l.drop z.1)=rsN f (m+1) l)
  (λz=>⟨[(1,true,.one (.d (.sl zSm (l.map Sm.r)))),(2,true,.one (.p 2 0 0)),(6,true,.one (.s 1000)),(7,true,.one (.v (.int .i64 (z.1:Int))))],[(2,.vec 0 fl4 [f.c]),(1000,.vec 0 zSc (z.2.map Sm.c))]⟩)
  (λz=>l.length-z.1) (0,[]) ⟨Nat.zero_le _,rfl,rfl⟩ ?_ ?_
 .refine A2 [.nil 6 1000 zSc] ?_;simp only[seval,go_sem,zSc,fl4]
 rintro ⟨i,out⟩ ⟨g1,g2,g3⟩
 refine AP [Ja n (y_rstmt n),Da n m hu] [] _ _ _ ?_
 dsimp only at g1 g2 g3
 cases hx:l[i]? with
 |none=>
  have hi2:l.length<=i:=List.getElem?_eq_none_iff.1 hx
  have h1:=Ai hi2
  rw[List.drop_eq_nil_of_le hi2]at g3
  have hr:rsN f (m+1) l=(out,-1):=g3.symm
  simp only[seval,go_sem,Ja,Da,A8,A9,CJ,CK,DI,DJ,Sm.c,Sm.k,Sm.x,Sm.y,Sm.e,Sm.f,Sm.cd,Sm.ar,Sm.th,Sm.el,Sm.no,Fx,AM,A4,A5,AF,CE,h1,fl4,zSc]
  refine A1 [.fz 1000] ?_;simp only[seval,go_sem,bne,Kw,hr,zSm,zSc,Hk.ds,Hk.fz]
 |some x=>
 obtain⟨ka,xa,ya,ea,fa,ca,aa,ta,la,na⟩:=x
 have hlt:i<l.length:=(List.getElem?_eq_some_iff.1 hx).1
 have hxm:Sm.mk ka xa ya ea fa ca aa ta la na∈l:=List.mem_of_getElem? hx
 have h1:=Ah hlt
 have h2:=GU hlt
 have h3:=A01 hx
 have h4:=FH g1 (by omega)
 obtain⟨q1,q2,q3⟩:=hc3 _ hxm
 obtain⟨q4,q5⟩:=sp _ hxm
 rw[BF hx]at g3
 simp only[rsW]at g3
 obtain⟨⟨⟨k,x1,y1,e1,e2,cd,ar,th,el,no⟩,b⟩,hs⟩:∃a,rsS f (.mk ka xa ya ea fa ca aa ta la na)=a:=⟨_,rfl⟩
 rw[hs]at g3 q4 q5
 dsimp only[Sm.th,Sm.el,Sm.wi,Sm.no]at g3 q4 q5
 cases b with
 |false=>
  rw[if_neg (by decide)]at g3
  simp only[seval,go_sem,Ja,Da,A8,A9,CJ,CK,DI,DJ,Sm.c,Sm.k,Sm.x,Sm.y,Sm.e,Sm.f,Sm.cd,Sm.ar,Sm.th,Sm.el,Sm.no,Fx,AM,A4,A5,AF,CE,h1,h2,h3,hs,fl4,zSc]
  exact AAs
 |true=>
 rw[if_pos rfl]at g3
 cases t1:decide (0<=(rsN f m th).2) with
 |true=>
  simp only[of_decide_eq_true t1,if_true]at g3
  simp only[seval,go_sem,Ja,Da,A8,A9,CJ,CK,DI,DJ,Sm.c,Sm.k,Sm.x,Sm.y,Sm.e,Sm.f,Sm.cd,Sm.ar,Sm.th,Sm.el,Sm.no,Fx,AM,A4,A5,AF,CE,h1,h2,h3,hs,t1,fl4,zSc]
  exact AAs
 |false=>
 simp only[of_decide_eq_false t1,if_false]at g3
 cases t2:decide (0<=(rsN f m el).2) with
 |true=>
  simp only[of_decide_eq_true t2,if_true]at g3
  simp only[seval,go_sem,Ja,Da,A8,A9,CJ,CK,DI,DJ,Sm.c,Sm.k,Sm.x,Sm.y,Sm.e,Sm.f,Sm.cd,Sm.ar,Sm.th,Sm.el,Sm.no,Fx,AM,A4,A5,AF,CE,h1,h2,h3,hs,t1,t2,fl4,zSc]
  exact AAs
 |false=>
 simp only[of_decide_eq_false t2,if_false]at g3
 simp only[seval,go_sem,Ja,Da,A8,A9,CJ,CK,DI,DJ,Sm.c,Sm.k,Sm.x,Sm.y,Sm.e,Sm.f,Sm.cd,Sm.ar,Sm.th,Sm.el,Sm.no,Fx,AM,A4,A5,AF,CE,h1,h2,h3,h4,hs,t1,t2,fl4,zSc,Hk.fn]
 repeat refine AX ?_
 refine⟨(i+1,out++[.mk k x1 y1 e1 e2 cd ar (rsN f m th).1 (rsN f m el).1 no]),⟨hlt,by simp[g2],g3⟩,by simp only;omega,
  BU (t:=⟨[(1,true,.one (.d (.sl zSm (l.map Sm.r)))),(2,true,.one (.p 2 0 0)),(6,true,.one (.s 62)),(7,true,.one (.v (.int .i64 ((i+1:Nat):Int))))],[(2,.vec 0 fl4 [f.c]),(62,.vec 0 zSc ((out++[Sm.mk k x1 y1 e1 e2 cd ar (rsN f m th).1 (rsN f m el).1 no]).map Sm.c))]⟩) (A2 [] ?_) (A2 [.mv 62 1000] ?_)⟩
 .simp only[seval,go_sem,zSc,fl4,Hk.fn,List.flatMap_append,map_append,Sm.c,Sm.k,Sm.x,Sm.y,Sm.e,Sm.f,Sm.cd,Sm.ar,Sm.th,Sm.el,Sm.no]
 simp only[seval,go_sem,zSc,fl4,Hk.fn,Hk.mv]
end
open Go Go.Sy Go.RowKit
theorem y_rstmts(n:Nat):∀m:Nat,P7 n m
 |0=>by
  rintro ⟨f,e,_u⟩ w fz xs hc hfz hl hx
  exact hc.2.elim
 |m+1=>kM n m (y_rstmts n m)
def OM:List Vr->List Vr->Bool
 |_,[]=>false
 |d,v::r=>d.any (λu=>u.s==v.s)||OM (d++[v]) r
def gloB:List UInt8:=[103,108,111,98,97,108,115]
def zFc:List C:=[.v (.string (bs [])),.v (.slice none 0 0),.v (.slice none 0 0),.v (.slice none 0 0)]
theorem A4a:zT zFc=none:=rfl
attribute [go_sem] A4a
def IV(f:Fn)(s:List UInt8)(m:Nat):Fn×Int×Int:=
 if (f.name != s||f.name==gloB)=true then (fn0,-1,62)
 else if OM [] (f.ps++f.ls)=true then (fn0,-1,60)
 else if 0<=(rsN f m f.body).2 then (fn0,(rsN f m f.body).2,61)
 else (⟨f.name,f.ps,f.ls,(rsN f m f.body).1⟩,0,0)
abbrev gI(n:Nat)(m:Nat)(f:Fn)(s:List UInt8):Prop:=okF f/\okB n m f.body
abbrev IW(n:Nat)(m:Nat)(f:Fn)(s:List UInt8):SV:=.tup [.inr (IV f s m).1.c,.inl (.v (.int .i64 (IV f s m).2.1)),.inl (.v (.int .i64 (IV f s m).2.2))]
noncomputable abbrev RI:ArgC ((Fn)×(List UInt8)×Unit):=(acS (cFn) (acS (cStr) ac0))
abbrev W5(n:Nat)(m:Nat):Prop:=Ca Tryz.prog 43 RI (λp:(Fn)×(List UInt8)×Unit=>gI n m p.1 p.2.1) (λp:(Fn)×(List UInt8)×Unit=>IW n m p.1 p.2.1)
noncomputable def Ej{X:Ctx}{w0:World}(n:Nat)(m:Nat)(h:W5 n m):Sy.Spec Tryz.prog X w0:=Dq 43 Tryz.call43 RI _ _ KF3 h
attribute [local go_sem] Fn.c
theorem P8(n:Nat)(m:Nat):W5 n m:=by
 rintro ⟨f,s,_u⟩ w fz xs hc hfz hl hx
 refine Bg Tryz.func43 rfl w fz [(Da n m (y_rstmts n m))] [] RI (λp:(Fn)×(List UInt8)×Unit=>IW n m p.1 p.2.1) _ xs hfz hl hx (jN rfl) ?_
 clear hx hl hfz xs
 simp only[Tryz.f43]
 obtain⟨⟨hc1,hc2⟩,hc3⟩:=hc
 have hok:okF f:=⟨hc1,hc2⟩
 dsimp only at hc1 hc2 hc3
 cases n0:(f.name==s) with
 |false=>
  have n0':(f.name != s)=true:=by simp[bne,n0]
  have hr:IV f s m=(fn0,-1,62):=by simp[IV,n0']
  simp only[seval,go_sem,Da,A8,A9,DI,DJ,Gr,AM,A4,A5,AF,n0,n0']
  repeat refine AX ?_
  refine A1 [] ?_;simp only[seval,go_sem,bne,IW,hr,A8,A9,DI,DJ,Gr,AM,A4,A5,AF]
 |true=>
 have n0':(f.name != s)=false:=by simp[bne,n0]
 cases n1:(f.name==gloB) with
 |true=>
  have hr:IV f s m=(fn0,-1,62):=by simp[IV,n1]
  simp only[gloB]at n1
  simp only[seval,go_sem,Da,A8,A9,DI,DJ,Gr,AM,A4,A5,AF,n0,n0',n1]
  repeat refine AX ?_
  refine A1 [] ?_;simp only[seval,go_sem,bne,IW,hr,A8,A9,DI,DJ,Gr,AM,A4,A5,AF]
 |false=>
 have hr0:IV f s m=if OM [] (f.ps++f.ls)=true then (fn0,-1,60)
  else if 0<=(rsN f m f.body).2 then (fn0,(rsN f m f.body).2,61)
  else (⟨f.name,f.ps,f.ls,(rsN f m f.body).1⟩,0,0):=by simp[IV,n1,n0']
 simp only[gloB]at n1
 simp only[seval,go_sem,Da,A8,A9,DI,DJ,Gr,AM,A4,A5,AF,n0,n0',n1]
 refine⟨⟨λq h=>(by cases h;rfl),Dd.stor,by omega,by omega⟩,⟨λq h=>(by cases h;rfl),Dd.stor,by omega,by omega⟩,Bn (by kernel_rfl),?_⟩
 have hsm:(f.ps++f.ls).length<=4294967295:=by simp only[List.length_append];omega
 refine AC (Y:=Nat) (λi=>i<=(f.ps++f.ls).length/\OM ((f.ps++f.ls).take i) ((f.ps++f.ls).drop i)=OM [] (f.ps++f.ls))
  (λi=>⟨[(2,true,.one (.p 2 0 0)),(4,true,.one (.p 4 0 0)),(7,true,.one (.s 1000)),(8,true,.one (.v (.int .i64 (i:Int))))],
   [(2,.vec 0 fl4 [f.c]),(4,.vec 0 fl4 [zFc]),(1000,.vec 0 zVc ((f.ps++f.ls).map Vr.c))]⟩)
  (λi=>(f.ps++f.ls).length-i) 0 ⟨Nat.zero_le _,rfl⟩ ?_ ?_
 .refine A2 [.mv 27 1000] ?_;simp only[seval,go_sem,fl4,zFc,Dd.mv,Dd.fn,zVc,map_append,List.flatMap_append]
 rintro i ⟨hi,hJ⟩
 refine AP [Da n m (y_rstmts n m)] [] _ _ _ ?_
 generalize hL:f.ps++f.ls=L at hi hJ hsm hr0 ⊢
 cases hx:L[i]? with
 |none=>
  have hi2:L.length<=i:=List.getElem?_eq_none_iff.1 hx
  have h1:=Ai hi2
  rw[List.drop_eq_nil_of_le hi2]at hJ
  have hd:OM [] L=false:=hJ.symm
  rw[hd,if_neg (by decide)]at hr0
  cases t1:decide (0<=(rsN f m f.body).2) with
  |true=>
   simp only[of_decide_eq_true t1,if_true]at hr0
   simp only[seval,go_sem,Da,A8,A9,DI,DJ,Gr,AM,A4,A5,AF,h1,t1,fl4,zFc,zVc]
   exact AAO
  |false=>
  simp only[of_decide_eq_false t1,if_false]at hr0
  simp only[seval,go_sem,Da,A8,A9,DI,DJ,Gr,AM,A4,A5,AF,h1,t1,fl4,zFc,zVc]
  exact AAO
 |some x=>
 have hlt:i<L.length:=(List.getElem?_eq_some_iff.1 hx).1
 have h1:=Ah hlt
 have h2:=GU hlt
 have h3:=fG hx
 have h4:=FH (Nat.le_of_lt hlt) (Nat.le_succ_of_le hsm)
 rw[BF hx]at hJ
 simp only[OM]at hJ
 have htk:L.take i++[x]=L.take (i+1):=by rw[List.take_add_one,hx];rfl
 rw[htk]at hJ
 simp only[seval,go_sem,Da,A8,A9,DI,DJ,Gr,AM,A4,A5,AF,h1,fl4,zFc,zVc]
 refine AC (Y:=Nat) (λj=>j<=i/\(((L.take i).drop j).any (λu=>u.s==x.s)||OM (L.take (i+1)) (L.drop (i+1)))=OM [] L)
  (λj=>⟨[(2,true,.one (.p 2 0 0)),(4,true,.one (.p 4 0 0)),(7,true,.one (.s 1000)),(8,true,.one (.v (.int .i64 (i:Int)))),(9,true,.one (.v (.int .i64 (j:Int))))],
   [(2,.vec 0 fl4 [f.c]),(4,.vec 0 fl4 [zFc]),(1000,.vec 0 zVc (L.map Vr.c))]⟩)
  (λj=>i-j) 0 ⟨Nat.zero_le _,hJ⟩ ?_ ?_
 .refine A2 [] ?_;simp only[seval,go_sem,fl4,zFc,Dd.fn,zVc]
 rintro j ⟨hj,hK⟩
 refine AP [Da n m (y_rstmts n m)] [] _ _ _ ?_
 rcases Nat.lt_or_ge j i with hji|hji
 .have hjL:j<L.length:=Nat.lt_trans hji hlt
  have h5:=Ah hji
  have h6:=GU hjL
  have hy:L[j]?=some L[j]:=List.getElem?_eq_getElem hjL
  have h7:=fG hy
  have h8:=FH (Nat.le_of_lt hjL) (Nat.le_succ_of_le hsm)
  have hd:(L.take i).drop j=L[j]::(L.take i).drop (j+1):=by
   have h9:(L.take i)[j]?=some L[j]:=by rw[List.getElem?_take];simp[hji]
   exact BF h9
  rw[hd,List.any_cons]at hK
  generalize L[j]=y at hy h7 hK
  cases he:(y.s==x.s) with
  |true=>
   rw[he]at hK
   simp only[Bool.true_or]at hK
   rw[<- hK,if_pos rfl]at hr0
   simp only[seval,go_sem,Da,A8,A9,DI,DJ,Gr,AM,A4,A5,AF,h5,h2,h6,h3,h7,he,fl4,zFc,zVc,Vr.c]
   exact AAO
  |false=>
  rw[he]at hK
  simp only[Bool.false_or]at hK
  simp only[seval,go_sem,Da,A8,A9,DI,DJ,Gr,AM,A4,A5,AF,h5,h2,h6,h3,h7,h8,he,fl4,zFc,zVc,Vr.c]
  repeat refine AX ?_
  refine⟨j+1,⟨hji,hK⟩,by omega,A2 [] ?_⟩
  simp only[seval,go_sem,fl4,zFc,Dd.fn,zVc]
 have hji':j=i:=Nat.le_antisymm hj hji
 have h5:=Ai hji
 rw[hji',List.drop_eq_nil_of_le (by rw[List.length_take];exact Nat.min_le_left _ _)]at hK
 simp only[List.any_nil,Bool.false_or]at hK
 simp only[seval,go_sem,Da,A8,A9,DI,DJ,Gr,AM,A4,A5,AF,h5,h4,fl4,zFc,zVc]
 refine⟨i+1,⟨hlt,hK⟩,by omega,A2 [] ?_⟩
 simp only[seval,go_sem,fl4,zFc,Dd.fn,zVc]
end Go.Proofs.YtapedeoheilnnaaGreat
