/- One statement of a function: names by kind. No conditions but those in each statement. -/
import Derived.Test.YtapedeoheilnnaaGreatCo
set_option linter.all false
set_option maxRecDepth 20000
set_option maxHeartbeats 16000000
open List (append_assoc map_append)
namespace Go.Proofs.YtapedeoheilnnaaGreat
open Go Go.Sy Go.RowKit
variable{P:Prop}
theorem Li(h:P:=by (repeat' first|exact ck|with_reducible apply And.intro|intro _);all_goals first|exact hc1|exact KZ|(refine A1 [] ?_;simp only[seval,go_sem,bne,R5,hr,AE,AF,CP,CA,CQ,Ed,CR,CS,DU,DV,Ab,AA,AB,AN,Dh,BQ,Bw])):P:=h
theorem zg(h:P:=by (repeat' first|exact ck|with_reducible apply And.intro|intro _);all_goals first|exact hok|exact KZ|(refine A1 [] ?_;simp only[seval,go_sem,bne,LI,hr,AE,AF,DN,DO,Hk,Ab,AA,AB,AN])):P:=h
theorem zh(h:P:=by (repeat' first|exact ck|with_reducible apply And.intro|intro _);all_goals first|exact hok|exact hc3|exact KZ|(refine A1 [] ?_;simp only[seval,go_sem,bne,LI,hr0,AE,AF,DN,DO,Hk,Ab,AA,AB,AN])):P:=h
def Ex.nm:Ex->List UInt8
 | .nil=>[]
 | .mk _ _ s _ _=>s
def raS(f:Fn)(a:Ar):Ar×Bool:=if a.p=true then (a,AH f a.s==2) else if Mg f a.e=true then (⟨true,a.e.nm,.nil⟩,true) else (a,D3 f a.e)
def raL(f:Fn)(l:List Ar):List Ar:=l.map (λa=>(raS f a).1)
def raB(f:Fn)(l:List Ar):Bool:=l.all (λa=>(raS f a).2)
def rsS(f:Fn):Sm->Sm×Bool
 | .mk k x y e g cd ar th el no=>
  if (k==0)=true then
   if (AH f x==2)=true then if Mg f e=true then (.mk 2 x e.nm .nil .nil .nil [] [] [] no,true) else (.mk k x y e g cd ar th el no,false)
   else (.mk k x y e g cd ar th el no,D3 f e)
  else if (k==2)=true then (.mk k x y e g cd ar th el no,AH f x==2&&AH f y==2)
  else if (k==1)=true then (.mk k x y e g cd ar th el no,AH f x==2&&AH f y==0)
  else if (k==3)=true then (.mk k x y e g cd ar th el no,AH f x==2)
  else if (k==4)=true then (.mk k x y e g cd ar th el no,AH f x != 2&&AH f y==2)
  else if (k==5)=true then (.mk k x y e g cd ar th el no,AH f x==2&&D3 f e)
  else if (k==6)=true then (.mk k x y e g cd ar th el no,AH f x != 2&&AH f y==0&&D3 f e)
  else if (k==7)=true then (.mk k x y e g cd ar th el no,AH f y==0&&D3 f e&&D3 f g)
  else if (k==8)=true then (.mk k x y e g cd (raL f ar) th el no,(x==[]||AH f x != 2)&&AH f y==0&&raB f ar)
  else if (k==9)=true then (.mk k x y e g cd ar th el no,D3 f e)
  else (.mk k x y e g cd ar th el no,J6 f cd)
abbrev nf(n:Nat)(f:Fn)(s:Sm):Prop:=okF f/\OkS n s
abbrev R5(n:Nat)(f:Fn)(s:Sm):SV:=.tup [.inr (rsS f s).1.c,.inl (.v (.bool (rsS f s).2))]
noncomputable abbrev UW:ArgC ((Fn)×(Sm)×Unit):=(acS (cFn) (acS (cSm) ac0))
abbrev Zu(n:Nat):Prop:=Cu Tryz.prog 80 UW (λp:(Fn)×(Sm)×Unit=>nf n p.1 p.2.1) (λp:(Fn)×(Sm)×Unit=>R5 n p.1 p.2.1)
noncomputable def JR{X:Ctx}{w0:World}(n:Nat)(h:Zu n):Sy.Spec Tryz.prog X w0:=E2 80 Tryz.call80 UW _ _ (id (by intro p;exact xK _ _)) h
attribute [local go_sem] Fn.c Sm.ar Sm.c Sm.cd Sm.e Sm.el Sm.f Sm.k Sm.no Sm.th Sm.x Sm.y
theorem y_rstmt(n:Nat):Zu n:=by
 rintro ⟨f,s,_u⟩ w fz xs hc hfz hl hx
 refine Bu Tryz.func80 rfl w fz [D2,CX,(DQ n (V1 n)),(D8 n (WK n))] [] UW (λp:(Fn)×(Sm)×Unit=>R5 n p.1 p.2.1) _ xs hfz hl hx (jN rfl) ?_
 clear hx hl hfz xs
 simp only[Tryz.f80]
 obtain⟨hc1,hc2⟩:=hc
 dsimp only at hc1 hc2
 obtain⟨k,x,y,e,g,cd,ar,th,el,no⟩:=s
 obtain⟨he,hg,hcd,har,hal⟩:=hc2
 dsimp only[Sm.e,Sm.f,Sm.cd,Sm.ar]at he hg hcd har hal
 cases k0:(k==0) with
 |true=>
  cases m0:(AH f x==2) with
  |true=>
   cases e with
   |nil=>
    have hr:rsS f (.mk k x y .nil g cd ar th el no)=(.mk k x y .nil g cd ar th el no,false):=by simp[rsS,k0,m0,Mg]
    simp only[seval,go_sem,D2,CX,DQ,D8,AE,AF,CP,CA,CQ,Ed,CR,CS,DU,DV,Ab,AA,AB,AN,Dh,BQ,Bw,k0,m0,Mg]
    try simp only[A2,A3]
    try exact Li
   |mk k' n' s' a' b'=>
   cases m1:Mg f (.mk k' n' s' a' b') with
   |true=>
    have hr:rsS f (.mk k x y (.mk k' n' s' a' b') g cd ar th el no)=(.mk 2 x s' .nil .nil .nil [] [] [] no,true):=by simp[rsS,k0,m0,m1,Ex.nm]
    simp only[seval,go_sem,D2,CX,DQ,D8,AE,AF,CP,CA,CQ,Ed,CR,CS,DU,DV,Ab,AA,AB,AN,Dh,BQ,Bw,EN,k0,m0,m1]
    try simp only[A2,A3]
    try exact Li
   |false=>
   have hr:rsS f (.mk k x y (.mk k' n' s' a' b') g cd ar th el no)=(.mk k x y (.mk k' n' s' a' b') g cd ar th el no,false):=by simp[rsS,k0,m0,m1]
   simp only[seval,go_sem,D2,CX,DQ,D8,AE,AF,CP,CA,CQ,Ed,CR,CS,DU,DV,Ab,AA,AB,AN,Dh,BQ,Bw,k0,m0,m1]
   try simp only[A2,A3]
   try exact Li
  |false=>
  have hr:rsS f (.mk k x y e g cd ar th el no)=(.mk k x y e g cd ar th el no,D3 f e):=by simp[rsS,k0,m0]
  simp only[seval,go_sem,D2,CX,DQ,D8,AE,AF,CP,CA,CQ,Ed,CR,CS,DU,DV,Ab,AA,AB,AN,Dh,BQ,Bw,k0,m0]
  try simp only[A2,A3]
  try exact Li
 |false=>
 cases k2:(k==2) with
 |true=>
  have hr:rsS f (.mk k x y e g cd ar th el no)=((.mk k x y e g cd ar th el no),AH f x==2&&AH f y==2):=by simp[rsS,k0,k2]
  simp only[seval,go_sem,D2,CX,DQ,D8,AE,AF,CP,CA,CQ,Ed,CR,CS,DU,DV,Ab,AA,AB,AN,Dh,BQ,Bw,k0,k2]
  try simp only[A2,A3]
  try exact Li
 |false=>
 cases k1:(k==1) with
 |true=>
  have hr:rsS f (.mk k x y e g cd ar th el no)=((.mk k x y e g cd ar th el no),AH f x==2&&AH f y==0):=by simp[rsS,k0,k2,k1]
  simp only[seval,go_sem,D2,CX,DQ,D8,AE,AF,CP,CA,CQ,Ed,CR,CS,DU,DV,Ab,AA,AB,AN,Dh,BQ,Bw,k0,k2,k1]
  try simp only[A2,A3]
  try exact Li
 |false=>
 cases k3:(k==3) with
 |true=>
  have hr:rsS f (.mk k x y e g cd ar th el no)=((.mk k x y e g cd ar th el no),AH f x==2):=by simp[rsS,k0,k2,k1,k3]
  simp only[seval,go_sem,D2,CX,DQ,D8,AE,AF,CP,CA,CQ,Ed,CR,CS,DU,DV,Ab,AA,AB,AN,Dh,BQ,Bw,k0,k2,k1,k3]
  try simp only[A2,A3]
  try exact Li
 |false=>
 cases k4:(k==4) with
 |true=>
  have hr:rsS f (.mk k x y e g cd ar th el no)=((.mk k x y e g cd ar th el no),AH f x != 2&&AH f y==2):=by simp[rsS,k0,k2,k1,k3,k4]
  simp only[seval,go_sem,D2,CX,DQ,D8,AE,AF,CP,CA,CQ,Ed,CR,CS,DU,DV,Ab,AA,AB,AN,Dh,BQ,Bw,k0,k2,k1,k3,k4]
  try simp only[A2,A3]
  try exact Li
 |false=>
 cases k5:(k==5) with
 |true=>
  have hr:rsS f (.mk k x y e g cd ar th el no)=((.mk k x y e g cd ar th el no),AH f x==2&&D3 f e):=by simp[rsS,k0,k2,k1,k3,k4,k5]
  simp only[seval,go_sem,D2,CX,DQ,D8,AE,AF,CP,CA,CQ,Ed,CR,CS,DU,DV,Ab,AA,AB,AN,Dh,BQ,Bw,k0,k2,k1,k3,k4,k5]
  try simp only[A2,A3]
  try exact Li
 |false=>
 cases k6:(k==6) with
 |true=>
  have hr:rsS f (.mk k x y e g cd ar th el no)=((.mk k x y e g cd ar th el no),AH f x != 2&&AH f y==0&&D3 f e):=by simp[rsS,k0,k2,k1,k3,k4,k5,k6]
  simp only[seval,go_sem,D2,CX,DQ,D8,AE,AF,CP,CA,CQ,Ed,CR,CS,DU,DV,Ab,AA,AB,AN,Dh,BQ,Bw,k0,k2,k1,k3,k4,k5,k6]
  try simp only[A2,A3]
  try exact Li
 |false=>
 cases k7:(k==7) with
 |true=>
  have hr:rsS f (.mk k x y e g cd ar th el no)=((.mk k x y e g cd ar th el no),AH f y==0&&D3 f e&&D3 f g):=by simp[rsS,k0,k2,k1,k3,k4,k5,k6,k7]
  simp only[seval,go_sem,D2,CX,DQ,D8,AE,AF,CP,CA,CQ,Ed,CR,CS,DU,DV,Ab,AA,AB,AN,Dh,BQ,Bw,k0,k2,k1,k3,k4,k5,k6,k7]
  try simp only[A2,A3]
  try exact Li
 |false=>
 cases k8:(k==8) with
 |true=>
  simp only[seval,go_sem,D2,CX,DQ,D8,AE,AF,CP,CA,CQ,Ed,CR,CS,DU,DV,Ab,AA,AB,AN,Dh,BQ,Bw,k0,k2,k1,k3,k4,k5,k6,k7,k8]
  refine⟨hc1,hc1,CH (by kernel_rfl),⟨λq h=>(by cases h;rfl),I9.stor,by omega,by omega⟩,?_⟩
  refine AK (Y:=List Ar×List Ar×Bool) (λz=>z.1.length+z.2.1.length<=5000/\(∀a∈z.2.1,a.e.dp<n)/\z.1++raL f z.2.1=raL f ar/\(z.2.2&&raB f z.2.1)=((x==[]||AH f x != 2)&&AH f y==0&&raB f ar))
   (λz=>⟨[(2,true,.one (.p 2 0 0)),(3,true,.one (.p 3 0 0)),(4,true,.one (.p 4 0 0)),(8,true,.one (.v (.bool z.2.2))),(9,true,.one (.s 1000)),(10,true,.one (.v (.int .i64 (z.1.length:Int))))],
    [(2,.vec 0 fl4 [f.c]),(3,.vec 0 Br [(Sm.mk k x y e g cd ar th el no).c]),(4,.vec 0 Br [zSc]),(1000,.vec 0 zAc ((z.1++z.2.1).map Ar.c))]⟩)
   (λz=>z.2.1.length) ([],ar,(x==[]||AH f x != 2)&&AH f y==0) ⟨by simpa using hal,har,rfl,rfl⟩ ?_ ?_
  .refine A4 [.mv 132 1000] ?_;simp only[seval,go_sem,AE,AF,CP,CA,CQ,Ed,CR,CS,DU,DV,Ab,AA,AB,AN,Dh,BQ,Bw,fl4,Br,zSc,zAc,I9.mv,I9.fn]
  rintro ⟨d,r,b⟩ ⟨g1,g2,g3,g4⟩
  refine AZ [D2,CX,DQ n (V1 n),D8 n (WK n)] [] _ _ _ ?_
  dsimp only at g1 g2 g3 g4
  cases r with
  |nil=>
   simp only[List.append_nil,raL,raB,List.map_nil,List.all_nil,Bool.and_true]at g3 g4
   have h1:=B9 (Nat.le_refl d.length)
   have hr:rsS f (.mk k x y e g cd ar th el no)=(.mk k x y e g cd d th el no,b):=by
    simp[rsS,k0,k1,k2,k3,k4,k5,k6,k7,k8];exact⟨by rw[g3];rfl,by rw[g4];simp[raB]⟩
   simp only[seval,go_sem,D2,CX,DQ,D8,AE,AF,CP,CA,CQ,Ed,CR,CS,DU,DV,Ab,AA,AB,AN,Dh,BQ,Bw,h1,fl4,Br,zSc,zAc]
   refine A1 [.fz 1000] ?_;simp only[seval,go_sem,bne,R5,hr,AE,AF,CP,CA,CQ,Ed,CR,CS,DU,DV,Ab,AA,AB,AN,Dh,BQ,Bw,I9.ds,I9.fz,zAc,zAr]
  |cons a r'=>
  have hL:(d++a::r')[d.length]?=some a:=by simp
  have hlt:d.length<(d++a::r').length:=by simp
  have hsm:(d++a::r').length<=4294967296:=by simp only[List.length_append,List.length_cons]at g1 ⊢;omega
  have hD:d++a::r'=(d++[a])++r':=by simp
  have h1:=B8 hlt
  have h2:=GH hlt
  have h3:=A2i hL
  have h4:=F6 (Nat.le_of_lt hlt) hsm
  have hae:=g2 a (List.mem_cons_self ..)
  have g2':∀a∈r',a.e.dp<n:=λa h=>g2 a (List.mem_cons_of_mem _ h)
  have g1':((d++[(raS f a).1]).length+r'.length)<=5000:=by simp only[jL3]at g1 ⊢;omega
  have g3':(d++[(raS f a).1])++raL f r'=raL f ar:=by rw[<- g3];simp[raL]
  have g4':((b&&(raS f a).2)&&raB f r')=((x==[]||AH f x != 2)&&AH f y==0&&raB f ar):=by rw[<- g4];simp[raB,Bool.and_assoc]
  have hn:(d++[(raS f a).1]).length=d.length+1:=by simp
  obtain⟨p,s,e0⟩:=a
  dsimp only at hae
  cases p with
  |true=>
   have ha:raS f ⟨true,s,e0⟩=(⟨true,s,e0⟩,AH f s==2):=by simp[raS]
   rw[ha]at g1' g3' g4' hn
   dsimp only at g1' g3' g4' hn
   simp only[seval,go_sem,D2,CX,DQ,D8,AE,AF,CP,CA,CQ,Ed,CR,CS,DU,DV,Ab,AA,AB,AN,Dh,BQ,Bw,h1,h2,h3,h4,fl4,Br,zSc,zAc,Ar.c]
   try simp only[A2,A3]
   repeat' first|exact ck|with_reducible apply And.intro|intro _
   all_goals try first|exact hc1|exact hlt|exact hae|exact KZ
   refine⟨(d++[⟨true,s,e0⟩],r',b&&AH f s==2),⟨g1',g2',g3',g4'⟩,Nat.lt_succ_self _,A4 [] ?_⟩
   simp only[seval,go_sem,I9.fn,append_assoc,List.singleton_append,hn,fl4,Br,zSc,zAc,Ar.c]
  |false=>
  cases e0 with
  |nil=>
   have ha:raS f ⟨false,s,.nil⟩=(⟨false,s,.nil⟩,D3 f .nil):=by simp[raS,Mg]
   rw[ha]at g1' g3' g4' hn
   dsimp only at g1' g3' g4' hn
   simp only[seval,go_sem,D2,CX,DQ,D8,AE,AF,CP,CA,CQ,Ed,CR,CS,DU,DV,Ab,AA,AB,AN,Dh,BQ,Bw,h1,h2,h3,h4,fl4,Br,zSc,zAc,Ar.c,Mg]
   try simp only[A2,A3]
   repeat' first|exact ck|with_reducible apply And.intro|intro _
   all_goals try first|exact hc1|exact hlt|exact hae|exact KZ
   refine⟨(d++[⟨false,s,.nil⟩],r',b&&D3 f .nil),⟨g1',g2',g3',g4'⟩,Nat.lt_succ_self _,A4 [] ?_⟩
   simp only[seval,go_sem,I9.fn,append_assoc,List.singleton_append,hn,fl4,Br,zSc,zAc,Ar.c]
  |mk k' n' s' a' b'=>
  cases m1:Mg f (.mk k' n' s' a' b') with
  |true=>
   have ha:raS f ⟨false,s,.mk k' n' s' a' b'⟩=(⟨true,s',.nil⟩,true):=by simp[raS,m1,Ex.nm]
   rw[ha]at g1' g3' g4' hn
   dsimp only at g1' g3' g4' hn
   simp only[Bool.and_true]at g4'
   have h5:((d++⟨false,s,.mk k' n' s' a' b'⟩::r').map Ar.c).set d.length [.v (.bool true),.v (.string (bs s')),.v (.pointer none)]=(d++⟨true,s',.nil⟩::r').map Ar.c:=by rw[map_append,map_append,List.set_append_right _ _ (by simp)];simp[Ar.c,BQ]
   simp only[seval,go_sem,D2,CX,DQ,D8,AE,AF,CP,CA,CQ,Ed,CR,CS,DU,DV,Ab,AA,AB,AN,Dh,BQ,Bw,h1,h2,h3,h4,fl4,Br,zSc,zAc,Ar.c,EN,m1,h5]
   try simp only[A2,A3]
   repeat' first|exact ck|with_reducible apply And.intro|intro _
   all_goals try first|exact hc1|exact hlt|exact hae|exact KZ
   refine⟨(d++[⟨true,s',.nil⟩],r',b),⟨g1',g2',g3',g4'⟩,Nat.lt_succ_self _,A4 [] ?_⟩
   simp only[seval,go_sem,I9.fn,append_assoc,List.singleton_append,hn,fl4,Br,zSc,zAc,Ar.c]
  |false=>
  have ha:raS f ⟨false,s,.mk k' n' s' a' b'⟩=(⟨false,s,.mk k' n' s' a' b'⟩,D3 f (.mk k' n' s' a' b')):=by simp[raS,m1]
  rw[ha]at g1' g3' g4' hn
  dsimp only at g1' g3' g4' hn
  simp only[seval,go_sem,D2,CX,DQ,D8,AE,AF,CP,CA,CQ,Ed,CR,CS,DU,DV,Ab,AA,AB,AN,Dh,BQ,Bw,h1,h2,h3,h4,fl4,Br,zSc,zAc,Ar.c,m1]
  try simp only[A2,A3]
  repeat' first|exact ck|with_reducible apply And.intro|intro _
  all_goals try first|exact hc1|exact hlt|exact hae|exact KZ
  refine⟨(d++[⟨false,s,.mk k' n' s' a' b'⟩],r',b&&D3 f (.mk k' n' s' a' b')),⟨g1',g2',g3',g4'⟩,Nat.lt_succ_self _,A4 [] ?_⟩
  simp only[seval,go_sem,I9.fn,append_assoc,List.singleton_append,hn,fl4,Br,zSc,zAc,Ar.c]
 |false=>
 cases k9:(k==9) with
 |true=>
  have hr:rsS f (.mk k x y e g cd ar th el no)=((.mk k x y e g cd ar th el no),D3 f e):=by simp[rsS,k0,k2,k1,k3,k4,k5,k6,k7,k8,k9]
  simp only[seval,go_sem,D2,CX,DQ,D8,AE,AF,CP,CA,CQ,Ed,CR,CS,DU,DV,Ab,AA,AB,AN,Dh,BQ,Bw,k0,k2,k1,k3,k4,k5,k6,k7,k8,k9]
  try simp only[A2,A3]
  try exact Li
 |false=>
 have hr:rsS f (.mk k x y e g cd ar th el no)=((.mk k x y e g cd ar th el no),J6 f cd):=by simp[rsS,k0,k2,k1,k3,k4,k5,k6,k7,k8,k9]
 simp only[seval,go_sem,D2,CX,DQ,D8,AE,AF,CP,CA,CQ,Ed,CR,CS,DU,DV,Ab,AA,AB,AN,Dh,BQ,Bw,k0,k2,k1,k3,k4,k5,k6,k7,k8,k9]
 try simp only[A2,A3]
 try exact Li
def Sm.wi:Sm->List Sm->List Sm->Sm
 | .mk k x y e g cd ar _ _ no,th,el=>.mk k x y e g cd ar th el no
def rsW(h:List Sm->List Sm×Int)(f:Fn):List Sm->List Sm->List Sm×Int
 |out,[]=>(out,-1)
 |out,s::r=>
  if (rsS f s).2=true then
   if 0<=(h (rsS f s).1.th).2 then ([],(h (rsS f s).1.th).2)
   else if 0<=(h (rsS f s).1.el).2 then ([],(h (rsS f s).1.el).2)
   else rsW h f (out++[(rsS f s).1.wi (h (rsS f s).1.th).1 (h (rsS f s).1.el).1]) r
  else ([],s.no)
def rsN(f:Fn):Nat->List Sm->List Sm×Int
 |0=>λ_=>([],-1)
 |m+1=>rsW (rsN f m) f []
theorem Vm(f:Fn)(s:Sm):((rsS f s).1.th=s.th∨(rsS f s).1.th=[])/\((rsS f s).1.el=s.el∨(rsS f s).1.el=[]):=by
 obtain⟨k,x,y,e,g,cd,ar,th,el,no⟩:=s
 simp only[rsS]
 repeat' split
 all_goals simp[Sm.th,Sm.el]
theorem zi{l:List Sm}{i:Nat}{x:Sm}(h:l[i]?=some x)(z:List D):(l.map Sm.r).getD i z=x.r:=by simp[List.getD,h]
abbrev je(n:Nat)(m:Nat)(f:Fn)(l:List Sm):Prop:=okF f/\okB n m l
abbrev Km(n:Nat)(m:Nat)(f:Fn)(l:List Sm):SV:=.tup [.inl (.d (.sl zSm ((rsN f m l).1.map Sm.r))),.inl (.v (.int .i64 (rsN f m l).2))]
noncomputable abbrev SI:ArgC ((Fn)×(List Sm)×Unit):=(acS (cFn) (acS (cSs) ac0))
abbrev On(n:Nat)(m:Nat):Prop:=Cu Tryz.prog 67 SI (λp:(Fn)×(List Sm)×Unit=>je n m p.1 p.2.1) (λp:(Fn)×(List Sm)×Unit=>Km n m p.1 p.2.1)
noncomputable def DI{X:Ctx}{w0:World}(n:Nat)(m:Nat)(h:On n m):Sy.Spec Tryz.prog X w0:=E2 67 Tryz.call67 SI _ _ KF4 h
attribute [local go_sem] Fn.c
theorem jf(n:Nat)(m:Nat)(hu:On n m):On n (m+1):=by
 rintro ⟨f,l,_u⟩ w fz xs hc hfz hl hx
 refine Bu Tryz.func67 rfl w fz [(JR n (y_rstmt n)),(DI n m hu)] [] SI (λp:(Fn)×(List Sm)×Unit=>Km n (m+1) p.1 p.2.1) _ xs hfz hl hx (jN rfl) ?_
 clear hx hl hfz xs
 simp only[Tryz.f67]
 obtain⟨hc1,hc2⟩:=hc
 dsimp only at hc1 hc2
 obtain⟨hc2,hc3⟩:=hc2
 simp only[seval,go_sem,JR,DI,AE,AF,DU,DV,DN,DO,Sm.c,Sm.k,Sm.x,Sm.y,Sm.e,Sm.f,Sm.cd,Sm.ar,Sm.th,Sm.el,Sm.no,Fl,Ab,AA,AB,AN,Dh]
 have sp:∀s∈l,okB n m (rsS f s).1.th/\okB n m (rsS f s).1.el:=λs hs=>by
  obtain⟨_,h1,h2⟩:=hc3 s hs
  have h3:=Vm f s
  refine⟨?_,?_⟩
  .rcases h3.1 with h|h<;>rw[h]
   .exact h1
   exact Si h1
  rcases h3.2 with h|h<;>rw[h]
  .exact h2
  exact Si h2
 refine AK (Y:=Nat×List Sm) (λz=>z.1<=l.length/\z.2.length=z.1/\rsW (rsN f m) f z.2 (l.drop z.1)=rsN f (m+1) l)
  (λz=>⟨[(1,true,.one (.d (.sl zSm (l.map Sm.r)))),(2,true,.one (.p 2 0 0)),(6,true,.one (.s 1000)),(7,true,.one (.v (.int .i64 (z.1:Int))))],[(2,.vec 0 fl4 [f.c]),(1000,.vec 0 zSc (z.2.map Sm.c))]⟩)
  (λz=>l.length-z.1) (0,[]) ⟨Nat.zero_le _,rfl,rfl⟩ ?_ ?_
 .refine A4 [.nil 6 1000 zSc] ?_;simp only[seval,go_sem,zSc,fl4]
 rintro ⟨i,out⟩ ⟨g1,g2,g3⟩
 refine AZ [JR n (y_rstmt n),DI n m hu] [] _ _ _ ?_
 dsimp only at g1 g2 g3
 cases hx:l[i]? with
 |none=>
  have hi2:l.length<=i:=List.getElem?_eq_none_iff.1 hx
  have h1:=B9 hi2
  rw[List.drop_eq_nil_of_le hi2]at g3
  have hr:rsN f (m+1) l=(out,-1):=g3.symm
  simp only[seval,go_sem,JR,DI,AE,AF,DU,DV,DN,DO,Sm.c,Sm.k,Sm.x,Sm.y,Sm.e,Sm.f,Sm.cd,Sm.ar,Sm.th,Sm.el,Sm.no,Fl,Ab,AA,AB,AN,Dh,h1,fl4,zSc]
  refine A1 [.fz 1000] ?_;simp only[seval,go_sem,bne,Km,hr,zSm,zSc,Hg.ds,Hg.fz]
 |some x=>
 obtain⟨ka,xa,ya,ea,fa,ca,aa,ta,la,na⟩:=x
 have hlt:i<l.length:=(List.getElem?_eq_some_iff.1 hx).1
 have hxm:Sm.mk ka xa ya ea fa ca aa ta la na∈l:=List.mem_of_getElem? hx
 have h1:=B8 hlt
 have h2:=GH hlt
 have h3:=zi hx
 have h4:=F6 g1 (by omega)
 obtain⟨q1,q2,q3⟩:=hc3 _ hxm
 obtain⟨q4,q5⟩:=sp _ hxm
 rw[BJ hx]at g3
 simp only[rsW]at g3
 obtain⟨⟨⟨k,x1,y1,e1,e2,cd,ar,th,el,no⟩,b⟩,hs⟩:∃a,rsS f (.mk ka xa ya ea fa ca aa ta la na)=a:=⟨_,rfl⟩
 rw[hs]at g3 q4 q5
 dsimp only[Sm.th,Sm.el,Sm.wi,Sm.no]at g3 q4 q5
 cases b with
 |false=>
  rw[if_neg (by decide)]at g3
  simp only[seval,go_sem,JR,DI,AE,AF,DU,DV,DN,DO,Sm.c,Sm.k,Sm.x,Sm.y,Sm.e,Sm.f,Sm.cd,Sm.ar,Sm.th,Sm.el,Sm.no,Fl,Ab,AA,AB,AN,Dh,h1,h2,h3,hs,fl4,zSc]
  try simp only[A2,A3]
  repeat' first|exact ck|with_reducible apply And.intro|intro _
  all_goals first|exact hc1|exact hlt|exact q1|exact KZ|(refine A1 [] ?_;simp only[seval,go_sem,bne,Km,<- g3])
 |true=>
 rw[if_pos rfl]at g3
 cases t1:decide (0<=(rsN f m th).2) with
 |true=>
  simp only[of_decide_eq_true t1,if_true]at g3
  simp only[seval,go_sem,JR,DI,AE,AF,DU,DV,DN,DO,Sm.c,Sm.k,Sm.x,Sm.y,Sm.e,Sm.f,Sm.cd,Sm.ar,Sm.th,Sm.el,Sm.no,Fl,Ab,AA,AB,AN,Dh,h1,h2,h3,hs,t1,fl4,zSc]
  try simp only[A2,A3]
  repeat' first|exact ck|with_reducible apply And.intro|intro _
  all_goals first|exact hc1|exact hlt|exact q1|exact q4|exact KZ|(refine A1 [] ?_;simp only[seval,go_sem,bne,Km,<- g3])
 |false=>
 simp only[of_decide_eq_false t1,if_false]at g3
 cases t2:decide (0<=(rsN f m el).2) with
 |true=>
  simp only[of_decide_eq_true t2,if_true]at g3
  simp only[seval,go_sem,JR,DI,AE,AF,DU,DV,DN,DO,Sm.c,Sm.k,Sm.x,Sm.y,Sm.e,Sm.f,Sm.cd,Sm.ar,Sm.th,Sm.el,Sm.no,Fl,Ab,AA,AB,AN,Dh,h1,h2,h3,hs,t1,t2,fl4,zSc]
  try simp only[A2,A3]
  repeat' first|exact ck|with_reducible apply And.intro|intro _
  all_goals first|exact hc1|exact hlt|exact q1|exact q4|exact q5|exact KZ|(refine A1 [] ?_;simp only[seval,go_sem,bne,Km,<- g3])
 |false=>
 simp only[of_decide_eq_false t2,if_false]at g3
 simp only[seval,go_sem,JR,DI,AE,AF,DU,DV,DN,DO,Sm.c,Sm.k,Sm.x,Sm.y,Sm.e,Sm.f,Sm.cd,Sm.ar,Sm.th,Sm.el,Sm.no,Fl,Ab,AA,AB,AN,Dh,h1,h2,h3,h4,hs,t1,t2,fl4,zSc,Hg.fn]
 try simp only[A2,A3]
 repeat' first|exact ck|with_reducible apply And.intro|intro _
 all_goals try first|exact hc1|exact hlt|exact q1|exact q4|exact q5|exact KZ
 refine⟨(i+1,out++[.mk k x1 y1 e1 e2 cd ar (rsN f m th).1 (rsN f m el).1 no]),⟨hlt,by simp[g2],g3⟩,by simp only;omega,
  CJ (t:=⟨[(1,true,.one (.d (.sl zSm (l.map Sm.r)))),(2,true,.one (.p 2 0 0)),(6,true,.one (.s 62)),(7,true,.one (.v (.int .i64 ((i+1:Nat):Int))))],[(2,.vec 0 fl4 [f.c]),(62,.vec 0 zSc ((out++[Sm.mk k x1 y1 e1 e2 cd ar (rsN f m th).1 (rsN f m el).1 no]).map Sm.c))]⟩) (A4 [] ?_) (A4 [.mv 62 1000] ?_)⟩
 .simp only[seval,go_sem,zSc,fl4,Hg.fn,List.flatMap_append,map_append,Sm.c,Sm.k,Sm.x,Sm.y,Sm.e,Sm.f,Sm.cd,Sm.ar,Sm.th,Sm.el,Sm.no]
 simp only[seval,go_sem,zSc,fl4,Hg.fn,Hg.mv]
theorem y_rstmts(n:Nat):∀m:Nat,On n m
 |0=>by
  rintro ⟨f,e,_u⟩ w fz xs hc hfz hl hx
  exact hc.2.elim
 |m+1=>jf n m (y_rstmts n m)
def OD:List Vr->List Vr->Bool
 |_,[]=>false
 |d,v::r=>d.any (λu=>u.s==v.s)||OD (d++[v]) r
def gloB:List UInt8:=[103,108,111,98,97,108,115]
def zFc:List C:=[.v (.string (bs [])),.v (.slice none 0 0),.v (.slice none 0 0),.v (.slice none 0 0)]
theorem A4J:zT zFc=none:=rfl
attribute [go_sem] A4J
def JS(f:Fn)(s:List UInt8)(m:Nat):Fn×Int×Int:=
 if (f.name != s||f.name==gloB)=true then (fn0,-1,62)
 else if OD [] (f.ps++f.ls)=true then (fn0,-1,60)
 else if 0<=(rsN f m f.body).2 then (fn0,(rsN f m f.body).2,61)
 else (⟨f.name,f.ps,f.ls,(rsN f m f.body).1⟩,0,0)
abbrev fX(n:Nat)(m:Nat)(f:Fn)(s:List UInt8):Prop:=okF f/\okB n m f.body
abbrev LI(n:Nat)(m:Nat)(f:Fn)(s:List UInt8):SV:=.tup [.inr (JS f s m).1.c,.inl (.v (.int .i64 (JS f s m).2.1)),.inl (.v (.int .i64 (JS f s m).2.2))]
noncomputable abbrev R6:ArgC ((Fn)×(List UInt8)×Unit):=(acS (cFn) (acS (cStr) ac0))
abbrev Vn(n:Nat)(m:Nat):Prop:=Cu Tryz.prog 43 R6 (λp:(Fn)×(List UInt8)×Unit=>fX n m p.1 p.2.1) (λp:(Fn)×(List UInt8)×Unit=>LI n m p.1 p.2.1)
noncomputable def Ec{X:Ctx}{w0:World}(n:Nat)(m:Nat)(h:Vn n m):Sy.Spec Tryz.prog X w0:=E2 43 Tryz.call43 R6 _ _ KF4 h
attribute [local go_sem] Fn.c
theorem Oo(n:Nat)(m:Nat):Vn n m:=by
 rintro ⟨f,s,_u⟩ w fz xs hc hfz hl hx
 refine Bu Tryz.func43 rfl w fz [(DI n m (y_rstmts n m))] [] R6 (λp:(Fn)×(List UInt8)×Unit=>LI n m p.1 p.2.1) _ xs hfz hl hx (jN rfl) ?_
 clear hx hl hfz xs
 simp only[Tryz.f43]
 obtain⟨⟨hc1,hc2⟩,hc3⟩:=hc
 have hok:okF f:=⟨hc1,hc2⟩
 dsimp only at hc1 hc2 hc3
 cases n0:(f.name==s) with
 |false=>
  have n0':(f.name != s)=true:=by simp[bne,n0]
  have hr:JS f s m=(fn0,-1,62):=by simp[JS,n0']
  simp only[seval,go_sem,DI,AE,AF,DN,DO,Hk,Ab,AA,AB,AN,n0,n0']
  try simp only[A2,A3]
  try exact zg
 |true=>
 have n0':(f.name != s)=false:=by simp[bne,n0]
 cases n1:(f.name==gloB) with
 |true=>
  have hr:JS f s m=(fn0,-1,62):=by simp[JS,n1]
  simp only[gloB]at n1
  simp only[seval,go_sem,DI,AE,AF,DN,DO,Hk,Ab,AA,AB,AN,n0,n0',n1]
  try simp only[A2,A3]
  try exact zg
 |false=>
 have hr0:JS f s m=if OD [] (f.ps++f.ls)=true then (fn0,-1,60)
  else if 0<=(rsN f m f.body).2 then (fn0,(rsN f m f.body).2,61)
  else (⟨f.name,f.ps,f.ls,(rsN f m f.body).1⟩,0,0):=by simp[JS,n1,n0']
 simp only[gloB]at n1
 simp only[seval,go_sem,DI,AE,AF,DN,DO,Hk,Ab,AA,AB,AN,n0,n0',n1]
 refine⟨⟨λq h=>(by cases h;rfl),DM.stor,by omega,by omega⟩,⟨λq h=>(by cases h;rfl),DM.stor,by omega,by omega⟩,CH (by kernel_rfl),?_⟩
 have hsm:(f.ps++f.ls).length<=4294967295:=by simp only[List.length_append];omega
 refine AK (Y:=Nat) (λi=>i<=(f.ps++f.ls).length/\OD ((f.ps++f.ls).take i) ((f.ps++f.ls).drop i)=OD [] (f.ps++f.ls))
  (λi=>⟨[(2,true,.one (.p 2 0 0)),(4,true,.one (.p 4 0 0)),(7,true,.one (.s 1000)),(8,true,.one (.v (.int .i64 (i:Int))))],
   [(2,.vec 0 fl4 [f.c]),(4,.vec 0 fl4 [zFc]),(1000,.vec 0 zVc ((f.ps++f.ls).map Vr.c))]⟩)
  (λi=>(f.ps++f.ls).length-i) 0 ⟨Nat.zero_le _,rfl⟩ ?_ ?_
 .refine A4 [.mv 27 1000] ?_;simp only[seval,go_sem,fl4,zFc,DM.mv,DM.fn,zVc,map_append,List.flatMap_append]
 rintro i ⟨hi,hJ⟩
 refine AZ [DI n m (y_rstmts n m)] [] _ _ _ ?_
 generalize hL:f.ps++f.ls=L at hi hJ hsm hr0 ⊢
 cases hx:L[i]? with
 |none=>
  have hi2:L.length<=i:=List.getElem?_eq_none_iff.1 hx
  have h1:=B9 hi2
  rw[List.drop_eq_nil_of_le hi2]at hJ
  have hd:OD [] L=false:=hJ.symm
  rw[hd,if_neg (by decide)]at hr0
  cases t1:decide (0<=(rsN f m f.body).2) with
  |true=>
   simp only[of_decide_eq_true t1,if_true]at hr0
   simp only[seval,go_sem,DI,AE,AF,DN,DO,Hk,Ab,AA,AB,AN,h1,t1,fl4,zFc,zVc]
   try simp only[A2,A3]
   try exact zh
  |false=>
  simp only[of_decide_eq_false t1,if_false]at hr0
  simp only[seval,go_sem,DI,AE,AF,DN,DO,Hk,Ab,AA,AB,AN,h1,t1,fl4,zFc,zVc]
  try simp only[A2,A3]
  try exact zh
 |some x=>
 have hlt:i<L.length:=(List.getElem?_eq_some_iff.1 hx).1
 have h1:=B8 hlt
 have h2:=GH hlt
 have h3:=eV hx
 have h4:=F6 (Nat.le_of_lt hlt) (Nat.le_succ_of_le hsm)
 rw[BJ hx]at hJ
 simp only[OD]at hJ
 have htk:L.take i++[x]=L.take (i+1):=by rw[List.take_add_one,hx];rfl
 rw[htk]at hJ
 simp only[seval,go_sem,DI,AE,AF,DN,DO,Hk,Ab,AA,AB,AN,h1,fl4,zFc,zVc]
 refine AK (Y:=Nat) (λj=>j<=i/\(((L.take i).drop j).any (λu=>u.s==x.s)||OD (L.take (i+1)) (L.drop (i+1)))=OD [] L)
  (λj=>⟨[(2,true,.one (.p 2 0 0)),(4,true,.one (.p 4 0 0)),(7,true,.one (.s 1000)),(8,true,.one (.v (.int .i64 (i:Int)))),(9,true,.one (.v (.int .i64 (j:Int))))],
   [(2,.vec 0 fl4 [f.c]),(4,.vec 0 fl4 [zFc]),(1000,.vec 0 zVc (L.map Vr.c))]⟩)
  (λj=>i-j) 0 ⟨Nat.zero_le _,hJ⟩ ?_ ?_
 .refine A4 [] ?_;simp only[seval,go_sem,fl4,zFc,DM.fn,zVc]
 rintro j ⟨hj,hK⟩
 refine AZ [DI n m (y_rstmts n m)] [] _ _ _ ?_
 rcases Nat.lt_or_ge j i with hji|hji
 .have hjL:j<L.length:=Nat.lt_trans hji hlt
  have h5:=B8 hji
  have h6:=GH hjL
  have hy:L[j]?=some L[j]:=List.getElem?_eq_getElem hjL
  have h7:=eV hy
  have h8:=F6 (Nat.le_of_lt hjL) (Nat.le_succ_of_le hsm)
  have hd:(L.take i).drop j=L[j]::(L.take i).drop (j+1):=by
   have h9:(L.take i)[j]?=some L[j]:=by rw[List.getElem?_take];simp[hji]
   exact BJ h9
  rw[hd,List.any_cons]at hK
  generalize L[j]=y at hy h7 hK
  cases he:(y.s==x.s) with
  |true=>
   rw[he]at hK
   simp only[Bool.true_or]at hK
   rw[<- hK,if_pos rfl]at hr0
   simp only[seval,go_sem,DI,AE,AF,DN,DO,Hk,Ab,AA,AB,AN,h5,h2,h6,h3,h7,he,fl4,zFc,zVc,Vr.c]
   try simp only[A2,A3]
   repeat' first|exact ck|with_reducible apply And.intro|intro _
   all_goals first|exact hok|exact hlt|exact hjL|exact KZ|(refine A1 [] ?_;simp only[seval,go_sem,bne,LI,hr0,AE,AF,DN,DO,Hk,Ab,AA,AB,AN])
  |false=>
  rw[he]at hK
  simp only[Bool.false_or]at hK
  simp only[seval,go_sem,DI,AE,AF,DN,DO,Hk,Ab,AA,AB,AN,h5,h2,h6,h3,h7,h8,he,fl4,zFc,zVc,Vr.c]
  try simp only[A2,A3]
  repeat' first|exact ck|with_reducible apply And.intro|intro _
  all_goals try first|exact hlt|exact hjL|exact KZ
  refine⟨j+1,⟨hji,hK⟩,by omega,A4 [] ?_⟩
  simp only[seval,go_sem,fl4,zFc,DM.fn,zVc]
 have hji':j=i:=Nat.le_antisymm hj hji
 have h5:=B9 hji
 rw[hji',List.drop_eq_nil_of_le (by rw[List.length_take];exact Nat.min_le_left _ _)]at hK
 simp only[List.any_nil,Bool.false_or]at hK
 simp only[seval,go_sem,DI,AE,AF,DN,DO,Hk,Ab,AA,AB,AN,h5,h4,fl4,zFc,zVc]
 refine⟨i+1,⟨hlt,hK⟩,by omega,A4 [] ?_⟩
 simp only[seval,go_sem,fl4,zFc,DM.fn,zVc]
end Go.Proofs.YtapedeoheilnnaaGreat
