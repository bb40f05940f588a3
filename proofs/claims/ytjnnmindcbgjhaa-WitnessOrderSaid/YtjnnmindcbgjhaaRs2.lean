/- One statement of a function: names by kind. No conditions but those in each statement. -/
import Derived.Test.YtjnnmindcbgjhaaCo
set_option linter.unusedVariables false
set_option linter.unusedSimpArgs false
open List (append_assoc)
namespace Go.Proofs.Ytjnnmindcbgjhaa
open Go Go.Sy Go.RowKit
def Ex.nm:Ex→List UInt8
 | .nil=>[]
 | .mk _ _ s _ _=>s
def raS (f:Fn) (a:Ar):Ar×Bool:=if a.p=true then (a,Cl f a.s==2) else if MJ f a.e=true then (⟨true,a.e.nm,.nil⟩,true) else (a,Eu f a.e)
def raL (f:Fn) (l:List Ar):List Ar:=l.map (fun a=>(raS f a).1)
def raB (f:Fn) (l:List Ar):Bool:=l.all (fun a=>(raS f a).2)
def rsS (f:Fn):Sm→Sm×Bool
 | .mk k x y e g cd ar th el no=>
  if (k==0)=true then
   if (Cl f x==2)=true then if MJ f e=true then (.mk 2 x e.nm .nil .nil .nil [] [] [] no,true) else (.mk k x y e g cd ar th el no,false)
   else (.mk k x y e g cd ar th el no,Eu f e)
  else if (k==2)=true then (.mk k x y e g cd ar th el no,Cl f x==2&&Cl f y==2)
  else if (k==1)=true then (.mk k x y e g cd ar th el no,Cl f x==2&&Cl f y==0)
  else if (k==3)=true then (.mk k x y e g cd ar th el no,Cl f x==2)
  else if (k==4)=true then (.mk k x y e g cd ar th el no,Cl f x != 2&&Cl f y==2)
  else if (k==5)=true then (.mk k x y e g cd ar th el no,Cl f x==2&&Eu f e)
  else if (k==6)=true then (.mk k x y e g cd ar th el no,Cl f x != 2&&Cl f y==0&&Eu f e)
  else if (k==7)=true then (.mk k x y e g cd ar th el no,Cl f y==0&&Eu f e&&Eu f g)
  else if (k==8)=true then (.mk k x y e g cd (raL f ar) th el no,(x==[]||Cl f x != 2)&&Cl f y==0&&raB f ar)
  else if (k==9)=true then (.mk k x y e g cd ar th el no,Eu f e)
  else (.mk k x y e g cd ar th el no,Pd f cd)
abbrev W4 (n:Nat) (f:Fn) (s:Sm):Prop:=okF f∧OkS n s
abbrev D3 (n:Nat) (f:Fn) (s:Sm):SV:=.tup [.inr (rsS f s).1.c,.inl (.v (.bool (rsS f s).2))]
noncomputable abbrev RO:ArgC ((Fn)×(Sm)×Unit):=(acS (cFn) (acS (cSm) ac0))
abbrev W5 (n:Nat):Prop:=Cg Try.prog 78 RO (fun p:(Fn)×(Sm)×Unit=>W4 n p.1 p.2.1) (fun p:(Fn)×(Sm)×Unit=>D3 n p.1 p.2.1)
theorem fJ (n:Nat):∀p:(Fn)×(Sm)×Unit,((fun p:(Fn)×(Sm)×Unit=>D3 n p.1 p.2.1) p).names=[]:=by intro p;exact qp _ _
noncomputable def IB {X:Ctx} {w0:World} (n:Nat) (h:W5 n):Sy.Spec Try.prog X w0:=DG 78 Try.call78 RO (fun p:(Fn)×(Sm)×Unit=>W4 n p.1 p.2.1) (fun p:(Fn)×(Sm)×Unit=>D3 n p.1 p.2.1) (fJ n) h
attribute [local go_sem] Fn.c Sm.ar Sm.c Sm.cd Sm.e Sm.el Sm.f Sm.k Sm.no Sm.th Sm.x Sm.y
set_option maxRecDepth 20000 in set_option maxHeartbeats 16000000 in
theorem y_rstmt (n:Nat):W5 n:=by
 rintro ⟨f,s,_u⟩ w fz xs hc hfz hl hx
 refine Bw Try.func78 rfl w fz [CA,Br,(CU n (S4 n)),(CJ n (TH n))] [] RO (fun p:(Fn)×(Sm)×Unit=>D3 n p.1 p.2.1) _ xs hfz hl hx (jN rfl) ?_
 clear hx hl hfz xs
 simp only[Try.f78]
 obtain⟨hc1,hc2⟩:=hc
 dsimp only at hc1 hc2
 obtain⟨k,x,y,e,g,cd,ar,th,el,no⟩:=s
 obtain⟨he,hg,hcd,har,hal⟩:=hc2
 dsimp only[Sm.e,Sm.f,Sm.cd,Sm.ar]at he hg hcd har hal
 cases k0:(k==0) with
 |true=>
  cases m0:(Cl f x==2) with
  |true=>
   cases e with
   |nil=>
    have hr:rsS f (.mk k x y .nil g cd ar th el no)=(.mk k x y .nil g cd ar th el no,false):=by simp[rsS,k0,m0,MJ]
    simp only[↓eB,seval,go_sem,CA,Br,CU,CJ,AE,AF,BM,BD,BN,Bx,BO,BG,BP,C3,C4,AU,AA,AB,AK,BU,AV,Am,k0,m0,MJ]
    try simp only[A3,A4]
    repeat' first|exact ck|with_reducible apply And.intro|intro _
    all_goals first|exact hc1|(rename_i h;first|exact oI h|exact nah h)|(rename_i _ h _ g;exact sL h g)|decide|omega|(refine A0 [] ?_;simp only[↓eB,seval,go_sem,bne,D3,hr,AE,AF,BM,BD,BN,Bx,BO,BG,BP,C3,C4,AU,AA,AB,AK,BU,AV,Am])
   |mk k' n' s' a' b'=>
    cases m1:MJ f (.mk k' n' s' a' b') with
    |true=>
     have hr:rsS f (.mk k x y (.mk k' n' s' a' b') g cd ar th el no)=(.mk 2 x s' .nil .nil .nil [] [] [] no,true):=by simp[rsS,k0,m0,m1,Ex.nm]
     simp only[↓eB,seval,go_sem,CA,Br,CU,CJ,AE,AF,BM,BD,BN,Bx,BO,BG,BP,C3,C4,AU,AA,AB,AK,BU,AV,Am,DE,k0,m0,m1]
     try simp only[A3,A4]
     repeat' first|exact ck|with_reducible apply And.intro|intro _
     all_goals first|exact hc1|(rename_i h;first|exact oI h|exact nah h)|(rename_i _ h _ g;exact sL h g)|decide|omega|(refine A0 [] ?_;simp only[↓eB,seval,go_sem,bne,D3,hr,AE,AF,BM,BD,BN,Bx,BO,BG,BP,C3,C4,AU,AA,AB,AK,BU,AV,Am])
    |false=>
     have hr:rsS f (.mk k x y (.mk k' n' s' a' b') g cd ar th el no)=(.mk k x y (.mk k' n' s' a' b') g cd ar th el no,false):=by simp[rsS,k0,m0,m1]
     simp only[↓eB,seval,go_sem,CA,Br,CU,CJ,AE,AF,BM,BD,BN,Bx,BO,BG,BP,C3,C4,AU,AA,AB,AK,BU,AV,Am,k0,m0,m1]
     try simp only[A3,A4]
     repeat' first|exact ck|with_reducible apply And.intro|intro _
     all_goals first|exact hc1|(rename_i h;first|exact oI h|exact nah h)|(rename_i _ h _ g;exact sL h g)|decide|omega|(refine A0 [] ?_;simp only[↓eB,seval,go_sem,bne,D3,hr,AE,AF,BM,BD,BN,Bx,BO,BG,BP,C3,C4,AU,AA,AB,AK,BU,AV,Am])
  |false=>
   have hr:rsS f (.mk k x y e g cd ar th el no)=(.mk k x y e g cd ar th el no,Eu f e):=by simp[rsS,k0,m0]
   simp only[↓eB,seval,go_sem,CA,Br,CU,CJ,AE,AF,BM,BD,BN,Bx,BO,BG,BP,C3,C4,AU,AA,AB,AK,BU,AV,Am,k0,m0]
   try simp only[A3,A4]
   repeat' first|exact ck|with_reducible apply And.intro|intro _
   all_goals first|exact hc1|(rename_i h;first|exact oI h|exact nah h)|(rename_i _ h _ g;exact sL h g)|decide|omega|(refine A0 [] ?_;simp only[↓eB,seval,go_sem,bne,D3,hr,AE,AF,BM,BD,BN,Bx,BO,BG,BP,C3,C4,AU,AA,AB,AK,BU,AV,Am])
 |false=>
 cases k2:(k==2) with
 |true=>
  have hr:rsS f (.mk k x y e g cd ar th el no)=((.mk k x y e g cd ar th el no),Cl f x==2&&Cl f y==2):=by simp[rsS,k0,k2]
  simp only[↓eB,seval,go_sem,CA,Br,CU,CJ,AE,AF,BM,BD,BN,Bx,BO,BG,BP,C3,C4,AU,AA,AB,AK,BU,AV,Am,k0,k2]
  try simp only[A3,A4]
  repeat' first|exact ck|with_reducible apply And.intro|intro _
  all_goals first|exact hc1|(rename_i h;first|exact oI h|exact nah h)|(rename_i _ h _ g;exact sL h g)|decide|omega|(refine A0 [] ?_;simp only[↓eB,seval,go_sem,bne,D3,hr,AE,AF,BM,BD,BN,Bx,BO,BG,BP,C3,C4,AU,AA,AB,AK,BU,AV,Am])
 |false=>
 cases k1:(k==1) with
 |true=>
  have hr:rsS f (.mk k x y e g cd ar th el no)=((.mk k x y e g cd ar th el no),Cl f x==2&&Cl f y==0):=by simp[rsS,k0,k2,k1]
  simp only[↓eB,seval,go_sem,CA,Br,CU,CJ,AE,AF,BM,BD,BN,Bx,BO,BG,BP,C3,C4,AU,AA,AB,AK,BU,AV,Am,k0,k2,k1]
  try simp only[A3,A4]
  repeat' first|exact ck|with_reducible apply And.intro|intro _
  all_goals first|exact hc1|(rename_i h;first|exact oI h|exact nah h)|(rename_i _ h _ g;exact sL h g)|decide|omega|(refine A0 [] ?_;simp only[↓eB,seval,go_sem,bne,D3,hr,AE,AF,BM,BD,BN,Bx,BO,BG,BP,C3,C4,AU,AA,AB,AK,BU,AV,Am])
 |false=>
 cases k3:(k==3) with
 |true=>
  have hr:rsS f (.mk k x y e g cd ar th el no)=((.mk k x y e g cd ar th el no),Cl f x==2):=by simp[rsS,k0,k2,k1,k3]
  simp only[↓eB,seval,go_sem,CA,Br,CU,CJ,AE,AF,BM,BD,BN,Bx,BO,BG,BP,C3,C4,AU,AA,AB,AK,BU,AV,Am,k0,k2,k1,k3]
  try simp only[A3,A4]
  repeat' first|exact ck|with_reducible apply And.intro|intro _
  all_goals first|exact hc1|(rename_i h;first|exact oI h|exact nah h)|(rename_i _ h _ g;exact sL h g)|decide|omega|(refine A0 [] ?_;simp only[↓eB,seval,go_sem,bne,D3,hr,AE,AF,BM,BD,BN,Bx,BO,BG,BP,C3,C4,AU,AA,AB,AK,BU,AV,Am])
 |false=>
 cases k4:(k==4) with
 |true=>
  have hr:rsS f (.mk k x y e g cd ar th el no)=((.mk k x y e g cd ar th el no),Cl f x != 2&&Cl f y==2):=by simp[rsS,k0,k2,k1,k3,k4]
  simp only[↓eB,seval,go_sem,CA,Br,CU,CJ,AE,AF,BM,BD,BN,Bx,BO,BG,BP,C3,C4,AU,AA,AB,AK,BU,AV,Am,k0,k2,k1,k3,k4]
  try simp only[A3,A4]
  repeat' first|exact ck|with_reducible apply And.intro|intro _
  all_goals first|exact hc1|(rename_i h;first|exact oI h|exact nah h)|(rename_i _ h _ g;exact sL h g)|decide|omega|(refine A0 [] ?_;simp only[↓eB,seval,go_sem,bne,D3,hr,AE,AF,BM,BD,BN,Bx,BO,BG,BP,C3,C4,AU,AA,AB,AK,BU,AV,Am])
 |false=>
 cases k5:(k==5) with
 |true=>
  have hr:rsS f (.mk k x y e g cd ar th el no)=((.mk k x y e g cd ar th el no),Cl f x==2&&Eu f e):=by simp[rsS,k0,k2,k1,k3,k4,k5]
  simp only[↓eB,seval,go_sem,CA,Br,CU,CJ,AE,AF,BM,BD,BN,Bx,BO,BG,BP,C3,C4,AU,AA,AB,AK,BU,AV,Am,k0,k2,k1,k3,k4,k5]
  try simp only[A3,A4]
  repeat' first|exact ck|with_reducible apply And.intro|intro _
  all_goals first|exact hc1|(rename_i h;first|exact oI h|exact nah h)|(rename_i _ h _ g;exact sL h g)|decide|omega|(refine A0 [] ?_;simp only[↓eB,seval,go_sem,bne,D3,hr,AE,AF,BM,BD,BN,Bx,BO,BG,BP,C3,C4,AU,AA,AB,AK,BU,AV,Am])
 |false=>
 cases k6:(k==6) with
 |true=>
  have hr:rsS f (.mk k x y e g cd ar th el no)=((.mk k x y e g cd ar th el no),Cl f x != 2&&Cl f y==0&&Eu f e):=by simp[rsS,k0,k2,k1,k3,k4,k5,k6]
  simp only[↓eB,seval,go_sem,CA,Br,CU,CJ,AE,AF,BM,BD,BN,Bx,BO,BG,BP,C3,C4,AU,AA,AB,AK,BU,AV,Am,k0,k2,k1,k3,k4,k5,k6]
  try simp only[A3,A4]
  repeat' first|exact ck|with_reducible apply And.intro|intro _
  all_goals first|exact hc1|(rename_i h;first|exact oI h|exact nah h)|(rename_i _ h _ g;exact sL h g)|decide|omega|(refine A0 [] ?_;simp only[↓eB,seval,go_sem,bne,D3,hr,AE,AF,BM,BD,BN,Bx,BO,BG,BP,C3,C4,AU,AA,AB,AK,BU,AV,Am])
 |false=>
 cases k7:(k==7) with
 |true=>
  have hr:rsS f (.mk k x y e g cd ar th el no)=((.mk k x y e g cd ar th el no),Cl f y==0&&Eu f e&&Eu f g):=by simp[rsS,k0,k2,k1,k3,k4,k5,k6,k7]
  simp only[↓eB,seval,go_sem,CA,Br,CU,CJ,AE,AF,BM,BD,BN,Bx,BO,BG,BP,C3,C4,AU,AA,AB,AK,BU,AV,Am,k0,k2,k1,k3,k4,k5,k6,k7]
  try simp only[A3,A4]
  repeat' first|exact ck|with_reducible apply And.intro|intro _
  all_goals first|exact hc1|(rename_i h;first|exact oI h|exact nah h)|(rename_i _ h _ g;exact sL h g)|decide|omega|(refine A0 [] ?_;simp only[↓eB,seval,go_sem,bne,D3,hr,AE,AF,BM,BD,BN,Bx,BO,BG,BP,C3,C4,AU,AA,AB,AK,BU,AV,Am])
 |false=>
 cases k8:(k==8) with
 |true=>
  simp only[↓eB,seval,go_sem,CA,Br,CU,CJ,AE,AF,BM,BD,BN,Bx,BO,BG,BP,C3,C4,AU,AA,AB,AK,BU,AV,Am,k0,k2,k1,k3,k4,k5,k6,k7,k8]
  refine⟨hc1,hc1,Dw (by kernel_rfl),⟨fun q h=>(by cases h;rfl),Gd.stor,by omega,by omega⟩,?_⟩
  refine Ac (Y:=List Ar×List Ar×Bool) (fun z=>z.1.length+z.2.1.length≤5000∧(∀a∈z.2.1,a.e.dp<n)∧z.1++raL f z.2.1=raL f ar∧(z.2.2&&raB f z.2.1)=((x==[]||Cl f x != 2)&&Cl f y==0&&raB f ar))
   (fun z=>⟨[(2,true,.one (.p 2 0 0)),(3,true,.one (.p 3 0 0)),(4,true,.one (.p 4 0 0)),(8,true,.one (.v (.bool z.2.2))),(9,true,.one (.s 1000)),(10,true,.one (.v (.int .i64 (z.1.length:Int))))],
    [(2,.vec 0 fl4 [f.c]),(3,.vec 0 LU [(Sm.mk k x y e g cd ar th el no).c]),(4,.vec 0 LU [zSc]),(1000,.vec 0 zAc ((z.1++z.2.1).map Ar.c))]⟩)
   (fun z=>z.2.1.length) ([],ar,(x==[]||Cl f x != 2)&&Cl f y==0) ⟨by simpa using hal,har,rfl,rfl⟩ ?_ ?_
  ·refine A2 [.mv 132 1000] ?_;simp only[↓eB,seval,go_sem,AE,AF,BM,BD,BN,Bx,BO,BG,BP,C3,C4,AU,AA,AB,AK,BU,AV,Am,fl4,LU,zSc,zAc,Gd.mv,Gd.fn]
  ·rintro ⟨d,r,b⟩ ⟨g1,g2,g3,g4⟩
   refine Aq [CA,Br,CU n (S4 n),CJ n (TH n)] [] _ _ _ ?_
   dsimp only at g1 g2 g3 g4
   cases r with
   |nil=>
    simp only[List.append_nil,raL,raB,List.map_nil,List.all_nil,Bool.and_true]at g3 g4
    have h1:=BA (Nat.le_refl d.length)
    have hr:rsS f (.mk k x y e g cd ar th el no)=(.mk k x y e g cd d th el no,b):=by
     simp[rsS,k0,k1,k2,k3,k4,k5,k6,k7,k8];exact⟨by rw[g3];rfl,by rw[g4];simp[raB]⟩
    simp only[↓eB,seval,go_sem,CA,Br,CU,CJ,AE,AF,BM,BD,BN,Bx,BO,BG,BP,C3,C4,AU,AA,AB,AK,BU,AV,Am,h1,fl4,LU,zSc,zAc]
    refine A0 [.fz 1000] ?_;simp only[↓eB,seval,go_sem,bne,D3,hr,AE,AF,BM,BD,BN,Bx,BO,BG,BP,C3,C4,AU,AA,AB,AK,BU,AV,Am,Gd.ds,Gd.fz,zAc,zAr]
   |cons a r'=>
    have hL:(d++a::r')[d.length]?=some a:=by simp
    have hlt:d.length<(d++a::r').length:=by simp
    have hsm:(d++a::r').length≤4294967296:=by simp only[List.length_append,List.length_cons]at g1 ⊢;omega
    have hD:d++a::r'=(d++[a])++r':=by simp
    have h1:=B9 hlt
    have h2:=F6 hlt
    have h3:=yG hL
    have h4:=Dy (Nat.le_of_lt hlt) hsm
    have hae:=g2 a (List.mem_cons_self ..)
    have g2':∀a∈r',a.e.dp<n:=fun a h=>g2 a (List.mem_cons_of_mem _ h)
    have g1':((d++[(raS f a).1]).length+r'.length)≤5000:=by simp only[jL3]at g1 ⊢;omega
    have g3':(d++[(raS f a).1])++raL f r'=raL f ar:=by rw[← g3];simp[raL]
    have g4':((b&&(raS f a).2)&&raB f r')=((x==[]||Cl f x != 2)&&Cl f y==0&&raB f ar):=by rw[← g4];simp[raB,Bool.and_assoc]
    have hn:(d++[(raS f a).1]).length=d.length+1:=by simp
    obtain⟨p,s,e0⟩:=a
    dsimp only at hae
    cases p with
    |true=>
     have ha:raS f ⟨true,s,e0⟩=(⟨true,s,e0⟩,Cl f s==2):=by simp[raS]
     rw[ha]at g1' g3' g4' hn
     dsimp only at g1' g3' g4' hn
     simp only[↓eB,seval,go_sem,CA,Br,CU,CJ,AE,AF,BM,BD,BN,Bx,BO,BG,BP,C3,C4,AU,AA,AB,AK,BU,AV,Am,h1,h2,h3,h4,fl4,LU,zSc,zAc,Ar.c]
     try simp only[A3,A4]
     repeat' first|exact ck|with_reducible apply And.intro|intro _
     all_goals try first|exact hc1|exact hlt|exact hae|(rename_i h;first|exact oI h|exact nah h)|(rename_i _ h _ g;exact sL h g)|decide|omega
     refine⟨(d++[⟨true,s,e0⟩],r',b&&Cl f s==2),⟨g1',g2',g3',g4'⟩,Nat.lt_succ_self _,A2 [] ?_⟩
     simp only[↓eB,seval,go_sem,Gd.fn,append_assoc,List.singleton_append,hn,fl4,LU,zSc,zAc,Ar.c]
    |false=>
    cases e0 with
    |nil=>
     have ha:raS f ⟨false,s,.nil⟩=(⟨false,s,.nil⟩,Eu f .nil):=by simp[raS,MJ]
     rw[ha]at g1' g3' g4' hn
     dsimp only at g1' g3' g4' hn
     simp only[↓eB,seval,go_sem,CA,Br,CU,CJ,AE,AF,BM,BD,BN,Bx,BO,BG,BP,C3,C4,AU,AA,AB,AK,BU,AV,Am,h1,h2,h3,h4,fl4,LU,zSc,zAc,Ar.c,MJ]
     try simp only[A3,A4]
     repeat' first|exact ck|with_reducible apply And.intro|intro _
     all_goals try first|exact hc1|exact hlt|exact hae|(rename_i h;first|exact oI h|exact nah h)|(rename_i _ h _ g;exact sL h g)|decide|omega
     refine⟨(d++[⟨false,s,.nil⟩],r',b&&Eu f .nil),⟨g1',g2',g3',g4'⟩,Nat.lt_succ_self _,A2 [] ?_⟩
     simp only[↓eB,seval,go_sem,Gd.fn,append_assoc,List.singleton_append,hn,fl4,LU,zSc,zAc,Ar.c]
    |mk k' n' s' a' b'=>
    cases m1:MJ f (.mk k' n' s' a' b') with
    |true=>
     have ha:raS f ⟨false,s,.mk k' n' s' a' b'⟩=(⟨true,s',.nil⟩,true):=by simp[raS,m1,Ex.nm]
     rw[ha]at g1' g3' g4' hn
     dsimp only at g1' g3' g4' hn
     simp only[Bool.and_true]at g4'
     have h5:((d++⟨false,s,.mk k' n' s' a' b'⟩::r').map Ar.c).set d.length [.v (.bool true),.v (.string (bs s')),.v (.pointer none)]=(d++⟨true,s',.nil⟩::r').map Ar.c:=by rw[List.map_append,List.map_append,List.set_append_right _ _ (by simp)];simp[Ar.c,AV]
     simp only[↓eB,seval,go_sem,CA,Br,CU,CJ,AE,AF,BM,BD,BN,Bx,BO,BG,BP,C3,C4,AU,AA,AB,AK,BU,AV,Am,h1,h2,h3,h4,fl4,LU,zSc,zAc,Ar.c,DE,m1,h5]
     try simp only[A3,A4]
     repeat' first|exact ck|with_reducible apply And.intro|intro _
     all_goals try first|exact hc1|exact hlt|exact hae|(rename_i h;first|exact oI h|exact nah h)|(rename_i _ h _ g;exact sL h g)|decide|omega
     refine⟨(d++[⟨true,s',.nil⟩],r',b),⟨g1',g2',g3',g4'⟩,Nat.lt_succ_self _,A2 [] ?_⟩
     simp only[↓eB,seval,go_sem,Gd.fn,append_assoc,List.singleton_append,hn,fl4,LU,zSc,zAc,Ar.c]
    |false=>
     have ha:raS f ⟨false,s,.mk k' n' s' a' b'⟩=(⟨false,s,.mk k' n' s' a' b'⟩,Eu f (.mk k' n' s' a' b')):=by simp[raS,m1]
     rw[ha]at g1' g3' g4' hn
     dsimp only at g1' g3' g4' hn
     simp only[↓eB,seval,go_sem,CA,Br,CU,CJ,AE,AF,BM,BD,BN,Bx,BO,BG,BP,C3,C4,AU,AA,AB,AK,BU,AV,Am,h1,h2,h3,h4,fl4,LU,zSc,zAc,Ar.c,m1]
     try simp only[A3,A4]
     repeat' first|exact ck|with_reducible apply And.intro|intro _
     all_goals try first|exact hc1|exact hlt|exact hae|(rename_i h;first|exact oI h|exact nah h)|(rename_i _ h _ g;exact sL h g)|decide|omega
     refine⟨(d++[⟨false,s,.mk k' n' s' a' b'⟩],r',b&&Eu f (.mk k' n' s' a' b')),⟨g1',g2',g3',g4'⟩,Nat.lt_succ_self _,A2 [] ?_⟩
     simp only[↓eB,seval,go_sem,Gd.fn,append_assoc,List.singleton_append,hn,fl4,LU,zSc,zAc,Ar.c]
 |false=>
 cases k9:(k==9) with
 |true=>
  have hr:rsS f (.mk k x y e g cd ar th el no)=((.mk k x y e g cd ar th el no),Eu f e):=by simp[rsS,k0,k2,k1,k3,k4,k5,k6,k7,k8,k9]
  simp only[↓eB,seval,go_sem,CA,Br,CU,CJ,AE,AF,BM,BD,BN,Bx,BO,BG,BP,C3,C4,AU,AA,AB,AK,BU,AV,Am,k0,k2,k1,k3,k4,k5,k6,k7,k8,k9]
  try simp only[A3,A4]
  repeat' first|exact ck|with_reducible apply And.intro|intro _
  all_goals first|exact hc1|(rename_i h;first|exact oI h|exact nah h)|(rename_i _ h _ g;exact sL h g)|decide|omega|(refine A0 [] ?_;simp only[↓eB,seval,go_sem,bne,D3,hr,AE,AF,BM,BD,BN,Bx,BO,BG,BP,C3,C4,AU,AA,AB,AK,BU,AV,Am])
 |false=>
 have hr:rsS f (.mk k x y e g cd ar th el no)=((.mk k x y e g cd ar th el no),Pd f cd):=by simp[rsS,k0,k2,k1,k3,k4,k5,k6,k7,k8,k9]
 simp only[↓eB,seval,go_sem,CA,Br,CU,CJ,AE,AF,BM,BD,BN,Bx,BO,BG,BP,C3,C4,AU,AA,AB,AK,BU,AV,Am,k0,k2,k1,k3,k4,k5,k6,k7,k8,k9]
 try simp only[A3,A4]
 repeat' first|exact ck|with_reducible apply And.intro|intro _
 all_goals first|exact hc1|(rename_i h;first|exact oI h|exact nah h)|(rename_i _ h _ g;exact sL h g)|decide|omega|(refine A0 [] ?_;simp only[↓eB,seval,go_sem,bne,D3,hr,AE,AF,BM,BD,BN,Bx,BO,BG,BP,C3,C4,AU,AA,AB,AK,BU,AV,Am])
end Go.Proofs.Ytjnnmindcbgjhaa
