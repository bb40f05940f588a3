/- A run of the document's machine, walked. Conditions: the programs are regular; lengths. -/
import Derived.Test.YtapedeoheilnnaaGreatRst
import Derived.Test.YtapedeoheilnnaaGreatZr9
import Derived.Test.YtapedeoheilnnaaGreatRml
set_option linter.all false
namespace Go.Proofs.YtapedeoheilnnaaGreat
open Go Go.Sy Go.RowKit
theorem AT{P:Prop}(h:P:=by
 have hlt:=(List.getElem?_eq_some_iff.1 hx).1
 have g1:=Ah hlt
 have g3:=Ug hx
 rw[sO hx]at hJ
 cases ok with
 |false=>
  simp only[seval,go_sem,↓A0,hm0',m0a,m0b,m0c,m0d,m0e,m0f,m0g,m0h,m0i,g1,g3,w1]
  refine⟨(i+1,false),⟨hlt,hJ⟩,by dsimp only;omega,?_⟩
  refine A2 [] ?_;simp only[seval,go_sem,↓A0,hm0',m0a,m0b,m0c,m0d,m0e,m0f,m0g,m0h,m0i,Hj]
 |true=>
 cases hp:x.p with
 |false=>
  simp only[seval,go_sem,↓A0,hm0',m0a,m0b,m0c,m0d,m0e,m0f,m0g,m0h,m0i,g1,g3,w1,hp]
  refine⟨(by omega),(i+1,true),⟨hlt,by rw[hp]at hJ;exact hJ⟩,by dsimp only;omega,?_⟩
  refine A2 [] ?_;simp only[seval,go_sem,↓A0,hm0',m0a,m0b,m0c,m0d,m0e,m0f,m0g,m0h,m0i,Hj]
 |true=>
 cases hs:(x.s==[]) with
 |true=>
  simp only[seval,go_sem,↓A0,hm0',m0a,m0b,m0c,m0d,m0e,m0f,m0g,m0h,m0i,g1,g3,w1,hp,hs]
  refine⟨(by omega),(by omega),(i+1,true),⟨hlt,by rw[hp,hs]at hJ;exact hJ⟩,by dsimp only;omega,?_⟩
  refine A2 [] ?_;simp only[seval,go_sem,↓A0,hm0',m0a,m0b,m0c,m0d,m0e,m0f,m0g,m0h,m0i,Hj]
 |false=>
 cases hcx:decide (0<=m0.cx x.s) with
 |true=>
  simp only[seval,go_sem,↓A0,hm0',m0a,m0b,m0c,m0d,m0e,m0f,m0g,m0h,m0i,g1,g3,w1,hp,hs,hcx]
  refine⟨(by omega),(by omega),(by omega),hcl _,(i+1,true),⟨hlt,by rw[hp,hs,hcx]at hJ;exact hJ⟩,by dsimp only;omega,?_⟩
  refine A2 [] ?_;simp only[seval,go_sem,↓A0,hm0',m0a,m0b,m0c,m0d,m0e,m0f,m0g,m0h,m0i,Hj]
 |false=>
 simp only[seval,go_sem,↓A0,hm0',m0a,m0b,m0c,m0d,m0e,m0f,m0g,m0h,m0i,g1,g3,w1,hp,hs,hcx]
 refine⟨(by omega),(by omega),(by omega),hcl _,(i+1,false),⟨hlt,by rw[hp,hs,hcx]at hJ;exact hJ⟩,by dsimp only;omega,?_⟩
 refine A2 [] ?_;simp only[seval,go_sem,↓A0,hm0',m0a,m0b,m0c,m0d,m0e,m0f,m0g,m0h,m0i,Hj]):P:=h
theorem Yd{P:Prop}(h:P:=by refine A1 [.fz 1008,.fz 1009] ?_;simp only[seval,go_sem,bne,Jn,hr,ouC,zNb,zNa]):P:=h
def mz0(P:Pg)(s:Sta)(fuel:Int):Ms:=⟨mn fuel 1048576,0,stCs P.g.c s.cs,stA P.g.a s.ar,0,0,[],0,0⟩
def poL(m:Ms):List Va->Bool
 |[]=>true
 |a::l=>(!a.p||a.s==[]||decide (0<=m.cx a.s))&&poL m l
def S4(v:Int)(m:Ms):Ms:=if (m.e==2)=true then { m with e:=1,v:=0 } else if (m.e==3)=true then { m with e:=2,v:=0,f:=[],al:=0,k:=0 } else { m with e:=0,v:=v,f:=[],al:=0,k:=0 }
def clZ(n:Nat)(P:Pg)(f:List UInt8)(va:List Va)(s:Sta)(fuel:Int):Ms:=
 if fuel<1 then { mz0 P s fuel with e:=2 }
 else match fnG f P.fs with
  |none=>{ mz0 P s fuel with e:=1,f:=f,al := -1,k:=4 }
  |some g=>if (Dw g.ps va&&poL (mz0 P s fuel) va)=true then S4 (enZ (stZ n) P g va (mz0 P s fuel)).1 (enZ (stZ n) P g va (mz0 P s fuel)).2
   else { mz0 P s fuel with e:=1,f:=f,al := -1,k:=4 }
abbrev qM:List C:=tgN 47 7
theorem sO{m:Ms}{l:List Va}{i:Nat}{x:Va}{b:Bool}(h:l[i]?=some x):(b&&poL m (l.drop i))=((b&&(!x.p||x.s==[]||decide (0<=m.cx x.s)))&&poL m (l.drop (i+1))):=by
 rw[BF h,Bool.and_assoc];rfl
structure okRz(N n:Nat)(P:Pg)(va:List Va)(s:Sta)(fuel:Int):Prop where
 o:okR N n P va s fuel
 r:∀f∈P.fs,∃k,bkR k f.body
abbrev qN(N:Nat)(n:Nat)(p:Pg)(f:List UInt8)(va:List Va)(s:Sta)(fuel:Int):Prop:=okRz N n p va s fuel
abbrev Jn(N:Nat)(n:Nat)(p:Pg)(f:List UInt8)(va:List Va)(s:Sta)(fuel:Int):SV:=.agg (ouC (clZ n p f va s fuel))
noncomputable abbrev cH:ArgC ((Pg)×(List UInt8)×(List Va)×(Sta)×(Int)×Unit):=(acS (cPg) (acS (cStr) (acS (Mr) (acS (cSta) (acS (cInt .i64) ac0)))))
abbrev qO(N:Nat)(n:Nat):Prop:=Ca Tryz.prog 15 cH (λp:(Pg)×(List UInt8)×(List Va)×(Sta)×(Int)×Unit=>qN N n p.1 p.2.1 p.2.2.1 p.2.2.2.1 p.2.2.2.2.1) (λp:(Pg)×(List UInt8)×(List Va)×(Sta)×(Int)×Unit=>Jn N n p.1 p.2.1 p.2.2.1 p.2.2.2.1 p.2.2.2.2.1)
attribute [local go_sem] Fn.c ML.ch ML.ren M_st Na.r Nb.r PT LL OI LM Di A9 A8 GM GL MX MW Ae Ad chL MU fcN AM lmH lmO Lb ND NE DH Cj Ck EQ jv LP FF G9 SN SQ ju LO E0 Ez SM SP nmX pgR Dz Dh D3 D4 ED E9 E5 EE rnC rzC rzW Ci stR CU E8 vrQ mF mG Ed BO Ew B1 FA H9 BN Eu FX HV qM Rx
set_option maxRecDepth 20000 in set_option maxHeartbeats 32000000 in
attribute[local go_sem] iD xt in
theorem xi(N:Nat)(n:Nat):qO N n:=by
 rintro ⟨p,f,va,s,fuel,_u⟩ w fz xs hc hfz hl hx
 refine Bg Tryz.func15 rfl w fz [Mo,H9,FA,B1,(Ed N n (S3 N n (Ox N n (Qs N n))))] [(2,[.fold 24 0 3,.fold 24 0 4]),(3,[.unr 24 0 3 1008,.unr 24 0 4 1009]),(11,[.unr 24 0 3 1008,.unr 24 0 4 1009]),(15,[.unr 24 0 3 1008,.unr 24 0 4 1009]),(17,[.unr 24 0 3 1008,.unr 24 0 4 1009]),(18,[.unr 24 0 3 1008,.unr 24 0 4 1009])] cH (λp:(Pg)×(List UInt8)×(List Va)×(Sta)×(Int)×Unit=>Jn N n p.1 p.2.1 p.2.2.1 p.2.2.2.1 p.2.2.2.2.1) _ xs hfz hl hx (jN rfl) ?_
 clear hx hl hfz xs
 simp only[Tryz.f15]
 obtain⟨⟨pc,pa⟩,pf⟩:=p
 obtain⟨sc,sa⟩:=s
 obtain⟨⟨hP,hc,ha,hl,hsc,hsa,hva,hfn,hn9⟩,hreg⟩:=hc
 dsimp only at hc ha hl hsc hsa hreg
 have hfn:fuel<n:=hfn
 have hva:va.length<=5000:=hva
 have hfm:=gA fuel
 have hS:Zd ((⟨⟨pc,pa⟩,pf⟩:Pg),⟨sc,sa⟩,()):=⟨hc,ha,hl,hsc,hsa⟩
 have hpl:pf.length<=1000000:=hP.l
 obtain⟨m0,hm0⟩:∃m0,mz0 ⟨⟨pc,pa⟩,pf⟩ ⟨sc,sa⟩ fuel=m0:=⟨_,rfl⟩
 have hm0':(⟨mn fuel 1048576,0,stCs pc sc,stA pa sa,0,0,[],0,0⟩:Ms)=m0:=hm0
 have m0a:m0.fuel=mn fuel 1048576:=by rw[<- hm0']
 have m0b:m0.deep=0:=by rw[<- hm0']
 have m0c:m0.cs=stCs pc sc:=by rw[<- hm0']
 have m0d:m0.ar=stA pa sa:=by rw[<- hm0']
 have m0e:m0.e=0:=by rw[<- hm0']
 have m0f:m0.v=0:=by rw[<- hm0']
 have m0g:m0.f=[]:=by rw[<- hm0']
 have m0h:m0.al=0:=by rw[<- hm0']
 have m0i:m0.k=0:=by rw[<- hm0']
 have hcl:∀s,cA (⟨⟨pc,pa⟩,pf⟩,m0) s:=by
  intro s
  show m0.cs.length<=_
  rw[m0c,ON];exact hc
 cases hd:decide (fuel<1) with
 |true=>
  have hr:clZ n ⟨⟨pc,pa⟩,pf⟩ f va ⟨sc,sa⟩ fuel=⟨mn fuel 1048576,0,stCs pc sc,stA pa sa,2,0,[],0,0⟩:=by unfold clZ;rw[if_pos (of_decide_eq_true hd)];rfl
  simp only[seval,go_sem,↓A0,hm0',m0a,m0b,m0c,m0d,m0e,m0f,m0g,m0h,m0i,hd]
  refine⟨hS,Bn (by kernel_rfl),?_⟩
  exact Yd
 |false=>
 have hd1:=of_decide_eq_false hd
 cases hf:fnG f pf with
 |none=>
  have hfs:fnSV (fnG f pf)= .tup [.inr [.v (.string (bs [])),.v (.slice none 0 0),.v (.slice none 0 0),.v (.slice none 0 0)],.inl (.v (.bool false))]:=by rw[hf];rfl
  have hr:clZ n ⟨⟨pc,pa⟩,pf⟩ f va ⟨sc,sa⟩ fuel=⟨mn fuel 1048576,0,stCs pc sc,stA pa sa,1,0,f,-1,4⟩:=by unfold clZ;rw[if_neg hd1];dsimp only;rw[hf];rfl
  simp only[seval,go_sem,↓A0,hm0',m0a,m0b,m0c,m0d,m0e,m0f,m0g,m0h,m0i,hd,hfs,sH]
  refine⟨hS,Bn (by kernel_rfl),hpl,?_⟩
  refine AC (Y:=Nat×Bool) (λz=>z.1<=va.length/\(z.2&&poL m0 (va.drop z.1))=(false&&poL m0 va))
   (λz=>⟨[(1,true,.one (.v (.string (bs f)))),(2,true,.one (.d (.sl IQ (va.map Va.r)))),(5,true,.one (.p 5 0 0)),(8,true,.one (.p 8 0 0)),(10,true,.one (.p 10 0 0)),(11,true,.one (.p 24 0 0)),(12,true,.one (.p 12 0 0)),(14,true,.one (.v (.bool z.2))),(15,true,.one (.v (.int .i64 (z.1:Int))))],[(5,Gb pc pa pf),(8,KB sc sa),(10,.vec 0 qM [[.v (.int .i64 0),.v (.int .i64 0),.v (.string (bs [])),.v (.int .i64 0),.v (.int .i64 0),.v (.slice none 0 0),.v (.slice none 0 0)]]),(24,.vec 0 zRz [rzC ⟨⟨pc,pa⟩,pf⟩ m0]),(12,.vec 0 Rx [Hj])]⟩)
   (λz=>va.length-z.1) (0,false) ⟨Nat.zero_le _,rfl⟩ ?_ ?_
  .refine A2 [] ?_;simp only[seval,go_sem,↓A0,hm0',m0a,m0b,m0c,m0d,m0e,m0f,m0g,m0h,m0i,Hj,hm0]
  rintro ⟨i,ok⟩ ⟨hi,hJ⟩
  dsimp only at hi hJ
  refine AP [Mo,H9,FA,B1,Ed N n (S3 N n (Ox N n (Qs N n)))] [(2,[.fold 24 0 3,.fold 24 0 4]),(3,[.unr 24 0 3 1008,.unr 24 0 4 1009]),(11,[.unr 24 0 3 1008,.unr 24 0 4 1009]),(15,[.unr 24 0 3 1008,.unr 24 0 4 1009]),(17,[.unr 24 0 3 1008,.unr 24 0 4 1009]),(18,[.unr 24 0 3 1008,.unr 24 0 4 1009])] _ _ _ ?_
  have w1:IntKind.i64.wrap ((i:Int)+1)=((i+1:Nat):Int):=by rw[wrap_i64 (by omega) (by omega)];rfl
  cases hx:va[i]? with
  |none=>
   have g2:=List.getElem?_eq_none_iff.1 hx
   have g1:=Ai g2
   rw[List.drop_eq_nil_of_le g2]at hJ
   have hJ':ok=(false&&poL m0 va):=by rw[<- hJ];simp[poL]
   have hJ2:ok=false:=by rw[hJ'];rfl
   subst hJ2
   simp only[seval,go_sem,↓A0,hm0',m0a,m0b,m0c,m0d,m0e,m0f,m0g,m0h,m0i,g1,Hj]
   exact Yd
  |some x=>
  exact AT
 |some g=>
 have hgm:=YE hf
 obtain⟨hgF,mg,hgB⟩:=hP.f g hgm
 obtain⟨kg,hgR⟩:=hreg g hgm
 have hft:VD g va:=⟨hgF.1,by omega⟩
 have hfs:fnSV (fnG f pf)= .tup [.inr g.c,.inl (.v (.bool true))]:=by rw[hf];rfl
 obtain⟨v0,hv0⟩:∃v0,Dw g.ps va=v0:=⟨_,rfl⟩
 simp only[seval,go_sem,↓A0,hm0',m0a,m0b,m0c,m0d,m0e,m0f,m0g,m0h,m0i,hd,hfs,hv0]
 refine⟨hS,Bn (by kernel_rfl),hpl,hft,?_⟩
 refine AC (Y:=Nat×Bool) (λz=>z.1<=va.length/\(z.2&&poL m0 (va.drop z.1))=(v0&&poL m0 va))
  (λz=>⟨[(1,true,.one (.v (.string (bs f)))),(2,true,.one (.d (.sl IQ (va.map Va.r)))),(5,true,.one (.p 5 0 0)),(8,true,.one (.p 8 0 0)),(10,true,.one (.p 10 0 0)),(11,true,.one (.p 24 0 0)),(12,true,.one (.p 12 0 0)),(14,true,.one (.v (.bool z.2))),(15,true,.one (.v (.int .i64 (z.1:Int))))],[(5,Gb pc pa pf),(8,KB sc sa),(10,.vec 0 qM [[.v (.int .i64 0),.v (.int .i64 0),.v (.string (bs [])),.v (.int .i64 0),.v (.int .i64 0),.v (.slice none 0 0),.v (.slice none 0 0)]]),(24,.vec 0 zRz [rzC ⟨⟨pc,pa⟩,pf⟩ m0]),(12,.vec 0 Rx [g.c])]⟩)
  (λz=>va.length-z.1) (0,v0) ⟨Nat.zero_le _,rfl⟩ ?_ ?_
 .refine A2 [] ?_;simp only[seval,go_sem,↓A0,hm0',m0a,m0b,m0c,m0d,m0e,m0f,m0g,m0h,m0i,Hj,hm0]
 rintro ⟨i,ok⟩ ⟨hi,hJ⟩
 dsimp only at hi hJ
 refine AP [Mo,H9,FA,B1,Ed N n (S3 N n (Ox N n (Qs N n)))] [(2,[.fold 24 0 3,.fold 24 0 4]),(3,[.unr 24 0 3 1008,.unr 24 0 4 1009]),(11,[.unr 24 0 3 1008,.unr 24 0 4 1009]),(15,[.unr 24 0 3 1008,.unr 24 0 4 1009]),(17,[.unr 24 0 3 1008,.unr 24 0 4 1009]),(18,[.unr 24 0 3 1008,.unr 24 0 4 1009])] _ _ _ ?_
 have w1:IntKind.i64.wrap ((i:Int)+1)=((i+1:Nat):Int):=by rw[wrap_i64 (by omega) (by omega)];rfl
 cases hx:va[i]? with
 |none=>
  have g2:=List.getElem?_eq_none_iff.1 hx
  have g1:=Ai g2
  rw[List.drop_eq_nil_of_le g2]at hJ
  have hJ':ok=(v0&&poL m0 va):=by rw[<- hJ];simp[poL]
  cases ok with
  |false=>
   have hr:clZ n ⟨⟨pc,pa⟩,pf⟩ f va ⟨sc,sa⟩ fuel=⟨mn fuel 1048576,0,stCs pc sc,stA pa sa,1,0,f,-1,4⟩:=by
    unfold clZ;rw[if_neg hd1];dsimp only;rw[hf];dsimp only;rw[hm0,hv0,<- hJ',if_neg (by decide),m0a,m0b,m0c,m0d,m0f]
   simp only[seval,go_sem,↓A0,hm0',m0a,m0b,m0c,m0d,m0e,m0f,m0g,m0h,m0i,g1]
   exact Yd
  |true=>
  have hv1:v0=true:=by cases v0;cases hJ';rfl
  rw[hv1]at hv0
  have hpo:poL m0 va=true:=by rw[hv1]at hJ';simpa using hJ'.symm
  obtain⟨E,hE⟩:∃E,enZ (stZ n) ⟨⟨pc,pa⟩,pf⟩ g va m0=E:=⟨_,rfl⟩
  obtain⟨v,m⟩:=E
  have hr0:clZ n ⟨⟨pc,pa⟩,pf⟩ f va ⟨sc,sa⟩ fuel=S4 v m:=by
   unfold clZ;rw[if_neg hd1];dsimp only;rw[hf];dsimp only;rw[hm0,hv0,hpo,hE];rfl
  have hen:Su N n (⟨⟨pc,pa⟩,pf⟩,m0) g va:=⟨⟨hP,hreg,by show m0.cs.length<=_;rw[m0c,ON];exact hc,by show m0.ar.length<=_;rw[m0d,W6];exact ha,by show ∀a∈m0.ar,_;rw[m0d];exact Xb pa sa (λx hx=>(hl x hx).2),.inr (by show 0<=m0.fuel;rw[m0a];have:=hfm.2.2 (by omega);omega),by show m0.fuel<_;rw[m0a];omega⟩,⟨hgF,⟨mg,hgB⟩,kg,hgR⟩,hv0,hn9⟩
  cases e2:(m.e==2) with
  |true=>
   have hr:clZ n ⟨⟨pc,pa⟩,pf⟩ f va ⟨sc,sa⟩ fuel={ m with e:=1,v:=0 }:=by rw[hr0];exact if_pos e2
   simp only[seval,go_sem,↓A0,hm0',m0a,m0b,m0c,m0d,m0e,m0f,m0g,m0h,m0i,g1,hE,e2]
   refine⟨hen,Bn (by kernel_rfl),?_⟩
   exact Yd
  |false=>
  cases e3:(m.e==3) with
  |true=>
   have hr:clZ n ⟨⟨pc,pa⟩,pf⟩ f va ⟨sc,sa⟩ fuel={ m with e:=2,v:=0,f:=[],al:=0,k:=0 }:=by rw[hr0];unfold S4;rw[if_neg (by rw[e2];decide),if_pos e3]
   simp only[seval,go_sem,↓A0,hm0',m0a,m0b,m0c,m0d,m0e,m0f,m0g,m0h,m0i,g1,hE,e2,e3]
   refine⟨hen,?_⟩
   exact Yd
  |false=>
  have hr:clZ n ⟨⟨pc,pa⟩,pf⟩ f va ⟨sc,sa⟩ fuel={ m with e:=0,v:=v,f:=[],al:=0,k:=0 }:=by rw[hr0];unfold S4;rw[if_neg (by rw[e2];decide),if_neg (by rw[e3];decide)]
  simp only[seval,go_sem,↓A0,hm0',m0a,m0b,m0c,m0d,m0e,m0f,m0g,m0h,m0i,g1,hE,e2,e3]
  refine⟨hen,?_⟩
  exact Yd
 |some x=>
 exact AT
end Go.Proofs.YtapedeoheilnnaaGreat
