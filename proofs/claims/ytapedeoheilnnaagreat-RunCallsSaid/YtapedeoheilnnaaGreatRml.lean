/- A run's outermost call, walked. No conditions but those in each statement. -/
import Derived.Test.YtapedeoheilnnaaGreatRmi
import Derived.Test.YtapedeoheilnnaaGreatRme
import Derived.Test.YtapedeoheilnnaaGreatPgm
set_option linter.all false
set_option maxRecDepth 20000
set_option maxHeartbeats 32000000
open Option (isSome_some isSome_none)
open List (mem_singleton mem_cons not_mem_nil map_nil)
namespace Go.Proofs.YtapedeoheilnnaaGreat
open Go Go.Sy Go.RowKit
theorem AAa{P:Prop}(h:P:=by simp only[seval,go_sem,CP,CQ,CR,CS,Va.c,isSome_some,isSome_none,IG,Gu,GO,Cz,CW,JY,Gf,Gg,CM,C4,BL,BG,A8,A9,Ad,Ae,DL,DM,Eh,Ei,DE,DF,DG,cSl,Fn.c,hf,h0,ZJ,ZI,P5,Tp,pnM,sRn]):P:=h
def rnA(n:Nat)(P:Pg)(f:List UInt8)(va:List Va)(m:Ms):Bool×Int×Ms:=match P.fi f with
 |none=>(true,0,m.brk f (-1) 4)
 |some i=>
  let g:=P.fs.getD i.toNat ⟨[],[],[],[]⟩
  if Dw g.ps va=false then (true,0,m.brk f (-1) 4)
  else if poB P va=false then (true,0,m.brk f (-1) 4)
  else IX (stF n) P g va m
def rnZ(r:Bool×Int×Ms):Ms:=if r.1=true then OL r.2.2 else { r.2.2 with e:=0,v:=r.2.1,f:=[],al:=0,k:=0 }
noncomputable abbrev Iv:ArgM ((Pg×Ms)×List UInt8×List Va×Unit):=amP mMc (amD cStr (amD Mr am0))
abbrev ZQ(N n:Nat)(p:(Pg×Ms)×List UInt8×List Va×Unit):Prop:=okMs N n ⟨[],0,p.1.1,p.1.2,[]⟩/\p.2.2.1.length<=5000/\n<=1000000000
abbrev XZ(n:Nat)(p:(Pg×Ms)×List UInt8×List Va×Unit):List (Option MV):=[some (mcW p.1.1 (rnZ (rnA n p.1.1 p.2.1 p.2.2.1 p.1.2)))]
abbrev sRn(P:Pg)(m:Ms)(f:List UInt8)(va:List Va):St:=⟨[(1,true,.one (.v (.string (bs f)))),(2,true,.one (.d (.sl IQ (va.map Va.r)))),(3,true,.one (.p 3 0 0))],[(0,.vec 0 zMc [mcC P m]),(3,.vec 0 [.v (.bool false)] [[.p 0 0 0]])]⟩
def xR(M fz:Nat->Prop)(I:Nm)(P:Pg)(r:Bool×Int×Ms):Ctx:=⟨M,fz,[0,3].map λk=>(k,I k),(if r.1=true then some (pnM P r.2.2) else none),[{ target:=.fn (.func 48) #[(I 3).p 0 0],args:=#[] }],[]⟩
theorem P5(M fz:Nat->Prop)(I:Nm)(P:Pg)(r:Bool×Int×Ms):(xR M fz I P r).pn=if r.1=true then some (pnM P r.2.2) else none:=rfl
theorem Tp(M fz:Nat->Prop)(I:Nm)(P:Pg)(r:Bool×Int×Ms):(xR M fz I P r).kp=[]:=rfl
theorem du(cap:Array Value)(w:World):(invoke (.fn (.func 48) cap) #[]).run Tryz.prog w= .ok (.enter 48 cap) w:=by
 have:=Tryz.call48 cap w
 simp[go_sem,this]
section
attribute [local go_sem] Gw IH II mcC mcW EQ Dz GW GV
theorem zq(N n:Nat):C7 Tryz.prog 32 (Iv.args 0) Iv.mem (ZQ N n) (λ_=>.tup []) (XZ n):=by
 rintro ⟨⟨P,m⟩,f,va,_u⟩ w M I lab fz xs ⟨hM,hva,hn9⟩ hA hl hx
 dsimp only at hM hva
 refine jM Tryz.func32 rfl (Iv.mem ⟨(P,m),f,va,_u⟩) w M I lab fz (Iv.args 0 ⟨(P,m),f,va,_u⟩) (XZ n ⟨(P,m),f,va,_u⟩) (.tup []) xs hA hl hx (λv hv k hk=>by have:=Iv.an 0 ⟨(P,m),f,va,_u⟩ v hv k hk;omega) (jN rfl) ?_
 clear hx hl hA xs
 have hm1:(Iv.mem ⟨(P,m),f,va,_u⟩).length=1:=rfl
 rw[hm1]
 obtain⟨r,hr⟩:∃r,rnA n P f va m=r:=⟨_,rfl⟩
 have hMr:XZ n ⟨(P,m),f,va,_u⟩=[some (mcW P (rnZ r))]:=by rw[<- hr]
 rw[hMr]
 generalize hQd:bodyPostD Tryz.prog Tryz.f32 (LZ w M fz I 1 [some (mcW P (rnZ r))] (.tup []))=Qd
 simp only[Tryz.f32]
 have hq0:∀e s' act w',e≠Exit.normal->False->Holds (mX M fz I 1) w 60 s' act w'->Qd e act w':=λ_ _ _ _ _ h=>h.elim
 have hp0:∀ch act w',Hn (mX M fz I 1) act->Kh (mX M fz I 1) w ch w'->Qd (.panic ch) act w':=by
  rintro ch act w' _ ⟨_,_,_,_,_,_,hpn⟩
  exact hpn.elim
 refine vM (λ_ _=>False) [] [] hq0 hp0 ?_
 simp only[seval,go_sem,Ad]
 refine A4p (t:=sRn P m f va) (A2 [] ?_) ?_
 .simp only[seval,go_sem,sRn]
 intro a w1 hs1
 obtain⟨J,hn,hfx,hsl,hD⟩:=Zw hs1 (t:=9) rfl [(3,3)] (by simp[sRn,lkp]) [0,3] (by simp[sRn,lkp]) (if r.1=true then some (pnM P r.2.2) else none)
 refine oc rfl rfl rfl rfl rfl rfl (by rw[hn];decide) ?_
 have v3:a.tmps[3]?=some ((J 3).p 0 0):=hsl (3,3) (by simp)
 have ev:(#[Operand.tmp 3].map a.eval) = #[(J 3).p 0 0]:=by simp[Act.eval,v3]
 have hdf:a.defers=[]:=hs1.defers
 have j0:J 0=I 0:=hfx (0,I 0) (by simp[memF])
 rw[ev,hdf]
 refine(?_:Ut (P:=Tryz.prog) (xR M fz J P r) w 60 _ (sRn P m f va) Qd) _ _ (hD _ _)
 clear hD hs1 ev v3 hsl hn hdf hq0 hp0 hfx
 have hq1:∀e s' act w',(e=Exit.normal/\r.1=false/\Mx Tryz.prog (xR M fz J P r) Tryz.f32.results.toList (pe (.tup []) [some (mcW P (rnZ r))]) s')->Holds (xR M fz J P r) w 60 s' act w'->Qd e act w':=by
  rintro e s' act w' ⟨rfl,_,hret⟩ hh
  rw[<- hQd]
  show Leaves _ _ _ _ act.defers .returning w'
  rw[hh.defers]
  obtain⟨x,hx1,y,I',lab',fz',_,hAt,_⟩:=tl (X:=xR M fz J P r) (M:=M) (fz0:=fz) (I0:=I) (m:=1) rfl rfl (by
   intro p hp
   simp only[memF,mem_singleton]at hp
   subst hp
   show (0,I 0)∈[(0,J 0),(3,J 3)]
   rw[j0];simp) (by simp) hret hh
  refine leaves_cons (f:=48) (args:=#[(J 3).p 0 0]) (by simp) (du _ _) ?_
  refine(ny hAt _).mono ?_
  rintro e u' w2 ⟨rfl,rfl,I2,lab2,fz2,hA2⟩
  exact⟨.tuple #[],by simp[results,Tryz.results32,go_sem],.tuple #[],I2,lab2,fz2,rfl,hA2,⟨#[],rfl,rfl,by simp⟩⟩
 have hp1:∀ch act w',Hn (xR M fz J P r) act->Kh (xR M fz J P r) w ch w'->Qd (.panic ch) act w':=by
  rintro ch act w' ⟨hd,_⟩ ⟨⟨t,y,rfl⟩,I',lab,fz',H',hA,hpn⟩
  rw[<- hQd]
  have hbt:r.1=true:=by
   cases hb:r.1 with
   |true=>rfl
   |false=>rw[P5,hb]at hpn;exact hpn.elim
  rw[P5,hbt,if_pos rfl]at hpn
  have hI3:I' 3=J 3:=(hA.fix (3,J 3) (by simp[xR])).2
  have hB:=A4o hA (pnM P r.2.2) hpn (by
   intro p hp q hq c hc k hk2
   simp only[pnM,mem_cons,not_mem_nil,or_false]at hp
   rcases hp with rfl|rfl<;>simp only[mem_cons,not_mem_nil,or_false]at hq<;>subst hq
   .simp only[mem_cons,not_mem_nil,or_false]at hc;subst hc
    simp only[C.names,mem_singleton]at hk2;subst hk2;simp[pnM]
   .rw[JL P r.2.2 c hc]at hk2;cases hk2) (by
   intro p hp
   simp only[xR,List.map_cons,map_nil,mem_cons,not_mem_nil,or_false]at hp
   rcases hp with rfl|rfl<;>simp[pnM])
  have hC:=js P r.2.2 hB (by
   intro q hq
   simp only[xR,List.map_cons,map_nil,mem_cons,not_mem_nil,or_false]at hq
   rcases hq with rfl|rfl<;>simp) t y
  rw[hI3]at hC
  show Leaves _ _ _ _ act.defers _ w'
  rw[hd]
  refine leaves_cons (f:=48) (args:=#[(J 3).p 0 0]) (by simp) (du _ _) ?_
  refine hC.mono ?_
  rintro e u' w2 ⟨rfl,rfl,I2,lab2,fz2,hA2⟩
  have hz:rnZ r=OL r.2.2:=by unfold rnZ;rw[hbt];rfl
  refine⟨.tuple #[],by simp[results,Tryz.results32,go_sem],.tuple #[],I2,lab2,fz2,rfl,?_,⟨#[],rfl,rfl,by simp⟩⟩
  refine Qo (X:=mX M fz I 1) (dU (X:=xR M fz J P r) rfl rfl (by
   intro p hp
   simp only[memF,mem_singleton]at hp
   subst hp
   show (0,I 0)∈[(0,J 0),(3,J 3)]
   rw[j0];simp) hA2) ?_ ?_
  .intro q hq
   simp only[memO,chO,mcW,mem_singleton]at hq
   subst hq
   rw[hz]
   refine⟨⟨rfl,rfl,.inl rfl⟩,?_⟩
   intro k hk
   simp only[chNames,List.flatMap_cons,List.flatMap_nil,List.append_nil]at hk
   obtain⟨c,hc,hk⟩:=List.mem_flatMap.1 hk
   rw[JL P _ c hc]at hk;cases hk
  intro p hp
  simp only[memF,mem_singleton]at hp
  subst hp;rfl
 refine vN _ [IG,Cz,JY,CM N n (dk N n (RB N n (Th N n)))] [] hq1 hp1 ?_
 clear hq1 hp1 hQd
 cases hf:P.fi f with
 |none=>
  have hr2:r=(true,0,m.brk f (-1) 4):=by rw[<- hr];unfold rnA;rw[hf]
  subst hr2
  rcases zP P.fs with h0|⟨n0,p0,l0,b0,h0⟩
  .exact AAa
  exact AAa
 |some i=>
 have hi2:=Pg.fi_lt hf
 have hg:=zO hi2
 have hgm:P.fs.getD i.toNat ⟨[],[],[],[]⟩∈P.fs:=by
  have:i.toNat<P.fs.length:=by omega
  exact AA4
 obtain⟨gF,gB⟩:=hM.p.f _ hgm
 obtain⟨g,hgE⟩:∃g,P.fs.getD i.toNat ⟨[],[],[],[]⟩=g:=⟨_,rfl⟩
 rw[hgE]at hg gF gB
 obtain⟨gn,gps,gls,gb⟩:=g
 have gp5:gps.length<=5000:=gF.1
 cases hft:Dw gps va with
 |false=>
  have hr2:r=(true,0,m.brk f (-1) 4):=by rw[<- hr];unfold rnA;rw[hf];dsimp only;rw[hgE];exact if_pos hft
  subst hr2
  simp only[seval,go_sem,CP,CQ,CR,CS,Va.c,isSome_some,isSome_none,IG,Gu,GO,Cz,CW,JY,Gf,Gg,CM,C4,BL,BG,A8,A9,Ad,Ae,DL,DM,Eh,Ei,DE,DF,DG,cSl,Fn.c,hf,hg,hft,P5,Tp,pnM,sRn]
  exact⟨⟨hi2.1,hi2.2,rfl⟩,⟨gp5,hva⟩⟩
 |true=>
 cases hpo:poB P va with
 |false=>
  have hr2:r=(true,0,m.brk f (-1) 4):=by rw[<- hr];unfold rnA;rw[hf];dsimp only;rw[hgE,if_neg (by rw[show Dw gps va=true from hft];decide)];exact if_pos hpo
  subst hr2
  simp only[seval,go_sem,CP,CQ,CR,CS,Va.c,isSome_some,isSome_none,IG,Gu,GO,Cz,CW,JY,Gf,Gg,CM,C4,BL,BG,A8,A9,Ad,Ae,DL,DM,Eh,Ei,DE,DF,DG,cSl,Fn.c,hf,hg,hft,hpo,P5,Tp,pnM,sRn]
  exact⟨⟨hi2.1,hi2.2,rfl⟩,⟨gp5,hva⟩,hva⟩
 |true=>
 have hrc:IX (stF n) P ⟨gn,gps,gls,gb⟩ va m=r:=by rw[<- hr];unfold rnA;rw[hf];dsimp only;rw[hgE,if_neg (by rw[show Dw gps va=true from hft];decide),if_neg (by rw[hpo];decide)]
 have hcl:Uh N n (P,m) ⟨gn,gps,gls,gb⟩ va:=⟨hM,⟨gF,gB⟩,hft,hn9⟩
 obtain⟨rb,rv,rm⟩:=r
 cases rb with
 |true=>
  simp only[seval,go_sem,CP,CQ,CR,CS,Va.c,isSome_some,isSome_none,IG,Gu,GO,Cz,CW,JY,Gf,Gg,CM,C4,BL,BG,A8,A9,Ad,Ae,DL,DM,Eh,Ei,DE,DF,DG,cSl,Fn.c,hf,hg,hft,hpo,hrc,P5,Tp,pnM,sRn]
  exact⟨⟨hi2.1,hi2.2,rfl⟩,⟨gp5,hva⟩,hva,⟨hi2.1,hi2.2,rfl⟩,hcl,Bn (by kernel_rfl)⟩
 |false=>
 simp only[seval,go_sem,CP,CQ,CR,CS,Va.c,isSome_some,isSome_none,IG,Gu,GO,Cz,CW,JY,Gf,Gg,CM,C4,BL,BG,A8,A9,Ad,Ae,DL,DM,Eh,Ei,DE,DF,DG,cSl,Fn.c,hf,hg,hft,hpo,hrc,P5,Tp,pnM,sRn]
 refine⟨⟨hi2.1,hi2.2,rfl⟩,⟨gp5,hva⟩,hva,⟨hi2.1,hi2.2,rfl⟩,hcl,Bn (by kernel_rfl),?_⟩
 have hz:rnZ (false,rv,rm)=⟨rm.fuel,rm.deep,rm.cs,rm.ar,0,rv,[],0,0⟩:=rfl
 rw[hz]
 refine A1 [] ?_;simp only[seval,go_sem,bne,A0y,Tryz.f32,pnM]
end
end Go.Proofs.YtapedeoheilnnaaGreat
namespace Go.Sy
open Go Go.RowKit
def nz(es:List (List C)):Prop:=∀r∈es,∀c∈r,c.names=[]/\ovC (some c)=false
theorem o7{r:List C}(h:∀c∈r,c.names=[]/\ovC (some c)=false):nz [r]:=by
 intro r' hr;rw[List.mem_singleton.1 hr];exact h
theorem uh{es:List (List C)}(h:nz es){p:List (Nat×Nat)}{z:List C}(hi:inP p z es):ovP p z es=false:=by
 have key:∀(i j:Nat) (c:C),i<es.length->(es.getD i z)[j]?=some c->ovC (some c)=false:=by
  intro i j c hi hc
  have hg:es.getD i z=es[i]:=by simp[List.getD,hi]
  rw[hg]at hc
  exact(h _ (List.getElem_mem hi) c (List.mem_of_getElem? hc)).2
 match p,hi with
 |[(i,j)],hi=>
  simp only[inP]at hi
  simp only[ovP,Et]
  cases hc:(es.getD i z)[j]? with
  |none=>rfl
  |some c=>grind
 |(i,j)::q::r,hi=>
  simp only[inP]at hi
  obtain⟨h1,h2⟩:=hi
  cases hc:(es.getD i z)[j]? with
  |none=>simp_all
  |some c=>
  have:=key i j c h1 hc
  rw[hc]at h2
  cases c<;>first|exact h2.elim|(simp[ovC]at this)
def aL(H:Hp)(u:List (Nat×Ch)):Prop:=∀k ch,H k=some ch->updH H u k=some ch∨∃u0 u1 z z1 es,ch= .vec u0 z es/\updH H u k=some (.vec u1 z1 es)/\nz es/\z.length=z1.length/\zT z=none
theorem zr{h:Bf}{fz:Nat->Prop}{lab:Lab}{I:Nm}{π:List Nat}{z z1:List C}{es:List (List C)}{x:Value}(hl:z.length=z1.length)(hz:zT z=none)(r:EY h fz lab I π z1 es x):EY h fz lab I π z es x:=by
 rcases r with r|⟨b,off,cap,arr,T,h1,h2,h3,h4,h5,h6⟩
 .exact .inl r
 refine .inr ⟨b,off,cap,arr,T,h1,h2,h3,⟨by rw[hl];exact h4.1,IY hz⟩,h5,?_⟩
 rw[hl];exact h6
theorem ui{X:Ctx}{w0 w w':World}{I:Nm}{lab:Lab}{fz:Nat->Prop}{H:Hp}{v:SV}{u:List (Nat×Ch)}{x:Value}(hA:AtW X w0 I lab fz H w)(hk:aL H u)(hv:LX v=true)(h:I6 X w0 w I lab fz H (some v) u x w'):I6 X w0 w I lab fz H (some v) [] x w':=by
 obtain⟨I',lab',fz',h1,h2,h3⟩:=h
 refine⟨I',lab',fz',⟨λk ch hc=>?_,λk ch hc=>hA.wf k ch hc,h1.own,h1.fzl,h1.fzo,h1.kept,λp hp=>⟨(hA.fix p hp).1,(h1.fix p hp).2⟩⟩,λs hs=>?_,⟨h3.z,h3.n,λk u0 p y hs hw=>?_⟩⟩
 .rcases hk k ch hc with e|⟨u0,u1,z,z1,es,rfl,e,_,hl,hz⟩
  .exact h1.h k ch e
  obtain⟨q1,q2,q3⟩:=h1.h k _ e
  exact⟨q1,q2.trans hl.symm,zr hl hz q3⟩
 .simp only[jS]at hs
  subst hs
  exact Nv hv (h2 _ rfl)
 have hw':=h3.w k u0 p y hs hw
 refine⟨hw.1,λu' z es hc=>?_⟩
 rcases hk k _ hc with e|⟨u0',u1,z',z1,es',e0,e,hsim,_,_⟩
 .exact hw'.2 u' z es e
 simp only[Ch.vec.injEq]at e0
 obtain⟨rfl,rfl,rfl⟩:=e0
 exact⟨(hw.2 _ _ _ hc).1,λ_ hi ho=>by rw[uh hsim hi]at ho;cases ho⟩
section
variable {P:Program}{X:Ctx}{w0:World}
def zu(s:Sy.Spec P X w0)(hro:∀t args H c e fp,s.fn t args H=some (c,e,fp)->c->H t=none->aL H e.upd/\LX e.val=true/\e.val.names=[]):Sy.Spec P X w0 where
 f:=s.f
 call:=s.call
 fn t args H:=match s.fn t args H with
  |some (c,e,fp)=>some (c,⟨e.val,[]⟩,fp)
  |none=>none
 ok w I lab fz H t args xs c e fp hA ht h hc hd hl hx:=by
  split at h
  .rename_i c' e' fp' hs
   simp only[jS,jP]at h
   obtain⟨rfl,rfl,rfl⟩:=h
   obtain⟨k1,k2,k3⟩:=hro _ _ _ _ _ _ hs hc ht
   refine(s.ok w I lab fz H t args xs _ _ _ hA ht hs hc hd hl hx).mono ?_
   rintro en w' (⟨x,e1,hp⟩|hp)
   .exact .inl ⟨x,e1,ui hA k1 k2 hp⟩
   .exact .inr hp
  .cases h
 dom t args H c e fp ht hc h hd:=by
  split at h
  .rename_i c' e' fp' hs
   simp only[jS,jP]at h
   obtain⟨rfl,rfl,rfl⟩:=h
   obtain⟨k1,k2,k3⟩:=hro _ _ _ _ _ _ hs hc ht
   exact⟨by rw[k3];intro k hk;exact(not_mem_nil hk).elim,λp hp=>(not_mem_nil hp).elim⟩
  .cases h
 loc t args H H' c e fp h hf:=by
  split at h
  .rename_i c' e' fp' hs
   simp only[jS,jP]at h
   obtain⟨rfl,rfl,rfl⟩:=h
   rw[s.loc _ _ _ H' _ _ _ hs hf]
  .cases h
end
end Go.Sy
