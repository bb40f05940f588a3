/- A run's outermost call, walked. No conditions but those in each statement. -/
import Derived.Test.YtapedeoheilnnaaGreatRmi
import Derived.Test.YtapedeoheilnnaaGreatRme
import Derived.Test.YtapedeoheilnnaaGreatGq
set_option linter.all false
set_option maxRecDepth 20000
set_option maxHeartbeats 32000000
open Option (isSome_some isSome_none)
open List (append_nil mem_singleton mem_cons not_mem_nil map_cons map_nil all_eq_true mem_map)
namespace Go.Proofs.YtapedeoheilnnaaGreat
open Go Go.Sy Go.RowKit
theorem y6{P:Prop}(h:P:=by refine A2 [] ?_;simp only[seval,go_sem,iD]):P:=h
theorem AAF{P:Prop}(h:P:=by simp only[seval,go_sem,CP,CQ,CR,CS,Va.c,isSome_some,isSome_none,IG,Gu,GO,Cz,CW,JY,Gf,Gg,CM,C4,BL,BG,A8,A9,Ad,Ae,DL,DM,Eh,Ei,DE,DF,DG,cSl,Fn.c,hf,h0,ZJ,ZI,P5,Tp,pnM,sRn]):P:=h
def rnA(n:Nat)(P:Pg)(f:List UInt8)(va:List Va)(m:Ms):Bool×Int×Ms:=match P.fi f with
 |none=>(true,0,m.brk f (-1) 4)
 |some i=>
  let g:=P.fs.getD i.toNat ⟨[],[],[],[]⟩
  if Dw g.ps va=false then (true,0,m.brk f (-1) 4)
  else if poB P va=false then (true,0,m.brk f (-1) 4)
  else IX (stF n) P g va m
def rnZ(r:Bool×Int×Ms):Ms:=if r.1=true then OL r.2.2 else { r.2.2 with e:=0,v:=r.2.1,f:=[],al:=0,k:=0 }
noncomputable abbrev Iv:ArgM ((Pg×Ms)×List UInt8×List Va×Unit):=amP mMc (amD cStr (amD Mr am0))
abbrev ZQ(N n:Nat)(p:(Pg×Ms)×List UInt8×List Va×Unit):Prop:=okMs N n ⟨[],0,p.1.1,p.1.2,[]⟩/\p.2.2.1.length<=5000/\n<=1000000000
abbrev XZ(n:Nat)(p:(Pg×Ms)×List UInt8×List Va×Unit):List (Option MV):=[some (mcW p.1.1 (rnZ (rnA n p.1.1 p.2.1 p.2.2.1 p.1.2)))]
abbrev sRn(P:Pg)(m:Ms)(f:List UInt8)(va:List Va):St:=⟨[(1,true,.one (.v (.string (bs f)))),(2,true,.one (.d (.sl IQ (va.map Va.r)))),(3,true,.one (.p 3 0 0))],[(0,.vec 0 zMc [mcC P m]),(3,.vec 0 [.v (.bool false)] [[.p 0 0 0]])]⟩
def xR(M fz:Nat->Prop)(I:Nm)(P:Pg)(r:Bool×Int×Ms):Ctx:=⟨M,fz,[0,3].map λk=>(k,I k),(if r.1=true then some (pnM P r.2.2) else none),[{ target:=.fn (.func 48) #[(I 3).p 0 0],args:=#[] }],[]⟩
theorem P5(M fz:Nat->Prop)(I:Nm)(P:Pg)(r:Bool×Int×Ms):(xR M fz I P r).pn=if r.1=true then some (pnM P r.2.2) else none:=rfl
theorem Tp(M fz:Nat->Prop)(I:Nm)(P:Pg)(r:Bool×Int×Ms):(xR M fz I P r).kp=[]:=rfl
theorem du(cap:Array Value)(w:World):(invoke (.fn (.func 48) cap) #[]).run Tryz.prog w= .ok (.enter 48 cap) w:=by
 have:=Tryz.call48 cap w
 simp[go_sem,this]
section
attribute [local go_sem] Gw IH II mcC mcW EQ Dz GW GV
theorem zq(N n:Nat):C7 Tryz.prog 32 (Iv.args 0) Iv.mem (ZQ N n) (λ_=>.tup []) (XZ n):=by
 rintro ⟨⟨P,m⟩,f,va,_u⟩ w M I lab fz xs ⟨hM,hva,hn9⟩ hA hl hx
 dsimp only at hM hva
 refine jM Tryz.func32 rfl (Iv.mem ⟨(P,m),f,va,_u⟩) w M I lab fz (Iv.args 0 ⟨(P,m),f,va,_u⟩) (XZ n ⟨(P,m),f,va,_u⟩) (.tup []) xs hA hl hx (λv hv k hk=>by have:=Iv.an 0 ⟨(P,m),f,va,_u⟩ v hv k hk;omega) (jN rfl) ?_
 clear hx hl hA xs
 have hm1:(Iv.mem ⟨(P,m),f,va,_u⟩).length=1:=rfl
 rw[hm1]
 obtain⟨r,hr⟩:∃r,rnA n P f va m=r:=⟨_,rfl⟩
 have hMr:XZ n ⟨(P,m),f,va,_u⟩=[some (mcW P (rnZ r))]:=by rw[<- hr]
 rw[hMr]
 generalize hQd:bodyPostD Tryz.prog Tryz.f32 (LZ w M fz I 1 [some (mcW P (rnZ r))] (.tup []))=Qd
 simp only[Tryz.f32]
 have hq0:∀e s' act w',e≠Exit.normal->False->Holds (mX M fz I 1) w 60 s' act w'->Qd e act w':=λ_ _ _ _ _ h=>h.elim
 have hp0:∀ch act w',Hn (mX M fz I 1) act->Kh (mX M fz I 1) w ch w'->Qd (.panic ch) act w':=by
  rintro ch act w' _ ⟨_,_,_,_,_,_,hpn⟩
  exact hpn.elim
 refine vM (λ_ _=>False) [] [] hq0 hp0 ?_
 simp only[seval,go_sem,Ad]
 refine A4p (t:=sRn P m f va) (A2 [] ?_) ?_
 .simp only[seval,go_sem,sRn]
 intro a w1 hs1
 obtain⟨J,hn,hfx,hsl,hD⟩:=Zw hs1 (t:=9) rfl [(3,3)] (by simp[sRn,lkp]) [0,3] (by simp[sRn,lkp]) (if r.1=true then some (pnM P r.2.2) else none)
 refine oc rfl rfl rfl rfl rfl rfl (by rw[hn];decide) ?_
 have v3:a.tmps[3]?=some ((J 3).p 0 0):=hsl (3,3) (by simp)
 have ev:(#[Operand.tmp 3].map a.eval) = #[(J 3).p 0 0]:=by simp[Act.eval,v3]
 have hdf:a.defers=[]:=hs1.defers
 have j0:J 0=I 0:=hfx (0,I 0) (by simp[memF])
 rw[ev,hdf]
 refine(?_:Ut (P:=Tryz.prog) (xR M fz J P r) w 60 _ (sRn P m f va) Qd) _ _ (hD _ _)
 clear hD hs1 ev v3 hsl hn hdf hq0 hp0 hfx
 have hq1:∀e s' act w',(e=Exit.normal/\r.1=false/\Mx Tryz.prog (xR M fz J P r) Tryz.f32.results.toList (pe (.tup []) [some (mcW P (rnZ r))]) s')->Holds (xR M fz J P r) w 60 s' act w'->Qd e act w':=by
  rintro e s' act w' ⟨rfl,_,hret⟩ hh
  rw[<- hQd]
  show Leaves _ _ _ _ act.defers .returning w'
  rw[hh.defers]
  obtain⟨x,hx1,y,I',lab',fz',_,hAt,_⟩:=tl (X:=xR M fz J P r) (M:=M) (fz0:=fz) (I0:=I) (m:=1) rfl rfl (by
   intro p hp
   simp only[memF,mem_singleton]at hp
   subst hp
   show (0,I 0)∈[(0,J 0),(3,J 3)]
   rw[j0];simp) (by simp) hret hh
  refine leaves_cons (f:=48) (args:=#[(J 3).p 0 0]) (by simp) (du _ _) ?_
  refine(ny hAt _).mono ?_
  rintro e u' w2 ⟨rfl,rfl,I2,lab2,fz2,hA2⟩
  exact⟨.tuple #[],by simp[results,Tryz.results32,go_sem],.tuple #[],I2,lab2,fz2,rfl,hA2,⟨#[],rfl,rfl,by simp⟩⟩
 have hp1:∀ch act w',Hn (xR M fz J P r) act->Kh (xR M fz J P r) w ch w'->Qd (.panic ch) act w':=by
  rintro ch act w' ⟨hd,_⟩ ⟨⟨t,y,rfl⟩,I',lab,fz',H',hA,hpn⟩
  rw[<- hQd]
  have hbt:r.1=true:=by
   cases hb:r.1 with
   |true=>rfl
   |false=>rw[P5,hb]at hpn;exact hpn.elim
  rw[P5,hbt,if_pos rfl]at hpn
  have hI3:I' 3=J 3:=(hA.fix (3,J 3) (by simp[xR])).2
  have hB:=A4o hA (pnM P r.2.2) hpn (by
   intro p hp q hq c hc k hk2
   simp only[pnM,mem_cons,not_mem_nil,or_false]at hp
   rcases hp with rfl|rfl<;>simp only[mem_cons,not_mem_nil,or_false]at hq<;>subst hq
   .simp only[mem_cons,not_mem_nil,or_false]at hc;subst hc
    simp only[C.names,mem_singleton]at hk2;subst hk2;simp[pnM]
   .rw[JL P r.2.2 c hc]at hk2;cases hk2) (by
   intro p hp
   simp only[xR,map_cons,map_nil,mem_cons,not_mem_nil,or_false]at hp
   rcases hp with rfl|rfl<;>simp[pnM])
  have hC:=js P r.2.2 hB (by
   intro q hq
   simp only[xR,map_cons,map_nil,mem_cons,not_mem_nil,or_false]at hq
   rcases hq with rfl|rfl<;>simp) t y
  rw[hI3]at hC
  show Leaves _ _ _ _ act.defers _ w'
  rw[hd]
  refine leaves_cons (f:=48) (args:=#[(J 3).p 0 0]) (by simp) (du _ _) ?_
  refine hC.mono ?_
  rintro e u' w2 ⟨rfl,rfl,I2,lab2,fz2,hA2⟩
  have hz:rnZ r=OL r.2.2:=by unfold rnZ;rw[hbt];rfl
  refine⟨.tuple #[],by simp[results,Tryz.results32,go_sem],.tuple #[],I2,lab2,fz2,rfl,?_,⟨#[],rfl,rfl,by simp⟩⟩
  refine Qo (X:=mX M fz I 1) (dU (X:=xR M fz J P r) rfl rfl (by
   intro p hp
   simp only[memF,mem_singleton]at hp
   subst hp
   show (0,I 0)∈[(0,J 0),(3,J 3)]
   rw[j0];simp) hA2) ?_ ?_
  .intro q hq
   simp only[memO,chO,mcW,mem_singleton]at hq
   subst hq
   rw[hz]
   refine⟨⟨rfl,rfl,.inl rfl⟩,?_⟩
   intro k hk
   simp only[chNames,List.flatMap_cons,List.flatMap_nil,append_nil]at hk
   obtain⟨c,hc,hk⟩:=List.mem_flatMap.1 hk
   rw[JL P _ c hc]at hk;cases hk
  intro p hp
  simp only[memF,mem_singleton]at hp
  subst hp;rfl
 refine vN _ [IG,Cz,JY,CM N n (dk N n (RB N n (Th N n)))] [] hq1 hp1 ?_
 clear hq1 hp1 hQd
 cases hf:P.fi f with
 |none=>
  have hr2:r=(true,0,m.brk f (-1) 4):=by rw[<- hr];unfold rnA;rw[hf]
  subst hr2
  rcases zP P.fs with h0|⟨n0,p0,l0,b0,h0⟩
  .exact AAF
  exact AAF
 |some i=>
 have hi2:=Pg.fi_lt hf
 have hg:=zO hi2
 have hgm:P.fs.getD i.toNat ⟨[],[],[],[]⟩∈P.fs:=by
  have:i.toNat<P.fs.length:=by omega
  rw[List.getD,List.getElem?_eq_getElem this];exact List.getElem_mem this
 obtain⟨gF,gB⟩:=hM.p.f _ hgm
 obtain⟨g,hgE⟩:∃g,P.fs.getD i.toNat ⟨[],[],[],[]⟩=g:=⟨_,rfl⟩
 rw[hgE]at hg gF gB
 obtain⟨gn,gps,gls,gb⟩:=g
 have gp5:gps.length<=5000:=gF.1
 cases hft:Dw gps va with
 |false=>
  have hr2:r=(true,0,m.brk f (-1) 4):=by rw[<- hr];unfold rnA;rw[hf];dsimp only;rw[hgE];exact if_pos hft
  subst hr2
  simp only[seval,go_sem,CP,CQ,CR,CS,Va.c,isSome_some,isSome_none,IG,Gu,GO,Cz,CW,JY,Gf,Gg,CM,C4,BL,BG,A8,A9,Ad,Ae,DL,DM,Eh,Ei,DE,DF,DG,cSl,Fn.c,hf,hg,hft,P5,Tp,pnM,sRn]
  exact⟨⟨hi2.1,hi2.2,rfl⟩,⟨gp5,hva⟩⟩
 |true=>
 cases hpo:poB P va with
 |false=>
  have hr2:r=(true,0,m.brk f (-1) 4):=by rw[<- hr];unfold rnA;rw[hf];dsimp only;rw[hgE,if_neg (by rw[show Dw gps va=true from hft];decide)];exact if_pos hpo
  subst hr2
  simp only[seval,go_sem,CP,CQ,CR,CS,Va.c,isSome_some,isSome_none,IG,Gu,GO,Cz,CW,JY,Gf,Gg,CM,C4,BL,BG,A8,A9,Ad,Ae,DL,DM,Eh,Ei,DE,DF,DG,cSl,Fn.c,hf,hg,hft,hpo,P5,Tp,pnM,sRn]
  exact⟨⟨hi2.1,hi2.2,rfl⟩,⟨gp5,hva⟩,hva⟩
 |true=>
 have hrc:IX (stF n) P ⟨gn,gps,gls,gb⟩ va m=r:=by rw[<- hr];unfold rnA;rw[hf];dsimp only;rw[hgE,if_neg (by rw[show Dw gps va=true from hft];decide),if_neg (by rw[hpo];decide)]
 have hcl:Uh N n (P,m) ⟨gn,gps,gls,gb⟩ va:=⟨hM,⟨gF,gB⟩,hft,hn9⟩
 obtain⟨rb,rv,rm⟩:=r
 cases rb with
 |true=>
  simp only[seval,go_sem,CP,CQ,CR,CS,Va.c,isSome_some,isSome_none,IG,Gu,GO,Cz,CW,JY,Gf,Gg,CM,C4,BL,BG,A8,A9,Ad,Ae,DL,DM,Eh,Ei,DE,DF,DG,cSl,Fn.c,hf,hg,hft,hpo,hrc,P5,Tp,pnM,sRn]
  exact⟨⟨hi2.1,hi2.2,rfl⟩,⟨gp5,hva⟩,hva,⟨hi2.1,hi2.2,rfl⟩,hcl,Bn (by kernel_rfl)⟩
 |false=>
 simp only[seval,go_sem,CP,CQ,CR,CS,Va.c,isSome_some,isSome_none,IG,Gu,GO,Cz,CW,JY,Gf,Gg,CM,C4,BL,BG,A8,A9,Ad,Ae,DL,DM,Eh,Ei,DE,DF,DG,cSl,Fn.c,hf,hg,hft,hpo,hrc,P5,Tp,pnM,sRn]
 refine⟨⟨hi2.1,hi2.2,rfl⟩,⟨gp5,hva⟩,hva,⟨hi2.1,hi2.2,rfl⟩,hcl,Bn (by kernel_rfl),?_⟩
 have hz:rnZ (false,rv,rm)=⟨rm.fuel,rm.deep,rm.cs,rm.ar,0,rv,[],0,0⟩:=rfl
 rw[hz]
 refine A1 [] ?_;simp only[seval,go_sem,bne,A0y,Tryz.f32,pnM]
end
end Go.Proofs.YtapedeoheilnnaaGreat
namespace Go.Sy
open Go Go.RowKit
def nz(es:List (List C)):Prop:=∀r∈es,∀c∈r,c.names=[]/\ovC (some c)=false
theorem o7{r:List C}(h:∀c∈r,c.names=[]/\ovC (some c)=false):nz [r]:=by
 intro r' hr;rw[List.mem_singleton.1 hr];exact h
theorem uh{es:List (List C)}(h:nz es){p:List (Nat×Nat)}{z:List C}(hi:inP p z es):ovP p z es=false:=by
 have key:∀(i j:Nat) (c:C),i<es.length->(es.getD i z)[j]?=some c->ovC (some c)=false:=by
  intro i j c hi hc
  have hg:es.getD i z=es[i]:=by simp[List.getD,hi]
  rw[hg]at hc
  exact(h _ (List.getElem_mem hi) c (List.mem_of_getElem? hc)).2
 match p,hi with
 |[(i,j)],hi=>
  simp only[inP]at hi
  simp only[ovP,Et]
  cases hc:(es.getD i z)[j]? with
  |none=>rfl
  |some c=>grind
 |(i,j)::q::r,hi=>
  simp only[inP]at hi
  obtain⟨h1,h2⟩:=hi
  cases hc:(es.getD i z)[j]? with
  |none=>simp_all
  |some c=>
  have:=key i j c h1 hc
  rw[hc]at h2
  cases c<;>first|exact h2.elim|(simp[ovC]at this)
def aL(H:Hp)(u:List (Nat×Ch)):Prop:=∀k ch,H k=some ch->updH H u k=some ch∨∃u0 u1 z z1 es,ch= .vec u0 z es/\updH H u k=some (.vec u1 z1 es)/\nz es/\z.length=z1.length/\zT z=none
theorem zr{h:Bf}{fz:Nat->Prop}{lab:Lab}{I:Nm}{π:List Nat}{z z1:List C}{es:List (List C)}{x:Value}(hl:z.length=z1.length)(hz:zT z=none)(r:EY h fz lab I π z1 es x):EY h fz lab I π z es x:=by
 rcases r with r|⟨b,off,cap,arr,T,h1,h2,h3,h4,h5,h6⟩
 .exact .inl r
 refine .inr ⟨b,off,cap,arr,T,h1,h2,h3,⟨by rw[hl];exact h4.1,IY hz⟩,h5,?_⟩
 rw[hl];exact h6
theorem ui{X:Ctx}{w0 w w':World}{I:Nm}{lab:Lab}{fz:Nat->Prop}{H:Hp}{v:SV}{u:List (Nat×Ch)}{x:Value}(hA:AtW X w0 I lab fz H w)(hk:aL H u)(hv:LX v=true)(h:I6 X w0 w I lab fz H (some v) u x w'):I6 X w0 w I lab fz H (some v) [] x w':=by
 obtain⟨I',lab',fz',h1,h2,h3⟩:=h
 refine⟨I',lab',fz',⟨λk ch hc=>?_,λk ch hc=>hA.wf k ch hc,h1.own,h1.fzl,h1.fzo,h1.kept,λp hp=>⟨(hA.fix p hp).1,(h1.fix p hp).2⟩⟩,λs hs=>?_,⟨h3.z,h3.n,λk u0 p y hs hw=>?_⟩⟩
 .rcases hk k ch hc with e|⟨u0,u1,z,z1,es,rfl,e,_,hl,hz⟩
  .exact h1.h k ch e
  obtain⟨q1,q2,q3⟩:=h1.h k _ e
  exact⟨q1,q2.trans hl.symm,zr hl hz q3⟩
 .simp only[jS]at hs
  subst hs
  exact Nv hv (h2 _ rfl)
 have hw':=h3.w k u0 p y hs hw
 refine⟨hw.1,λu' z es hc=>?_⟩
 rcases hk k _ hc with e|⟨u0',u1,z',z1,es',e0,e,hsim,_,_⟩
 .exact hw'.2 u' z es e
 simp only[Ch.vec.injEq]at e0
 obtain⟨rfl,rfl,rfl⟩:=e0
 exact⟨(hw.2 _ _ _ hc).1,λ_ hi ho=>by rw[uh hsim hi]at ho;cases ho⟩
section
variable {P:Program}{X:Ctx}{w0:World}
def zu(s:Sy.Spec P X w0)(hro:∀t args H c e fp,s.fn t args H=some (c,e,fp)->c->H t=none->aL H e.upd/\LX e.val=true/\e.val.names=[]):Sy.Spec P X w0 where
 f:=s.f
 call:=s.call
 fn t args H:=match s.fn t args H with
  |some (c,e,fp)=>some (c,⟨e.val,[]⟩,fp)
  |none=>none
 ok w I lab fz H t args xs c e fp hA ht h hc hd hl hx:=by
  split at h
  .rename_i c' e' fp' hs
   simp only[jS,jP]at h
   obtain⟨rfl,rfl,rfl⟩:=h
   obtain⟨k1,k2,k3⟩:=hro _ _ _ _ _ _ hs hc ht
   refine(s.ok w I lab fz H t args xs _ _ _ hA ht hs hc hd hl hx).mono ?_
   rintro en w' (⟨x,e1,hp⟩|hp)
   .exact .inl ⟨x,e1,ui hA k1 k2 hp⟩
   .exact .inr hp
  .cases h
 dom t args H c e fp ht hc h hd:=by
  split at h
  .rename_i c' e' fp' hs
   simp only[jS,jP]at h
   obtain⟨rfl,rfl,rfl⟩:=h
   obtain⟨k1,k2,k3⟩:=hro _ _ _ _ _ _ hs hc ht
   exact⟨by rw[k3];intro k hk;exact(not_mem_nil hk).elim,λp hp=>(not_mem_nil hp).elim⟩
  .cases h
 loc t args H H' c e fp h hf:=by
  split at h
  .rename_i c' e' fp' hs
   simp only[jS,jP]at h
   obtain⟨rfl,rfl,rfl⟩:=h
   rw[s.loc _ _ _ H' _ _ _ hs hf]
  .cases h
end
end Go.Sy
namespace Go.Proofs.YtapedeoheilnnaaGreat
open Go Go.Sy Go.RowKit
section
variable {X:Ctx}{w0:World}
noncomputable def fq:Sy.Spec Tryz.prog X w0:=Dc 27 Tryz.call27 (Er 28 mPg) ZL (λ_=>false) XQ M_C1 (λ_=>mlO [none])
 (λp _ _=>⟨rfl,rfl,rfl,SO _ (QM p.2)⟩) (λa _ h=>by cases h) (λa _ h=>by cases h) (λ_=>rfl) jk
noncomputable def fr:Sy.Spec Tryz.prog X w0:=Dc 27 Tryz.call27 (Er 29 mPg) ZM (λ_=>false) XR XS (λ_=>mlO [none])
 (λp _ _=>⟨rfl,rfl,rfl,SO _ (QM p.2)⟩) (λa _ h=>by cases h) (λa _ h=>by cases h) (λ_=>rfl) jl
noncomputable def fv:Sy.Spec Tryz.prog X w0:=Dc 27 Tryz.call27 (Er 30 mPg) ZN (λ_=>false) XT M_C3 (λ_=>mlO [none])
 (λp _ _=>⟨rfl,rfl,rfl,SO _ (QM p.2)⟩) (λa _ h=>by cases h) (λa _ h=>by cases h) (λ_=>rfl) jm
noncomputable def fw:Sy.Spec Tryz.prog X w0:=XY (N3 29) fr fv rfl
noncomputable def Ya:Sy.Spec Tryz.prog X w0:=XY (N3 28) fq fw rfl
theorem jt(t:Nat)(args:List SV)(H:Hp):(Ya (X:=X) (w0:=w0)).fn t args H=if N3 28 args=true then spL X ((Er 28 mPg).d H args) t H ZL (λ_=>false) XQ M_C1 (λ_=>mlO [none])
 else if N3 29 args=true then spL X ((Er 29 mPg).d H args) t H ZM (λ_=>false) XR XS (λ_=>mlO [none]) else spL X ((Er 30 mPg).d H args) t H ZN (λ_=>false) XT M_C3 (λ_=>mlO [none]):=rfl
theorem fy{F:FuncId}{t:Nat}{args:List SV}{H:Hp}{Cd:Int×Pg->Prop}{R:Int×Pg->SV}{M:Int×Pg->List (Option ML)}{pan:Int×Pg->List (Option ML)}{c:Prop}{e:Eff}{fp:List Nat}(hR:∀q,LX (R q)=true/\(R q).names=[]/\∃y,R q= .one (.d y))(hM:∀q,M q=[some (.vec zPg [pgR q.2])])
  (h:spL X ((Er F mPg).d H args) t H Cd (λ_=>false) R M pan=some (c,e,fp)):aL H e.upd/\LX e.val=true/\e.val.names=[]:=by
 cases hd:(Er F mPg).d H args with
 |none=>rw[hd]at h;cases hf:H (fcN t)<;>cases hg:H (t+600000)<;>(simp only[spL]at h;cases h)
 |some p=>
  obtain⟨⟨n,b⟩,ks⟩:=p
  obtain⟨k,u,z,rfl,rfl,h1,hz,hz0⟩:=aE hd
  rw[hd,Ci]at h
  split at h
  case h_2=>cases h
  rename_i hf _
  simp only[jS,jP]at h
  obtain⟨_,rfl,_⟩:=h
  obtain⟨g1,g2,y,g3⟩:=hR (n,b)
  have hv:E5 H [k] t (R (n,b))=R (n,b):=by rw[g3];rfl
  refine⟨?_,by rw[hv];exact g1,by rw[hv];exact g2⟩
  rw[hM]
  intro k2 ch hk2
  have hne:k2≠fcN t:=by rintro rfl;rw[hf]at hk2;cases hk2
  by_cases e:k2=k
  .subst e
   rw[h1]at hk2
   simp only[jS]at hk2
   subst hk2
   refine .inr ⟨u,u+1,z,zPg,[mPg.e b],rfl,?_,o7 (λc hc=>?_),hz,hz0⟩
   .simp only[CU,E8,append_nil,List.cons_append,List.nil_append,updH,upd,h1,Option.map_some,Di,if_true]
    congr 2
    simp only[ML.ren,map_cons,map_nil,P4]
    rw[DR λc hc=>F8 (QM b c hc)]
    exact if_neg hne
   .simp only[P4,pgR,mem_cons,not_mem_nil,or_false]at hc
    rcases hc with rfl|rfl|rfl<;>exact⟨rfl,rfl⟩
  .left
   simp only[CU,E8,append_nil,List.cons_append,List.nil_append,updH,upd,if_neg e,if_neg hne]
   exact hk2
noncomputable def Ul:Sy.Spec Tryz.prog X w0:=zu Ya (λt args H c e fp h _ _=>by
 rw[jt]at h
 split at h
 .exact fy (λq=>⟨rfl,rfl,_,rfl⟩) (λq=>rfl) h
 split at h
 .exact fy (λq=>⟨rfl,rfl,_,rfl⟩) (λq=>rfl) h
 exact fy (λq=>⟨rfl,rfl,_,rfl⟩) (λq=>rfl) h)
theorem o8:(Ul (X:=X) (w0:=w0)).f=27:=rfl
theorem o9(t:Nat)(args:List SV)(H:Hp):(Ul (X:=X) (w0:=w0)).fn t args H=match (if N3 28 args=true then spL X ((Er 28 mPg).d H args) t H ZL (λ_=>false) XQ M_C1 (λ_=>mlO [none])
 else if N3 29 args=true then spL X ((Er 29 mPg).d H args) t H ZM (λ_=>false) XR XS (λ_=>mlO [none]) else spL X ((Er 30 mPg).d H args) t H ZN (λ_=>false) XT M_C3 (λ_=>mlO [none])) with
  |some (c,e,fp)=>some (c,⟨e.val,[]⟩,fp)
  |none=>none:=rfl
noncomputable def Um:Sy.Spec Tryz.prog X w0:=Dc 31 Tryz.call31 OK ZP (λ_=>false) PT M_st (λ_=>mlO [])
 (λp _ _=>⟨rfl,rfl,rfl,aK [] _ _⟩) (λa _ h=>by cases h) (λa _ h=>by cases h) (λ_=>rfl) ug
theorem oA:(Um (X:=X) (w0:=w0)).f=31:=rfl
theorem oB(t:Nat)(args:List SV)(H:Hp):(Um (X:=X) (w0:=w0)).fn t args H=spL X (OK.d H args) t H ZP (λ_=>false) PT M_st (λ_=>mlO []):=rfl
noncomputable def Xa(N n:Nat)(h:C7 Tryz.prog 32 (Iv.args 0) Iv.mem (ZQ N n) (λ_=>.tup []) (XZ n)):Sy.Spec Tryz.prog X w0:=
 D0 32 Tryz.call32 Iv (ZQ N n) (λ_=>.tup []) (XZ n) (λ_ _=>rfl) (λ_ _=>rfl) (λ_ _=>QG _ _) h
theorem uj(N n:Nat)(h):(Xa (X:=X) (w0:=w0) N n h).f=32:=rfl
theorem uk(N n:Nat)(h)(t:Nat)(args:List SV)(H:Hp):(Xa (X:=X) (w0:=w0) N n h).fn t args H=spM (Iv.d H args) t H (ZQ N n) (λ_=>.tup []) (XZ n):=rfl
end
theorem ju(l:List Nb):((l.map Nb.c).all λr=>r.all λc=>c.names.isEmpty)=true:=by
 rw[all_eq_true]
 exact AAl
theorem jv(l:List Na):((l.map Na.c).all λr=>r.all λc=>c.names.isEmpty)=true:=by
 rw[all_eq_true]
 exact AAl
theorem SP(l:List Nb):EZ (l.map Nb.c)=some (l.map Nb.r):=Hi Nb.c (λ_=>rfl) l
theorem zw(l:List Int):EZ (l.map cI)=some (l.map iD):=Hi cI (λ_=>rfl) l
theorem SQ(l:List Na):EZ (l.map Na.c)=some (l.map Na.r):=Hi Na.c (λx=>by
 simp only[Na.c,GD,toD,zI,zw,Na.r]) l
theorem LO(k:Nat)(z:List D)(e:List (List D))(l:List Nb):(l.map Nb.c).map (λr=>r.map (fzC k z e))=l.map Nb.c:=HU Nb.c (λ_=>rfl) l
theorem LP(k:Nat)(z:List D)(e:List (List D))(l:List Na):(l.map Na.c).map (λr=>r.map (fzC k z e))=l.map Na.c:=HU Na.c (λ_=>rfl) l
def ms0(P:Pg)(s:Sta)(fuel:Int):Ms:=⟨mn fuel 1048576,0,stCs P.g.c s.cs,stA P.g.a s.ar,2,0,[],0,0⟩
def clF(n:Nat)(P:Pg)(f:List UInt8)(va:List Va)(s:Sta)(fuel:Int):Ms:=if 1<=fuel then rnZ (rnA n P f va (ms0 P s fuel)) else ms0 P s fuel
def ouC(m:Ms):List C:=[.v (.int .i64 m.e),.v (.int .i64 m.v),.v (.string (bs m.f)),.v (.int .i64 m.al),.v (.int .i64 m.k),.d (.sl Hc (m.cs.map Nb.r)),.d (.sl Hd (m.ar.map Na.r))]
structure okR(N n:Nat)(P:Pg)(va:List Va)(s:Sta)(fuel:Int):Prop where
 p:okPg N P
 c:P.g.c.length<=1000000
 a:P.g.a.length<=1000000
 l:∀x∈P.g.a,1<=x.n/\x.n<=1048576
 sc:s.cs.length<=1000000
 sa:s.ar.length<=1000000
 v:va.length<=5000
 f:fuel<n
 n:n<=1000000000
theorem Xb(p:List Gy)(s:List Na)(h:∀x∈p,x.n<=1048576):∀x∈stA p s,x.l.length<=1000000000:=by
 intro x hx
 obtain⟨y,hy,rfl⟩:=mem_map.1 hx
 obtain⟨g,hg,rfl⟩:=mem_map.1 hy
 have:=h g hg
 unfold LN
 split
 .dsimp only;rw[ud];simp;omega
 simp;omega
theorem gA(x:Int):mn x 1048576<=x/\mn x 1048576<=1048576/\(1<=x->1<=mn x 1048576):=by unfold mn;split<;>omega
abbrev ul(N:Nat)(n:Nat)(p:Pg)(f:List UInt8)(va:List Va)(s:Sta)(fuel:Int):Prop:=okR N n p va s fuel
abbrev QZ(N:Nat)(n:Nat)(p:Pg)(f:List UInt8)(va:List Va)(s:Sta)(fuel:Int):SV:=.agg (ouC (clF n p f va s fuel))
noncomputable abbrev Xc:ArgC ((Pg)×(List UInt8)×(List Va)×(Sta)×(Int)×Unit):=(acS (cPg) (acS (cStr) (acS (Mr) (acS (cSta) (acS (cInt .i64) ac0)))))
abbrev dv(N:Nat)(n:Nat):Prop:=Ca Tryz.prog 14 Xc (λp:(Pg)×(List UInt8)×(List Va)×(Sta)×(Int)×Unit=>ul N n p.1 p.2.1 p.2.2.1 p.2.2.2.1 p.2.2.2.2.1) (λp:(Pg)×(List UInt8)×(List Va)×(Sta)×(Int)×Unit=>QZ N n p.1 p.2.1 p.2.2.1 p.2.2.2.1 p.2.2.2.2.1)
noncomputable def Tr{X:Ctx}{w0:World}(N:Nat)(n:Nat)(h:dv N n):Sy.Spec Tryz.prog X w0:=Dq 14 Tryz.call14 Xc _ _ KF2 h
section
attribute [local go_sem] Fa.mem Fa.memO Fa.pan ML.ch ML.ren LL OI LM LK Vt Vu H4 Gz H5 Di GM GL MX MW Ae Ad chL MU IJ F6 F5 Gv fcN Vq ZK Ku frC IK Gx lmH lmO Gw IH II Tj P4 Ti Tm Tk Tl mcC IL Hm mcW DH Cj Ck EQ jv G9 SN ju Ez SM nmX pgR Dz Dh D3 D4 ED E9 GW GV E5 EE rnC Ci DS Cu stR CU E8 vrQ IM o8 uj oA o9 uk oB
theorem jw(N:Nat)(n:Nat):dv N n:=by
 rintro ⟨p,f,va,s,fuel,_u⟩ w fz xs hc hfz hl hx
 refine Bg Tryz.func14 rfl w fz [Ul,Um,(Xa N n (zq N n))] [(2,[.fold 37 0 8,.fold 37 0 9]),(4,[.unr 37 0 8 1008,.unr 37 0 9 1009])] Xc (λp:(Pg)×(List UInt8)×(List Va)×(Sta)×(Int)×Unit=>QZ N n p.1 p.2.1 p.2.2.1 p.2.2.2.1 p.2.2.2.2.1) _ xs hfz hl hx (jN rfl) ?_
 clear hx hl hfz xs
 simp only[Tryz.f14]
 obtain⟨⟨pc,pa⟩,pf⟩:=p
 obtain⟨sc,sa⟩:=s
 obtain⟨hP,hc,ha,hl,hsc,hsa,hva,hfn,hn9⟩:=hc
 dsimp only at hc ha hl hsc hsa
 have hfn:fuel<n:=hfn
 have hfm:=gA fuel
 have hB:Vy ((⟨⟨pc,pa⟩,pf⟩:Pg),()):=⟨hc,ha,λx hx=>(hl x hx).2⟩
 have hS:ZP ((⟨⟨pc,pa⟩,pf⟩:Pg),⟨sc,sa⟩,()):=⟨hB,λx hx=>(hl x hx).1,hsc,hsa⟩
 by_cases h1:1<=fuel
 .have hd:decide (1<=fuel)=true:=decide_eq_true h1
  obtain⟨m,hm⟩:∃m,rnZ (rnA n ⟨⟨pc,pa⟩,pf⟩ f va ⟨mn fuel 1048576,0,stCs pc sc,stA pa sa,2,0,[],0,0⟩)=m:=⟨_,rfl⟩
  have hr:clF n ⟨⟨pc,pa⟩,pf⟩ f va ⟨sc,sa⟩ fuel=m:=by unfold clF;rw[if_pos h1];exact hm
  simp only[seval,go_sem,xt,↓A0,hd,hm]
  refine⟨⟨by simp,by simpa using hP.l⟩,⟨rfl,hc⟩,⟨by simp,by simpa using ha⟩,hS,Bn (by kernel_rfl),⟨⟨hP,⟨by simp[stCs,blC],by simp[stA,blA],hc,ha⟩,Xb pa sa (λx hx=>(hl x hx).2),by have:=hfm.2.2 h1;show 0<=mn fuel 1048576;omega,by show mn fuel 1048576<(n:Int);omega⟩,hva,hn9⟩,?_⟩
  refine A1 [.fz 1008,.fz 1009] ?_;simp only[seval,go_sem,bne,QZ,hr,ouC,SP,SQ,LO,LP,zNb,zNa]
 have hd:decide (1<=fuel)=false:=decide_eq_false h1
 have hr:clF n ⟨⟨pc,pa⟩,pf⟩ f va ⟨sc,sa⟩ fuel=⟨mn fuel 1048576,0,stCs pc sc,stA pa sa,2,0,[],0,0⟩:=by unfold clF;rw[if_neg h1];rfl
 simp only[seval,go_sem,xt,↓A0,hd]
 refine⟨⟨by simp,by simpa using hP.l⟩,⟨rfl,hc⟩,⟨by simp,by simpa using ha⟩,hS,Bn (by kernel_rfl),?_⟩
 refine A1 [.fz 1008,.fz 1009] ?_;simp only[seval,go_sem,bne,QZ,hr,ouC,SP,SQ,LO,LP,zNb,zNa]
end
open Go Go.Sy Go.RowKit
abbrev Uo(n:Int):Prop := -9223372036854775808<=n/\n<=9223372036854775807
abbrev u8R(n:Int):Prop:=0<=n/\n<=255
def oC(n:Nat)(s:Sm):Bool:=decide (s.e.dp<n)&&decide (s.f.dp<n)&&decide (s.cd.dp<n)&&s.ar.all (λa=>decide (a.e.dp<n))&&decide (s.ar.length<=5000)
theorem um{n:Nat}{s:Sm}(h:oC n s=true):OkS n s:=by
 simp only[oC,Bool.and_eq_true,decide_eq_true_eq,all_eq_true]at h
 exact⟨h.1.1.1.1,h.1.1.1.2,h.1.1.2,h.1.2,h.2⟩
def Xd(n:Nat):Nat->List Sm->Bool
 |0,_=>false
 |m+1,l=>decide (l.length<=5000)&&l.all λs=>oC n s&&Xd n m s.th&&Xd n m s.el
theorem Ts{n:Nat}:∀{m:Nat} {l:List Sm},Xd n m l=true->okB n m l
 |0,l,h=>by cases h
 |m+1,l,h=>by
  simp only[Xd,Bool.and_eq_true,decide_eq_true_eq,all_eq_true]at h
  exact⟨h.1,λs hs=>⟨um (h.2 s hs).1.1,Ts (h.2 s hs).1.2,Ts (h.2 s hs).2⟩⟩
def gC(f:Fn):Bool:=decide (f.ps.length<=5000)&&decide (f.ls.length<=5000)
theorem dw{f:Fn}(h:gC f=true):okF f:=by
 simp only[gC,Bool.and_eq_true,decide_eq_true_eq]at h;exact h
def zx(N M:Nat)(P:Pg):Bool:=decide (P.fs.length<=1000000)&&P.fs.all λf=>gC f&&Xd N M f.body
theorem uo{N M:Nat}{P:Pg}(h:zx N M P=true):okPg N P:=by
 simp only[zx,Bool.and_eq_true,decide_eq_true_eq,all_eq_true]at h
 exact⟨h.1,λf hf=>⟨dw (h.2 f hf).1,M,Ts (h.2 f hf).2⟩⟩
theorem zy{n m:Nat}{gl:List UInt8->List Gi}{s t:List UInt8}(h1:(s==gloB)=false)(h2:E1 t)(h3:(gC (Fp t).1&&Xd n m (Fp t).1.body)=true):okUn n m gl ⟨s,t⟩:=by
 simp only[Bool.and_eq_true]at h3
 exact⟨λh=>(by rw[h1]at h;cases h),λ_=>h2,λ_=>dw h3.1,λ_=>Ts h3.2⟩
theorem jx{n m:Nat}{gl:List UInt8->List Gi}{t:List UInt8}(h1:glO t (gl t))(h2:TT (giV (gl t)).ns)(h3:(giV (gl t)).c.length<=5000)(h4:(giV (gl t)).a.length<=5000):okUn n m gl ⟨gloB,t⟩:=by
 have hb:(gloB==gloB)=true:=by decide
 exact⟨λ_=>⟨h1,h2,h3,h4⟩,λh=>(by rw[hb]at h;cases h),λh=>(by rw[hb]at h;cases h),λh=>(by rw[hb]at h;cases h)⟩
theorem Ni{l:List (List UInt8)}(h:l.Nodup):TT l:=by
 intro i j hj hi
 have hjl:j<l.length:=by omega
 simp only[List.getD,List.getElem?_eq_getElem hi,List.getElem?_eq_getElem hjl,Option.getD_some]
 have:=List.pairwise_iff_getElem.1 h j i hjl hi hj
 simpa using this
theorem A00(s t:List UInt8):mUn.d [.v (.string (bs s)),.v (.string (bs t))]=some ⟨s,t⟩:=JG dO ⟨s,t⟩
theorem jy:cSta.d (.agg [.v (.slice none 0 0),.v (.slice none 0 0)])=some ⟨[],[]⟩:=E4 (e:=λp:Sta=>.agg (stR p)) (a:=⟨[],[]⟩) ⟨.inr ⟨rfl,rfl⟩,.inr ⟨rfl,rfl⟩,trivial⟩
def kT:List UInt8:=[102,110,32,102,40,120,41,32,123,32,99,32,61,32,120,59,32,114,101,116,117,114,110,32,49,32,47,32,120,59,32,125]
def kgl:List UInt8->List Gi:=λ_=>[.c [99]]
def kP:Pg:=⟨⟨[[99]],[]⟩,[⟨[102],[⟨[120],false⟩],[],[(.mk 0 [99] [] (.mk 1 0 [120] .nil .nil) .nil .nil [] [] [] 0),(.mk 9 [] [] (.mk 5 0 [] (.mk 0 1 [] .nil .nil) (.mk 1 0 [120] .nil .nil)) .nil .nil [] [] [] 1)]⟩]⟩
theorem aM{l:List Nb}{i:Nat}{x:Nb}(h:l[i]?=some x)(z:List D):(l.map Nb.r).getD i z=x.r:=by simp[List.getD,h]
theorem W1{l:List Na}{i:Nat}{x:Na}(h:l[i]?=some x)(z:List D):(l.map Na.r).getD i z=x.r:=by simp[List.getD,h]
theorem A4X{l:List Int}{i:Nat}{x:Int}(h:l[i]?=some x)(z:List D):(l.map iD).getD i z=[.v (.int .i64 x)]:=by simp[List.getD,h,iD]
abbrev Gb(pc:List (List UInt8))(pa:List Gy)(pf:List Fn):Ch:=.vec 0 [.v (.bool false),.v (.bool false),.v (.bool false)] [[.d (.sl Fq (pc.map cSd)),.d (.sl GP (pa.map Gy.r)),.d (.sl zFn (pf.map Fn.r))]]
abbrev Fi:List C:=tgN 27 2
structure Ou where
 e:Int
 v:Int
 f:List UInt8
 al:Int
 k:Int
 s:Sta
def Ou.c(x:Ou):List C:=[.v (.int .i64 x.e),.v (.int .i64 x.v),.v (.string (bs x.f)),.v (.int .i64 x.al),.v (.int .i64 x.k),.d (.sl Hc (x.s.cs.map Nb.r)),.d (.sl Hd (x.s.ar.map Na.r))]
theorem A4Z(v:SV)(a b:Ou)(h:leV v (.agg a.c))(h':leV v (.agg b.c)):a=b:=by
 cases v with
 |one c=>exact h.elim
 |tup l=>exact h.elim
 |agg l=>
 obtain⟨e,v,f,al,k,cs,ar⟩:=a
 obtain⟨e',v',f',al',k',cs',ar'⟩:=b
 match l,h,h' with
 |[c0,c1,c2,c3,c4,c5,c6],⟨h0,h1,h2,h3,h4,h5,h6,_⟩,⟨g0,g1,g2,g3,g4,g5,g6,_⟩=>
  have e0:=M9 h0 g0
  have e1:=M9 h1 g1
  have e2:=M9 h2 g2
  have e3:=M9 h3 g3
  have e4:=M9 h4 g4
  simp only[Value.string.injEq,Value.int.injEq,true_and]at e0 e1 e2 e3 e4
  have k2:=bs_inj e2
  have k5:=Aj XO (GH h5 g5)
  have k6:=Aj XP (GH h6 g6)
  subst e0;subst e1;subst k2;subst e3;subst e4;subst k5;subst k6;rfl
noncomputable def cOu:Cod Ou:=Hl (λx=>.agg x.c) A4Z (λx=>rfl)
theorem rI(x:Ou):cOu.e x= .agg x.c:=rfl
theorem rJ(e v al k:Int)(f:List UInt8)(cs:List Nb)(ar:List Na):cOu.d (.agg [.v (.int .i64 e),.v (.int .i64 v),.v (.string (bs f)),.v (.int .i64 al),.v (.int .i64 k),.d (.sl Hc (cs.map Nb.r)),.d (.sl Hd (ar.map Na.r))])=some ⟨e,v,f,al,k,⟨cs,ar⟩⟩:=E4 (e:=λx:Ou=>.agg x.c) (a:=⟨e,v,f,al,k,⟨cs,ar⟩⟩) (F4 _)
abbrev Yc(a:Sta)(b:Sta):Prop:=a=b/\a.cs.length<=1000000/\a.ar.length<=1000000/\∀x∈a.ar,x.l.length<=1000000000
abbrev MZ(a:Sta)(b:Sta):SV:=.one (.v (.bool true))
noncomputable abbrev SS:ArgC ((Sta)×(Sta)×Unit):=(acS (cSta) (acS (cSta) ac0))
abbrev kJ:Prop:=Ca Tryz.prog 16 SS (λp:(Sta)×(Sta)×Unit=>Yc p.1 p.2.1) (λp:(Sta)×(Sta)×Unit=>MZ p.1 p.2.1)
attribute [local go_sem] Na.r Nb.r Ou.c rJ rI MX MW stR
theorem oG:kJ:=by
 rintro ⟨a,b,_u⟩ w fz xs hc hfz hl hx
 refine Bg Tryz.func16 rfl w fz [] [] SS (λp:(Sta)×(Sta)×Unit=>MZ p.1 p.2.1) _ xs hfz hl hx (jN rfl) ?_
 clear hx hl hfz xs
 simp only[Tryz.f16]
 dsimp only at hc
 obtain⟨h0,h1,h2,h3⟩:=hc
 subst h0
 obtain⟨sc,sa⟩:=a
 dsimp only at h1 h2 h3
 simp only[seval,go_sem,iD,bne_self_eq_false,beq_self_eq_true]
 refine AC (Y:=Nat) (λi=>i<=sc.length)
  (λi=>⟨[(2,true,.one (.p 2 0 0)),(3,true,.one (.p 3 0 0)),(5,true,.one (.v (.int .i64 (i:Int))))],[(2,.vec 0 [.v (.bool false),.v (.bool false)] [[.d (.sl Hc (sc.map Nb.r)),.d (.sl Hd (sa.map Na.r))]]),(3,.vec 0 [.v (.bool false),.v (.bool false)] [[.d (.sl Hc (sc.map Nb.r)),.d (.sl Hd (sa.map Na.r))]])]⟩)
  (λi=>sc.length-i) 0 (Nat.zero_le _) ?_ ?_
 .exact y6
 rintro i hi
 refine AP [] [] _ _ _ ?_
 have w1:IntKind.i64.wrap ((i:Int)+1)=((i+1:Nat):Int):=by rw[wrap_i64 (by omega) (by omega)];rfl
 cases hx:sc[i]? with
 |some x=>
  have hlt:=(List.getElem?_eq_some_iff.1 hx).1
  have g1:=Ah hlt
  have hil:(i:Int)<(sc.length:Int):=by omega
  have hz:=aM hx
  simp only[seval,go_sem,iD,g1,hz,w1,bne_self_eq_false,beq_self_eq_true]
  refine⟨hil,hil,Bn (by kernel_rfl),i+1,hlt,(by omega),?_⟩
  exact y6
 |none=>
 have g2:=List.getElem?_eq_none_iff.1 hx
 have g1:=Ai g2
 simp only[seval,go_sem,iD,g1]
 refine AC (Y:=Nat) (λi=>i<=sa.length)
  (λi=>⟨[(2,true,.one (.p 2 0 0)),(3,true,.one (.p 3 0 0)),(6,true,.one (.v (.int .i64 (i:Int))))],[(2,.vec 0 [.v (.bool false),.v (.bool false)] [[.d (.sl Hc (sc.map Nb.r)),.d (.sl Hd (sa.map Na.r))]]),(3,.vec 0 [.v (.bool false),.v (.bool false)] [[.d (.sl Hc (sc.map Nb.r)),.d (.sl Hd (sa.map Na.r))]])]⟩)
  (λi=>sa.length-i) 0 (Nat.zero_le _) ?_ ?_
 .exact y6
 rintro j hj
 refine AP [] [] _ _ _ ?_
 have w2:IntKind.i64.wrap ((j:Int)+1)=((j+1:Nat):Int):=by rw[wrap_i64 (by omega) (by omega)];rfl
 cases hy:sa[j]? with
 |none=>
  have k2:=List.getElem?_eq_none_iff.1 hy
  have k1:=Ai k2
  simp only[seval,go_sem,iD,k1]
  refine A1 [] ?_;simp only[seval,go_sem,bne,MZ]
 |some y=>
 have hlt:=(List.getElem?_eq_some_iff.1 hy).1
 have k1:=Ah hlt
 have hjl:(j:Int)<(sa.length:Int):=by omega
 have hz:=W1 hy
 have hyl:=h3 y (List.mem_of_getElem? hy)
 obtain⟨ys,yl⟩:=y
 dsimp only at hyl
 simp only[seval,go_sem,iD,k1,hz,bne_self_eq_false,beq_self_eq_true]
 refine⟨hjl,hjl,hjl,hjl,Bn (by kernel_rfl),?_⟩
 refine AC (Y:=Nat) (λk=>k<=yl.length)
  (λk=>⟨[(2,true,.one (.p 2 0 0)),(3,true,.one (.p 3 0 0)),(6,true,.one (.v (.int .i64 (j:Int)))),(7,true,.one (.v (.int .i64 (k:Int))))],[(2,.vec 0 [.v (.bool false),.v (.bool false)] [[.d (.sl Hc (sc.map Nb.r)),.d (.sl Hd (sa.map Na.r))]]),(3,.vec 0 [.v (.bool false),.v (.bool false)] [[.d (.sl Hc (sc.map Nb.r)),.d (.sl Hd (sa.map Na.r))]])]⟩)
  (λk=>yl.length-k) 0 (Nat.zero_le _) ?_ ?_
 .exact y6
 rintro k hk
 refine AP [] [] _ _ _ ?_
 have w3:IntKind.i64.wrap ((k:Int)+1)=((k+1:Nat):Int):=by rw[wrap_i64 (by omega) (by omega)];rfl
 cases hq:yl[k]? with
 |none=>
  have q2:=List.getElem?_eq_none_iff.1 hq
  have q1:=Ai q2
  simp only[seval,go_sem,iD,hz,q1,w2]
  refine⟨hjl,j+1,hlt,(by omega),?_⟩
  exact y6
 |some q=>
 have hqlt:=(List.getElem?_eq_some_iff.1 hq).1
 have q1:=Ah hqlt
 have hkl:(k:Int)<(yl.length:Int):=by omega
 have hzq:=A4X hq
 simp only[seval,go_sem,iD,hz,hzq,q1,w3,bne_self_eq_false]
 refine⟨hjl,hjl,hkl,hjl,hkl,Bn (by kernel_rfl),k+1,hqlt,(by omega),?_⟩
 exact y6
noncomputable def P6{X:Ctx}{w0:World}:Sy.Spec Tryz.prog X w0:=Dq 16 Tryz.call16 SS _ _ KF2 oG
abbrev gG(a:Ou)(b:Ou):Prop:=a=b/\a.s.cs.length<=1000000/\a.s.ar.length<=1000000/\∀x∈a.s.ar,x.l.length<=1000000000
abbrev N5(a:Ou)(b:Ou):SV:=.one (.v (.bool true))
noncomputable abbrev RH:ArgC ((Ou)×(Ou)×Unit):=(acS (cOu) (acS (cOu) ac0))
abbrev gH:Prop:=Ca Tryz.prog 13 RH (λp:(Ou)×(Ou)×Unit=>gG p.1 p.2.1) (λp:(Ou)×(Ou)×Unit=>N5 p.1 p.2.1)
theorem kK:gH:=by
 rintro ⟨a,b,_u⟩ w fz xs hc hfz hl hx
 refine Bg Tryz.func13 rfl w fz [P6] [] RH (λp:(Ou)×(Ou)×Unit=>N5 p.1 p.2.1) _ xs hfz hl hx (jN rfl) ?_
 clear hx hl hfz xs
 simp only[Tryz.f13]
 dsimp only at hc
 obtain⟨h0,h1,h2,h3⟩:=hc
 subst h0
 obtain⟨e,v,f,al,k,sc,sa⟩:=a
 dsimp only at h1 h2 h3
 simp only[seval,go_sem,P6,iD,bne_self_eq_false,beq_self_eq_true]
 refine⟨⟨rfl,h1,h2,h3⟩,?_⟩
 refine A1 [] ?_;simp only[seval,go_sem,bne,N5,MZ]
noncomputable def W3{X:Ctx}{w0:World}:Sy.Spec Tryz.prog X w0:=Dq 13 Tryz.call13 RH _ _ KF2 kK
end Go.Proofs.YtapedeoheilnnaaGreat
