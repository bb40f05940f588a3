/- A run's outermost call, walked. No conditions but those in each statement. -/
import Derived.Test.YtapedeoheilnnaaGreatRmj
import Derived.Test.YtapedeoheilnnaaGreatRme
import Derived.Test.YtapedeoheilnnaaGreatPgm
import Derived.Test.YtapedeoheilnnaaGreatRmi
import Derived.Test.YtapedeoheilnnaaGreatRows
import Derived.Test.YtapedeoheilnnaaGreatOp
import Derived.Lib.SmallJoins
import Derived.Carry
set_option linter.all false
set_option maxRecDepth 20000
set_option maxHeartbeats 32000000
open Option (isSome_some isSome_none)
open List (append_nil mem_singleton mem_cons not_mem_nil map_cons map_nil all_eq_true mem_map)
namespace Go.Proofs.YtapedeoheilnnaaGreat
open Go Go.Sy Go.RowKit
def rnA(n:Nat)(P:Pg)(f:List UInt8)(va:List Va)(m:Ms):Bool×Int×Ms:=match P.fi f with
 |none=>(true,0,m.brk f (-1) 4)
 |some i=>
  let g:=P.fs.getD i.toNat ⟨[],[],[],[]⟩
  if Dn g.ps va=false then (true,0,m.brk f (-1) 4)
  else if poB P va=false then (true,0,m.brk f (-1) 4)
  else II (stF n) P g va m
def rnZ(r:Bool×Int×Ms):Ms:=if r.1=true then OA r.2.2 else { r.2.2 with e:=0,v:=r.2.1,f:=[],al:=0,k:=0 }
noncomputable abbrev Ii:ArgM ((Pg×Ms)×List UInt8×List Va×Unit):=amP mMc (amD cStr (amD LC am0))
abbrev Z7(N n:Nat)(p:(Pg×Ms)×List UInt8×List Va×Unit):Prop:=okMs N n ⟨[],0,p.1.1,p.1.2,[]⟩/\p.2.2.1.length<=5000/\n<=1000000000
abbrev XP(n:Nat)(p:(Pg×Ms)×List UInt8×List Va×Unit):List (Option MV):=[some (mcW p.1.1 (rnZ (rnA n p.1.1 p.2.1 p.2.2.1 p.1.2)))]
abbrev sRn(P:Pg)(m:Ms)(f:List UInt8)(va:List Va):St:=⟨[(1,true,.one (.v (.string (bs f)))),(2,true,.one (.d (.sl Gj (va.map Va.r)))),(3,true,.one (.p 3 0 0))],[(0,.vec 0 zMc [mcC P m]),(3,.vec 0 [.v (.bool false)] [[.p 0 0 0]])]⟩
def xR(M fz:Nat->Prop)(I:Nm)(P:Pg)(r:Bool×Int×Ms):Ctx:=⟨M,fz,[0,3].map λk=>(k,I k),(if r.1=true then some (pnM P r.2.2) else none),[{ target:=.fn (.func 48) #[(I 3).p 0 0],args:=#[] }],[]⟩
theorem Om(M fz:Nat->Prop)(I:Nm)(P:Pg)(r:Bool×Int×Ms):(xR M fz I P r).pn=if r.1=true then some (pnM P r.2.2) else none:=rfl
theorem TW(M fz:Nat->Prop)(I:Nm)(P:Pg)(r:Bool×Int×Ms):(xR M fz I P r).kp=[]:=rfl
theorem dU(cap:Array Value)(w:World):(invoke (.fn (.func 48) cap) #[]).run Tryz.prog w= .ok (.enter 48 cap) w:=by
 have:=Tryz.call48 cap w
 simp[go_sem,this]
attribute [local go_sem] Gg ID IE mcC mcW EG Dq GJ GI
theorem zW(N n:Nat):Bv Tryz.prog 32 (Ii.args 0) Ii.mem (Z7 N n) (λ_=>.tup []) (XP n):=by
 rintro ⟨⟨P,m⟩,f,va,_u⟩ w M I lab fz xs ⟨hM,hva,hn9⟩ hA hl hx
 dsimp only at hM hva
 refine ii Tryz.func32 rfl (Ii.mem ⟨(P,m),f,va,_u⟩) w M I lab fz (Ii.args 0 ⟨(P,m),f,va,_u⟩) (XP n ⟨(P,m),f,va,_u⟩) (.tup []) xs hA hl hx (λv hv k hk=>by have:=Ii.an 0 ⟨(P,m),f,va,_u⟩ v hv k hk;omega) (jN rfl) ?_
 clear hx hl hA xs
 have hm1:(Ii.mem ⟨(P,m),f,va,_u⟩).length=1:=rfl
 rw[hm1]
 obtain⟨r,hr⟩:∃r,rnA n P f va m=r:=⟨_,rfl⟩
 have hMr:XP n ⟨(P,m),f,va,_u⟩=[some (mcW P (rnZ r))]:=by rw[<- hr]
 rw[hMr]
 generalize hQd:bodyPostD Tryz.prog Tryz.f32 (LR w M fz I 1 [some (mcW P (rnZ r))] (.tup []))=Qd
 simp only[Tryz.f32]
 have hq0:∀e s' act w',e≠Exit.normal->False->Holds (mX M fz I 1) w 60 s' act w'->Qd e act w':=λ_ _ _ _ _ h=>h.elim
 have hp0:∀ch act w',Hi (mX M fz I 1) act->KY (mX M fz I 1) w ch w'->Qd (.panic ch) act w':=by
  rintro ch act w' _ ⟨_,_,_,_,_,_,hpn⟩
  exact hpn.elim
 refine uh (λ_ _=>False) [] [] hq0 hp0 ?_
 simp only[seval,go_sem,Af]
 refine A4Y (t:=sRn P m f va) (A4 [] ?_) ?_
 .simp only[seval,go_sem,sRn]
 intro a w1 hs1
 obtain⟨J,hn,hfx,hsl,hD⟩:=Za hs1 (t:=9) rfl [(3,3)] (by simp[sRn,lkp]) [0,3] (by simp[sRn,lkp]) (if r.1=true then some (pnM P r.2.2) else none)
 refine o7 rfl rfl rfl rfl rfl rfl (by rw[hn];decide) ?_
 have v3:a.tmps[3]?=some ((J 3).p 0 0):=hsl (3,3) (by simp)
 have ev:(#[Operand.tmp 3].map a.eval) = #[(J 3).p 0 0]:=by simp[Act.eval,v3]
 have hdf:a.defers=[]:=hs1.defers
 have j0:J 0=I 0:=hfx (0,I 0) (by simp[memF])
 rw[ev,hdf]
 refine(?_:UZ (P:=Tryz.prog) (xR M fz J P r) w 60 _ (sRn P m f va) Qd) _ _ (hD _ _)
 clear hD hs1 ev v3 hsl hn hdf hq0 hp0 hfx
 have hq1:∀e s' act w',(e=Exit.normal/\r.1=false/\Mn Tryz.prog (xR M fz J P r) Tryz.f32.results.toList (pB (.tup []) [some (mcW P (rnZ r))]) s')->Holds (xR M fz J P r) w 60 s' act w'->Qd e act w':=by
  rintro e s' act w' ⟨rfl,_,hret⟩ hh
  rw[<- hQd]
  show Leaves _ _ _ _ act.defers .returning w'
  rw[hh.defers]
  obtain⟨x,hx1,y,I',lab',fz',_,hAt,_⟩:=tE (X:=xR M fz J P r) (M:=M) (fz0:=fz) (I0:=I) (m:=1) rfl rfl (by
   intro p hp
   simp only[memF,mem_singleton]at hp
   subst hp
   show (0,I 0)∈[(0,J 0),(3,J 3)]
   rw[j0];simp) (by simp) hret hh
  refine leaves_cons (f:=48) (args:=#[(J 3).p 0 0]) (by simp) (dU _ _) ?_
  refine(nS hAt _).mono ?_
  rintro e u' w2 ⟨rfl,rfl,I2,lab2,fz2,hA2⟩
  exact⟨.tuple #[],by simp[results,Tryz.results32,go_sem],.tuple #[],I2,lab2,fz2,rfl,hA2,⟨#[],rfl,rfl,by simp⟩⟩
 have hp1:∀ch act w',Hi (xR M fz J P r) act->KY (xR M fz J P r) w ch w'->Qd (.panic ch) act w':=by
  rintro ch act w' ⟨hd,_⟩ ⟨⟨t,y,rfl⟩,I',lab,fz',H',hA,hpn⟩
  rw[<- hQd]
  have hbt:r.1=true:=by
   cases hb:r.1 with
   |true=>rfl
   |false=>rw[Om,hb]at hpn;exact hpn.elim
  rw[Om,hbt,if_pos rfl]at hpn
  have hI3:I' 3=J 3:=(hA.fix (3,J 3) (by simp[xR])).2
  have hB:=A4X hA (pnM P r.2.2) hpn (by
   intro p hp q hq c hc k hk2
   simp only[pnM,mem_cons,not_mem_nil,or_false]at hp
   rcases hp with rfl|rfl<;>simp only[mem_cons,not_mem_nil,or_false]at hq<;>subst hq
   .simp only[mem_cons,not_mem_nil,or_false]at hc;subst hc
    simp only[C.names,mem_singleton]at hk2;subst hk2;simp[pnM]
   .rw[JF P r.2.2 c hc]at hk2;cases hk2) (by
   intro p hp
   simp only[xR,map_cons,map_nil,mem_cons,not_mem_nil,or_false]at hp
   rcases hp with rfl|rfl<;>simp[pnM])
  have hC:=jO P r.2.2 hB (by
   intro q hq
   simp only[xR,map_cons,map_nil,mem_cons,not_mem_nil,or_false]at hq
   rcases hq with rfl|rfl<;>simp) t y
  rw[hI3]at hC
  show Leaves _ _ _ _ act.defers _ w'
  rw[hd]
  refine leaves_cons (f:=48) (args:=#[(J 3).p 0 0]) (by simp) (dU _ _) ?_
  refine hC.mono ?_
  rintro e u' w2 ⟨rfl,rfl,I2,lab2,fz2,hA2⟩
  have hz:rnZ r=OA r.2.2:=by unfold rnZ;rw[hbt];rfl
  refine⟨.tuple #[],by simp[results,Tryz.results32,go_sem],.tuple #[],I2,lab2,fz2,rfl,?_,⟨#[],rfl,rfl,by simp⟩⟩
  refine QS (X:=mX M fz I 1) (cw (X:=xR M fz J P r) rfl rfl (by
   intro p hp
   simp only[memF,mem_singleton]at hp
   subst hp
   show (0,I 0)∈[(0,J 0),(3,J 3)]
   rw[j0];simp) hA2) ?_ ?_
  .intro q hq
   simp only[memO,chO,mcW,mem_singleton]at hq
   subst hq
   rw[hz]
   refine⟨⟨rfl,rfl,.inl rfl⟩,?_⟩
   intro k hk
   simp only[chNames,List.flatMap_cons,List.flatMap_nil,append_nil]at hk
   obtain⟨c,hc,hk⟩:=List.mem_flatMap.1 hk
   rw[JF P _ c hc]at hk;cases hk
  intro p hp
  simp only[memF,mem_singleton]at hp
  subst hp;rfl
 refine ui _ [IB,D5,JQ,CW N n (dM N n (Qy N n (TT N n)))] [] hq1 hp1 ?_
 clear hq1 hp1 hQd
 cases hf:P.fi f with
 |none=>
  have hr2:r=(true,0,m.brk f (-1) 4):=by rw[<- hr];unfold rnA;rw[hf]
  subst hr2
  rcases z7 P.fs with h0|⟨n0,p0,l0,b0,h0⟩
  .simp only[seval,go_sem,CB,CC,CE,CF,Va.c,isSome_some,isSome_none,IB,Ge,GD,D5,CZ,JQ,GV,GW,CW,CI,BX,BS,AE,AF,Af,Ag,DW,DX,Et,Eu,DR,DS,DT,cSl,Fn.c,hf,h0,Z1,Z0,Om,TW,pnM,sRn]
  simp only[seval,go_sem,CB,CC,CE,CF,Va.c,isSome_some,isSome_none,IB,Ge,GD,D5,CZ,JQ,GV,GW,CW,CI,BX,BS,AE,AF,Af,Ag,DW,DX,Et,Eu,DR,DS,DT,cSl,Fn.c,hf,h0,Z1,Z0,Om,TW,pnM,sRn]
 |some i=>
 have hi2:=Pg.fi_lt hf
 have hg:=yz hi2
 have hgm:P.fs.getD i.toNat ⟨[],[],[],[]⟩∈P.fs:=by
  have:i.toNat<P.fs.length:=by omega
  rw[List.getD,List.getElem?_eq_getElem this];exact List.getElem_mem this
 obtain⟨gF,gB⟩:=hM.p.f _ hgm
 obtain⟨g,hgE⟩:∃g,P.fs.getD i.toNat ⟨[],[],[],[]⟩=g:=⟨_,rfl⟩
 rw[hgE]at hg gF gB
 obtain⟨gn,gps,gls,gb⟩:=g
 have gp5:gps.length<=5000:=gF.1
 cases hft:Dn gps va with
 |false=>
  have hr2:r=(true,0,m.brk f (-1) 4):=by rw[<- hr];unfold rnA;rw[hf];dsimp only;rw[hgE];exact if_pos hft
  subst hr2
  simp only[seval,go_sem,CB,CC,CE,CF,Va.c,isSome_some,isSome_none,IB,Ge,GD,D5,CZ,JQ,GV,GW,CW,CI,BX,BS,AE,AF,Af,Ag,DW,DX,Et,Eu,DR,DS,DT,cSl,Fn.c,hf,hg,hft,Om,TW,pnM,sRn]
  exact⟨⟨hi2.1,hi2.2,rfl⟩,⟨gp5,hva⟩⟩
 |true=>
 cases hpo:poB P va with
 |false=>
  have hr2:r=(true,0,m.brk f (-1) 4):=by rw[<- hr];unfold rnA;rw[hf];dsimp only;rw[hgE,if_neg (by rw[show Dn gps va=true from hft];decide)];exact if_pos hpo
  subst hr2
  simp only[seval,go_sem,CB,CC,CE,CF,Va.c,isSome_some,isSome_none,IB,Ge,GD,D5,CZ,JQ,GV,GW,CW,CI,BX,BS,AE,AF,Af,Ag,DW,DX,Et,Eu,DR,DS,DT,cSl,Fn.c,hf,hg,hft,hpo,Om,TW,pnM,sRn]
  exact⟨⟨hi2.1,hi2.2,rfl⟩,⟨gp5,hva⟩,hva⟩
 |true=>
 have hrc:II (stF n) P ⟨gn,gps,gls,gb⟩ va m=r:=by rw[<- hr];unfold rnA;rw[hf];dsimp only;rw[hgE,if_neg (by rw[show Dn gps va=true from hft];decide),if_neg (by rw[hpo];decide)]
 have hcl:UQ N n (P,m) ⟨gn,gps,gls,gb⟩ va:=⟨hM,⟨gF,gB⟩,hft,hn9⟩
 obtain⟨rb,rv,rm⟩:=r
 cases rb with
 |true=>
  simp only[seval,go_sem,CB,CC,CE,CF,Va.c,isSome_some,isSome_none,IB,Ge,GD,D5,CZ,JQ,GV,GW,CW,CI,BX,BS,AE,AF,Af,Ag,DW,DX,Et,Eu,DR,DS,DT,cSl,Fn.c,hf,hg,hft,hpo,hrc,Om,TW,pnM,sRn]
  exact⟨⟨hi2.1,hi2.2,rfl⟩,⟨gp5,hva⟩,hva,⟨hi2.1,hi2.2,rfl⟩,hcl,CH (by kernel_rfl)⟩
 |false=>
 simp only[seval,go_sem,CB,CC,CE,CF,Va.c,isSome_some,isSome_none,IB,Ge,GD,D5,CZ,JQ,GV,GW,CW,CI,BX,BS,AE,AF,Af,Ag,DW,DX,Et,Eu,DR,DS,DT,cSl,Fn.c,hf,hg,hft,hpo,hrc,Om,TW,pnM,sRn]
 refine⟨⟨hi2.1,hi2.2,rfl⟩,⟨gp5,hva⟩,hva,⟨hi2.1,hi2.2,rfl⟩,hcl,CH (by kernel_rfl),?_⟩
 have hz:rnZ (false,rv,rm)=⟨rm.fuel,rm.deep,rm.cs,rm.ar,0,rv,[],0,0⟩:=rfl
 rw[hz]
 refine A1 [] ?_;simp only[seval,go_sem,bne,A0h,Tryz.f32,pnM]
end Go.Proofs.YtapedeoheilnnaaGreat
namespace Go.Sy
open Go Go.RowKit
def nT(es:List (List C)):Prop:=∀r∈es,∀c∈r,c.names=[]/\ovC (some c)=false
theorem nU{r:List C}(h:∀c∈r,c.names=[]/\ovC (some c)=false):nT [r]:=by
 intro r' hr;rw[List.mem_singleton.1 hr];exact h
theorem uH{es:List (List C)}(h:nT es){p:List (Nat×Nat)}{z:List C}(hi:inP p z es):ovP p z es=false:=by
 have key:∀(i j:Nat) (c:C),i<es.length->(es.getD i z)[j]?=some c->ovC (some c)=false:=by
  intro i j c hi hc
  have hg:es.getD i z=es[i]:=by simp[List.getD,hi]
  rw[hg]at hc
  exact(h _ (List.getElem_mem hi) c (List.mem_of_getElem? hc)).2
 match p,hi with
 |[(i,j)],hi=>
  simp only[inP]at hi
  simp only[ovP,Ek]
  cases hc:(es.getD i z)[j]? with
  |none=>rfl
  |some c=>exact key i j c hi hc
 |(i,j)::q::r,hi=>
  simp only[inP]at hi
  obtain⟨h1,h2⟩:=hi
  cases hc:(es.getD i z)[j]? with
  |none=>rw[hc]at h2;exact h2.elim
  |some c=>
  have:=key i j c h1 hc
  rw[hc]at h2
  cases c<;>first|exact h2.elim|(simp[ovC]at this)
def Zq(H:Hp)(u:List (Nat×Ch)):Prop:=∀k ch,H k=some ch->updH H u k=some ch∨∃u0 u1 z z1 es,ch= .vec u0 z es/\updH H u k=some (.vec u1 z1 es)/\nT es/\z.length=z1.length/\zT z=none
theorem zX{h:BZ}{fz:Nat->Prop}{lab:Lab}{I:Nm}{π:List Nat}{z z1:List C}{es:List (List C)}{x:Value}(hl:z.length=z1.length)(hz:zT z=none)(r:ER h fz lab I π z1 es x):ER h fz lab I π z es x:=by
 rcases r with r|⟨b,off,cap,arr,T,h1,h2,h3,h4,h5,h6⟩
 .exact .inl r
 refine .inr ⟨b,off,cap,arr,T,h1,h2,h3,⟨by rw[hl];exact h4.1,IJ hz⟩,h5,?_⟩
 rw[hl];exact h6
theorem uI{X:Ctx}{w0 w w':World}{I:Nm}{lab:Lab}{fz:Nat->Prop}{H:Hp}{v:SV}{u:List (Nat×Ch)}{x:Value}(hA:AtW X w0 I lab fz H w)(hk:Zq H u)(hv:LP v=true)(h:Hy X w0 w I lab fz H (some v) u x w'):Hy X w0 w I lab fz H (some v) [] x w':=by
 obtain⟨I',lab',fz',h1,h2,h3⟩:=h
 refine⟨I',lab',fz',⟨λk ch hc=>?_,λk ch hc=>hA.wf k ch hc,h1.own,h1.fzl,h1.fzo,h1.kept,λp hp=>⟨(hA.fix p hp).1,(h1.fix p hp).2⟩⟩,λs hs=>?_,⟨h3.z,h3.n,λk u0 p y hs hw=>?_⟩⟩
 .rcases hk k ch hc with e|⟨u0,u1,z,z1,es,rfl,e,_,hl,hz⟩
  .exact h1.h k ch e
  obtain⟨q1,q2,q3⟩:=h1.h k _ e
  exact⟨q1,q2.trans hl.symm,zX hl hz q3⟩
 .simp only[jS]at hs
  subst hs
  exact Nh hv (h2 _ rfl)
 have hw':=h3.w k u0 p y hs hw
 refine⟨hw.1,λu' z es hc=>?_⟩
 rcases hk k _ hc with e|⟨u0',u1,z',z1,es',e0,e,hsim,_,_⟩
 .exact hw'.2 u' z es e
 simp only[Ch.vec.injEq]at e0
 obtain⟨rfl,rfl,rfl⟩:=e0
 exact⟨(hw.2 _ _ _ hc).1,λ_ hi ho=>by rw[uH hsim hi]at ho;cases ho⟩
section
variable {P:Program}{X:Ctx}{w0:World}
def zY(s:Sy.Spec P X w0)(hro:∀t args H c e fp,s.fn t args H=some (c,e,fp)->c->H t=none->Zq H e.upd/\LP e.val=true/\e.val.names=[]):Sy.Spec P X w0 where
 f:=s.f
 call:=s.call
 fn t args H:=match s.fn t args H with
  |some (c,e,fp)=>some (c,⟨e.val,[]⟩,fp)
  |none=>none
 ok w I lab fz H t args xs c e fp hA ht h hc hd hl hx:=by
  split at h
  .rename_i c' e' fp' hs
   simp only[jS,jP]at h
   obtain⟨rfl,rfl,rfl⟩:=h
   obtain⟨k1,k2,k3⟩:=hro _ _ _ _ _ _ hs hc ht
   refine(s.ok w I lab fz H t args xs _ _ _ hA ht hs hc hd hl hx).mono ?_
   rintro en w' (⟨x,e1,hp⟩|hp)
   .exact .inl ⟨x,e1,uI hA k1 k2 hp⟩
   .exact .inr hp
  .cases h
 dom t args H c e fp ht hc h hd:=by
  split at h
  .rename_i c' e' fp' hs
   simp only[jS,jP]at h
   obtain⟨rfl,rfl,rfl⟩:=h
   obtain⟨k1,k2,k3⟩:=hro _ _ _ _ _ _ hs hc ht
   exact⟨by rw[k3];intro k hk;exact(not_mem_nil hk).elim,λp hp=>(not_mem_nil hp).elim⟩
  .cases h
 loc t args H H' c e fp h hf:=by
  split at h
  .rename_i c' e' fp' hs
   simp only[jS,jP]at h
   obtain⟨rfl,rfl,rfl⟩:=h
   rw[s.loc _ _ _ H' _ _ _ hs hf]
  .cases h
end
end Go.Sy
namespace Go.Proofs.YtapedeoheilnnaaGreat
open Go Go.Sy Go.RowKit
section
variable {X:Ctx}{w0:World}
noncomputable def fN:Sy.Spec Tryz.prog X w0:=DL 27 Tryz.call27 (Ej 28 mPg) Z3 (λ_=>false) XH M_C1 (λ_=>mlO [none])
 (λp _ _=>⟨rfl,rfl,rfl,SH _ (Q1 p.2)⟩) (λa _ h=>by cases h) (λa _ h=>by cases h) (λ_=>rfl) jF
noncomputable def fO:Sy.Spec Tryz.prog X w0:=DL 27 Tryz.call27 (Ej 29 mPg) Z4 (λ_=>false) XI XJ (λ_=>mlO [none])
 (λp _ _=>⟨rfl,rfl,rfl,SH _ (Q1 p.2)⟩) (λa _ h=>by cases h) (λa _ h=>by cases h) (λ_=>rfl) jG
noncomputable def fQ:Sy.Spec Tryz.prog X w0:=DL 27 Tryz.call27 (Ej 30 mPg) Z5 (λ_=>false) XK M_C3 (λ_=>mlO [none])
 (λp _ _=>⟨rfl,rfl,rfl,SH _ (Q1 p.2)⟩) (λa _ h=>by cases h) (λa _ h=>by cases h) (λ_=>rfl) jH
noncomputable def fR:Sy.Spec Tryz.prog X w0:=XO (Mv 29) fO fQ rfl
noncomputable def YI:Sy.Spec Tryz.prog X w0:=XO (Mv 28) fN fR rfl
theorem jQ(t:Nat)(args:List SV)(H:Hp):(YI (X:=X) (w0:=w0)).fn t args H=if Mv 28 args=true then spL X ((Ej 28 mPg).d H args) t H Z3 (λ_=>false) XH M_C1 (λ_=>mlO [none])
 else if Mv 29 args=true then spL X ((Ej 29 mPg).d H args) t H Z4 (λ_=>false) XI XJ (λ_=>mlO [none]) else spL X ((Ej 30 mPg).d H args) t H Z5 (λ_=>false) XK M_C3 (λ_=>mlO [none]):=rfl
theorem fS{F:FuncId}{t:Nat}{args:List SV}{H:Hp}{Cd:Int×Pg->Prop}{R:Int×Pg->SV}{M:Int×Pg->List (Option ML)}{pan:Int×Pg->List (Option ML)}{c:Prop}{e:Eff}{fp:List Nat}(hR:∀q,LP (R q)=true/\(R q).names=[]/\∃y,R q= .one (.d y))(hM:∀q,M q=[some (.vec zPg [pgR q.2])])
  (h:spL X ((Ej F mPg).d H args) t H Cd (λ_=>false) R M pan=some (c,e,fp)):Zq H e.upd/\LP e.val=true/\e.val.names=[]:=by
 cases hd:(Ej F mPg).d H args with
 |none=>rw[hd]at h;cases hf:H (fcN t)<;>cases hg:H (t+600000)<;>(simp only[spL]at h;cases h)
 |some p=>
  obtain⟨⟨n,b⟩,ks⟩:=p
  obtain⟨k,u,z,rfl,rfl,h1,hz,hz0⟩:=Zh hd
  rw[hd,Cf]at h
  split at h
  case h_2=>cases h
  rename_i hf _
  simp only[jS,jP]at h
  obtain⟨_,rfl,_⟩:=h
  obtain⟨g1,g2,y,g3⟩:=hR (n,b)
  have hv:E1 H [k] t (R (n,b))=R (n,b):=by rw[g3];rfl
  refine⟨?_,by rw[hv];exact g1,by rw[hv];exact g2⟩
  rw[hM]
  intro k2 ch hk2
  have hne:k2≠fcN t:=by rintro rfl;rw[hf]at hk2;cases hk2
  by_cases e:k2=k
  .subst e
   rw[h1]at hk2
   simp only[jS]at hk2
   subst hk2
   refine .inr ⟨u,u+1,z,zPg,[mPg.e b],rfl,?_,nU (λc hc=>?_),hz,hz0⟩
   .simp only[CO,EE,append_nil,List.cons_append,List.nil_append,updH,upd,h1,Option.map_some,Dd,if_true]
    congr 2
    simp only[ML.ren,map_cons,map_nil,R0]
    rw[DB λc hc=>F1 (Q1 b c hc)]
    exact if_neg hne
   .simp only[R0,pgR,mem_cons,not_mem_nil,or_false]at hc
    rcases hc with rfl|rfl|rfl<;>exact⟨rfl,rfl⟩
  .left
   simp only[CO,EE,append_nil,List.cons_append,List.nil_append,updH,upd,if_neg e,if_neg hne]
   exact hk2
noncomputable def UU:Sy.Spec Tryz.prog X w0:=zY YI (λt args H c e fp h _ _=>by
 rw[jQ]at h
 split at h
 .exact fS (λq=>⟨rfl,rfl,_,rfl⟩) (λq=>rfl) h
 split at h
 .exact fS (λq=>⟨rfl,rfl,_,rfl⟩) (λq=>rfl) h
 exact fS (λq=>⟨rfl,rfl,_,rfl⟩) (λq=>rfl) h)
theorem nV:(UU (X:=X) (w0:=w0)).f=27:=rfl
theorem nW(t:Nat)(args:List SV)(H:Hp):(UU (X:=X) (w0:=w0)).fn t args H=match (if Mv 28 args=true then spL X ((Ej 28 mPg).d H args) t H Z3 (λ_=>false) XH M_C1 (λ_=>mlO [none])
 else if Mv 29 args=true then spL X ((Ej 29 mPg).d H args) t H Z4 (λ_=>false) XI XJ (λ_=>mlO [none]) else spL X ((Ej 30 mPg).d H args) t H Z5 (λ_=>false) XK M_C3 (λ_=>mlO [none])) with
  |some (c,e,fp)=>some (c,⟨e.val,[]⟩,fp)
  |none=>none:=rfl
noncomputable def UV:Sy.Spec Tryz.prog X w0:=DL 31 Tryz.call31 O9 Z6 (λ_=>false) PC M_st (λ_=>mlO [])
 (λp _ _=>⟨rfl,rfl,rfl,Zo [] _ _⟩) (λa _ h=>by cases h) (λa _ h=>by cases h) (λ_=>rfl) uG
theorem nX:(UV (X:=X) (w0:=w0)).f=31:=rfl
theorem nY(t:Nat)(args:List SV)(H:Hp):(UV (X:=X) (w0:=w0)).fn t args H=spL X (O9.d H args) t H Z6 (λ_=>false) PC M_st (λ_=>mlO []):=rfl
noncomputable def XQ(N n:Nat)(h:Bv Tryz.prog 32 (Ii.args 0) Ii.mem (Z7 N n) (λ_=>.tup []) (XP n)):Sy.Spec Tryz.prog X w0:=
 Cl 32 Tryz.call32 Ii (Z7 N n) (λ_=>.tup []) (XP n) (λ_ _=>rfl) (λ_ _=>rfl) (λ_ _=>Pu _ _) h
theorem uJ(N n:Nat)(h):(XQ (X:=X) (w0:=w0) N n h).f=32:=rfl
theorem uK(N n:Nat)(h)(t:Nat)(args:List SV)(H:Hp):(XQ (X:=X) (w0:=w0) N n h).fn t args H=spM (Ii.d H args) t H (Z7 N n) (λ_=>.tup []) (XP n):=rfl
end
theorem jR(l:List Nb):((l.map Nb.c).all λr=>r.all λc=>c.names.isEmpty)=true:=by
 rw[all_eq_true]
 intro r hr
 obtain⟨a,_,rfl⟩:=mem_map.1 hr
 rfl
theorem jT(l:List Na):((l.map Na.c).all λr=>r.all λc=>c.names.isEmpty)=true:=by
 rw[all_eq_true]
 intro r hr
 obtain⟨a,_,rfl⟩:=mem_map.1 hr
 rfl
theorem Zr(l:List Nb):ES (l.map Nb.c)=some (l.map Nb.r):=He Nb.c (λ_=>rfl) l
theorem zZ(l:List Int):ES (l.map cI)=some (l.map iD):=He cI (λ_=>rfl) l
theorem Zs(l:List Na):ES (l.map Na.c)=some (l.map Na.r):=He Na.c (λx=>by
 simp only[Na.c,G3,toD,zI,zZ,Na.r]) l
theorem OB(k:Nat)(z:List D)(e:List (List D))(l:List Nb):(l.map Nb.c).map (λr=>r.map (fzC k z e))=l.map Nb.c:=HP Nb.c (λ_=>rfl) l
theorem OC(k:Nat)(z:List D)(e:List (List D))(l:List Na):(l.map Na.c).map (λr=>r.map (fzC k z e))=l.map Na.c:=HP Na.c (λ_=>rfl) l
def ms0(P:Pg)(s:Sta)(fuel:Int):Ms:=⟨mn fuel 1048576,0,stCs P.g.c s.cs,stA P.g.a s.ar,2,0,[],0,0⟩
def clF(n:Nat)(P:Pg)(f:List UInt8)(va:List Va)(s:Sta)(fuel:Int):Ms:=if 1<=fuel then rnZ (rnA n P f va (ms0 P s fuel)) else ms0 P s fuel
def ouC(m:Ms):List C:=[.v (.int .i64 m.e),.v (.int .i64 m.v),.v (.string (bs m.f)),.v (.int .i64 m.al),.v (.int .i64 m.k),.d (.sl HY (m.cs.map Nb.r)),.d (.sl HZ (m.ar.map Na.r))]
structure okR(N n:Nat)(P:Pg)(va:List Va)(s:Sta)(fuel:Int):Prop where
 p:okPg N P
 c:P.g.c.length<=1000000
 a:P.g.a.length<=1000000
 l:∀x∈P.g.a,1<=x.n/\x.n<=1048576
 sc:s.cs.length<=1000000
 sa:s.ar.length<=1000000
 v:va.length<=5000
 f:fuel<n
 n:n<=1000000000
theorem XR(p:List Gy)(s:List Na)(h:∀x∈p,x.n<=1048576):∀x∈stA p s,x.l.length<=1000000000:=by
 intro x hx
 obtain⟨y,hy,rfl⟩:=mem_map.1 hx
 obtain⟨g,hg,rfl⟩:=mem_map.1 hy
 have:=h g hg
 unfold LG
 split
 .dsimp only;rw[uD];simp;omega
 simp;omega
theorem fT(x:Int):mn x 1048576<=x/\mn x 1048576<=1048576/\(1<=x->1<=mn x 1048576):=by unfold mn;split<;>omega
abbrev uL(N:Nat)(n:Nat)(p:Pg)(f:List UInt8)(va:List Va)(s:Sta)(fuel:Int):Prop:=okR N n p va s fuel
abbrev QF(N:Nat)(n:Nat)(p:Pg)(f:List UInt8)(va:List Va)(s:Sta)(fuel:Int):SV:=.agg (ouC (clF n p f va s fuel))
noncomputable abbrev XS:ArgC ((Pg)×(List UInt8)×(List Va)×(Sta)×(Int)×Unit):=(acS (cPg) (acS (cStr) (acS (LC) (acS (cSta) (acS (cInt .i64) ac0)))))
abbrev dV(N:Nat)(n:Nat):Prop:=Cu Tryz.prog 14 XS (λp:(Pg)×(List UInt8)×(List Va)×(Sta)×(Int)×Unit=>uL N n p.1 p.2.1 p.2.2.1 p.2.2.2.1 p.2.2.2.2.1) (λp:(Pg)×(List UInt8)×(List Va)×(Sta)×(Int)×Unit=>QF N n p.1 p.2.1 p.2.2.1 p.2.2.2.1 p.2.2.2.2.1)
noncomputable def TX{X:Ctx}{w0:World}(N:Nat)(n:Nat)(h:dV N n):Sy.Spec Tryz.prog X w0:=E2 14 Tryz.call14 XS _ _ KF4 h
attribute [local go_sem] Fa.mem Fa.memO Fa.pan ML.ch ML.ren MO O5 MP LF Vf Vg HA H9 HB Dd HG HF O8 O7 Ag Af chL MN J0 FG FF H7 fcN Ve Z2 Kk frC J1 H8 lmH lmO Gg ID IE VY R0 VX Vd Vb Vc mcC J2 IC mcW DJ Cg Ci EG jT Hu SG jR HH SF nmX pgR Dq De Cx Cy EK EJ GJ GI E1 EH rnC Cf DP Cr stR CO EE vrQ J3 nV uJ nX nW uK nY
theorem jU(N:Nat)(n:Nat):dV N n:=by
 rintro ⟨p,f,va,s,fuel,_u⟩ w fz xs hc hfz hl hx
 refine Bu Tryz.func14 rfl w fz [UU,UV,(XQ N n (zW N n))] [(2,[.fold 37 0 8,.fold 37 0 9]),(4,[.unr 37 0 8 1008,.unr 37 0 9 1009])] XS (λp:(Pg)×(List UInt8)×(List Va)×(Sta)×(Int)×Unit=>QF N n p.1 p.2.1 p.2.2.1 p.2.2.2.1 p.2.2.2.2.1) _ xs hfz hl hx (jN rfl) ?_
 clear hx hl hfz xs
 simp only[Tryz.f14]
 obtain⟨⟨pc,pa⟩,pf⟩:=p
 obtain⟨sc,sa⟩:=s
 obtain⟨hP,hc,ha,hl,hsc,hsa,hva,hfn,hn9⟩:=hc
 dsimp only at hc ha hl hsc hsa
 have hfn:fuel<n:=hfn
 have hfm:=fT fuel
 have hB:Vi ((⟨⟨pc,pa⟩,pf⟩:Pg),()):=⟨hc,ha,λx hx=>(hl x hx).2⟩
 have hS:Z6 ((⟨⟨pc,pa⟩,pf⟩:Pg),⟨sc,sa⟩,()):=⟨hB,λx hx=>(hl x hx).1,hsc,hsa⟩
 by_cases h1:1<=fuel
 .have hd:decide (1<=fuel)=true:=decide_eq_true h1
  obtain⟨m,hm⟩:∃m,rnZ (rnA n ⟨⟨pc,pa⟩,pf⟩ f va ⟨mn fuel 1048576,0,stCs pc sc,stA pa sa,2,0,[],0,0⟩)=m:=⟨_,rfl⟩
  have hr:clF n ⟨⟨pc,pa⟩,pf⟩ f va ⟨sc,sa⟩ fuel=m:=by unfold clF;rw[if_pos h1];exact hm
  simp only[seval,go_sem,xt,↓A0,hd,hm]
  refine⟨⟨by simp,by simpa using hP.l⟩,⟨rfl,hc⟩,⟨by simp,by simpa using ha⟩,hS,CH (by kernel_rfl),⟨⟨hP,⟨by simp[stCs,blC],by simp[stA,blA],hc,ha⟩,XR pa sa (λx hx=>(hl x hx).2),by have:=hfm.2.2 h1;show 0<=mn fuel 1048576;omega,by show mn fuel 1048576<(n:Int);omega⟩,hva,hn9⟩,?_⟩
  refine A1 [.fz 1008,.fz 1009] ?_;simp only[seval,go_sem,bne,QF,hr,ouC,Zr,Zs,OB,OC,zNb,zNa]
 have hd:decide (1<=fuel)=false:=decide_eq_false h1
 have hr:clF n ⟨⟨pc,pa⟩,pf⟩ f va ⟨sc,sa⟩ fuel=⟨mn fuel 1048576,0,stCs pc sc,stA pa sa,2,0,[],0,0⟩:=by unfold clF;rw[if_neg h1];rfl
 simp only[seval,go_sem,xt,↓A0,hd]
 refine⟨⟨by simp,by simpa using hP.l⟩,⟨rfl,hc⟩,⟨by simp,by simpa using ha⟩,hS,CH (by kernel_rfl),?_⟩
 refine A1 [.fz 1008,.fz 1009] ?_;simp only[seval,go_sem,bne,QF,hr,ouC,Zr,Zs,OB,OC,zNb,zNa]
open Go Go.Sy Go.RowKit
abbrev nZ(n:Int):Prop := -9223372036854775808<=n/\n<=9223372036854775807
abbrev u8R(n:Int):Prop:=0<=n/\n<=255
def nb(n:Nat)(s:Sm):Bool:=decide (s.e.dp<n)&&decide (s.f.dp<n)&&decide (s.cd.dp<n)&&s.ar.all (λa=>decide (a.e.dp<n))&&decide (s.ar.length<=5000)
theorem uM{n:Nat}{s:Sm}(h:nb n s=true):OkS n s:=by
 simp only[nb,Bool.and_eq_true,decide_eq_true_eq,all_eq_true]at h
 exact⟨h.1.1.1.1,h.1.1.1.2,h.1.1.2,h.1.2,h.2⟩
def XT(n:Nat):Nat->List Sm->Bool
 |0,_=>false
 |m+1,l=>decide (l.length<=5000)&&l.all λs=>nb n s&&XT n m s.th&&XT n m s.el
theorem TY{n:Nat}:∀{m:Nat} {l:List Sm},XT n m l=true->okB n m l
 |0,l,h=>by cases h
 |m+1,l,h=>by
  simp only[XT,Bool.and_eq_true,decide_eq_true_eq,all_eq_true]at h
  exact⟨h.1,λs hs=>⟨uM (h.2 s hs).1.1,TY (h.2 s hs).1.2,TY (h.2 s hs).2⟩⟩
def fU(f:Fn):Bool:=decide (f.ps.length<=5000)&&decide (f.ls.length<=5000)
theorem dW{f:Fn}(h:fU f=true):okF f:=by
 simp only[fU,Bool.and_eq_true,decide_eq_true_eq]at h;exact h
def zd(N M:Nat)(P:Pg):Bool:=decide (P.fs.length<=1000000)&&P.fs.all λf=>fU f&&XT N M f.body
theorem uN{N M:Nat}{P:Pg}(h:zd N M P=true):okPg N P:=by
 simp only[zd,Bool.and_eq_true,decide_eq_true_eq,all_eq_true]at h
 exact⟨h.1,λf hf=>⟨dW (h.2 f hf).1,M,TY (h.2 f hf).2⟩⟩
theorem ze{n m:Nat}{gl:List UInt8->List Gi}{s t:List UInt8}(h1:(s==gloB)=false)(h2:Dr t)(h3:(fU (GO t).1&&XT n m (GO t).1.body)=true):okUn n m gl ⟨s,t⟩:=by
 simp only[Bool.and_eq_true]at h3
 exact⟨λh=>(by rw[h1]at h;cases h),λ_=>h2,λ_=>dW h3.1,λ_=>TY h3.2⟩
theorem jV{n m:Nat}{gl:List UInt8->List Gi}{t:List UInt8}(h1:glO t (gl t))(h2:Sl (giV (gl t)).ns)(h3:(giV (gl t)).c.length<=5000)(h4:(giV (gl t)).a.length<=5000):okUn n m gl ⟨gloB,t⟩:=by
 have hb:(gloB==gloB)=true:=by decide
 exact⟨λ_=>⟨h1,h2,h3,h4⟩,λh=>(by rw[hb]at h;cases h),λh=>(by rw[hb]at h;cases h),λh=>(by rw[hb]at h;cases h)⟩
theorem NS{l:List (List UInt8)}(h:l.Nodup):Sl l:=by
 intro i j hj hi
 have hjl:j<l.length:=by omega
 simp only[List.getD,List.getElem?_eq_getElem hi,List.getElem?_eq_getElem hjl,Option.getD_some]
 have:=List.pairwise_iff_getElem.1 h j i hjl hi hj
 simpa using this
theorem zf(s t:List UInt8):mUn.d [.v (.string (bs s)),.v (.string (bs t))]=some ⟨s,t⟩:=J9 cq ⟨s,t⟩
theorem jW:cSta.d (.agg [.v (.slice none 0 0),.v (.slice none 0 0)])=some ⟨[],[]⟩:=ED (e:=λp:Sta=>.agg (stR p)) (a:=⟨[],[]⟩) ⟨.inr ⟨rfl,rfl⟩,.inr ⟨rfl,rfl⟩,trivial⟩
theorem jX:LC.d (.one (.v (.slice none 0 0)))=some []:=ED (e:=λl:List Va=>.one (.d (.sl Gj (l.map Va.r)))) (a:=[]) (.inr ⟨rfl,rfl⟩)
theorem uO(p:Bool)(n:Int)(s:List UInt8):LC.d (.one (.d (.sl [.v (.bool false),.v (.int .i64 0),.v (.string (bs []))] [[.v (.bool p),.v (.int .i64 n),.v (.string (bs s))]])))=some [⟨p,n,s⟩]:=Ag [⟨p,n,s⟩]
def kT:List UInt8:=[102,110,32,102,40,120,41,32,123,32,99,32,61,32,120,59,32,114,101,116,117,114,110,32,49,32,47,32,120,59,32,125]
def kG:List UInt8:=[99,101,108,108,32,99,59]
def kgl:List UInt8->List Gi:=λ_=>[.c [99]]
def kP:Pg:=⟨⟨[[99]],[]⟩,[⟨[102],[⟨[120],false⟩],[],[(.mk 0 [99] [] (.mk 1 0 [120] .nil .nil) .nil .nil [] [] [] 0),(.mk 9 [] [] (.mk 5 0 [] (.mk 0 1 [] .nil .nil) (.mk 1 0 [120] .nil .nil)) .nil .nil [] [] [] 1)]⟩]⟩
theorem A7X:prF 8 kgl [⟨[102],kT⟩,⟨gloB,kG⟩]=kP:=by kernel_rfl
theorem A7Y:∀u∈[(⟨[102],kT⟩:Un),⟨gloB,kG⟩],okUn 50 8 kgl u:=by
 intro u hu
 simp only[mem_cons,not_mem_nil,or_false]at hu
 rcases hu with rfl|rfl
 .exact ze (by decide) (by have e:kT.length=32:=rfl;unfold Dr;omega) (by kernel_rfl)
 refine jV ⟨by have e:kG.length=7:=rfl;unfold Dr;omega,?_,by decide,_,(by kernel_rfl:rxT kG=([⟨0,[99,101,108,108],0⟩,⟨0,[99],5⟩,⟨2,[59],6⟩],0,0)),rfl⟩ (NS (by decide)) (by decide) (by decide)
 intro g hg
 simp only[kgl,mem_singleton]at hg
 subst hg
 exact Mp _ (by decide)
theorem A7Z(va:List Va)(f:Int)(hv:va.length<=5000)(hf:f<10):okR 50 10 kP va ⟨[],[]⟩ f:=⟨uN (M:=8) (by kernel_rfl),by decide,by decide,(by intro x hx;cases hx),by decide,by decide,hv,hf,by decide⟩
theorem kPb:(blC kP.g.c).length=1:=rfl
theorem A7a:clF 10 kP [102] [⟨false,0,[]⟩] ⟨[],[]⟩ 9=⟨7,1,[⟨[99],0⟩],[],1,0,[102],1,0⟩:=by kernel_rfl
theorem A7b:clF 10 kP [102] [⟨false,1,[]⟩] ⟨[],[]⟩ 9=⟨7,0,[⟨[99],1⟩],[],0,1,[],0,0⟩:=by kernel_rfl
theorem A7c:clF 10 kP [103] [] ⟨[],[]⟩ 9=⟨9,0,[⟨[99],0⟩],[],1,0,[103],-1,4⟩:=by kernel_rfl
theorem jY{l:List Nb}{i:Nat}{x:Nb}(h:l[i]?=some x)(z:List D):(l.map Nb.r).getD i z=x.r:=by simp[List.getD,h]
theorem Zt{l:List Na}{i:Nat}{x:Na}(h:l[i]?=some x)(z:List D):(l.map Na.r).getD i z=x.r:=by simp[List.getD,h]
theorem A4H{l:List Int}{i:Nat}{x:Int}(h:l[i]?=some x)(z:List D):(l.map iD).getD i z=[.v (.int .i64 x)]:=by simp[List.getD,h,iD]
abbrev PD(pc:List (List UInt8))(pa:List Gy)(pf:List Fn):Ch:=.vec 0 [.v (.bool false),.v (.bool false),.v (.bool false)] [[.d (.sl Gf (pc.map cSd)),.d (.sl Gw (pa.map Gy.r)),.d (.sl zFn (pf.map Fn.r))]]
abbrev LH:List C:=tgN 27 2
open Go Go.Sy Go.RowKit Go.ChangeShapes Go.WideShapes Go.ChangeAt
theorem A7d:ownKnob Tryz.prog.godebug=none:=by kernel_rfl
theorem A4I:laidOutB Tryz.prog=true:=by kernel_rfl
theorem Ru{H:Type}{enc:TypeId×Value->H}{P:Program}(hl:laidOutB P=true){W W':World}(hb:Below W.heap.size W W'):∀(ts:List TypeId) (vs:List Value) (ds:List (DataW H)) (ps:List MemPlace),
  (∀t∈ts,P.readableRec t=true/\t<P.types.size)->DataW.TrodAll enc P W 0 (λ_=>true) true ts vs ds ps->(∀x∈ps,x.block<W.heap.size)->DataW.TrodAll enc P W' 0 (λb=>decide (b<W.heap.size)) true ts vs ds ps
 |[],vs,ds,ps,_,h,_=>by
  obtain⟨rfl,rfl,rfl⟩:=trodAll_nil h
  exact trodAll_mk0
 |t::ts,vs,ds,ps,hts,h,hlt=>by
  obtain⟨v,vs',d,ds',p,q,rfl,rfl,rfl,h1,h2⟩:=trodAll_cons h
  have ht:=hts t (List.mem_cons_self ..)
  exact trodAll_cons_mk (Below.trod hl ht.1 ht.2 h1 hb λx hx=>hlt x (List.mem_append_left _ hx))
   (Ru hl hb ts vs' ds' q (λt' ht'=>hts t' (List.mem_cons_of_mem _ ht')) h2 λx hx=>hlt x (List.mem_append_right _ hx))
theorem nd{H:Type}{enc:TypeId×Value->H}{f:Func}{s:ChangeSpec}{W W':World}{args:Array Value}{ds gs:List (DataW H)}{before:List MemPlace}(hW:DataW.Whole enc Tryz.prog f.params.toList s.vars false W args.toList ds gs before)
  (hv:s.vars=[]) (hr:f.resultTypes = #[4]) (hts:∀t∈f.params.toList,Tryz.prog.readableRec t=true/\t<Tryz.prog.types.size)
  (hf:gs=[]->(s.fn H (ds++gs)).results=[.lit (.bool true)]/\(s.fn H (ds++gs)).args=ds/\(s.fn H (ds++gs)).vars=[]) (hb:Below W.heap.size W W') :
  s.post enc Tryz.prog f false true false false W args (.bool true) W':=by
 have hlt:=hW.lt
 have hW0:=hW
 obtain⟨p,q,hA,hV,rfl,_,_⟩:=hW
 rw[hv]at hV
 obtain⟨rfl,rfl⟩:=trodVars_none hV
 obtain⟨f1,f2,f3⟩:=hf rfl
 refine⟨ds,[],p++[],[],p,[],hW0,?_,?_,?_,hb.frame _,λh=>by cases h⟩
 .rw[f1,hr]
  exact trodAll_cons_mk (shut_bool Tryz.underlying4 true) trodAll_mk0
 .rw[f2]
  exact Ru A4I hb _ _ _ _ hts hA λx hx=>by simpa using hlt x (List.mem_append_left _ hx)
 .rw[f3,hv];rfl
theorem jZ{P:Program}{f:FuncId}{A:Type}{ac:ArgH A}{Cd:A->Prop}{F:A->SV}(h:MX P f ac Cd F)(a:A)(w:World)(hc:Cd a)(vals:List Value)(val:Value)(hl:vals.length=(ac.e a).length)
  (h1:∀(j:Nat) (v:SV) (x:Value),(ac.e a)[j]?=some v->vals[j]?=some x->CD (hp w) (λb=>b<w.heap.size) v x)
  (h2:OI (F a)=some val):Calls P f vals.toArray w (λe w'=>e= .returned val/\Below w.heap.size w w'):=by
 refine(h a w (λb=>b<w.heap.size) vals hc (λ_ h=>h) hl h1).mono ?_
 rintro e w' ⟨v,x,fz',rfl,rfl,g1,g2,g3,g4,g5,g6⟩
 rw[Gb g5 h2]
 exact⟨rfl,g6⟩
theorem uP(a:ByteArray):bs a.data.toList=a:=by cases a;simp[bs]
section
variable {H:Type}{enc:TypeId×Value->H}{W:World}{base:Nat}{v:Value}{d:DataW H}{p:List MemPlace}
theorem uQ{n:Int}(h:(Lit.int .i64 n).wf=true):nZ n:=by
 have:=bounds_i64 h;unfold nZ;omega
theorem jc{n:Int}(h:(Lit.int .u8 n).wf=true):u8R n:=by
 have:=bounds_u8 h;unfold u8R;omega
end
open Go Go.Sy Go.RowKit
abbrev fV:Prop:=True
abbrev Mw:SV:=.one (.v (.bool true))
noncomputable abbrev R4:ArgC (Unit):=ac0
abbrev fW:Prop:=Cu Tryz.prog 6 R4 (λp:Unit=>fV ) (λp:Unit=>Mw )
theorem jd:fW:=by
 rintro ⟨_u⟩ w fz xs hc hfz hl hx
 refine Bu Tryz.func6 rfl w fz [(T7 50 8 kgl (y_Prog 50 8 kgl)),(TX 50 10 (jU 50 10)),Lh] [(2,[.flag 12]),(3,[.flag 17])] R4 (λp:Unit=>Mw ) _ xs hfz hl hx (jN rfl) ?_
 clear hx hl hfz xs
 simp only[Tryz.f6]
 have hg:gloB=[103,108,111,98,97,108,115]:=rfl
 have he:=A7X
 have hu:=A7Y
 have hr:=A7Z
 rw[hg]at he hu
 simp only[kT,kG]at he hu
 simp only[seval,go_sem,T7,TX,L7,L6,zf,Un.c,pqR,zUc,HF,HG,O7,O8,jW,Af,Ag,jX,uO,pgR,stR,ouC,O5,MO,MP,MN,lmH,lmO,chL,ML.ch,Cg,Ci,DJ,CO,EE,nmX,xt,Dd,ML.ren,rnC,E1,EH,vrQ,Cf,fcN,↓A0,JM,JN,XN,M_Bl,SF,SG,HH,Hu,he,A7a,A7b,A7c,Dq,kPb,Nb.r]
 refine⟨⟨jN rfl,hu⟩,hr _ 9 (jN rfl) (by decide),hr _ 9 (jN rfl) (by decide),hr _ 9 (jN rfl) (by decide),⟨by decide,by decide,(by intro x hx;cases hx)⟩,?_⟩
 refine A1 [] ?_;simp only[seval,go_sem,bne,Mw]
noncomputable def Vl{X:Ctx}{w0:World}:Sy.Spec Tryz.prog X w0:=E2 6 Tryz.call6 R4 _ _ KF4 jd
end Go.Proofs.YtapedeoheilnnaaGreat
