/- Calls, walked. No conditions but those in each statement. -/
import Derived.Test.YtapedeoheilnnaaGreatRm9
set_option linter.all false
open Option (isSome_some isSome_none)
namespace Go.Proofs.YtapedeoheilnnaaGreat
open Go Go.Sy Go.RowKit
theorem uO:vsC []=[]:=rfl
theorem dj{st:Sm->Fa->Ro}{P:Pg}{g:Fn}{a:List Va}{m:Ms}(h:200<=m.deep):IX st P g a m=(true,0,m.exh):=by unfold IX;rw[if_pos h]
theorem jf{st:Sm->Fa->Ro}{P:Pg}{g:Fn}{a:List Va}{m:Ms}{r:Ro}(h:¬200<=m.deep)(hr:blF st g.body ⟨g.name,0,P,{ m with deep:=w64i (m.deep+1) },vsP g.ps a (vsL g.ls [])⟩=r):IX st P g a m=if r.b=true then (true,0,r.q.m) else (false,r.q.ret,{ r.q.m with deep:=w64i (r.q.m.deep-1) }):=by unfold IX;rw[if_neg h,hr]
abbrev Uh(N:Nat)(n:Nat)(p:Pg×Ms)(g:Fn)(va:List Va):Prop:=okMs N n ⟨[],0,p.1,p.2,[]⟩/\(okF g/\∃m,okB N m g.body)/\Dw g.ps va=true/\n<=1000000000
abbrev BL(N:Nat)(n:Nat)(p:Pg×Ms)(g:Fn)(va:List Va):Bool:=(IX (stF n) p.1 g va p.2).1
abbrev C4(N:Nat)(n:Nat)(p:Pg×Ms)(g:Fn)(va:List Va):SV:=.one (.v (.int .i64 (IX (stF n) p.1 g va p.2).2.1))
abbrev BG(N:Nat)(n:Nat)(p:Pg×Ms)(g:Fn)(va:List Va):MV:=mcW p.1 (IX (stF n) p.1 g va p.2).2.2
noncomputable abbrev OB:ArgM ((Pg×Ms)×(Fn)×(List Va)×Unit):=(amP (mMc) (amD (cFn) (amD (Mr) am0)))
abbrev Ui(N:Nat)(n:Nat):Prop:=Q5 Tryz.prog 52 ((OB).args 0) (OB).mem (λp:(Pg×Ms)×(Fn)×(List Va)×Unit=>Uh N n p.1 p.2.1 p.2.2.1) (λp:(Pg×Ms)×(Fn)×(List Va)×Unit=>BL N n p.1 p.2.1 p.2.2.1) (λp:(Pg×Ms)×(Fn)×(List Va)×Unit=>C4 N n p.1 p.2.1 p.2.2.1) (λp:(Pg×Ms)×(Fn)×(List Va)×Unit=>[some (BG N n p.1 p.2.1 p.2.2.1)])
theorem nq(N:Nat)(n:Nat):∀p,(λp:(Pg×Ms)×(Fn)×(List Va)×Unit=>Uh N n p.1 p.2.1 p.2.2.1) p->∀q,some q∈(λp:(Pg×Ms)×(Fn)×(List Va)×Unit=>[some (BG N n p.1 p.2.1 p.2.2.1)]) p->∀r∈q.2,∀c∈r,c.names=[]:=by intro p _;exact QG _ _
noncomputable def CM{X:Ctx}{w0:World}(N:Nat)(n:Nat)(h:Ui N n):Sy.Spec Tryz.prog X w0:=Q6 52 Tryz.call52 (OB) _ _ _ _ KF1 KF0 KF9 h
attribute [local go_sem] Fa.mem Fa.memO Fa.pan ML.ch ML.ren Sm.ar Sm.cd Sm.e Sm.el Sm.f Sm.k Sm.no Sm.th Sm.x Sm.y H4 Gz H5 Di Bl Bk Be Bi Bj LJ LI DJ DI chL IJ F6 F5 Gv fcN JI frC IK Gx lmH lmO Gw IH II mcC IL Hm mcW DH Cj Ck EQ nmX A5 A4 Dz Dh D3 D4 ED E9 GW GV E5 EE rnC Fx AF Ci DS Cu CU E8 vrQ IM JJ
set_option maxRecDepth 20000 in set_option maxHeartbeats 32000000 in
attribute[local go_sem] xt in
theorem dk(N:Nat)(n:Nat)(hu:JR N n):Ui N n:=by
 rintro ⟨p,g,va,_u⟩ w M I lab fz xs hc hA hl hx
 refine N0 Tryz.func52 rfl _ w M I lab fz (BL N n p g va) (BG N n p g va) [Fb,(IA N n hu)] [] ((OB).args 0 ⟨p,g,va,_u⟩) (C4 N n p g va) xs hA hl hx (λv hv k hk=>Nat.lt_of_lt_of_eq ((OB).an 0 ⟨p,g,va,_u⟩ v hv k hk).2 (Nat.zero_add _)) (jN rfl) (nq N n ⟨p,g,va,_u⟩ hc _ (List.mem_singleton.2 rfl)) ?_
 clear hx hl hA xs
 simp only[Tryz.f52]
 obtain⟨P,m⟩:=p
 obtain⟨gn,gps,gls,gb⟩:=g
 obtain⟨hM,⟨hF,mb,hB⟩,hft,hn⟩:=hc
 dsimp only at hM hF hB hft hn
 have hfl:=OA hft
 have hF1:gps.length<=5000:=hF.1
 have hF2:gls.length<=5000:=hF.2
 cases hd:decide (200<=m.deep) with
 |true=>
  have h:=dj (st:=stF n) (P:=P) (g:=⟨gn,gps,gls,gb⟩) (a:=va) (of_decide_eq_true hd)
  simp only[seval,go_sem,↓A0,CP,CQ,CR,CS,Va.c,isSome_some,isSome_none,Ev.b,Ev.vl,evA,evW,va0,Fb,FZ,FD,Cb,Cc,Bw,BP,BC,BJ,BL,BG,A8,A9,Ad,Ae,DL,DM,Fn.c,hd,h]
  repeat refine AX ?_
  all_goals first|(refine A1 [] ?_;simp only[seval,go_sem,bne,C4,BL,BG,Lk,↓A0,Ev.b,Ev.vl,evA,evW,va0,Fb,FZ,FD,Cb,Cc,Bw,BP,BC,BJ,A8,A9,Ad,Ae,DL,DM,Fn.c,h])|exact KA
 |false=>
 obtain⟨T,hT⟩:∃T,blF (stF n) gb ⟨gn,0,P,{ m with deep:=w64i (m.deep+1) },vsP gps va (vsL gls [])⟩=T:=⟨_,rfl⟩
 have h:=jf (st:=stF n) (P:=P) (g:=⟨gn,gps,gls,gb⟩) (a:=va) (m:=m) (of_decide_eq_false hd) hT
 simp only[seval,go_sem,↓A0,CP,CQ,CR,CS,Va.c,isSome_some,isSome_none,Ev.b,Ev.vl,evA,evW,va0,Fb,FZ,FD,Cb,Cc,Bw,BP,BC,BJ,BL,BG,A8,A9,Ad,Ae,DL,DM,Fn.c,hd]
 refine AC (Y:=Nat×Vs) (λz=>z.1<=gls.length/\vsL (gls.drop z.1) z.2=vsL gls [])
  (λz=>⟨[(0,true,.one (.p 0 0 0)),(2,true,.one (.d (.sl IQ (va.map Va.r)))),(4,true,.one (.p 4 0 0)),(6,true,.one (.v (.int .i64 0))),(7,true,.one (.p 31 0 0)),(33,true,.one (.d (.sl zVr (gls.map Vr.r)))),(34,true,.one (.v (.int .i64 (gls.length:Int)))),(35,true,.one (.v (.int .i64 (z.1:Int))))],[(0,.vec 0 zMc [mcC P ⟨m.fuel,w64i (m.deep+1),m.cs,m.ar,m.e,m.v,m.f,m.al,m.k⟩]),(4,.vec 0 fl4 [[.v (.string (bs gn)),.d (.sl zVr (gps.map Vr.r)),.d (.sl zVr (gls.map Vr.r)),.d (.sl zSm (gb.map Sm.r))]]),(29,.mp true (vsC z.2)),(31,.vec 0 fl4 [[.p 0 0 0,.v (.string (bs gn)),.s 29,.v (.int .i64 0)]])]⟩)
  (λz=>gls.length-z.1) (0,[]) ⟨Nat.zero_le _,rfl⟩ ?_ ?_
 .refine A2 [] ?_;simp only[seval,go_sem,↓A0,fl4,uO]
 rintro ⟨i,vs⟩ ⟨hi,hJ⟩
 dsimp only at hi hJ
 refine AP [Fb,IA N n hu] [] _ _ _ ?_
 have w1:IntKind.i64.wrap ((i:Int)+1)=((i+1:Nat):Int):=by rw[wrap_i64 (by omega) (by omega)];rfl
 cases hx:gls[i]? with
 |some x=>
  have hlt:=(List.getElem?_eq_some_iff.1 hx).1
  have h1:=Ah hlt
  have h2:=XL hx
  rw[BF hx]at hJ
  simp only[vsL]at hJ
  simp only[seval,go_sem,↓A0,CP,CQ,CR,CS,Va.c,isSome_some,isSome_none,Ev.b,Ev.vl,evA,evW,va0,Fb,FZ,FD,Cb,Cc,Bw,BP,BC,BJ,BL,BG,A8,A9,Ad,Ae,DL,DM,Fn.c,h1,h2,w1,fl4,MQ]
  repeat refine AX ?_
  refine⟨(i+1,B5 vs x.s ⟨x.p,0,[]⟩),⟨hlt,hJ⟩,by dsimp only;omega,A2 [] ?_⟩
  simp only[seval,go_sem,↓A0,fl4]
 |none=>
 have h2:=List.getElem?_eq_none_iff.1 hx
 have h1:=Ai h2
 rw[List.drop_eq_nil_of_le h2]at hJ
 have hJ':vs=vsL gls []:=hJ
 subst hJ'
 clear hJ hi w1 hx
 generalize vsL gls []=vs0 at*
 simp only[seval,go_sem,↓A0,CP,CQ,CR,CS,Va.c,isSome_some,isSome_none,Ev.b,Ev.vl,evA,evW,va0,Fb,FZ,FD,Cb,Cc,Bw,BP,BC,BJ,BL,BG,A8,A9,Ad,Ae,DL,DM,Fn.c,h1,fl4]
 refine AC (Y:=Nat×Vs) (λz=>z.1<=gps.length/\vsP (gps.drop z.1) (va.drop z.1) z.2=vsP gps va vs0)
  (λz=>⟨[(0,true,.one (.p 0 0 0)),(2,true,.one (.d (.sl IQ (va.map Va.r)))),(4,true,.one (.p 4 0 0)),(6,true,.one (.v (.int .i64 0))),(7,true,.one (.p 31 0 0)),(50,true,.one (.d (.sl zVr (gps.map Vr.r)))),(51,true,.one (.v (.int .i64 (gps.length:Int)))),(52,true,.one (.v (.int .i64 (z.1:Int))))],[(0,.vec 0 zMc [mcC P ⟨m.fuel,w64i (m.deep+1),m.cs,m.ar,m.e,m.v,m.f,m.al,m.k⟩]),(4,.vec 0 fl4 [[.v (.string (bs gn)),.d (.sl zVr (gps.map Vr.r)),.d (.sl zVr (gls.map Vr.r)),.d (.sl zSm (gb.map Sm.r))]]),(29,.mp true (vsC z.2)),(31,.vec 0 fl4 [[.p 0 0 0,.v (.string (bs gn)),.s 29,.v (.int .i64 0)]])]⟩)
  (λz=>gps.length-z.1) (0,vs0) ⟨Nat.zero_le _,rfl⟩ ?_ ?_
 .refine A2 [] ?_;simp only[seval,go_sem,↓A0,fl4]
 rintro ⟨i,vs⟩ ⟨hi,hJ⟩
 dsimp only at hi hJ
 refine AP [Fb,IA N n hu] [] _ _ _ ?_
 have w1:IntKind.i64.wrap ((i:Int)+1)=((i+1:Nat):Int):=by rw[wrap_i64 (by omega) (by omega)];rfl
 cases hx:gps[i]? with
 |some x=>
  have hlt:=(List.getElem?_eq_some_iff.1 hx).1
  have hlt2:i<va.length:=by omega
  have h1:=Ah hlt
  have h2:=XL hx
  obtain⟨y,hy⟩:∃y,va[i]?=some y:=⟨_,List.getElem?_eq_getElem hlt2⟩
  have h3:=Ug hy
  rw[BF hx,BF hy]at hJ
  simp only[vsP]at hJ
  cases hp:x.p with
  |true=>
   rw[hp]at hJ
   simp only[seval,go_sem,↓A0,CP,CQ,CR,CS,Va.c,isSome_some,isSome_none,Ev.b,Ev.vl,evA,evW,va0,Fb,FZ,FD,Cb,Cc,Bw,BP,BC,BJ,BL,BG,A8,A9,Ad,Ae,DL,DM,Fn.c,h1,h2,h3,hp,w1,fl4,MQ]
   repeat refine AX ?_
   refine⟨(i+1,B5 vs x.s ⟨true,0,y.s⟩),⟨hlt,hJ⟩,by dsimp only;omega,A2 [] ?_⟩
   simp only[seval,go_sem,↓A0,fl4]
  |false=>
  rw[hp]at hJ
  simp only[seval,go_sem,↓A0,CP,CQ,CR,CS,Va.c,isSome_some,isSome_none,Ev.b,Ev.vl,evA,evW,va0,Fb,FZ,FD,Cb,Cc,Bw,BP,BC,BJ,BL,BG,A8,A9,Ad,Ae,DL,DM,Fn.c,h1,h2,h3,hp,w1,fl4,MQ]
  repeat refine AX ?_
  refine⟨(i+1,B5 vs x.s ⟨false,y.n,[]⟩),⟨hlt,hJ⟩,by dsimp only;omega,A2 [] ?_⟩
  simp only[seval,go_sem,↓A0,fl4]
 |none=>
 have h2:=List.getElem?_eq_none_iff.1 hx
 have h1:=Ai h2
 rw[List.drop_eq_nil_of_le h2,List.drop_eq_nil_of_le (by omega)]at hJ
 have hJ':vs=vsP gps va vs0:=hJ
 rw[<- hJ']at hT
 have hM1:okMs N n ⟨gn,0,P,{ m with deep:=w64i (m.deep+1) },vs⟩:=⟨hM.p,⟨hM.c.c,hM.c.a,hM.c.n,hM.c.k⟩,hM.a,hM.l,hM.u⟩
 have hk:=N2 (ME n) gb ⟨gn,0,P,{ m with deep:=w64i (m.deep+1) },vs⟩ hM1.l (by have h7:m.fuel<n:=hM.u;show m.fuel<=_;omega)
 rw[hT]at hk
 obtain⟨b,t,r⟩:=T
 have hP:r.P=P:=hk.P
 cases b with
 |true=>
  have h':IX (stF n) P ⟨gn,gps,gls,gb⟩ va m=(true,0,r.m):=h
  simp only[seval,go_sem,↓A0,CP,CQ,CR,CS,Va.c,isSome_some,isSome_none,Ev.b,Ev.vl,evA,evW,va0,Fb,FZ,FD,Cb,Cc,Bw,BP,BC,BJ,BL,BG,A8,A9,Ad,Ae,DL,DM,Fn.c,h1,h',hT,hP,fl4]
  try simp only[AD,AE]
  repeat' first|exact ck|with_reducible apply And.intro|intro _
  all_goals first|exact⟨⟨mb,hB⟩,hM1,hn⟩|exact⟨mb,hB⟩|exact hM1|exact KZ|(refine A1 [] ?_;simp only[seval,go_sem,bne,C4,BL,BG,Lk,↓A0,Ev.b,Ev.vl,evA,evW,va0,Fb,FZ,FD,Cb,Cc,Bw,BP,BC,BJ,A8,A9,Ad,Ae,DL,DM,Fn.c,h',hP])
 |false=>
 have h':IX (stF n) P ⟨gn,gps,gls,gb⟩ va m=(false,r.ret,{ r.m with deep:=w64i (r.m.deep-1) }):=h
 simp only[seval,go_sem,↓A0,CP,CQ,CR,CS,Va.c,isSome_some,isSome_none,Ev.b,Ev.vl,evA,evW,va0,Fb,FZ,FD,Cb,Cc,Bw,BP,BC,BJ,BL,BG,A8,A9,Ad,Ae,DL,DM,Fn.c,h1,h',hT,hP,fl4]
 repeat first|refine AX ?_|refine⟨⟨⟨mb,hB⟩,hM1,hn⟩,?_⟩
 refine A1 [] ?_;simp only[seval,go_sem,bne,C4,BL,BG,Lk,↓A0,Ev.b,Ev.vl,evA,evW,va0,Fb,FZ,FD,Cb,Cc,Bw,BP,BC,BJ,A8,A9,Ad,Ae,DL,DM,Fn.c,h',hP]
end Go.Proofs.YtapedeoheilnnaaGreat
