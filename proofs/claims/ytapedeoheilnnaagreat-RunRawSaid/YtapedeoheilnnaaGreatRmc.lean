/- Calls, walked. No conditions but those in each statement. -/
import Derived.Test.YtapedeoheilnnaaGreatRma
set_option linter.all false
open Option (isSome_some isSome_none)
namespace Go.Proofs.YtapedeoheilnnaaGreat
open Go Go.Sy Go.RowKit
theorem yt{P:Prop}(h:P:=by (repeat' first|exact ck|with_reducible apply And.intro|intro _);all_goals first|exact⟨⟨mb,hB⟩,hM1,hn⟩|exact⟨mb,hB⟩|exact hM1|exact KZ|(refine A1 [] ?_;simp only[seval,go_sem,bne,CI,BX,BS,Pi,↓A0,Ev.b,Ev.vl,evA,evW,va0,Fb,FZ,FQ,Co,Cp,C5,Ba,BP,BV,AE,AF,Af,Ag,DW,DX,Fn.c,h',hP])):P:=h
theorem tn:vsC []=[]:=rfl
theorem dL{st:Sm->Fa->Ro}{P:Pg}{g:Fn}{a:List Va}{m:Ms}(h:200<=m.deep):II st P g a m=(true,0,m.exh):=by unfold II;rw[if_pos h]
theorem jA{st:Sm->Fa->Ro}{P:Pg}{g:Fn}{a:List Va}{m:Ms}{r:Ro}(h:¬200<=m.deep)(hr:blF st g.body ⟨g.name,0,P,{ m with deep:=w64i (m.deep+1) },vsP g.ps a (vsL g.ls [])⟩=r):II st P g a m=if r.b=true then (true,0,r.q.m) else (false,r.q.ret,{ r.q.m with deep:=w64i (r.q.m.deep-1) }):=by unfold II;rw[if_neg h,hr]
abbrev UQ(N:Nat)(n:Nat)(p:Pg×Ms)(g:Fn)(va:List Va):Prop:=okMs N n ⟨[],0,p.1,p.2,[]⟩/\(okF g/\∃m,okB N m g.body)/\Dn g.ps va=true/\n<=1000000000
abbrev BX(N:Nat)(n:Nat)(p:Pg×Ms)(g:Fn)(va:List Va):Bool:=(II (stF n) p.1 g va p.2).1
abbrev CI(N:Nat)(n:Nat)(p:Pg×Ms)(g:Fn)(va:List Va):SV:=.one (.v (.int .i64 (II (stF n) p.1 g va p.2).2.1))
abbrev BS(N:Nat)(n:Nat)(p:Pg×Ms)(g:Fn)(va:List Va):MV:=mcW p.1 (II (stF n) p.1 g va p.2).2.2
noncomputable abbrev Nz:ArgM ((Pg×Ms)×(Fn)×(List Va)×Unit):=(amP (mMc) (amD (cFn) (amD (LC) am0)))
abbrev UR(N:Nat)(n:Nat):Prop:=Pf Tryz.prog 52 ((Nz).args 0) (Nz).mem (λp:(Pg×Ms)×(Fn)×(List Va)×Unit=>UQ N n p.1 p.2.1 p.2.2.1) (λp:(Pg×Ms)×(Fn)×(List Va)×Unit=>BX N n p.1 p.2.1 p.2.2.1) (λp:(Pg×Ms)×(Fn)×(List Va)×Unit=>CI N n p.1 p.2.1 p.2.2.1) (λp:(Pg×Ms)×(Fn)×(List Va)×Unit=>[some (BS N n p.1 p.2.1 p.2.2.1)])
theorem nN(N:Nat)(n:Nat):∀p,(λp:(Pg×Ms)×(Fn)×(List Va)×Unit=>UQ N n p.1 p.2.1 p.2.2.1) p->∀q,some q∈(λp:(Pg×Ms)×(Fn)×(List Va)×Unit=>[some (BS N n p.1 p.2.1 p.2.2.1)]) p->∀r∈q.2,∀c∈r,c.names=[]:=by intro p _;exact Pu _ _
noncomputable def CW{X:Ctx}{w0:World}(N:Nat)(n:Nat)(h:UR N n):Sy.Spec Tryz.prog X w0:=Ph 52 Tryz.call52 (Nz) _ _ _ _ KF1 KF0 KF8 h
attribute [local go_sem] Fa.mem Fa.memO Fa.pan ML.ch ML.ren Sm.ar Sm.cd Sm.e Sm.el Sm.f Sm.k Sm.no Sm.th Sm.x Sm.y HA H9 HB Dd CS CR CA CP CQ L9 L8 DO DN chL J0 FG FF H7 fcN JC frC J1 H8 lmH lmO Gg ID IE mcC J2 IC mcW DJ Cg Ci EG nmX AB AA Dq De Cx Cy EK EJ GJ GI E1 EH rnC Fl AN Cf DP Cr CO EE vrQ J3 JD
set_option maxRecDepth 20000 in set_option maxHeartbeats 32000000 in
attribute[local go_sem] xt in
theorem dM(N:Nat)(n:Nat)(hu:JK N n):UR N n:=by
 rintro ⟨p,g,va,_u⟩ w M I lab fz xs hc hA hl hx
 refine Mt Tryz.func52 rfl _ w M I lab fz (BX N n p g va) (BS N n p g va) [Fb,(I5 N n hu)] [] ((Nz).args 0 ⟨p,g,va,_u⟩) (CI N n p g va) xs hA hl hx (λv hv k hk=>Nat.lt_of_lt_of_eq ((Nz).an 0 ⟨p,g,va,_u⟩ v hv k hk).2 (Nat.zero_add _)) (jN rfl) (nN N n ⟨p,g,va,_u⟩ hc _ (List.mem_singleton.2 rfl)) ?_
 clear hx hl hA xs
 simp only[Tryz.f52]
 obtain⟨P,m⟩:=p
 obtain⟨gn,gps,gls,gb⟩:=g
 obtain⟨hM,⟨hF,mb,hB⟩,hft,hn⟩:=hc
 dsimp only at hM hF hB hft hn
 have hfl:=Ny hft
 have hF1:gps.length<=5000:=hF.1
 have hF2:gls.length<=5000:=hF.2
 cases hd:decide (200<=m.deep) with
 |true=>
  have h:=dL (st:=stF n) (P:=P) (g:=⟨gn,gps,gls,gb⟩) (a:=va) (of_decide_eq_true hd)
  simp only[seval,go_sem,↓A0,CB,CC,CE,CF,Va.c,isSome_some,isSome_none,Ev.b,Ev.vl,evA,evW,va0,Fb,FZ,FQ,Co,Cp,C5,Ba,BP,BV,BX,BS,AE,AF,Af,Ag,DW,DX,Fn.c,hd,h]
  try simp only[A2,A3]
  repeat' first|exact ck|with_reducible apply And.intro|intro _
  all_goals first|exact trivial|exact KZ|(refine A1 [] ?_;simp only[seval,go_sem,bne,CI,BX,BS,Pi,↓A0,Ev.b,Ev.vl,evA,evW,va0,Fb,FZ,FQ,Co,Cp,C5,Ba,BP,BV,AE,AF,Af,Ag,DW,DX,Fn.c,h])
 |false=>
 obtain⟨T,hT⟩:∃T,blF (stF n) gb ⟨gn,0,P,{ m with deep:=w64i (m.deep+1) },vsP gps va (vsL gls [])⟩=T:=⟨_,rfl⟩
 have h:=jA (st:=stF n) (P:=P) (g:=⟨gn,gps,gls,gb⟩) (a:=va) (m:=m) (of_decide_eq_false hd) hT
 simp only[seval,go_sem,↓A0,CB,CC,CE,CF,Va.c,isSome_some,isSome_none,Ev.b,Ev.vl,evA,evW,va0,Fb,FZ,FQ,Co,Cp,C5,Ba,BP,BV,BX,BS,AE,AF,Af,Ag,DW,DX,Fn.c,hd]
 refine AK (Y:=Nat×Vs) (λz=>z.1<=gls.length/\vsL (gls.drop z.1) z.2=vsL gls [])
  (λz=>⟨[(0,true,.one (.p 0 0 0)),(2,true,.one (.d (.sl Gj (va.map Va.r)))),(4,true,.one (.p 4 0 0)),(6,true,.one (.v (.int .i64 0))),(7,true,.one (.p 31 0 0)),(33,true,.one (.d (.sl zVr (gls.map Vr.r)))),(34,true,.one (.v (.int .i64 (gls.length:Int)))),(35,true,.one (.v (.int .i64 (z.1:Int))))],[(0,.vec 0 zMc [mcC P ⟨m.fuel,w64i (m.deep+1),m.cs,m.ar,m.e,m.v,m.f,m.al,m.k⟩]),(4,.vec 0 fl4 [[.v (.string (bs gn)),.d (.sl zVr (gps.map Vr.r)),.d (.sl zVr (gls.map Vr.r)),.d (.sl zSm (gb.map Sm.r))]]),(29,.mp true (vsC z.2)),(31,.vec 0 fl4 [[.p 0 0 0,.v (.string (bs gn)),.s 29,.v (.int .i64 0)]])]⟩)
  (λz=>gls.length-z.1) (0,[]) ⟨Nat.zero_le _,rfl⟩ ?_ ?_
 .refine A4 [] ?_;simp only[seval,go_sem,↓A0,fl4,tn]
 rintro ⟨i,vs⟩ ⟨hi,hJ⟩
 dsimp only at hi hJ
 refine AZ [Fb,I5 N n hu] [] _ _ _ ?_
 have w1:IntKind.i64.wrap ((i:Int)+1)=((i+1:Nat):Int):=by rw[wrap_i64 (by omega) (by omega)];rfl
 cases hx:gls[i]? with
 |some x=>
  have hlt:=(List.getElem?_eq_some_iff.1 hx).1
  have h1:=B8 hlt
  have h2:=XC hx
  rw[BJ hx]at hJ
  simp only[vsL]at hJ
  simp only[seval,go_sem,↓A0,CB,CC,CE,CF,Va.c,isSome_some,isSome_none,Ev.b,Ev.vl,evA,evW,va0,Fb,FZ,FQ,Co,Cp,C5,Ba,BP,BV,BX,BS,AE,AF,Af,Ag,DW,DX,Fn.c,h1,h2,w1,fl4,MJ]
  try simp only[A2,A3]
  repeat' first|exact ck|with_reducible apply And.intro|intro _
  all_goals try first|exact hlt|exact KZ
  refine⟨(i+1,B1 vs x.s ⟨x.p,0,[]⟩),⟨hlt,hJ⟩,by dsimp only;omega,A4 [] ?_⟩
  simp only[seval,go_sem,↓A0,fl4]
 |none=>
 have h2:=List.getElem?_eq_none_iff.1 hx
 have h1:=B9 h2
 rw[List.drop_eq_nil_of_le h2]at hJ
 have hJ':vs=vsL gls []:=hJ
 subst hJ'
 clear hJ hi w1 hx
 generalize vsL gls []=vs0 at*
 simp only[seval,go_sem,↓A0,CB,CC,CE,CF,Va.c,isSome_some,isSome_none,Ev.b,Ev.vl,evA,evW,va0,Fb,FZ,FQ,Co,Cp,C5,Ba,BP,BV,BX,BS,AE,AF,Af,Ag,DW,DX,Fn.c,h1,fl4]
 refine AK (Y:=Nat×Vs) (λz=>z.1<=gps.length/\vsP (gps.drop z.1) (va.drop z.1) z.2=vsP gps va vs0)
  (λz=>⟨[(0,true,.one (.p 0 0 0)),(2,true,.one (.d (.sl Gj (va.map Va.r)))),(4,true,.one (.p 4 0 0)),(6,true,.one (.v (.int .i64 0))),(7,true,.one (.p 31 0 0)),(50,true,.one (.d (.sl zVr (gps.map Vr.r)))),(51,true,.one (.v (.int .i64 (gps.length:Int)))),(52,true,.one (.v (.int .i64 (z.1:Int))))],[(0,.vec 0 zMc [mcC P ⟨m.fuel,w64i (m.deep+1),m.cs,m.ar,m.e,m.v,m.f,m.al,m.k⟩]),(4,.vec 0 fl4 [[.v (.string (bs gn)),.d (.sl zVr (gps.map Vr.r)),.d (.sl zVr (gls.map Vr.r)),.d (.sl zSm (gb.map Sm.r))]]),(29,.mp true (vsC z.2)),(31,.vec 0 fl4 [[.p 0 0 0,.v (.string (bs gn)),.s 29,.v (.int .i64 0)]])]⟩)
  (λz=>gps.length-z.1) (0,vs0) ⟨Nat.zero_le _,rfl⟩ ?_ ?_
 .refine A4 [] ?_;simp only[seval,go_sem,↓A0,fl4]
 rintro ⟨i,vs⟩ ⟨hi,hJ⟩
 dsimp only at hi hJ
 refine AZ [Fb,I5 N n hu] [] _ _ _ ?_
 have w1:IntKind.i64.wrap ((i:Int)+1)=((i+1:Nat):Int):=by rw[wrap_i64 (by omega) (by omega)];rfl
 cases hx:gps[i]? with
 |some x=>
  have hlt:=(List.getElem?_eq_some_iff.1 hx).1
  have hlt2:i<va.length:=by omega
  have h1:=B8 hlt
  have h2:=XC hx
  obtain⟨y,hy⟩:∃y,va[i]?=some y:=⟨_,List.getElem?_eq_getElem hlt2⟩
  have h3:=UP hy
  rw[BJ hx,BJ hy]at hJ
  simp only[vsP]at hJ
  cases hp:x.p with
  |true=>
   rw[hp]at hJ
   simp only[seval,go_sem,↓A0,CB,CC,CE,CF,Va.c,isSome_some,isSome_none,Ev.b,Ev.vl,evA,evW,va0,Fb,FZ,FQ,Co,Cp,C5,Ba,BP,BV,BX,BS,AE,AF,Af,Ag,DW,DX,Fn.c,h1,h2,h3,hp,w1,fl4,MJ]
   try simp only[A2,A3]
   repeat' first|exact ck|with_reducible apply And.intro|intro _
   all_goals try first|exact hlt|exact hlt2|exact KZ
   refine⟨(i+1,B1 vs x.s ⟨true,0,y.s⟩),⟨hlt,hJ⟩,by dsimp only;omega,A4 [] ?_⟩
   simp only[seval,go_sem,↓A0,fl4]
  |false=>
  rw[hp]at hJ
  simp only[seval,go_sem,↓A0,CB,CC,CE,CF,Va.c,isSome_some,isSome_none,Ev.b,Ev.vl,evA,evW,va0,Fb,FZ,FQ,Co,Cp,C5,Ba,BP,BV,BX,BS,AE,AF,Af,Ag,DW,DX,Fn.c,h1,h2,h3,hp,w1,fl4,MJ]
  try simp only[A2,A3]
  repeat' first|exact ck|with_reducible apply And.intro|intro _
  all_goals try first|exact hlt|exact hlt2|exact KZ
  refine⟨(i+1,B1 vs x.s ⟨false,y.n,[]⟩),⟨hlt,hJ⟩,by dsimp only;omega,A4 [] ?_⟩
  simp only[seval,go_sem,↓A0,fl4]
 |none=>
 have h2:=List.getElem?_eq_none_iff.1 hx
 have h1:=B9 h2
 rw[List.drop_eq_nil_of_le h2,List.drop_eq_nil_of_le (by omega)]at hJ
 have hJ':vs=vsP gps va vs0:=hJ
 rw[<- hJ']at hT
 have hM1:okMs N n ⟨gn,0,P,{ m with deep:=w64i (m.deep+1) },vs⟩:=⟨hM.p,⟨hM.c.c,hM.c.a,hM.c.n,hM.c.k⟩,hM.a,hM.l,hM.u⟩
 have hk:=Mu (M7 n) gb ⟨gn,0,P,{ m with deep:=w64i (m.deep+1) },vs⟩ hM1.l (by have h7:m.fuel<n:=hM.u;show m.fuel<=_;omega)
 rw[hT]at hk
 obtain⟨b,t,r⟩:=T
 have hP:r.P=P:=hk.P
 cases b with
 |true=>
  have h':II (stF n) P ⟨gn,gps,gls,gb⟩ va m=(true,0,r.m):=h
  simp only[seval,go_sem,↓A0,CB,CC,CE,CF,Va.c,isSome_some,isSome_none,Ev.b,Ev.vl,evA,evW,va0,Fb,FZ,FQ,Co,Cp,C5,Ba,BP,BV,BX,BS,AE,AF,Af,Ag,DW,DX,Fn.c,h1,h',hT,hP,fl4]
  try simp only[A2,A3]
  try exact yt
 |false=>
 have h':II (stF n) P ⟨gn,gps,gls,gb⟩ va m=(false,r.ret,{ r.m with deep:=w64i (r.m.deep-1) }):=h
 simp only[seval,go_sem,↓A0,CB,CC,CE,CF,Va.c,isSome_some,isSome_none,Ev.b,Ev.vl,evA,evW,va0,Fb,FZ,FQ,Co,Cp,C5,Ba,BP,BV,BX,BS,AE,AF,Af,Ag,DW,DX,Fn.c,h1,h',hT,hP,fl4]
 try simp only[A2,A3]
 try exact yt
end Go.Proofs.YtapedeoheilnnaaGreat
