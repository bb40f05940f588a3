/- Calls, walked. No conditions but those in each statement. -/
import Derived.Test.YtjnnmindcbgjhaaRma
set_option linter.unusedVariables false
set_option linter.unusedSimpArgs false
namespace Go.Proofs.Ytjnnmindcbgjhaa
open Go Go.Sy Go.RowKit
theorem li:vsC []=[]:=rfl
theorem lj {st:Sm→Fa→Ro} {P:Pg} {g:Fn} {a:List Va} {m:Ms} (h:200≤m.deep):Io st P g a m=(true,0,m.exh):=by unfold Io;rw[if_pos h]
theorem tA {st:Sm→Fa→Ro} {P:Pg} {g:Fn} {a:List Va} {m:Ms} {r:Ro} (h:¬200≤m.deep) (hr:blF st g.body ⟨g.name,0,P,{ m with deep:=w64i (m.deep+1) },vsP g.ps a (vsL g.ls [])⟩=r):Io st P g a m=if r.b=true then (true,0,r.q.m) else (false,r.q.ret,{ r.q.m with deep:=w64i (r.q.m.deep-1) }):=by unfold Io;rw[if_neg h,hr]
abbrev Km (N:Nat) (n:Nat) (p:Pg×Ms) (g:Fn) (va:List Va):Prop:=okMs N n ⟨[],0,p.1,p.2,[]⟩∧(okF g∧∃m,okB N m g.body)∧GS g.ps va=true∧n≤1000000000
abbrev Ao (N:Nat) (n:Nat) (p:Pg×Ms) (g:Fn) (va:List Va):Bool:=(Io (stF n) p.1 g va p.2).1
abbrev B7 (N:Nat) (n:Nat) (p:Pg×Ms) (g:Fn) (va:List Va):SV:=.one (.v (.int .i64 (Io (stF n) p.1 g va p.2).2.1))
abbrev Aj (N:Nat) (n:Nat) (p:Pg×Ms) (g:Fn) (va:List Va):MV:=mcW p.1 (Io (stF n) p.1 g va p.2).2.2
noncomputable abbrev Kn:ArgM ((Pg×Ms)×(Fn)×(List Va)×Unit):=(amP (mMc) (amD (cFn) (amD (Ta) am0)))
abbrev RJ (N:Nat) (n:Nat):Prop:=O7 Try.prog 52 ((Kn).args 0) (Kn).mem (fun p:(Pg×Ms)×(Fn)×(List Va)×Unit=>Km N n p.1 p.2.1 p.2.2.1) (fun p:(Pg×Ms)×(Fn)×(List Va)×Unit=>Ao N n p.1 p.2.1 p.2.2.1) (fun p:(Pg×Ms)×(Fn)×(List Va)×Unit=>B7 N n p.1 p.2.1 p.2.2.1) (fun p:(Pg×Ms)×(Fn)×(List Va)×Unit=>[some (Aj N n p.1 p.2.1 p.2.2.1)])
theorem ep (N:Nat) (n:Nat):∀p,(fun p:(Pg×Ms)×(Fn)×(List Va)×Unit=>Km N n p.1 p.2.1 p.2.2.1) p→((fun p:(Pg×Ms)×(Fn)×(List Va)×Unit=>[some (Aj N n p.1 p.2.1 p.2.2.1)]) p).length=((Kn).mem p).length:=by intro p _;rfl
theorem eu (N:Nat) (n:Nat):∀p,(fun p:(Pg×Ms)×(Fn)×(List Va)×Unit=>Km N n p.1 p.2.1 p.2.2.1) p→BF ((fun p:(Pg×Ms)×(Fn)×(List Va)×Unit=>[some (Aj N n p.1 p.2.1 p.2.2.1)]) p).length ((fun p:(Pg×Ms)×(Fn)×(List Va)×Unit=>B7 N n p.1 p.2.1 p.2.2.1) p)=true:=by intro p _;first|rfl|exact Ak _ _|exact Al _ _|(simp[BF,CV,Ak,Al];done)
theorem Vm (N:Nat) (n:Nat):∀p,(fun p:(Pg×Ms)×(Fn)×(List Va)×Unit=>Km N n p.1 p.2.1 p.2.2.1) p→∀q,some q∈(fun p:(Pg×Ms)×(Fn)×(List Va)×Unit=>[some (Aj N n p.1 p.2.1 p.2.2.1)]) p→∀r∈q.2,∀c∈r,c.names=[]:=by intro p _;exact OO _ _
noncomputable def Ba {X:Ctx} {w0:World} (N:Nat) (n:Nat) (h:RJ N n):Sy.Spec Try.prog X w0:=O8 52 Try.call52 (Kn) (fun p:(Pg×Ms)×(Fn)×(List Va)×Unit=>Km N n p.1 p.2.1 p.2.2.1) (fun p:(Pg×Ms)×(Fn)×(List Va)×Unit=>Ao N n p.1 p.2.1 p.2.2.1) (fun p:(Pg×Ms)×(Fn)×(List Va)×Unit=>B7 N n p.1 p.2.1 p.2.2.1) (fun p:(Pg×Ms)×(Fn)×(List Va)×Unit=>[some (Aj N n p.1 p.2.1 p.2.2.1)]) (ep N n) (eu N n) (Vm N n) h
attribute [local go_sem] Fa.mem Fa.memO Fa.pan ML.ch ML.ren Sm.ar Sm.cd Sm.e Sm.el Sm.f Sm.k Sm.no Sm.th Sm.x Sm.y Fo Fm Fp EA BG BO BP BD BM BN K1 K0 Cw Cv chL Hf E5 E4 Fu fcN IF frC Hg Fl lmH lmO FO Gj Gk mcC Hh Gg mcW EZ Dl Dm FP nmX AB AA Ds EY Dj Dk FS FR F9 F8 EX Fb rnC Gc AK DW EC Db CT Ee vrQ Hi IG FB
set_option maxRecDepth 20000 in set_option maxHeartbeats 32000000 in
attribute[local go_sem] xt in
theorem Y5 (N:Nat) (n:Nat) (hu:I4 N n):RJ N n:=by
 rintro ⟨p,g,va,_u⟩ w M I lab fz xs hc hA hl hx
 refine Li Try.func52 rfl _ w M I lab fz (Ao N n p g va) (Aj N n p g va) [EH,(GY N n hu)] [] ((Kn).args 0 ⟨p,g,va,_u⟩) (B7 N n p g va) xs hA hl hx (fun v hv k hk=>Nat.lt_of_lt_of_eq ((Kn).an 0 ⟨p,g,va,_u⟩ v hv k hk).2 (Nat.zero_add _)) (jN rfl) (Vm N n ⟨p,g,va,_u⟩ hc _ (List.mem_singleton.2 rfl)) ?_
 clear hx hl hA xs
 simp only[Try.f52]
 obtain⟨P,m⟩:=p
 obtain⟨gn,gps,gls,gb⟩:=g
 obtain⟨hM,⟨hF,mb,hB⟩,hft,hn⟩:=hc
 dsimp only at hM hF hB hft hn
 have hfl:=RI hft
 have hF1:gps.length≤5000:=hF.1
 have hF2:gls.length≤5000:=hF.2
 cases hd:decide (200≤m.deep) with
 |true=>
  have h:=lj (st:=stF n) (P:=P) (g:=⟨gn,gps,gls,gb⟩) (a:=va) (of_decide_eq_true hd)
  simp only[↓eB,seval,go_sem,↓A1,Be,Bf,Bg,Bh,Va.c,Option.isSome_some,Option.isSome_none,Ev.b,Ev.vl,evA,evW,va0,EH,Du,DC,Bl,Bm,Au,Ah,AS,AY,Ao,Aj,AE,AF,BJ,BV,CF,CG,Fn.c,hd,h]
  try simp only[A3,A4]
  repeat' first|exact ck|with_reducible apply And.intro|intro _
  all_goals first|exact trivial|(rename_i h;first|exact oI h|exact nah h)|(rename_i _ h _ g;exact sL h g)|decide|omega|(refine A0 [] ?_;simp only[↓eB,seval,go_sem,bne,B7,Ao,Aj,KN,↓A1,Ev.b,Ev.vl,evA,evW,va0,EH,Du,DC,Bl,Bm,Au,Ah,AS,AY,AE,AF,BJ,BV,CF,CG,Fn.c,h])
 |false=>
 obtain⟨T,hT⟩:∃T,blF (stF n) gb ⟨gn,0,P,{ m with deep:=w64i (m.deep+1) },vsP gps va (vsL gls [])⟩=T:=⟨_,rfl⟩
 have h:=tA (st:=stF n) (P:=P) (g:=⟨gn,gps,gls,gb⟩) (a:=va) (m:=m) (of_decide_eq_false hd) hT
 simp only[↓eB,seval,go_sem,↓A1,Be,Bf,Bg,Bh,Va.c,Option.isSome_some,Option.isSome_none,Ev.b,Ev.vl,evA,evW,va0,EH,Du,DC,Bl,Bm,Au,Ah,AS,AY,Ao,Aj,AE,AF,BJ,BV,CF,CG,Fn.c,hd]
 refine Ac (Y:=Nat×Vs) (fun z=>z.1≤gls.length∧vsL (gls.drop z.1) z.2=vsL gls [])
  (fun z=>⟨[(0,true,.one (.p 0 0 0)),(2,true,.one (.d (.sl ES (va.map Va.r)))),(4,true,.one (.p 4 0 0)),(6,true,.one (.v (.int .i64 0))),(7,true,.one (.p 31 0 0)),(33,true,.one (.d (.sl zVr (gls.map Vr.r)))),(34,true,.one (.v (.int .i64 (gls.length:Int)))),(35,true,.one (.v (.int .i64 (z.1:Int))))],[(0,.vec 0 zMc [mcC P ⟨m.fuel,w64i (m.deep+1),m.cs,m.ar,m.e,m.v,m.f,m.al,m.k⟩]),(4,.vec 0 fl4 [[.v (.string (bs gn)),.d (.sl zVr (gps.map Vr.r)),.d (.sl zVr (gls.map Vr.r)),.d (.sl zSm (gb.map Sm.r))]]),(29,.mp true (vsC z.2)),(31,.vec 0 fl4 [[.p 0 0 0,.v (.string (bs gn)),.s 29,.v (.int .i64 0)]])]⟩)
  (fun z=>gls.length-z.1) (0,[]) ⟨Nat.zero_le _,rfl⟩ ?_ ?_
 ·refine A2 [] ?_;simp only[↓eB,seval,go_sem,↓A1,fl4,li]
 ·rintro ⟨i,vs⟩ ⟨hi,hJ⟩
  dsimp only at hi hJ
  refine Aq [EH,GY N n hu] [] _ _ _ ?_
  have w1:IntKind.i64.wrap ((i:Int)+1)=((i+1:Nat):Int):=by rw[wrap_i64 (by omega) (by omega)];rfl
  cases hx:gls[i]? with
  |some x=>
   have hlt:=(List.getElem?_eq_some_iff.1 hx).1
   have h1:=B9 hlt
   have h2:=em hx
   rw[Bn hx]at hJ
   simp only[vsL]at hJ
   simp only[↓eB,seval,go_sem,↓A1,Be,Bf,Bg,Bh,Va.c,Option.isSome_some,Option.isSome_none,Ev.b,Ev.vl,evA,evW,va0,EH,Du,DC,Bl,Bm,Au,Ah,AS,AY,Ao,Aj,AE,AF,BJ,BV,CF,CG,Fn.c,h1,h2,w1,fl4,LM]
   try simp only[A3,A4]
   repeat' first|exact ck|with_reducible apply And.intro|intro _
   all_goals try first|exact hlt|(rename_i h;first|exact oI h|exact nah h)|(rename_i _ h _ g;exact sL h g)|decide|omega
   refine⟨(i+1,C8 vs x.s ⟨x.p,0,[]⟩),⟨hlt,hJ⟩,by dsimp only;omega,A2 [] ?_⟩
   simp only[↓eB,seval,go_sem,↓A1,fl4]
  |none=>
   have h2:=List.getElem?_eq_none_iff.1 hx
   have h1:=BA h2
   rw[List.drop_eq_nil_of_le h2]at hJ
   have hJ':vs=vsL gls []:=hJ
   subst hJ'
   clear hJ hi w1 hx
   generalize vsL gls []=vs0 at*
   simp only[↓eB,seval,go_sem,↓A1,Be,Bf,Bg,Bh,Va.c,Option.isSome_some,Option.isSome_none,Ev.b,Ev.vl,evA,evW,va0,EH,Du,DC,Bl,Bm,Au,Ah,AS,AY,Ao,Aj,AE,AF,BJ,BV,CF,CG,Fn.c,h1,fl4]
   refine Ac (Y:=Nat×Vs) (fun z=>z.1≤gps.length∧vsP (gps.drop z.1) (va.drop z.1) z.2=vsP gps va vs0)
    (fun z=>⟨[(0,true,.one (.p 0 0 0)),(2,true,.one (.d (.sl ES (va.map Va.r)))),(4,true,.one (.p 4 0 0)),(6,true,.one (.v (.int .i64 0))),(7,true,.one (.p 31 0 0)),(50,true,.one (.d (.sl zVr (gps.map Vr.r)))),(51,true,.one (.v (.int .i64 (gps.length:Int)))),(52,true,.one (.v (.int .i64 (z.1:Int))))],[(0,.vec 0 zMc [mcC P ⟨m.fuel,w64i (m.deep+1),m.cs,m.ar,m.e,m.v,m.f,m.al,m.k⟩]),(4,.vec 0 fl4 [[.v (.string (bs gn)),.d (.sl zVr (gps.map Vr.r)),.d (.sl zVr (gls.map Vr.r)),.d (.sl zSm (gb.map Sm.r))]]),(29,.mp true (vsC z.2)),(31,.vec 0 fl4 [[.p 0 0 0,.v (.string (bs gn)),.s 29,.v (.int .i64 0)]])]⟩)
    (fun z=>gps.length-z.1) (0,vs0) ⟨Nat.zero_le _,rfl⟩ ?_ ?_
   ·refine A2 [] ?_;simp only[↓eB,seval,go_sem,↓A1,fl4]
   ·rintro ⟨i,vs⟩ ⟨hi,hJ⟩
    dsimp only at hi hJ
    refine Aq [EH,GY N n hu] [] _ _ _ ?_
    have w1:IntKind.i64.wrap ((i:Int)+1)=((i+1:Nat):Int):=by rw[wrap_i64 (by omega) (by omega)];rfl
    cases hx:gps[i]? with
    |some x=>
     have hlt:=(List.getElem?_eq_some_iff.1 hx).1
     have hlt2:i<va.length:=by omega
     have h1:=B9 hlt
     have h2:=em hx
     obtain⟨y,hy⟩:∃y,va[i]?=some y:=⟨_,List.getElem?_eq_getElem hlt2⟩
     have h3:=eo hy
     rw[Bn hx,Bn hy]at hJ
     simp only[vsP]at hJ
     cases hp:x.p with
     |true=>
      rw[hp]at hJ
      simp only[↓eB,seval,go_sem,↓A1,Be,Bf,Bg,Bh,Va.c,Option.isSome_some,Option.isSome_none,Ev.b,Ev.vl,evA,evW,va0,EH,Du,DC,Bl,Bm,Au,Ah,AS,AY,Ao,Aj,AE,AF,BJ,BV,CF,CG,Fn.c,h1,h2,h3,hp,w1,fl4,LM]
      try simp only[A3,A4]
      repeat' first|exact ck|with_reducible apply And.intro|intro _
      all_goals try first|exact hlt|exact hlt2|(rename_i h;first|exact oI h|exact nah h)|(rename_i _ h _ g;exact sL h g)|decide|omega
      refine⟨(i+1,C8 vs x.s ⟨true,0,y.s⟩),⟨hlt,hJ⟩,by dsimp only;omega,A2 [] ?_⟩
      simp only[↓eB,seval,go_sem,↓A1,fl4]
     |false=>
      rw[hp]at hJ
      simp only[↓eB,seval,go_sem,↓A1,Be,Bf,Bg,Bh,Va.c,Option.isSome_some,Option.isSome_none,Ev.b,Ev.vl,evA,evW,va0,EH,Du,DC,Bl,Bm,Au,Ah,AS,AY,Ao,Aj,AE,AF,BJ,BV,CF,CG,Fn.c,h1,h2,h3,hp,w1,fl4,LM]
      try simp only[A3,A4]
      repeat' first|exact ck|with_reducible apply And.intro|intro _
      all_goals try first|exact hlt|exact hlt2|(rename_i h;first|exact oI h|exact nah h)|(rename_i _ h _ g;exact sL h g)|decide|omega
      refine⟨(i+1,C8 vs x.s ⟨false,y.n,[]⟩),⟨hlt,hJ⟩,by dsimp only;omega,A2 [] ?_⟩
      simp only[↓eB,seval,go_sem,↓A1,fl4]
    |none=>
     have h2:=List.getElem?_eq_none_iff.1 hx
     have h1:=BA h2
     rw[List.drop_eq_nil_of_le h2,List.drop_eq_nil_of_le (by omega)]at hJ
     have hJ':vs=vsP gps va vs0:=hJ
     rw[← hJ']at hT
     have hM1:okMs N n ⟨gn,0,P,{ m with deep:=w64i (m.deep+1) },vs⟩:=⟨hM.p,⟨hM.c.c,hM.c.a,hM.c.n,hM.c.k⟩,hM.a,hM.l,hM.u⟩
     have hk:=P2 (SP n) gb ⟨gn,0,P,{ m with deep:=w64i (m.deep+1) },vs⟩ hM1.l (by have h7:m.fuel<n:=hM.u;show m.fuel≤_;omega)
     rw[hT]at hk
     obtain⟨b,t,r⟩:=T
     have hP:r.P=P:=hk.P
     cases b with
     |true=>
      have h':Io (stF n) P ⟨gn,gps,gls,gb⟩ va m=(true,0,r.m):=h
      simp only[↓eB,seval,go_sem,↓A1,Be,Bf,Bg,Bh,Va.c,Option.isSome_some,Option.isSome_none,Ev.b,Ev.vl,evA,evW,va0,EH,Du,DC,Bl,Bm,Au,Ah,AS,AY,Ao,Aj,AE,AF,BJ,BV,CF,CG,Fn.c,h1,h',hT,hP,fl4]
      try simp only[A3,A4]
      repeat' first|exact ck|with_reducible apply And.intro|intro _
      all_goals first|exact⟨⟨mb,hB⟩,hM1,hn⟩|exact⟨mb,hB⟩|exact hM1|(rename_i h;first|exact oI h|exact nah h)|(rename_i _ h _ g;exact sL h g)|decide|omega|(refine A0 [] ?_;simp only[↓eB,seval,go_sem,bne,B7,Ao,Aj,KN,↓A1,Ev.b,Ev.vl,evA,evW,va0,EH,Du,DC,Bl,Bm,Au,Ah,AS,AY,AE,AF,BJ,BV,CF,CG,Fn.c,h',hP])
     |false=>
      have h':Io (stF n) P ⟨gn,gps,gls,gb⟩ va m=(false,r.ret,{ r.m with deep:=w64i (r.m.deep-1) }):=h
      simp only[↓eB,seval,go_sem,↓A1,Be,Bf,Bg,Bh,Va.c,Option.isSome_some,Option.isSome_none,Ev.b,Ev.vl,evA,evW,va0,EH,Du,DC,Bl,Bm,Au,Ah,AS,AY,Ao,Aj,AE,AF,BJ,BV,CF,CG,Fn.c,h1,h',hT,hP,fl4]
      try simp only[A3,A4]
      repeat' first|exact ck|with_reducible apply And.intro|intro _
      all_goals first|exact⟨⟨mb,hB⟩,hM1,hn⟩|exact⟨mb,hB⟩|exact hM1|(rename_i h;first|exact oI h|exact nah h)|(rename_i _ h _ g;exact sL h g)|decide|omega|(refine A0 [] ?_;simp only[↓eB,seval,go_sem,bne,B7,Ao,Aj,KN,↓A1,Ev.b,Ev.vl,evA,evW,va0,EH,Du,DC,Bl,Bm,Au,Ah,AS,AY,AE,AF,BJ,BV,CF,CG,Fn.c,h',hP])
end Go.Proofs.Ytjnnmindcbgjhaa
