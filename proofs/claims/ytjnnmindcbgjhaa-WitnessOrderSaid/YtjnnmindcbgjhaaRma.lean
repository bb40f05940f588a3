/- Loops, walked. No conditions but those in each statement. -/
import Derived.Test.YtjnnmindcbgjhaaRm8
set_option linter.unusedVariables false
set_option linter.unusedSimpArgs false
set_option maxRecDepth 20000
set_option maxHeartbeats 32000000
namespace Go.Proofs.Ytjnnmindcbgjhaa
open Go Go.Sy Go.RowKit
theorem sy {bl:Fa→Ro} {s:Sm} {k:Nat} {q:Fa} (h:q.m.out=true):lpF bl s (k+1) q=⟨true,false,{ q with m:=q.m.exh }⟩:=by simp only[lpF];rw[if_pos h]
theorem z8 {bl:Fa→Ro} {s:Sm} {k:Nat} {q:Fa} (h:q.m.out=false):lpF bl s (k+1) q=(match cdF q.P q.m.spd q.vs s.cd with
  | .no j=>Fa.brk { q with m:=q.m.spd } s j
  | .ok false=>Fa.go { q with m:=q.m.spd }
  | .ok true=>
   let r:=bl { q with m:=q.m.spd }
   if r.b=true∨r.t=true then r else lpF bl s k r.q):=by simp only[lpF];rw[if_neg (by rw[h];decide)];rfl
theorem ld {P:Pg} {m:Ms} (h:okC P m):okC P m.spd:=⟨h.c,h.a,h.n,h.k⟩
abbrev Kl (N:Nat) (n:Nat) (q:Fa) (s:Sm):Prop:=okT N s∧okMs N (n+1) q∧n+1≤1000000000
abbrev Cn (N:Nat) (n:Nat) (q:Fa) (s:Sm):Bool:=(lpF (blF (stF n) s.th) s (n+1) q).b
abbrev Bv (N:Nat) (n:Nat) (q:Fa) (s:Sm):Fa:=(lpF (blF (stF n) s.th) s (n+1) q).q
abbrev CS (N:Nat) (n:Nat) (q:Fa) (s:Sm):Fa:=(lpF (blF (stF n) s.th) s (n+1) q).q
abbrev Ez (N:Nat) (n:Nat) (q:Fa) (s:Sm):SV:=.one (.v (.bool (lpF (blF (stF n) s.th) s (n+1) q).t))
theorem ec:∀b,∀v∈ArgC.e (acS (cSp) ac0) b,v.tupB=false:=by rintro ⟨x0,_⟩ v hv;simp only[Ho,Hn,List.mem_cons,List.not_mem_nil,or_false]at hv;subst hv<;>first|rfl|exact ID _|exact IE _
noncomputable abbrev G9:ArgL (Fa×(Sm)×Unit):=amFr (acS (cSp) ac0) ec
abbrev Ma (N:Nat) (n:Nat):Prop:=EB Try.prog 95 (G9).args (G9).mem (fun p:(Fa×(Sm)×Unit)=>Kl N n p.1 p.2.1) (fun p:(Fa×(Sm)×Unit)=>Cn N n p.1 p.2.1) (fun p:(Fa×(Sm)×Unit)=>Ez N n p.1 p.2.1) (fun p:(Fa×(Sm)×Unit)=>Fa.memO (Bv N n p.1 p.2.1)) (fun p:(Fa×(Sm)×Unit)=>mlO (Fa.pan (CS N n p.1 p.2.1)))
theorem ed (N:Nat) (n:Nat):∀p,(fun p:(Fa×(Sm)×Unit)=>Kl N n p.1 p.2.1) p→(fun p:(Fa×(Sm)×Unit)=>Cn N n p.1 p.2.1) p=false→Di ((G9).mem p).length ((fun p:(Fa×(Sm)×Unit)=>Fa.memO (Bv N n p.1 p.2.1)) p)=true∧kdL ((G9).mem p) ((fun p:(Fa×(Sm)×Unit)=>Fa.memO (Bv N n p.1 p.2.1)) p)=true∧EM ((fun p:(Fa×(Sm)×Unit)=>Fa.memO (Bv N n p.1 p.2.1)) p) ((fun p:(Fa×(Sm)×Unit)=>Ez N n p.1 p.2.1) p)∧∀q,some q∈(fun p:(Fa×(Sm)×Unit)=>Fa.memO (Bv N n p.1 p.2.1)) p→DS ((fun p:(Fa×(Sm)×Unit)=>Fa.memO (Bv N n p.1 p.2.1)) p).length q:=fun p _ _=>have h:=DU p.1 (Bv N n p.1 p.2.1);⟨h.1,h.2.1,rfl,h.2.2⟩
theorem ef (N:Nat) (n:Nat):∀p,(fun p:(Fa×(Sm)×Unit)=>Kl N n p.1 p.2.1) p→(fun p:(Fa×(Sm)×Unit)=>Cn N n p.1 p.2.1) p=true→((fun p:(Fa×(Sm)×Unit)=>mlO (Fa.pan (CS N n p.1 p.2.1))) p).length=((G9).mem p).length∧kdL ((G9).mem p) ((fun p:(Fa×(Sm)×Unit)=>mlO (Fa.pan (CS N n p.1 p.2.1))) p)=true∧∀q,some q∈(fun p:(Fa×(Sm)×Unit)=>mlO (Fa.pan (CS N n p.1 p.2.1))) p→DS ((fun p:(Fa×(Sm)×Unit)=>mlO (Fa.pan (CS N n p.1 p.2.1))) p).length q:=fun p _ _=>Hx p.1 (CS N n p.1 p.2.1)
theorem eg (N:Nat) (n:Nat):∀p,(fun p:(Fa×(Sm)×Unit)=>Kl N n p.1 p.2.1) p→(fun p:(Fa×(Sm)×Unit)=>Cn N n p.1 p.2.1) p=true→Di ((G9).mem p).length ((fun p:(Fa×(Sm)×Unit)=>Fa.memO (Bv N n p.1 p.2.1)) p)=true∧EM ((fun p:(Fa×(Sm)×Unit)=>Fa.memO (Bv N n p.1 p.2.1)) p) ((fun p:(Fa×(Sm)×Unit)=>Ez N n p.1 p.2.1) p):=fun p _ _=>⟨(DU p.1 (Bv N n p.1 p.2.1)).1,rfl⟩
noncomputable def RH {X:Ctx} {w0:World} (N:Nat) (n:Nat) (h:Ma N n):Sy.Spec Try.prog X w0:=Dt 95 Try.call95 (G9) (fun p:(Fa×(Sm)×Unit)=>Kl N n p.1 p.2.1) (fun p:(Fa×(Sm)×Unit)=>Cn N n p.1 p.2.1) (fun p:(Fa×(Sm)×Unit)=>Ez N n p.1 p.2.1) (fun p:(Fa×(Sm)×Unit)=>Fa.memO (Bv N n p.1 p.2.1)) (fun p:(Fa×(Sm)×Unit)=>mlO (Fa.pan (CS N n p.1 p.2.1))) (ed N n) (ef N n) (eg N n) (fun _=>rfl) h
theorem eh {X:Ctx} {w0:World} (N:Nat) (n:Nat) (h:Ma N n):(RH (X:=X) (w0:=w0) N n h).f=95:=rfl
theorem ek {X:Ctx} {w0:World} (N:Nat) (n:Nat) (h:Ma N n) (t:Nat) (args:List SV) (H:Hp):(RH (X:=X) (w0:=w0) N n h).fn t args H=spL X ((G9).d H args) t H (fun p:(Fa×(Sm)×Unit)=>Kl N n p.1 p.2.1) (fun p:(Fa×(Sm)×Unit)=>Cn N n p.1 p.2.1) (fun p:(Fa×(Sm)×Unit)=>Ez N n p.1 p.2.1) (fun p:(Fa×(Sm)×Unit)=>Fa.memO (Bv N n p.1 p.2.1)) (fun p:(Fa×(Sm)×Unit)=>mlO (Fa.pan (CS N n p.1 p.2.1))):=rfl
attribute [local go_sem] Fa.mem Fa.memO Fa.pan ML.ch ML.ren Sm.ar Sm.cd Sm.e Sm.el Sm.f Sm.k Sm.no Sm.th Sm.x Sm.y Fo Fm Fp EA BG BO BP BD BM BN K1 K0 Cw Cv chL Hf E5 E4 Fu fcN IF frC Hg Fl lmH lmO FO Gj Gk mcC Hh Gg mcW EZ Dl Dm FP nmX AB AA Ds EY Dj Dk FS FR F9 F8 EX Fb rnC Gc AK DW EC Db CT Ee vrQ Hi IG FB
attribute[local go_sem] xt in
theorem lf (N:Nat) (n:Nat) (hu:I4 N n):Ma N n:=by
 rintro ⟨q,s,_u⟩ w M I lab fz xs hc hA hl hx
 refine Cj Try.func95 rfl (Fa.mem q) w M I lab fz (Cn N n q s) (Fa.pan (CS N n q s)) (Fa.memO (Bv N n q s)) [EI,(Ki N false (Qc N false)),(GY N n hu)] [] ((G9).args ⟨q,s,_u⟩) (Ez N n q s) xs hA hl hx (GM _ _ _ _) (jN rfl) (Nat.le_refl _) rfl (Hy _) ?_
 clear hx hl hA xs
 simp only[Try.f95]
 obtain⟨hT,hM,hn⟩:=hc
 dsimp only at hT hM hn
 obtain⟨G,hG⟩:∃G,(lpF (blF (stF n) s.th) s (n+1) q)=G:=⟨_,rfl⟩
 have hcd:s.cd.dp<N:=hT.k.c
 obtain⟨mt,hth⟩:=hT.t
 obtain⟨k0,x0,y0,e0,f0,cd0,ar0,th0,el0,no0⟩:=s
 dsimp only[Sm.cd,Sm.th]at hcd hth hG
 simp only[↓eB,seval,go_sem,↓A1,Be,Bf,Bg,Bh,Va.c,Option.isSome_some,Option.isSome_none,Ev.b,Ev.vl,evA,evW,va0,EI,Dv,DD,E6,E7,Cm,CZ,Bp,CM,Bl,Bm,Au,Ah,AS,AY,Cn,Bv,CS,hG]
 refine Ac (Y:=Nat×Fa) (fun z=>okMs N (n+1) z.2∧z.2.m.fuel<z.1∧lpF (blF (stF n) th0) (.mk k0 x0 y0 e0 f0 cd0 ar0 th0 el0 no0) z.1 z.2=G)
  (fun z=>⟨[(0,true,.one (.p 0 0 0)),(1,true,.one (.dp [.v (.int .i64 k0),.v (.string (bs x0)),.v (.string (bs y0)),e0.d,f0.d,cd0.d,.sl zAr (ar0.map Ar.r),.sl zSm (th0.map Sm.r),.sl zSm (el0.map Sm.r),.v (.int .i64 no0)]))],[(0,.vec 0 zFr [frC z.2]),(1,.vec 0 zMc [mcC z.2.P z.2.m]),(2,.mp true (vsC z.2.vs))]⟩)
  (fun z=>z.1) (n+1,q) ⟨hM,hM.u,hG⟩ ?_ ?_
 ·refine A2 [] ?_;simp only[↓eB,seval,go_sem,↓A1]
 ·rintro ⟨k,r⟩ ⟨hr,hk,hJ⟩
  dsimp only at hr hk hJ
  refine Aq [EI,Ki N false (Qc N false),GY N n hu] [] _ _ _ ?_
  obtain⟨j,rfl⟩:∃j,k=j+1:=⟨k-1,by have:=hr.l;omega⟩
  cases ho:r.m.out with
  |true=>
   rw[sy ho]at hJ
   subst hJ
   simp only[↓eB,seval,go_sem,↓A1,Be,Bf,Bg,Bh,Va.c,Option.isSome_some,Option.isSome_none,Ev.b,Ev.vl,evA,evW,va0,EI,Dv,DD,E6,E7,Cm,CZ,Bp,CM,Bl,Bm,Au,Ah,AS,AY,Cn,Bv,CS,ho,hG]
   try simp only[A3,A4]
   repeat' first|exact ck|with_reducible apply And.intro|intro _
   all_goals first|exact trivial|(rename_i h;first|exact oI h|exact nah h)|(rename_i _ h _ g;exact sL h g)|decide|omega|(refine A0 [] ?_;simp only[↓eB,seval,go_sem,bne,Ez,Cn,Bv,CS,A6,↓A1,Ev.b,Ev.vl,evA,evW,va0,EI,Dv,DD,E6,E7,Cm,CZ,Bp,CM,Bl,Bm,Au,Ah,AS,AY,hG,ho])
  |false=>
   rw[z8 ho]at hJ
   have ks:=SO ho hr.l (by have:=hr.u;omega)
   have ka:=eV ho hr.l (by have:=hr.u;omega)
   have hc2:=ld hr.c
   have hcs:okC r.P r.m.spd:=hc2
   have hMs:okMs N n { r with m:=r.m.spd }:=hr.kq ks (by show r.m.spd.fuel<_;have:=hr.u;omega)
   cases hcv:cdF r.P r.m.spd r.vs cd0 with
   |no e=>
    have hJ':Fa.brk { r with m:=r.m.spd } (.mk k0 x0 y0 e0 f0 cd0 ar0 th0 el0 no0) e=G:=by rw[← hJ];show _=(match cdF r.P r.m.spd r.vs cd0 with| .no j=>_| .ok false=>_| .ok true=>_);rw[hcv]
    subst hJ'
    simp only[↓eB,seval,go_sem,↓A1,Be,Bf,Bg,Bh,Va.c,Option.isSome_some,Option.isSome_none,Ev.b,Ev.vl,evA,evW,va0,EI,Dv,DD,E6,E7,Cm,CZ,Bp,CM,Bl,Bm,Au,Ah,AS,AY,Cn,Bv,CS,ho,hcv,hG,Fa.brk]
    try simp only[A3,A4]
    repeat' first|exact ck|with_reducible apply And.intro|intro _
    all_goals first|exact⟨hcs,hcd⟩|(rename_i h;first|exact oI h|exact nah h)|(rename_i _ h _ g;exact sL h g)|decide|omega|(refine A0 [] ?_;simp only[↓eB,seval,go_sem,bne,Ez,Cn,Bv,CS,A6,↓A1,Ev.b,Ev.vl,evA,evW,va0,EI,Dv,DD,E6,E7,Cm,CZ,Bp,CM,Bl,Bm,Au,Ah,AS,AY,hG,ho,Fa.brk])
   |ok v=>
   cases v with
   |false=>
    have hJ':Fa.go { r with m:=r.m.spd }=G:=by rw[← hJ];show _=(match cdF r.P r.m.spd r.vs cd0 with| .no j=>_| .ok false=>_| .ok true=>_);rw[hcv]
    subst hJ'
    simp only[↓eB,seval,go_sem,↓A1,Be,Bf,Bg,Bh,Va.c,Option.isSome_some,Option.isSome_none,Ev.b,Ev.vl,evA,evW,va0,EI,Dv,DD,E6,E7,Cm,CZ,Bp,CM,Bl,Bm,Au,Ah,AS,AY,Cn,Bv,CS,ho,hcv,hG,Fa.go]
    try simp only[A3,A4]
    repeat' first|exact ck|with_reducible apply And.intro|intro _
    all_goals first|exact⟨hcs,hcd⟩|(rename_i h;first|exact oI h|exact nah h)|(rename_i _ h _ g;exact sL h g)|decide|omega|(refine A0 [] ?_;simp only[↓eB,seval,go_sem,bne,Ez,Cn,Bv,CS,A6,↓A1,Ev.b,Ev.vl,evA,evW,va0,EI,Dv,DD,E6,E7,Cm,CZ,Bp,CM,Bl,Bm,Au,Ah,AS,AY,hG,ho,Fa.go])
   |true=>
    obtain⟨T,hT2⟩:∃T,blF (stF n) th0 { r with m:=r.m.spd }=T:=⟨_,rfl⟩
    have hJ':(if T.b=true∨T.t=true then T else lpF (blF (stF n) th0) (.mk k0 x0 y0 e0 f0 cd0 ar0 th0 el0 no0) j T.q)=G:=by
     rw[← hT2,← hJ];show _=(match cdF r.P r.m.spd r.vs cd0 with| .no j=>_| .ok false=>_| .ok true=>_);rw[hcv]
    have kb:=P2 (SP n) th0 { r with m:=r.m.spd } hMs.l (by have:=hMs.u;omega)
    rw[hT2]at kb
    obtain⟨b,t,r'⟩:=T
    cases b with
    |true=>
     have hJ2:(⟨true,t,r'⟩:Ro)=G:=by simpa using hJ'
     subst hJ2
     simp only[↓eB,seval,go_sem,↓A1,Be,Bf,Bg,Bh,Va.c,Option.isSome_some,Option.isSome_none,Ev.b,Ev.vl,evA,evW,va0,EI,Dv,DD,E6,E7,Cm,CZ,Bp,CM,Bl,Bm,Au,Ah,AS,AY,Cn,Bv,CS,ho,hcv,hG,hT2]
     try simp only[A3,A4]
     repeat' first|exact ck|with_reducible apply And.intro|intro _
     all_goals first|exact⟨hcs,hcd⟩|exact⟨⟨mt,hth⟩,hMs,by omega⟩|exact⟨mt,hth⟩|exact hMs|exact hcs|exact hcd|(rename_i h;first|exact oI h|exact nah h)|(rename_i _ h _ g;exact sL h g)|decide|omega|(refine A0 [] ?_;simp only[↓eB,seval,go_sem,bne,Ez,Cn,Bv,CS,A6,↓A1,Ev.b,Ev.vl,evA,evW,va0,EI,Dv,DD,E6,E7,Cm,CZ,Bp,CM,Bl,Bm,Au,Ah,AS,AY,hG,ho,hT2])
    |false=>
    cases t with
    |true=>
     have hJ2:(⟨false,true,r'⟩:Ro)=G:=by simpa using hJ'
     subst hJ2
     simp only[↓eB,seval,go_sem,↓A1,Be,Bf,Bg,Bh,Va.c,Option.isSome_some,Option.isSome_none,Ev.b,Ev.vl,evA,evW,va0,EI,Dv,DD,E6,E7,Cm,CZ,Bp,CM,Bl,Bm,Au,Ah,AS,AY,Cn,Bv,CS,ho,hcv,hG,hT2]
     try simp only[A3,A4]
     repeat' first|exact ck|with_reducible apply And.intro|intro _
     all_goals first|exact⟨hcs,hcd⟩|exact⟨⟨mt,hth⟩,hMs,by omega⟩|exact⟨mt,hth⟩|exact hMs|exact hcs|exact hcd|(rename_i h;first|exact oI h|exact nah h)|(rename_i _ h _ g;exact sL h g)|decide|omega|(refine A0 [] ?_;simp only[↓eB,seval,go_sem,bne,Ez,Cn,Bv,CS,A6,↓A1,Ev.b,Ev.vl,evA,evW,va0,EI,Dv,DD,E6,E7,Cm,CZ,Bp,CM,Bl,Bm,Au,Ah,AS,AY,hG,ho,hT2])
    |false=>
     have hJ2:lpF (blF (stF n) th0) (.mk k0 x0 y0 e0 f0 cd0 ar0 th0 el0 no0) j r'=G:=by simpa using hJ'
     simp only[↓eB,seval,go_sem,↓A1,Be,Bf,Bg,Bh,Va.c,Option.isSome_some,Option.isSome_none,Ev.b,Ev.vl,evA,evW,va0,EI,Dv,DD,E6,E7,Cm,CZ,Bp,CM,Bl,Bm,Au,Ah,AS,AY,Cn,Bv,CS,ho,hcv,hG,hT2]
     try simp only[A3,A4]
     repeat' first|exact ck|with_reducible apply And.intro|intro _
     all_goals try first|exact⟨hcs,hcd⟩|exact⟨⟨mt,hth⟩,hMs,by omega⟩|exact⟨mt,hth⟩|exact hMs|exact hcs|exact hcd|(rename_i h;first|exact oI h|exact nah h)|(rename_i _ h _ g;exact sL h g)|decide|omega
     have hf:r'.m.fuel≤r.m.spd.fuel:=kb.u
     refine⟨(j,r'),⟨hMs.kq kb (by show r'.m.fuel<_;have h7:r.m.spd.fuel<n:=hMs.u;omega),by dsimp only;omega,hJ2⟩,Nat.lt_succ_self _,A2 [] ?_⟩
     simp only[↓eB,seval,go_sem,↓A1]
end Go.Proofs.Ytjnnmindcbgjhaa
namespace Go.Proofs.Ytjnnmindcbgjhaa
open Go Go.Sy Go.RowKit
def Va.r (a:Va):List D:=[.v (.bool a.p),.v (.int .i64 a.n),.v (.string (bs a.s))]
abbrev ES:List D:=[.v (.bool false),.v (.int .i64 0),.v (.string (bs []))]
theorem Y3 (a b:Va) (h:a.r=b.r):a=b:=by
 obtain⟨p,n,s⟩:=a
 obtain⟨p',n',s'⟩:=b
 simp only[Va.r,List.cons.injEq,D.v.injEq,Value.string.injEq,Value.int.injEq,Value.bool.injEq,true_and,and_true]at h
 obtain⟨rfl,rfl,h1⟩:=h
 rw[bs_inj h1]
noncomputable def rVa:RowC Va:=rowOf ES Va.r Y3 fun _=>rfl
theorem DP:rVa.e=Va.r:=rfl
theorem DQ:rVa.z=ES:=rfl
theorem CB:ES.length=3:=rfl
theorem CC:zVr.length=2:=rfl
theorem CE (l:List Va):Nq rVa.d (l.map Va.r)=some l:=PS rVa l
noncomputable def cVq:Cod (List Vr):=Hk (fun l=>.one (.d (.sl zVr (l.map Vr.r)))) (fun v a b h h'=>by
 cases v with
 |one c=>exact B2 Pf (FY h h')
 |agg l=>exact h.elim
 |tup l=>exact h.elim) (fun l=>rfl)
theorem CF (l:List Vr):cVq.e l= .one (.d (.sl zVr (l.map Vr.r))):=rfl
theorem CG (l:List Vr):cVq.d (.one (.d (.sl zVr (l.map Vr.r))))=some l:=E9 (e:=fun l:List Vr=>.one (.d (.sl zVr (l.map Vr.r)))) (EV _)
noncomputable def Ta:Cod (List Va):=Hk (fun l=>.one (.d (.sl ES (l.map Va.r)))) (fun v a b h h'=>by
 cases v with
 |one c=>exact B2 Y3 (FY h h')
 |agg l=>exact h.elim
 |tup l=>exact h.elim) (fun l=>rfl)
theorem BJ (l:List Va):Ta.e l= .one (.d (.sl ES (l.map Va.r))):=rfl
theorem BV (l:List Va):Ta.d (.one (.d (.sl ES (l.map Va.r))))=some l:=E9 (e:=fun l:List Va=>.one (.d (.sl ES (l.map Va.r)))) (EV _)
theorem em {l:List Vr} {i:Nat} {x:Vr} (h:l[i]?=some x) (z:List D):(l.map Vr.r).getD i z=[.v (.string (bs x.s)),.v (.bool x.p)]:=by simp[List.getD,h,Vr.r]
theorem eo {l:List Va} {i:Nat} {x:Va} (h:l[i]?=some x) (z:List D):(l.map Va.r).getD i z=[.v (.bool x.p),.v (.int .i64 x.n),.v (.string (bs x.s))]:=by simp[List.getD,h,Va.r]
theorem RI:∀{l:List Vr} {v:List Va},GS l v=true→l.length=v.length
 |[],[],_=>rfl
 |[],_::_,h=>by cases h
 |_::_,[],h=>by cases h
 |x::l,y::v,h=>by
  simp only[GS,Bool.and_eq_true]at h
  simp only[List.length_cons,RI h.2]
abbrev Y4 (l:List Vr) (v:List Va):Prop:=l.length≤5000∧v.length≤5000
abbrev Bb (l:List Vr) (v:List Va):Value:=Value.bool (GS l v)
attribute [local go_sem] Va.r Vr.r cSl CG CF CE AB AA DP DQ AK CB CC
theorem sz:LS Try.prog 49 (ahS (cVq.H) (ahS (cSl rVa) ah0)) (fun p:(List Vr×(List Va×Unit))=>Y4 p.1 p.2.1) (fun p:(List Vr×(List Va×Unit))=>ofV (Bb p.1 p.2.1)):=by
 rintro ⟨l,v,_u⟩ w fz xs hc hfz hl hx
 refine IW Try.func49 rfl w fz [] [] (ahS (cVq.H) (ahS (cSl rVa) ah0)) (fun p:(List Vr×(List Va×Unit))=>ofV (Bb p.1 p.2.1)) _ xs hfz hl hx (jN rfl) ?_
 clear hx hl hfz xs
 simp only[Try.f49]
 obtain⟨hc1,hc2⟩:=hc
 dsimp only at hc1 hc2
 cases hl:((l.length:Int)==(v.length:Int)) with
 |false=>
  have hf:GS l v=false:=by
   cases h:GS l v with
   |false=>rfl
   |true=>rw[RI h]at hl;simp at hl
  simp only[↓eB,seval,go_sem,hl,bne]
  try simp only[A3,A4]
  repeat' first|exact ck|with_reducible apply And.intro|intro _
  all_goals first|exact trivial|(rename_i h;first|exact oI h|exact nah h)|(rename_i _ h _ g;exact sL h g)|decide|omega|(refine A0 [] ?_;simp only[↓eB,seval,go_sem,bne,Bb,hf])
 |true=>
 have hlen:l.length=v.length:=by have:=eq_of_beq hl;omega
 simp only[↓eB,seval,go_sem,hl,bne]
 refine Ac (Y:=Nat) (fun i=>i≤l.length∧GS (l.drop i) (v.drop i)=GS l v)
  (fun i=>⟨[(0,true,.one (.d (.sl zVr (l.map Vr.r)))),(1,true,.one (.d (.sl ES (v.map Va.r)))),(12,true,.one (.d (.sl zVr (l.map Vr.r)))),(13,true,.one (.v (.int .i64 (l.length:Int)))),(14,true,.one (.v (.int .i64 (i:Int))))],[]⟩)
  (fun i=>l.length-i) 0 ⟨Nat.zero_le _,rfl⟩ ?_ ?_
 ·refine A2 [] ?_;simp only[↓eB,seval,go_sem]
 ·rintro i ⟨hi,hJ⟩
  refine Aq [] [] _ _ _ ?_
  have w1:IntKind.i64.wrap ((i:Int)+1)=((i+1:Nat):Int):=by rw[wrap_i64 (by omega) (by omega)];rfl
  cases hx:l[i]? with
  |none=>
   have h2:=List.getElem?_eq_none_iff.1 hx
   have h1:=BA h2
   rw[List.drop_eq_nil_of_le h2,List.drop_eq_nil_of_le (by omega)]at hJ
   have hJ':GS l v=true:=hJ.symm
   simp only[↓eB,seval,go_sem,h1]
   try simp only[A3,A4]
   repeat' first|exact ck|with_reducible apply And.intro|intro _
   all_goals first|exact trivial|(rename_i h;first|exact oI h|exact nah h)|(rename_i _ h _ g;exact sL h g)|decide|omega|(refine A0 [] ?_;simp only[↓eB,seval,go_sem,bne,Bb,hJ'])
  |some x=>
   have hlt:=(List.getElem?_eq_some_iff.1 hx).1
   have hlt2:i<v.length:=by omega
   have h1:=B9 hlt
   have h2:=em hx
   obtain⟨y,hy⟩:∃y,v[i]?=some y:=⟨_,List.getElem?_eq_getElem hlt2⟩
   have h3:=eo hy
   rw[Bn hx,Bn hy]at hJ
   simp only[GS]at hJ
   cases hp:(x.p==y.p) with
   |false=>
    rw[hp,Bool.false_and]at hJ
    have hJ':GS l v=false:=hJ.symm
    simp only[↓eB,seval,go_sem,h1,h2,h3,hp,bne]
    try simp only[A3,A4]
    repeat' first|exact ck|with_reducible apply And.intro|intro _
    all_goals first|exact hlt|exact hlt2|(rename_i h;first|exact oI h|exact nah h)|(rename_i _ h _ g;exact sL h g)|decide|omega|(refine A0 [] ?_;simp only[↓eB,seval,go_sem,bne,Bb,hJ'])
   |true=>
    rw[hp,Bool.true_and]at hJ
    simp only[↓eB,seval,go_sem,h1,h2,h3,hp,bne,w1]
    try simp only[A3,A4]
    repeat' first|exact ck|with_reducible apply And.intro|intro _
    all_goals try first|exact hlt|exact hlt2|(rename_i h;first|exact oI h|exact nah h)|(rename_i _ h _ g;exact sL h g)|decide|omega
    refine⟨i+1,⟨hlt,hJ⟩,by omega,A2 [] ?_⟩
    simp only[↓eB,seval,go_sem]
theorem lg:∀p:(List Vr×(List Va×Unit)),okV ((fun p:(List Vr×(List Va×Unit))=>Bb p.1 p.2.1) p)=true:=by intro p;rfl
noncomputable def C0 {X:Ctx} {w0:World}:Sy.Spec Try.prog X w0:=PT 49 Try.call49 (ahS (cVq.H) (ahS (cSl rVa) ah0)) (fun p:(List Vr×(List Va×Unit))=>Y4 p.1 p.2.1) (fun p:(List Vr×(List Va×Unit))=>Bb p.1 p.2.1) lg sz
end Go.Proofs.Ytjnnmindcbgjhaa
