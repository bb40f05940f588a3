/- A frame's assignments and places, walked. No conditions but those in each statement. -/
import Derived.Test.YtjnnmindcbgjhaaRm5
set_option linter.unusedVariables false
set_option linter.unusedSimpArgs false
set_option maxRecDepth 20000
set_option maxHeartbeats 16000000
namespace Go.Proofs.Ytjnnmindcbgjhaa
open Go Go.Sy Go.RowKit
theorem bY (l:List Nb) (i:Nat) (s:List UInt8) (v:Int):(l.map Nb.c).set i [.v (.string (bs s)),.v (.int .i64 v)]=(l.set i ⟨s,v⟩).map Nb.c:=(List.map_set (f:=Nb.c) (a:=⟨s,v⟩)).symm
theorem sk (l:List Na) (i:Nat) (s:List UInt8) (x:List Int):(l.map Na.c).set i [.v (.string (bs s)),.ov zI (x.map cI)]=(l.set i ⟨s,x⟩).map Na.c:=(List.map_set (f:=Na.c) (a:=⟨s,x⟩)).symm
theorem sq (l:List Int) (i:Nat) (v:Int):(l.map cI).set i [.v (.int .i64 v)]=(l.set i v).map cI:=(List.map_set (f:=cI) (a:=v)).symm
theorem sr:(([]:List UInt8)==[])=true:=rfl
theorem Hz (k u0 v:Nat) (p:List (Nat×Nat)) (s m o:Nat) (z0 z1:List C) (es0 es1:List (List C)):(∃u z es,SV.one (C.q k u0 p s m o)=SV.one (C.q k u p s m o)∧some (Ch.vec v z0 es0)=some (Ch.vec u z es)∧some (some (ML.vec z1 es1))=some (some (ML.vec z es)))=(v=u0∧z1=z0∧es1=es0):=by
 refine propext ⟨?_,?_⟩
 ·rintro ⟨u,z,es,h1,h2,h3⟩
  simp only[SV.one.injEq,C.q.injEq,jS,Ch.vec.injEq,ML.vec.injEq,and_true,true_and]at h1 h2 h3
  obtain⟨rfl,rfl,rfl⟩:=h2
  exact⟨h1.symm,h3.1,h3.2⟩
 ·rintro ⟨rfl,rfl,rfl⟩
  exact⟨_,_,_,rfl,rfl,rfl⟩
theorem put_get {α:Type} (s:List UInt8) (v:α):∀es:List (List UInt8×α),B0 (C8 es s v) s=some v
 |[]=>by simp[C8,B0]
 |(a,b)::r=>by
  simp only[C8]
  split
  ·simp only[B0,beq_self_eq_true,if_true]
  ·rename_i h
   simp only[B0];rw[if_neg h];exact put_get s v r
theorem eU (q:Fa) (s:Sm) (v:Int):F2 (q.dead s) s v=Fa.go { q.dead s with vs:=C8 (q.dead s).vs s.x ⟨false,v,[]⟩ }:=by
 have h:B0 (q.dead s).vs s.x=some va0:=put_get s.x va0 q.vs
 unfold F2
 rw[h]
abbrev Ly (q:Fa) (s:Sm) (v:Int):Prop:=B0 q.vs s.x=none→okC q.P q.m
abbrev Bz (q:Fa) (s:Sm) (v:Int):Bool:=(F2 q s v).b
abbrev BI (q:Fa) (s:Sm) (v:Int):Fa:=(F2 q s v).q
abbrev Bq (q:Fa) (s:Sm) (v:Int):Fa:=(F2 q s v).q
abbrev Bt (q:Fa) (s:Sm) (v:Int):SV:=.tup []
theorem lK:∀b,∀v∈ArgC.e (acS (cSp) (acS (cInt .i64) ac0)) b,v.tupB=false:=by rintro ⟨x0,x1,_⟩ v hv;simp only[Ho,Hn,List.mem_cons,List.not_mem_nil,or_false]at hv;rcases hv with rfl|rfl<;>first|rfl|exact ID _|exact IE _
noncomputable abbrev HJ:ArgL (Fa×(Sm)×(Int)×Unit):=amFr (acS (cSp) (acS (cInt .i64) ac0)) lK
abbrev Qe:Prop:=EB Try.prog 97 (HJ).args (HJ).mem (fun p:(Fa×(Sm)×(Int)×Unit)=>Ly p.1 p.2.1 p.2.2.1) (fun p:(Fa×(Sm)×(Int)×Unit)=>Bz p.1 p.2.1 p.2.2.1) (fun p:(Fa×(Sm)×(Int)×Unit)=>Bt p.1 p.2.1 p.2.2.1) (fun p:(Fa×(Sm)×(Int)×Unit)=>Fa.memO (BI p.1 p.2.1 p.2.2.1)) (fun p:(Fa×(Sm)×(Int)×Unit)=>mlO (Fa.pan (Bq p.1 p.2.1 p.2.2.1)))
theorem lL:∀p,(fun p:(Fa×(Sm)×(Int)×Unit)=>Ly p.1 p.2.1 p.2.2.1) p→(fun p:(Fa×(Sm)×(Int)×Unit)=>Bz p.1 p.2.1 p.2.2.1) p=false→Di ((HJ).mem p).length ((fun p:(Fa×(Sm)×(Int)×Unit)=>Fa.memO (BI p.1 p.2.1 p.2.2.1)) p)=true∧kdL ((HJ).mem p) ((fun p:(Fa×(Sm)×(Int)×Unit)=>Fa.memO (BI p.1 p.2.1 p.2.2.1)) p)=true∧EM ((fun p:(Fa×(Sm)×(Int)×Unit)=>Fa.memO (BI p.1 p.2.1 p.2.2.1)) p) ((fun p:(Fa×(Sm)×(Int)×Unit)=>Bt p.1 p.2.1 p.2.2.1) p)∧∀q,some q∈(fun p:(Fa×(Sm)×(Int)×Unit)=>Fa.memO (BI p.1 p.2.1 p.2.2.1)) p→DS ((fun p:(Fa×(Sm)×(Int)×Unit)=>Fa.memO (BI p.1 p.2.1 p.2.2.1)) p).length q:=fun p _ _=>have h:=DU p.1 (BI p.1 p.2.1 p.2.2.1);⟨h.1,h.2.1,rfl,h.2.2⟩
theorem lM:∀p,(fun p:(Fa×(Sm)×(Int)×Unit)=>Ly p.1 p.2.1 p.2.2.1) p→(fun p:(Fa×(Sm)×(Int)×Unit)=>Bz p.1 p.2.1 p.2.2.1) p=true→((fun p:(Fa×(Sm)×(Int)×Unit)=>mlO (Fa.pan (Bq p.1 p.2.1 p.2.2.1))) p).length=((HJ).mem p).length∧kdL ((HJ).mem p) ((fun p:(Fa×(Sm)×(Int)×Unit)=>mlO (Fa.pan (Bq p.1 p.2.1 p.2.2.1))) p)=true∧∀q,some q∈(fun p:(Fa×(Sm)×(Int)×Unit)=>mlO (Fa.pan (Bq p.1 p.2.1 p.2.2.1))) p→DS ((fun p:(Fa×(Sm)×(Int)×Unit)=>mlO (Fa.pan (Bq p.1 p.2.1 p.2.2.1))) p).length q:=fun p _ _=>Hx p.1 (Bq p.1 p.2.1 p.2.2.1)
theorem lN:∀p,(fun p:(Fa×(Sm)×(Int)×Unit)=>Ly p.1 p.2.1 p.2.2.1) p→(fun p:(Fa×(Sm)×(Int)×Unit)=>Bz p.1 p.2.1 p.2.2.1) p=true→Di ((HJ).mem p).length ((fun p:(Fa×(Sm)×(Int)×Unit)=>Fa.memO (BI p.1 p.2.1 p.2.2.1)) p)=true∧EM ((fun p:(Fa×(Sm)×(Int)×Unit)=>Fa.memO (BI p.1 p.2.1 p.2.2.1)) p) ((fun p:(Fa×(Sm)×(Int)×Unit)=>Bt p.1 p.2.1 p.2.2.1) p):=fun p _ _=>⟨(DU p.1 (BI p.1 p.2.1 p.2.2.1)).1,rfl⟩
noncomputable def TX {X:Ctx} {w0:World} (h:Qe):Sy.Spec Try.prog X w0:=Dt 97 Try.call97 (HJ) (fun p:(Fa×(Sm)×(Int)×Unit)=>Ly p.1 p.2.1 p.2.2.1) (fun p:(Fa×(Sm)×(Int)×Unit)=>Bz p.1 p.2.1 p.2.2.1) (fun p:(Fa×(Sm)×(Int)×Unit)=>Bt p.1 p.2.1 p.2.2.1) (fun p:(Fa×(Sm)×(Int)×Unit)=>Fa.memO (BI p.1 p.2.1 p.2.2.1)) (fun p:(Fa×(Sm)×(Int)×Unit)=>mlO (Fa.pan (Bq p.1 p.2.1 p.2.2.1))) (lL) (lM) (lN) (fun _=>rfl) h
theorem D0 {X:Ctx} {w0:World} (h:Qe):(TX (X:=X) (w0:=w0) h).f=97:=rfl
theorem D1 {X:Ctx} {w0:World} (h:Qe) (t:Nat) (args:List SV) (H:Hp):(TX (X:=X) (w0:=w0) h).fn t args H=spL X ((HJ).d H args) t H (fun p:(Fa×(Sm)×(Int)×Unit)=>Ly p.1 p.2.1 p.2.2.1) (fun p:(Fa×(Sm)×(Int)×Unit)=>Bz p.1 p.2.1 p.2.2.1) (fun p:(Fa×(Sm)×(Int)×Unit)=>Bt p.1 p.2.1 p.2.2.1) (fun p:(Fa×(Sm)×(Int)×Unit)=>Fa.memO (BI p.1 p.2.1 p.2.2.1)) (fun p:(Fa×(Sm)×(Int)×Unit)=>mlO (Fa.pan (Bq p.1 p.2.1 p.2.2.1))):=rfl
attribute [local go_sem] Ev.b Ev.vl Fa.mem Fa.memO Fa.pan ML.ch ML.ren Ms.brk Ms.exh Ms.spd Sm.ar Sm.cd Sm.e Sm.el Sm.f Sm.k Sm.no Sm.th Sm.x Sm.y Va.c Fo Fm Fp EA BG BO BP BD BM BN K1 K0 Cw Cv chL evA evW Hf E5 E4 Fu fcN IF frC Hg Fl lmH lmO FO Gj Gk mcC Hh Gg mcW EZ Dl Dm Bf Be Bg Bh FP nmX AB AA Ds EY Dj Dk FS FR F9 F8 EX Fb rnC Gc AK DW EC Db CT Ee va0 vrQ Hi IG FB Cb Ce Bc Bd B3 BL
attribute[local go_sem] xt Bz BI Bq in
theorem ss:Qe:=by
 rintro ⟨q,s,v,_u⟩ w M I lab fz xs hc hA hl hx
 refine Cj Try.func97 rfl (Fa.mem q) w M I lab fz (Bz q s v) (Fa.pan (Bq q s v)) (Fa.memO (BI q s v)) [Bd] [] ((HJ).args ⟨q,s,v,_u⟩) (Bt q s v) xs hA hl hx (GM _ _ _ _) (jN rfl) (Nat.le_refl _) rfl (Hy _) ?_
 clear hx hl hA xs
 simp only[Try.f97]
 have hc1:B0 q.vs s.x=none→okC q.P q.m:=hc
 obtain⟨k0,x,y,e0,f0,cd0,ar0,th0,el0,no0⟩:=s
 cases h1:B0 q.vs x with
 |some u=>
  have h:F2 q (.mk k0 x y e0 f0 cd0 ar0 th0 el0 no0) v=Fa.go { q with vs:=C8 q.vs x ⟨false,v,[]⟩ }:=by unfold F2;rw[show B0 q.vs (Sm.mk k0 x y e0 f0 cd0 ar0 th0 el0 no0).x=some u from h1];rfl
  simp only[↓eB,seval,go_sem,↓A1,Option.isSome_some,Option.isSome_none,h1,h,Fa.go,LM]
  try simp only[A3,A4]
  repeat' first|exact ck|with_reducible apply And.intro|intro _
  all_goals first|exact trivial|(rename_i h;first|exact oI h|exact nah h)|(rename_i _ h _ g;exact sL h g)|decide|omega|(refine A0 [] ?_;simp only[↓eB,seval,go_sem,bne,Bt,A6,↓A1,Hz,h,Fa.go])
 |none=>
  have hc2:okC q.P q.m:=hc1 h1
  cases h2:q.P.ci x with
  |none=>
   have h:F2 q (.mk k0 x y e0 f0 cd0 ar0 th0 el0 no0) v=q.brk (.mk k0 x y e0 f0 cd0 ar0 th0 el0 no0) 4:=by unfold F2;rw[show B0 q.vs (Sm.mk k0 x y e0 f0 cd0 ar0 th0 el0 no0).x=none from h1,show q.P.ci (Sm.mk k0 x y e0 f0 cd0 ar0 th0 el0 no0).x=none from h2]
   simp only[↓eB,seval,go_sem,↓A1,Option.isSome_some,Option.isSome_none,h1,h2,h,Fa.brk]
   try simp only[A3,A4]
   repeat' first|exact ck|with_reducible apply And.intro|intro _
   all_goals first|exact trivial|(rename_i h;first|exact oI h|exact nah h)|(rename_i _ h _ g;exact sL h g)|decide|omega|(refine A0 [] ?_;simp only[↓eB,seval,go_sem,bne,Bt,A6,↓A1,Hz,h,Fa.brk])
  |some i=>
   have h:F2 q (.mk k0 x y e0 f0 cd0 ar0 th0 el0 no0) v=Fa.go { q with m:=q.m.set i v }:=by unfold F2;rw[show B0 q.vs (Sm.mk k0 x y e0 f0 cd0 ar0 th0 el0 no0).x=none from h1,show q.P.ci (Sm.mk k0 x y e0 f0 cd0 ar0 th0 el0 no0).x=some i from h2]
   have hi:=Pg.ci_lt hc2 h2
   have hg:=Ss hi
   simp only[↓eB,seval,go_sem,↓A1,Option.isSome_some,Option.isSome_none,h1,h2,h,hg,Fa.go,Ms.set,bY]
   try simp only[A3,A4]
   repeat' first|exact ck|with_reducible apply And.intro|intro _
   all_goals first|exact hi.1|exact hi.2|(rename_i h;first|exact oI h|exact nah h)|(rename_i _ h _ g;exact sL h g)|decide|omega|(refine A0 [] ?_;simp only[↓eB,seval,go_sem,bne,Bt,A6,↓A1,Hz,h,Fa.go,Ms.set])
noncomputable def Ca {X:Ctx} {w0:World}:Sy.Spec Try.prog X w0:=TX ss
abbrev M0 (q:Fa) (s:Sm) (x:List UInt8):Prop:=okC q.P q.m
abbrev IR (q:Fa) (s:Sm) (x:List UInt8):Bool:=(Fc q x).b
abbrev EP (q:Fa) (s:Sm) (x:List UInt8):Fa:=evA q s (Fc q x)
abbrev GN (q:Fa) (s:Sm) (x:List UInt8):Fa:=evW q s (Fc q x)
abbrev HK (q:Fa) (s:Sm) (x:List UInt8):SV:=.one (.q 1 0 ([(0,8)]) (2) (((Fc q x).vl 0).toNat) (0))
theorem lO:∀b,∀v∈ArgC.e (acS (cSp) (acS (cStr) ac0)) b,v.tupB=false:=by rintro ⟨x0,x1,_⟩ v hv;simp only[Ho,Hn,List.mem_cons,List.not_mem_nil,or_false]at hv;rcases hv with rfl|rfl<;>first|rfl|exact ID _|exact IE _
noncomputable abbrev HL:ArgL (Fa×(Sm)×(List UInt8)×Unit):=amFr (acS (cSp) (acS (cStr) ac0)) lO
abbrev Qg:Prop:=EB Try.prog 100 (HL).args (HL).mem (fun p:(Fa×(Sm)×(List UInt8)×Unit)=>M0 p.1 p.2.1 p.2.2.1) (fun p:(Fa×(Sm)×(List UInt8)×Unit)=>IR p.1 p.2.1 p.2.2.1) (fun p:(Fa×(Sm)×(List UInt8)×Unit)=>HK p.1 p.2.1 p.2.2.1) (fun p:(Fa×(Sm)×(List UInt8)×Unit)=>Fa.memO (EP p.1 p.2.1 p.2.2.1)) (fun p:(Fa×(Sm)×(List UInt8)×Unit)=>mlO (Fa.pan (GN p.1 p.2.1 p.2.2.1)))
theorem lP:∀p,(fun p:(Fa×(Sm)×(List UInt8)×Unit)=>M0 p.1 p.2.1 p.2.2.1) p→(fun p:(Fa×(Sm)×(List UInt8)×Unit)=>IR p.1 p.2.1 p.2.2.1) p=false→Di ((HL).mem p).length ((fun p:(Fa×(Sm)×(List UInt8)×Unit)=>Fa.memO (EP p.1 p.2.1 p.2.2.1)) p)=true∧kdL ((HL).mem p) ((fun p:(Fa×(Sm)×(List UInt8)×Unit)=>Fa.memO (EP p.1 p.2.1 p.2.2.1)) p)=true∧EM ((fun p:(Fa×(Sm)×(List UInt8)×Unit)=>Fa.memO (EP p.1 p.2.1 p.2.2.1)) p) ((fun p:(Fa×(Sm)×(List UInt8)×Unit)=>HK p.1 p.2.1 p.2.2.1) p)∧∀q,some q∈(fun p:(Fa×(Sm)×(List UInt8)×Unit)=>Fa.memO (EP p.1 p.2.1 p.2.2.1)) p→DS ((fun p:(Fa×(Sm)×(List UInt8)×Unit)=>Fa.memO (EP p.1 p.2.1 p.2.2.1)) p).length q:=fun p _ _=>have h:=DU p.1 (EP p.1 p.2.1 p.2.2.1);⟨h.1,h.2.1,⟨rfl,_,_,rfl,V4 _ _ rfl⟩,h.2.2⟩
theorem lQ:∀p,(fun p:(Fa×(Sm)×(List UInt8)×Unit)=>M0 p.1 p.2.1 p.2.2.1) p→(fun p:(Fa×(Sm)×(List UInt8)×Unit)=>IR p.1 p.2.1 p.2.2.1) p=true→((fun p:(Fa×(Sm)×(List UInt8)×Unit)=>mlO (Fa.pan (GN p.1 p.2.1 p.2.2.1))) p).length=((HL).mem p).length∧kdL ((HL).mem p) ((fun p:(Fa×(Sm)×(List UInt8)×Unit)=>mlO (Fa.pan (GN p.1 p.2.1 p.2.2.1))) p)=true∧∀q,some q∈(fun p:(Fa×(Sm)×(List UInt8)×Unit)=>mlO (Fa.pan (GN p.1 p.2.1 p.2.2.1))) p→DS ((fun p:(Fa×(Sm)×(List UInt8)×Unit)=>mlO (Fa.pan (GN p.1 p.2.1 p.2.2.1))) p).length q:=fun p _ _=>Hx p.1 (GN p.1 p.2.1 p.2.2.1)
theorem lR:∀p,(fun p:(Fa×(Sm)×(List UInt8)×Unit)=>M0 p.1 p.2.1 p.2.2.1) p→(fun p:(Fa×(Sm)×(List UInt8)×Unit)=>IR p.1 p.2.1 p.2.2.1) p=true→Di ((HL).mem p).length ((fun p:(Fa×(Sm)×(List UInt8)×Unit)=>Fa.memO (EP p.1 p.2.1 p.2.2.1)) p)=true∧EM ((fun p:(Fa×(Sm)×(List UInt8)×Unit)=>Fa.memO (EP p.1 p.2.1 p.2.2.1)) p) ((fun p:(Fa×(Sm)×(List UInt8)×Unit)=>HK p.1 p.2.1 p.2.2.1) p):=fun p _ _=>⟨(DU p.1 (EP p.1 p.2.1 p.2.2.1)).1,⟨rfl,_,_,rfl,V4 _ _ rfl⟩⟩
noncomputable def TY {X:Ctx} {w0:World} (h:Qg):Sy.Spec Try.prog X w0:=Dt 100 Try.call100 (HL) (fun p:(Fa×(Sm)×(List UInt8)×Unit)=>M0 p.1 p.2.1 p.2.2.1) (fun p:(Fa×(Sm)×(List UInt8)×Unit)=>IR p.1 p.2.1 p.2.2.1) (fun p:(Fa×(Sm)×(List UInt8)×Unit)=>HK p.1 p.2.1 p.2.2.1) (fun p:(Fa×(Sm)×(List UInt8)×Unit)=>Fa.memO (EP p.1 p.2.1 p.2.2.1)) (fun p:(Fa×(Sm)×(List UInt8)×Unit)=>mlO (Fa.pan (GN p.1 p.2.1 p.2.2.1))) (lP) (lQ) (lR) (fun _=>rfl) h
theorem lS {X:Ctx} {w0:World} (h:Qg):(TY (X:=X) (w0:=w0) h).f=100:=rfl
theorem lT {X:Ctx} {w0:World} (h:Qg) (t:Nat) (args:List SV) (H:Hp):(TY (X:=X) (w0:=w0) h).fn t args H=spL X ((HL).d H args) t H (fun p:(Fa×(Sm)×(List UInt8)×Unit)=>M0 p.1 p.2.1 p.2.2.1) (fun p:(Fa×(Sm)×(List UInt8)×Unit)=>IR p.1 p.2.1 p.2.2.1) (fun p:(Fa×(Sm)×(List UInt8)×Unit)=>HK p.1 p.2.1 p.2.2.1) (fun p:(Fa×(Sm)×(List UInt8)×Unit)=>Fa.memO (EP p.1 p.2.1 p.2.2.1)) (fun p:(Fa×(Sm)×(List UInt8)×Unit)=>mlO (Fa.pan (GN p.1 p.2.1 p.2.2.1))):=rfl
attribute[local go_sem] xt IR EP GN in
theorem su:Qg:=by
 rintro ⟨q,s,x,_u⟩ w M I lab fz xs hc hA hl hx
 refine Sp Try.func100 rfl (Fa.mem q) w M I lab fz (IR q s x) (Fa.pan (GN q s x)) (Fa.memO (EP q s x)) [Bd] [] ((HL).args ⟨q,s,x,_u⟩) 1 ([(0,8)]) (2) (((Fc q x).vl 0).toNat) (0) xs hA hl hx (GM _ _ _ _) (jN rfl) (Nat.le_refl _) rfl (Hy _) ?_
 clear hx hl hA xs
 simp only[Try.f100]
 have hc1:okC q.P q.m:=hc
 obtain⟨k0,x1,y,e0,f0,cd0,ar0,th0,el0,no0⟩:=s
 have hvg:∀o,B0 q.vs x=o→(FT q.vs x)=o.getD va0:=fun o ho=>by unfold FT;rw[ho]
 cases h1:B0 q.vs x with
 |none=>
  have h:Fc q x= .no 2:=by unfold Fc FT;rw[h1];rfl
  simp only[↓eB,seval,go_sem,↓A1,Option.isSome_some,Option.isSome_none,h1,h,sr]
  try simp only[A3,A4]
  repeat' first|exact ck|with_reducible apply And.intro|intro _
  all_goals first|exact trivial|(rename_i h;first|exact oI h|exact nah h)|(rename_i _ h _ g;exact sL h g)|decide|omega|(refine A0 [] ?_;simp only[↓eB,seval,go_sem,bne,HK,Lk,↓A1,Hz,h,h1])
 |some v=>
  have hv:FT q.vs x=v:=hvg _ h1
  cases hs:((FT q.vs x).s==[]) with
  |true=>
   have h:Fc q x= .no 2:=by unfold Fc;rw[if_pos hs]
   rw[hv]at hs
   simp only[↓eB,seval,go_sem,↓A1,Option.isSome_some,Option.isSome_none,h1,h,hs]
   try simp only[A3,A4]
   repeat' first|exact ck|with_reducible apply And.intro|intro _
   all_goals first|exact trivial|(rename_i h;first|exact oI h|exact nah h)|(rename_i _ h _ g;exact sL h g)|decide|omega|(refine A0 [] ?_;simp only[↓eB,seval,go_sem,bne,HK,Lk,↓A1,Hz,h,h1])
  |false=>
   cases h2:q.P.ci (FT q.vs x).s with
   |none=>
    have h:Fc q x= .no 4:=by unfold Fc;rw[if_neg (by rw[hs];decide),h2]
    rw[hv]at hs h2
    simp only[↓eB,seval,go_sem,↓A1,Option.isSome_some,Option.isSome_none,h1,h,hs,h2]
    try simp only[A3,A4]
    repeat' first|exact ck|with_reducible apply And.intro|intro _
    all_goals first|exact trivial|(rename_i h;first|exact oI h|exact nah h)|(rename_i _ h _ g;exact sL h g)|decide|omega|(refine A0 [] ?_;simp only[↓eB,seval,go_sem,bne,HK,Lk,↓A1,Hz,h,h1])
   |some i=>
    have h:Fc q x= .ok i:=by unfold Fc;rw[if_neg (by rw[hs];decide),h2]
    have hi:=Pg.ci_lt hc1 h2
    rw[hv]at hs h2
    simp only[↓eB,seval,go_sem,↓A1,Option.isSome_some,Option.isSome_none,h1,h,hs,h2]
    try simp only[A3,A4]
    repeat' first|exact ck|with_reducible apply And.intro|intro _
    all_goals first|exact hi.1|exact hi.2|(rename_i h;first|exact oI h|exact nah h)|(rename_i _ h _ g;exact sL h g)|decide|omega|(refine A0 [] ?_;simp only[↓eB,seval,go_sem,bne,HK,Lk,↓A1,Hz,h,h1])
noncomputable def Y1 {X:Ctx} {w0:World}:Sy.Spec Try.prog X w0:=TY su
abbrev M1 (q:Fa) (s:Sm) (i:Int):Prop:=okC q.P q.m∧∀a∈q.m.ar,a.l.length≤1000000000
abbrev IU (q:Fa) (s:Sm) (i:Int):Bool:=(Ef q s i).b
abbrev EQ (q:Fa) (s:Sm) (i:Int):Fa:=evA q s (Ef q s i)
abbrev GO (q:Fa) (s:Sm) (i:Int):Fa:=evW q s (Ef q s i)
abbrev HM (q:Fa) (s:Sm) (i:Int):SV:=.one (.q 1 0 ([(0,9),(((Ef q s i).vl 0).toNat,1)]) (1) ((if (Ef q s i).b=true then 0 else i.toNat)) (0))
theorem lU:∀b,∀v∈ArgC.e (acS (cSp) (acS (cInt .i64) ac0)) b,v.tupB=false:=by rintro ⟨x0,x1,_⟩ v hv;simp only[Ho,Hn,List.mem_cons,List.not_mem_nil,or_false]at hv;rcases hv with rfl|rfl<;>first|rfl|exact ID _|exact IE _
noncomputable abbrev HN:ArgL (Fa×(Sm)×(Int)×Unit):=amFr (acS (cSp) (acS (cInt .i64) ac0)) lU
abbrev Qh:Prop:=EB Try.prog 101 (HN).args (HN).mem (fun p:(Fa×(Sm)×(Int)×Unit)=>M1 p.1 p.2.1 p.2.2.1) (fun p:(Fa×(Sm)×(Int)×Unit)=>IU p.1 p.2.1 p.2.2.1) (fun p:(Fa×(Sm)×(Int)×Unit)=>HM p.1 p.2.1 p.2.2.1) (fun p:(Fa×(Sm)×(Int)×Unit)=>Fa.memO (EQ p.1 p.2.1 p.2.2.1)) (fun p:(Fa×(Sm)×(Int)×Unit)=>mlO (Fa.pan (GO p.1 p.2.1 p.2.2.1)))
theorem lV:∀p,(fun p:(Fa×(Sm)×(Int)×Unit)=>M1 p.1 p.2.1 p.2.2.1) p→(fun p:(Fa×(Sm)×(Int)×Unit)=>IU p.1 p.2.1 p.2.2.1) p=false→Di ((HN).mem p).length ((fun p:(Fa×(Sm)×(Int)×Unit)=>Fa.memO (EQ p.1 p.2.1 p.2.2.1)) p)=true∧kdL ((HN).mem p) ((fun p:(Fa×(Sm)×(Int)×Unit)=>Fa.memO (EQ p.1 p.2.1 p.2.2.1)) p)=true∧EM ((fun p:(Fa×(Sm)×(Int)×Unit)=>Fa.memO (EQ p.1 p.2.1 p.2.2.1)) p) ((fun p:(Fa×(Sm)×(Int)×Unit)=>HM p.1 p.2.1 p.2.2.1) p)∧∀q,some q∈(fun p:(Fa×(Sm)×(Int)×Unit)=>Fa.memO (EQ p.1 p.2.1 p.2.2.1)) p→DS ((fun p:(Fa×(Sm)×(Int)×Unit)=>Fa.memO (EQ p.1 p.2.1 p.2.2.1)) p).length q:=fun p _ _=>have h:=DU p.1 (EQ p.1 p.2.1 p.2.2.1);⟨h.1,h.2.1,⟨rfl,_,_,rfl,V4 _ _ rfl⟩,h.2.2⟩
theorem lW:∀p,(fun p:(Fa×(Sm)×(Int)×Unit)=>M1 p.1 p.2.1 p.2.2.1) p→(fun p:(Fa×(Sm)×(Int)×Unit)=>IU p.1 p.2.1 p.2.2.1) p=true→((fun p:(Fa×(Sm)×(Int)×Unit)=>mlO (Fa.pan (GO p.1 p.2.1 p.2.2.1))) p).length=((HN).mem p).length∧kdL ((HN).mem p) ((fun p:(Fa×(Sm)×(Int)×Unit)=>mlO (Fa.pan (GO p.1 p.2.1 p.2.2.1))) p)=true∧∀q,some q∈(fun p:(Fa×(Sm)×(Int)×Unit)=>mlO (Fa.pan (GO p.1 p.2.1 p.2.2.1))) p→DS ((fun p:(Fa×(Sm)×(Int)×Unit)=>mlO (Fa.pan (GO p.1 p.2.1 p.2.2.1))) p).length q:=fun p _ _=>Hx p.1 (GO p.1 p.2.1 p.2.2.1)
theorem lX:∀p,(fun p:(Fa×(Sm)×(Int)×Unit)=>M1 p.1 p.2.1 p.2.2.1) p→(fun p:(Fa×(Sm)×(Int)×Unit)=>IU p.1 p.2.1 p.2.2.1) p=true→Di ((HN).mem p).length ((fun p:(Fa×(Sm)×(Int)×Unit)=>Fa.memO (EQ p.1 p.2.1 p.2.2.1)) p)=true∧EM ((fun p:(Fa×(Sm)×(Int)×Unit)=>Fa.memO (EQ p.1 p.2.1 p.2.2.1)) p) ((fun p:(Fa×(Sm)×(Int)×Unit)=>HM p.1 p.2.1 p.2.2.1) p):=fun p _ _=>⟨(DU p.1 (EQ p.1 p.2.1 p.2.2.1)).1,⟨rfl,_,_,rfl,V4 _ _ rfl⟩⟩
noncomputable def TZ {X:Ctx} {w0:World} (h:Qh):Sy.Spec Try.prog X w0:=Dt 101 Try.call101 (HN) (fun p:(Fa×(Sm)×(Int)×Unit)=>M1 p.1 p.2.1 p.2.2.1) (fun p:(Fa×(Sm)×(Int)×Unit)=>IU p.1 p.2.1 p.2.2.1) (fun p:(Fa×(Sm)×(Int)×Unit)=>HM p.1 p.2.1 p.2.2.1) (fun p:(Fa×(Sm)×(Int)×Unit)=>Fa.memO (EQ p.1 p.2.1 p.2.2.1)) (fun p:(Fa×(Sm)×(Int)×Unit)=>mlO (Fa.pan (GO p.1 p.2.1 p.2.2.1))) (lV) (lW) (lX) (fun _=>rfl) h
theorem lY {X:Ctx} {w0:World} (h:Qh):(TZ (X:=X) (w0:=w0) h).f=101:=rfl
theorem lZ {X:Ctx} {w0:World} (h:Qh) (t:Nat) (args:List SV) (H:Hp):(TZ (X:=X) (w0:=w0) h).fn t args H=spL X ((HN).d H args) t H (fun p:(Fa×(Sm)×(Int)×Unit)=>M1 p.1 p.2.1 p.2.2.1) (fun p:(Fa×(Sm)×(Int)×Unit)=>IU p.1 p.2.1 p.2.2.1) (fun p:(Fa×(Sm)×(Int)×Unit)=>HM p.1 p.2.1 p.2.2.1) (fun p:(Fa×(Sm)×(Int)×Unit)=>Fa.memO (EQ p.1 p.2.1 p.2.2.1)) (fun p:(Fa×(Sm)×(Int)×Unit)=>mlO (Fa.pan (GO p.1 p.2.1 p.2.2.1))):=rfl
attribute[local go_sem] xt IU EQ GO in
theorem sw:Qh:=by
 rintro ⟨q,s,i,_u⟩ w M I lab fz xs hc hA hl hx
 refine Sp Try.func101 rfl (Fa.mem q) w M I lab fz (IU q s i) (Fa.pan (GO q s i)) (Fa.memO (EQ q s i)) [Bd] [] ((HN).args ⟨q,s,i,_u⟩) 1 ([(0,9),(((Ef q s i).vl 0).toNat,1)]) (1) ((if (Ef q s i).b=true then 0 else i.toNat)) (0) xs hA hl hx (GM _ _ _ _) (jN rfl) (Nat.le_refl _) rfl (Hy _) ?_
 clear hx hl hA xs
 simp only[Try.f101]
 obtain⟨hc1,hc2⟩:=hc
 dsimp only at hc1 hc2
 obtain⟨k0,x,y,e0,f0,cd0,ar0,th0,el0,no0⟩:=s
 cases h2:q.P.ai y with
 |none=>
  have h:Ef q (.mk k0 x y e0 f0 cd0 ar0 th0 el0 no0) i= .no 4:=by unfold Ef;rw[show q.P.ai (Sm.mk k0 x y e0 f0 cd0 ar0 th0 el0 no0).y=none from h2]
  simp only[↓eB,seval,go_sem,↓A1,Option.isSome_some,Option.isSome_none,h,h2]
  try simp only[A3,A4]
  repeat' first|exact ck|with_reducible apply And.intro|intro _
  all_goals first|exact trivial|(rename_i h;first|exact oI h|exact nah h)|(rename_i _ h _ g;exact sL h g)|decide|omega|(refine A0 [] ?_;simp only[↓eB,seval,go_sem,bne,HM,Lk,↓A1,Hz,h])
 |some k=>
  have hi:=Pg.ai_lt hc1 h2
  have hg:=WJ hi
  have ha:(q.m.ar.getD k.toNat ⟨[],[]⟩).l.length≤1000000000:=hc2 _ (by
   have:k.toNat<q.m.ar.length:=by omega
   rw[List.getD,List.getElem?_eq_getElem this];exact List.getElem_mem this)
  cases n1:decide (i<0) with
  |true=>
   have h:Ef q (.mk k0 x y e0 f0 cd0 ar0 th0 el0 no0) i= .no 1:=by unfold Ef;rw[show q.P.ai (Sm.mk k0 x y e0 f0 cd0 ar0 th0 el0 no0).y=some k from h2];exact if_pos (.inl (of_decide_eq_true n1))
   simp only[↓eB,seval,go_sem,↓A1,Option.isSome_some,Option.isSome_none,h,h2,hg,n1]
   try simp only[A3,A4]
   repeat' first|exact ck|with_reducible apply And.intro|intro _
   all_goals first|exact hi.1|exact hi.2|(rename_i h;first|exact oI h|exact nah h)|(rename_i _ h _ g;exact sL h g)|decide|omega|(refine A0 [] ?_;simp only[↓eB,seval,go_sem,bne,HM,Lk,↓A1,Hz,h])
  |false=>
   cases n2:decide (((q.m.ar.getD k.toNat ⟨[],[]⟩).l.length:Int)≤i) with
   |true=>
    have h:Ef q (.mk k0 x y e0 f0 cd0 ar0 th0 el0 no0) i= .no 1:=by unfold Ef;rw[show q.P.ai (Sm.mk k0 x y e0 f0 cd0 ar0 th0 el0 no0).y=some k from h2];exact if_pos (.inr (of_decide_eq_true n2))
    simp only[↓eB,seval,go_sem,↓A1,Option.isSome_some,Option.isSome_none,h,h2,hg,n1,n2]
    try simp only[A3,A4]
    repeat' first|exact ck|with_reducible apply And.intro|intro _
    all_goals first|exact hi.1|exact hi.2|(rename_i h;first|exact oI h|exact nah h)|(rename_i _ h _ g;exact sL h g)|decide|omega|(refine A0 [] ?_;simp only[↓eB,seval,go_sem,bne,HM,Lk,↓A1,Hz,h])
   |false=>
    have m1:=of_decide_eq_false n1
    have m2:=of_decide_eq_false n2
    have h:Ef q (.mk k0 x y e0 f0 cd0 ar0 th0 el0 no0) i= .ok k:=by unfold Ef;rw[show q.P.ai (Sm.mk k0 x y e0 f0 cd0 ar0 th0 el0 no0).y=some k from h2];exact if_neg (fun hh=>by rcases hh with hh|hh;exact m1 hh;exact m2 hh)
    simp only[↓eB,seval,go_sem,↓A1,Option.isSome_some,Option.isSome_none,h,h2,hg,n1,n2]
    try simp only[A3,A4]
    repeat' first|exact ck|with_reducible apply And.intro|intro _
    all_goals first|exact hi.1|exact hi.2|(rename_i h;first|exact oI h|exact nah h)|(rename_i _ h _ g;exact sL h g)|decide|omega|(refine A0 [] ?_;simp only[↓eB,seval,go_sem,bne,HM,Lk,↓A1,Hz,h])
noncomputable def Y2 {X:Ctx} {w0:World}:Sy.Spec Try.prog X w0:=TZ sw
end Go.Proofs.Ytjnnmindcbgjhaa
