/- A frame's assignments and places, walked. No conditions but those in each statement. -/
import Derived.Test.YtjnnmindcbgjhaaRm5
set_option linter.unusedVariables false
set_option linter.unusedSimpArgs false
set_option maxRecDepth 20000
set_option maxHeartbeats 16000000
namespace Go.Proofs.Ytjnnmindcbgjhaa
open Go Go.Sy Go.RowKit
theorem dq (l:List Nb) (i:Nat) (s:List UInt8) (v:Int):(l.map Nb.c).set i [.v (.string (bs s)),.v (.int .i64 v)]=(l.set i ⟨s,v⟩).map Nb.c:=(List.map_set (f:=Nb.c) (a:=⟨s,v⟩)).symm
theorem vP (l:List Na) (i:Nat) (s:List UInt8) (x:List Int):(l.map Na.c).set i [.v (.string (bs s)),.ov zI (x.map cI)]=(l.set i ⟨s,x⟩).map Na.c:=(List.map_set (f:=Na.c) (a:=⟨s,x⟩)).symm
theorem vQ (l:List Int) (i:Nat) (v:Int):(l.map cI).set i [.v (.int .i64 v)]=(l.set i v).map cI:=(List.map_set (f:=cI) (a:=v)).symm
theorem vR:(([]:List UInt8)==[])=true:=rfl
theorem Io (k u0 v:Nat) (p:List (Nat×Nat)) (s m o:Nat) (z0 z1:List C) (es0 es1:List (List C)):(∃u z es,SV.one (C.q k u0 p s m o)=SV.one (C.q k u p s m o)∧some (Ch.vec v z0 es0)=some (Ch.vec u z es)∧some (some (ML.vec z1 es1))=some (some (ML.vec z es)))=(v=u0∧z1=z0∧es1=es0):=by
 refine propext ⟨?_,?_⟩
 ·rintro ⟨u,z,es,h1,h2,h3⟩
  simp only[SV.one.injEq,C.q.injEq,jS,Ch.vec.injEq,ML.vec.injEq,and_true,true_and]at h1 h2 h3
  obtain⟨rfl,rfl,rfl⟩:=h2
  exact⟨h1.symm,h3.1,h3.2⟩
 ·rintro ⟨rfl,rfl,rfl⟩
  exact⟨_,_,_,rfl,rfl,rfl⟩
theorem put_get {α:Type} (s:List UInt8) (v:α):∀es:List (List UInt8×α),Ap (C2 es s v) s=some v
 |[]=>by simp[C2,Ap]
 |(a,b)::r=>by
  simp only[C2]
  split
  ·simp only[Ap,beq_self_eq_true,if_true]
  ·rename_i h
   simp only[Ap];rw[if_neg h];exact put_get s v r
theorem iG (q:Fa) (s:Sm) (v:Int):FH (q.dead s) s v=Fa.go { q.dead s with vs:=C2 (q.dead s).vs s.x ⟨false,v,[]⟩ }:=by
 have h:Ap (q.dead s).vs s.x=some va0:=put_get s.x va0 q.vs
 unfold FH
 rw[h]
abbrev Mn (q:Fa) (s:Sm) (v:Int):Prop:=Ap q.vs s.x=none→okC q.P q.m
abbrev C4 (q:Fa) (s:Sm) (v:Int):Bool:=(FH q s v).b
abbrev BK (q:Fa) (s:Sm) (v:Int):Fa:=(FH q s v).q
abbrev Bs (q:Fa) (s:Sm) (v:Int):Fa:=(FH q s v).q
abbrev Bw (q:Fa) (s:Sm) (v:Int):SV:=.tup []
theorem oQ:∀b,∀v∈ArgC.e (acS (cSp) (acS (cInt .i64) ac0)) b,v.tupB=false:=by rintro ⟨x0,x1,_⟩ v hv;simp only[Hl,Hk,List.mem_cons,List.not_mem_nil,or_false]at hv;rcases hv with rfl|rfl<;>first|rfl|exact J0 _|exact J1 _
noncomputable abbrev I4:ArgL (Fa×(Sm)×(Int)×Unit):=amFr (acS (cSp) (acS (cInt .i64) ac0)) oQ
abbrev Rx:Prop:=E9 Try.prog 97 (I4).args (I4).mem (fun p:(Fa×(Sm)×(Int)×Unit)=>Mn p.1 p.2.1 p.2.2.1) (fun p:(Fa×(Sm)×(Int)×Unit)=>C4 p.1 p.2.1 p.2.2.1) (fun p:(Fa×(Sm)×(Int)×Unit)=>Bw p.1 p.2.1 p.2.2.1) (fun p:(Fa×(Sm)×(Int)×Unit)=>Fa.memO (BK p.1 p.2.1 p.2.2.1)) (fun p:(Fa×(Sm)×(Int)×Unit)=>mlO (Fa.pan (Bs p.1 p.2.1 p.2.2.1)))
theorem oR:∀p,(fun p:(Fa×(Sm)×(Int)×Unit)=>Mn p.1 p.2.1 p.2.2.1) p→(fun p:(Fa×(Sm)×(Int)×Unit)=>C4 p.1 p.2.1 p.2.2.1) p=false→Dr ((I4).mem p).length ((fun p:(Fa×(Sm)×(Int)×Unit)=>Fa.memO (BK p.1 p.2.1 p.2.2.1)) p)=true∧kdL ((I4).mem p) ((fun p:(Fa×(Sm)×(Int)×Unit)=>Fa.memO (BK p.1 p.2.1 p.2.2.1)) p)=true∧Eb ((fun p:(Fa×(Sm)×(Int)×Unit)=>Fa.memO (BK p.1 p.2.1 p.2.2.1)) p) ((fun p:(Fa×(Sm)×(Int)×Unit)=>Bw p.1 p.2.1 p.2.2.1) p)∧∀q,some q∈(fun p:(Fa×(Sm)×(Int)×Unit)=>Fa.memO (BK p.1 p.2.1 p.2.2.1)) p→DP ((fun p:(Fa×(Sm)×(Int)×Unit)=>Fa.memO (BK p.1 p.2.1 p.2.2.1)) p).length q:=fun p _ _=>have h:=Da p.1 (BK p.1 p.2.1 p.2.2.1);⟨h.1,h.2.1,rfl,h.2.2⟩
theorem oT:∀p,(fun p:(Fa×(Sm)×(Int)×Unit)=>Mn p.1 p.2.1 p.2.2.1) p→(fun p:(Fa×(Sm)×(Int)×Unit)=>C4 p.1 p.2.1 p.2.2.1) p=true→((fun p:(Fa×(Sm)×(Int)×Unit)=>mlO (Fa.pan (Bs p.1 p.2.1 p.2.2.1))) p).length=((I4).mem p).length∧kdL ((I4).mem p) ((fun p:(Fa×(Sm)×(Int)×Unit)=>mlO (Fa.pan (Bs p.1 p.2.1 p.2.2.1))) p)=true∧∀q,some q∈(fun p:(Fa×(Sm)×(Int)×Unit)=>mlO (Fa.pan (Bs p.1 p.2.1 p.2.2.1))) p→DP ((fun p:(Fa×(Sm)×(Int)×Unit)=>mlO (Fa.pan (Bs p.1 p.2.1 p.2.2.1))) p).length q:=fun p _ _=>Il p.1 (Bs p.1 p.2.1 p.2.2.1)
theorem oU:∀p,(fun p:(Fa×(Sm)×(Int)×Unit)=>Mn p.1 p.2.1 p.2.2.1) p→(fun p:(Fa×(Sm)×(Int)×Unit)=>C4 p.1 p.2.1 p.2.2.1) p=true→Dr ((I4).mem p).length ((fun p:(Fa×(Sm)×(Int)×Unit)=>Fa.memO (BK p.1 p.2.1 p.2.2.1)) p)=true∧Eb ((fun p:(Fa×(Sm)×(Int)×Unit)=>Fa.memO (BK p.1 p.2.1 p.2.2.1)) p) ((fun p:(Fa×(Sm)×(Int)×Unit)=>Bw p.1 p.2.1 p.2.2.1) p):=fun p _ _=>⟨(Da p.1 (BK p.1 p.2.1 p.2.2.1)).1,rfl⟩
noncomputable def V3 {X:Ctx} {w0:World} (h:Rx):Sy.Spec Try.prog X w0:=Di 97 Try.call97 (I4) (fun p:(Fa×(Sm)×(Int)×Unit)=>Mn p.1 p.2.1 p.2.2.1) (fun p:(Fa×(Sm)×(Int)×Unit)=>C4 p.1 p.2.1 p.2.2.1) (fun p:(Fa×(Sm)×(Int)×Unit)=>Bw p.1 p.2.1 p.2.2.1) (fun p:(Fa×(Sm)×(Int)×Unit)=>Fa.memO (BK p.1 p.2.1 p.2.2.1)) (fun p:(Fa×(Sm)×(Int)×Unit)=>mlO (Fa.pan (Bs p.1 p.2.1 p.2.2.1))) (oR) (oT) (oU) (fun _=>rfl) h
theorem D6 {X:Ctx} {w0:World} (h:Rx):(V3 (X:=X) (w0:=w0) h).f=97:=rfl
theorem D7 {X:Ctx} {w0:World} (h:Rx) (t:Nat) (args:List SV) (H:Hp):(V3 (X:=X) (w0:=w0) h).fn t args H=spL X ((I4).d H args) t H (fun p:(Fa×(Sm)×(Int)×Unit)=>Mn p.1 p.2.1 p.2.2.1) (fun p:(Fa×(Sm)×(Int)×Unit)=>C4 p.1 p.2.1 p.2.2.1) (fun p:(Fa×(Sm)×(Int)×Unit)=>Bw p.1 p.2.1 p.2.2.1) (fun p:(Fa×(Sm)×(Int)×Unit)=>Fa.memO (BK p.1 p.2.1 p.2.2.1)) (fun p:(Fa×(Sm)×(Int)×Unit)=>mlO (Fa.pan (Bs p.1 p.2.1 p.2.2.1))):=rfl
attribute [local go_sem] Ev.b Ev.vl Fa.mem Fa.memO Fa.pan ML.ch ML.ren Ms.brk Ms.exh Ms.spd Sm.ar Sm.cd Sm.e Sm.el Sm.f Sm.k Sm.no Sm.th Sm.x Sm.y Va.c GG GF GH Dm BJ BP BQ BH BN BO Kn Km Cy Cx chL evA evW IW EM EL GM fcN J2 frC IX GE lmH lmO Fv HW HX mcC IY HV mcW EA DR DS Bh Bg Bi Bj Fw nmX AB AA Et Ei Dt Du Fz Fy FO FN EP F9 rnC HN AK DA Ds DQ CS Ea va0 vrQ IZ J3 FR Ck Cl Be Bf B8 BM
attribute[local go_sem] xt C4 BK Bs in
theorem vS:Rx:=by
 rintro ⟨q,s,v,_u⟩ w M I lab fz xs hc hA hl hx
 refine Ce Try.func97 rfl (Fa.mem q) w M I lab fz (C4 q s v) (Fa.pan (Bs q s v)) (Fa.memO (BK q s v)) [Bf] [] ((I4).args ⟨q,s,v,_u⟩) (Bw q s v) xs hA hl hx (H6 _ _ _ _) (jN rfl) (Nat.le_refl _) rfl (Im _) ?_
 clear hx hl hA xs
 simp only[Try.f97]
 have hc1:Ap q.vs s.x=none→okC q.P q.m:=hc
 obtain⟨k0,x,y,e0,f0,cd0,ar0,th0,el0,no0⟩:=s
 cases h1:Ap q.vs x with
 |some u=>
  have h:FH q (.mk k0 x y e0 f0 cd0 ar0 th0 el0 no0) v=Fa.go { q with vs:=C2 q.vs x ⟨false,v,[]⟩ }:=by unfold FH;rw[show Ap q.vs (Sm.mk k0 x y e0 f0 cd0 ar0 th0 el0 no0).x=some u from h1];rfl
  simp only[↓eB,seval,go_sem,↓A1,Option.isSome_some,Option.isSome_none,h1,h,Fa.go,ME]
  try simp only[A3,A4]
  repeat' first|exact ck|with_reducible apply And.intro|intro _
  all_goals first|exact trivial|(rename_i h;first|exact oI h|exact nah h)|(rename_i _ h _ g;exact sL h g)|decide|omega|(refine A0 [] ?_;simp only[↓eB,seval,go_sem,bne,Bw,A6,↓A1,Io,h,Fa.go])
 |none=>
  have hc2:okC q.P q.m:=hc1 h1
  cases h2:q.P.ci x with
  |none=>
   have h:FH q (.mk k0 x y e0 f0 cd0 ar0 th0 el0 no0) v=q.brk (.mk k0 x y e0 f0 cd0 ar0 th0 el0 no0) 4:=by unfold FH;rw[show Ap q.vs (Sm.mk k0 x y e0 f0 cd0 ar0 th0 el0 no0).x=none from h1,show q.P.ci (Sm.mk k0 x y e0 f0 cd0 ar0 th0 el0 no0).x=none from h2]
   simp only[↓eB,seval,go_sem,↓A1,Option.isSome_some,Option.isSome_none,h1,h2,h,Fa.brk]
   try simp only[A3,A4]
   repeat' first|exact ck|with_reducible apply And.intro|intro _
   all_goals first|exact trivial|(rename_i h;first|exact oI h|exact nah h)|(rename_i _ h _ g;exact sL h g)|decide|omega|(refine A0 [] ?_;simp only[↓eB,seval,go_sem,bne,Bw,A6,↓A1,Io,h,Fa.brk])
  |some i=>
   have h:FH q (.mk k0 x y e0 f0 cd0 ar0 th0 el0 no0) v=Fa.go { q with m:=q.m.set i v }:=by unfold FH;rw[show Ap q.vs (Sm.mk k0 x y e0 f0 cd0 ar0 th0 el0 no0).x=none from h1,show q.P.ci (Sm.mk k0 x y e0 f0 cd0 ar0 th0 el0 no0).x=some i from h2]
   have hi:=Pg.ci_lt hc2 h2
   have hg:=UH hi
   simp only[↓eB,seval,go_sem,↓A1,Option.isSome_some,Option.isSome_none,h1,h2,h,hg,Fa.go,Ms.set,dq]
   try simp only[A3,A4]
   repeat' first|exact ck|with_reducible apply And.intro|intro _
   all_goals first|exact hi.1|exact hi.2|(rename_i h;first|exact oI h|exact nah h)|(rename_i _ h _ g;exact sL h g)|decide|omega|(refine A0 [] ?_;simp only[↓eB,seval,go_sem,bne,Bw,A6,↓A1,Io,h,Fa.go,Ms.set])
noncomputable def Cj {X:Ctx} {w0:World}:Sy.Spec Try.prog X w0:=V3 vS
abbrev Mo (q:Fa) (s:Sm) (x:List UInt8):Prop:=okC q.P q.m
abbrev JF (q:Fa) (s:Sm) (x:List UInt8):Bool:=(G8 q x).b
abbrev Ed (q:Fa) (s:Sm) (x:List UInt8):Fa:=evA q s (G8 q x)
abbrev H7 (q:Fa) (s:Sm) (x:List UInt8):Fa:=evW q s (G8 q x)
abbrev I5 (q:Fa) (s:Sm) (x:List UInt8):SV:=.one (.q 1 0 ([(0,8)]) (2) (((G8 q x).vl 0).toNat) (0))
theorem oV:∀b,∀v∈ArgC.e (acS (cSp) (acS (cStr) ac0)) b,v.tupB=false:=by rintro ⟨x0,x1,_⟩ v hv;simp only[Hl,Hk,List.mem_cons,List.not_mem_nil,or_false]at hv;rcases hv with rfl|rfl<;>first|rfl|exact J0 _|exact J1 _
noncomputable abbrev I6:ArgL (Fa×(Sm)×(List UInt8)×Unit):=amFr (acS (cSp) (acS (cStr) ac0)) oV
abbrev Ry:Prop:=E9 Try.prog 100 (I6).args (I6).mem (fun p:(Fa×(Sm)×(List UInt8)×Unit)=>Mo p.1 p.2.1 p.2.2.1) (fun p:(Fa×(Sm)×(List UInt8)×Unit)=>JF p.1 p.2.1 p.2.2.1) (fun p:(Fa×(Sm)×(List UInt8)×Unit)=>I5 p.1 p.2.1 p.2.2.1) (fun p:(Fa×(Sm)×(List UInt8)×Unit)=>Fa.memO (Ed p.1 p.2.1 p.2.2.1)) (fun p:(Fa×(Sm)×(List UInt8)×Unit)=>mlO (Fa.pan (H7 p.1 p.2.1 p.2.2.1)))
theorem oW:∀p,(fun p:(Fa×(Sm)×(List UInt8)×Unit)=>Mo p.1 p.2.1 p.2.2.1) p→(fun p:(Fa×(Sm)×(List UInt8)×Unit)=>JF p.1 p.2.1 p.2.2.1) p=false→Dr ((I6).mem p).length ((fun p:(Fa×(Sm)×(List UInt8)×Unit)=>Fa.memO (Ed p.1 p.2.1 p.2.2.1)) p)=true∧kdL ((I6).mem p) ((fun p:(Fa×(Sm)×(List UInt8)×Unit)=>Fa.memO (Ed p.1 p.2.1 p.2.2.1)) p)=true∧Eb ((fun p:(Fa×(Sm)×(List UInt8)×Unit)=>Fa.memO (Ed p.1 p.2.1 p.2.2.1)) p) ((fun p:(Fa×(Sm)×(List UInt8)×Unit)=>I5 p.1 p.2.1 p.2.2.1) p)∧∀q,some q∈(fun p:(Fa×(Sm)×(List UInt8)×Unit)=>Fa.memO (Ed p.1 p.2.1 p.2.2.1)) p→DP ((fun p:(Fa×(Sm)×(List UInt8)×Unit)=>Fa.memO (Ed p.1 p.2.1 p.2.2.1)) p).length q:=fun p _ _=>have h:=Da p.1 (Ed p.1 p.2.1 p.2.2.1);⟨h.1,h.2.1,⟨rfl,_,_,rfl,Wf _ _ rfl⟩,h.2.2⟩
theorem oX:∀p,(fun p:(Fa×(Sm)×(List UInt8)×Unit)=>Mo p.1 p.2.1 p.2.2.1) p→(fun p:(Fa×(Sm)×(List UInt8)×Unit)=>JF p.1 p.2.1 p.2.2.1) p=true→((fun p:(Fa×(Sm)×(List UInt8)×Unit)=>mlO (Fa.pan (H7 p.1 p.2.1 p.2.2.1))) p).length=((I6).mem p).length∧kdL ((I6).mem p) ((fun p:(Fa×(Sm)×(List UInt8)×Unit)=>mlO (Fa.pan (H7 p.1 p.2.1 p.2.2.1))) p)=true∧∀q,some q∈(fun p:(Fa×(Sm)×(List UInt8)×Unit)=>mlO (Fa.pan (H7 p.1 p.2.1 p.2.2.1))) p→DP ((fun p:(Fa×(Sm)×(List UInt8)×Unit)=>mlO (Fa.pan (H7 p.1 p.2.1 p.2.2.1))) p).length q:=fun p _ _=>Il p.1 (H7 p.1 p.2.1 p.2.2.1)
theorem oY:∀p,(fun p:(Fa×(Sm)×(List UInt8)×Unit)=>Mo p.1 p.2.1 p.2.2.1) p→(fun p:(Fa×(Sm)×(List UInt8)×Unit)=>JF p.1 p.2.1 p.2.2.1) p=true→Dr ((I6).mem p).length ((fun p:(Fa×(Sm)×(List UInt8)×Unit)=>Fa.memO (Ed p.1 p.2.1 p.2.2.1)) p)=true∧Eb ((fun p:(Fa×(Sm)×(List UInt8)×Unit)=>Fa.memO (Ed p.1 p.2.1 p.2.2.1)) p) ((fun p:(Fa×(Sm)×(List UInt8)×Unit)=>I5 p.1 p.2.1 p.2.2.1) p):=fun p _ _=>⟨(Da p.1 (Ed p.1 p.2.1 p.2.2.1)).1,⟨rfl,_,_,rfl,Wf _ _ rfl⟩⟩
noncomputable def V4 {X:Ctx} {w0:World} (h:Ry):Sy.Spec Try.prog X w0:=Di 100 Try.call100 (I6) (fun p:(Fa×(Sm)×(List UInt8)×Unit)=>Mo p.1 p.2.1 p.2.2.1) (fun p:(Fa×(Sm)×(List UInt8)×Unit)=>JF p.1 p.2.1 p.2.2.1) (fun p:(Fa×(Sm)×(List UInt8)×Unit)=>I5 p.1 p.2.1 p.2.2.1) (fun p:(Fa×(Sm)×(List UInt8)×Unit)=>Fa.memO (Ed p.1 p.2.1 p.2.2.1)) (fun p:(Fa×(Sm)×(List UInt8)×Unit)=>mlO (Fa.pan (H7 p.1 p.2.1 p.2.2.1))) (oW) (oX) (oY) (fun _=>rfl) h
theorem oZ {X:Ctx} {w0:World} (h:Ry):(V4 (X:=X) (w0:=w0) h).f=100:=rfl
theorem oa {X:Ctx} {w0:World} (h:Ry) (t:Nat) (args:List SV) (H:Hp):(V4 (X:=X) (w0:=w0) h).fn t args H=spL X ((I6).d H args) t H (fun p:(Fa×(Sm)×(List UInt8)×Unit)=>Mo p.1 p.2.1 p.2.2.1) (fun p:(Fa×(Sm)×(List UInt8)×Unit)=>JF p.1 p.2.1 p.2.2.1) (fun p:(Fa×(Sm)×(List UInt8)×Unit)=>I5 p.1 p.2.1 p.2.2.1) (fun p:(Fa×(Sm)×(List UInt8)×Unit)=>Fa.memO (Ed p.1 p.2.1 p.2.2.1)) (fun p:(Fa×(Sm)×(List UInt8)×Unit)=>mlO (Fa.pan (H7 p.1 p.2.1 p.2.2.1))):=rfl
attribute[local go_sem] xt JF Ed H7 in
theorem vT:Ry:=by
 rintro ⟨q,s,x,_u⟩ w M I lab fz xs hc hA hl hx
 refine UE Try.func100 rfl (Fa.mem q) w M I lab fz (JF q s x) (Fa.pan (H7 q s x)) (Fa.memO (Ed q s x)) [Bf] [] ((I6).args ⟨q,s,x,_u⟩) 1 ([(0,8)]) (2) (((G8 q x).vl 0).toNat) (0) xs hA hl hx (H6 _ _ _ _) (jN rfl) (Nat.le_refl _) rfl (Im _) ?_
 clear hx hl hA xs
 simp only[Try.f100]
 have hc1:okC q.P q.m:=hc
 obtain⟨k0,x1,y,e0,f0,cd0,ar0,th0,el0,no0⟩:=s
 have hvg:∀o,Ap q.vs x=o→(G0 q.vs x)=o.getD va0:=fun o ho=>by unfold G0;rw[ho]
 cases h1:Ap q.vs x with
 |none=>
  have h:G8 q x= .no 2:=by unfold G8 G0;rw[h1];rfl
  simp only[↓eB,seval,go_sem,↓A1,Option.isSome_some,Option.isSome_none,h1,h,vR]
  try simp only[A3,A4]
  repeat' first|exact ck|with_reducible apply And.intro|intro _
  all_goals first|exact trivial|(rename_i h;first|exact oI h|exact nah h)|(rename_i _ h _ g;exact sL h g)|decide|omega|(refine A0 [] ?_;simp only[↓eB,seval,go_sem,bne,I5,Ma,↓A1,Io,h,h1])
 |some v=>
  have hv:G0 q.vs x=v:=hvg _ h1
  cases hs:((G0 q.vs x).s==[]) with
  |true=>
   have h:G8 q x= .no 2:=by unfold G8;rw[if_pos hs]
   rw[hv]at hs
   simp only[↓eB,seval,go_sem,↓A1,Option.isSome_some,Option.isSome_none,h1,h,hs]
   try simp only[A3,A4]
   repeat' first|exact ck|with_reducible apply And.intro|intro _
   all_goals first|exact trivial|(rename_i h;first|exact oI h|exact nah h)|(rename_i _ h _ g;exact sL h g)|decide|omega|(refine A0 [] ?_;simp only[↓eB,seval,go_sem,bne,I5,Ma,↓A1,Io,h,h1])
  |false=>
   cases h2:q.P.ci (G0 q.vs x).s with
   |none=>
    have h:G8 q x= .no 4:=by unfold G8;rw[if_neg (by rw[hs];decide),h2]
    rw[hv]at hs h2
    simp only[↓eB,seval,go_sem,↓A1,Option.isSome_some,Option.isSome_none,h1,h,hs,h2]
    try simp only[A3,A4]
    repeat' first|exact ck|with_reducible apply And.intro|intro _
    all_goals first|exact trivial|(rename_i h;first|exact oI h|exact nah h)|(rename_i _ h _ g;exact sL h g)|decide|omega|(refine A0 [] ?_;simp only[↓eB,seval,go_sem,bne,I5,Ma,↓A1,Io,h,h1])
   |some i=>
    have h:G8 q x= .ok i:=by unfold G8;rw[if_neg (by rw[hs];decide),h2]
    have hi:=Pg.ci_lt hc1 h2
    rw[hv]at hs h2
    simp only[↓eB,seval,go_sem,↓A1,Option.isSome_some,Option.isSome_none,h1,h,hs,h2]
    try simp only[A3,A4]
    repeat' first|exact ck|with_reducible apply And.intro|intro _
    all_goals first|exact hi.1|exact hi.2|(rename_i h;first|exact oI h|exact nah h)|(rename_i _ h _ g;exact sL h g)|decide|omega|(refine A0 [] ?_;simp only[↓eB,seval,go_sem,bne,I5,Ma,↓A1,Io,h,h1])
noncomputable def ZV {X:Ctx} {w0:World}:Sy.Spec Try.prog X w0:=V4 vT
abbrev Mp (q:Fa) (s:Sm) (i:Int):Prop:=okC q.P q.m∧∀a∈q.m.ar,a.l.length≤1000000000
abbrev JG (q:Fa) (s:Sm) (i:Int):Bool:=(Eu q s i).b
abbrev Ee (q:Fa) (s:Sm) (i:Int):Fa:=evA q s (Eu q s i)
abbrev H8 (q:Fa) (s:Sm) (i:Int):Fa:=evW q s (Eu q s i)
abbrev I7 (q:Fa) (s:Sm) (i:Int):SV:=.one (.q 1 0 ([(0,9),(((Eu q s i).vl 0).toNat,1)]) (1) ((if (Eu q s i).b=true then 0 else i.toNat)) (0))
theorem oc:∀b,∀v∈ArgC.e (acS (cSp) (acS (cInt .i64) ac0)) b,v.tupB=false:=by rintro ⟨x0,x1,_⟩ v hv;simp only[Hl,Hk,List.mem_cons,List.not_mem_nil,or_false]at hv;rcases hv with rfl|rfl<;>first|rfl|exact J0 _|exact J1 _
noncomputable abbrev I8:ArgL (Fa×(Sm)×(Int)×Unit):=amFr (acS (cSp) (acS (cInt .i64) ac0)) oc
abbrev Rz:Prop:=E9 Try.prog 101 (I8).args (I8).mem (fun p:(Fa×(Sm)×(Int)×Unit)=>Mp p.1 p.2.1 p.2.2.1) (fun p:(Fa×(Sm)×(Int)×Unit)=>JG p.1 p.2.1 p.2.2.1) (fun p:(Fa×(Sm)×(Int)×Unit)=>I7 p.1 p.2.1 p.2.2.1) (fun p:(Fa×(Sm)×(Int)×Unit)=>Fa.memO (Ee p.1 p.2.1 p.2.2.1)) (fun p:(Fa×(Sm)×(Int)×Unit)=>mlO (Fa.pan (H8 p.1 p.2.1 p.2.2.1)))
theorem od:∀p,(fun p:(Fa×(Sm)×(Int)×Unit)=>Mp p.1 p.2.1 p.2.2.1) p→(fun p:(Fa×(Sm)×(Int)×Unit)=>JG p.1 p.2.1 p.2.2.1) p=false→Dr ((I8).mem p).length ((fun p:(Fa×(Sm)×(Int)×Unit)=>Fa.memO (Ee p.1 p.2.1 p.2.2.1)) p)=true∧kdL ((I8).mem p) ((fun p:(Fa×(Sm)×(Int)×Unit)=>Fa.memO (Ee p.1 p.2.1 p.2.2.1)) p)=true∧Eb ((fun p:(Fa×(Sm)×(Int)×Unit)=>Fa.memO (Ee p.1 p.2.1 p.2.2.1)) p) ((fun p:(Fa×(Sm)×(Int)×Unit)=>I7 p.1 p.2.1 p.2.2.1) p)∧∀q,some q∈(fun p:(Fa×(Sm)×(Int)×Unit)=>Fa.memO (Ee p.1 p.2.1 p.2.2.1)) p→DP ((fun p:(Fa×(Sm)×(Int)×Unit)=>Fa.memO (Ee p.1 p.2.1 p.2.2.1)) p).length q:=fun p _ _=>have h:=Da p.1 (Ee p.1 p.2.1 p.2.2.1);⟨h.1,h.2.1,⟨rfl,_,_,rfl,Wf _ _ rfl⟩,h.2.2⟩
theorem oe:∀p,(fun p:(Fa×(Sm)×(Int)×Unit)=>Mp p.1 p.2.1 p.2.2.1) p→(fun p:(Fa×(Sm)×(Int)×Unit)=>JG p.1 p.2.1 p.2.2.1) p=true→((fun p:(Fa×(Sm)×(Int)×Unit)=>mlO (Fa.pan (H8 p.1 p.2.1 p.2.2.1))) p).length=((I8).mem p).length∧kdL ((I8).mem p) ((fun p:(Fa×(Sm)×(Int)×Unit)=>mlO (Fa.pan (H8 p.1 p.2.1 p.2.2.1))) p)=true∧∀q,some q∈(fun p:(Fa×(Sm)×(Int)×Unit)=>mlO (Fa.pan (H8 p.1 p.2.1 p.2.2.1))) p→DP ((fun p:(Fa×(Sm)×(Int)×Unit)=>mlO (Fa.pan (H8 p.1 p.2.1 p.2.2.1))) p).length q:=fun p _ _=>Il p.1 (H8 p.1 p.2.1 p.2.2.1)
theorem og:∀p,(fun p:(Fa×(Sm)×(Int)×Unit)=>Mp p.1 p.2.1 p.2.2.1) p→(fun p:(Fa×(Sm)×(Int)×Unit)=>JG p.1 p.2.1 p.2.2.1) p=true→Dr ((I8).mem p).length ((fun p:(Fa×(Sm)×(Int)×Unit)=>Fa.memO (Ee p.1 p.2.1 p.2.2.1)) p)=true∧Eb ((fun p:(Fa×(Sm)×(Int)×Unit)=>Fa.memO (Ee p.1 p.2.1 p.2.2.1)) p) ((fun p:(Fa×(Sm)×(Int)×Unit)=>I7 p.1 p.2.1 p.2.2.1) p):=fun p _ _=>⟨(Da p.1 (Ee p.1 p.2.1 p.2.2.1)).1,⟨rfl,_,_,rfl,Wf _ _ rfl⟩⟩
noncomputable def V5 {X:Ctx} {w0:World} (h:Rz):Sy.Spec Try.prog X w0:=Di 101 Try.call101 (I8) (fun p:(Fa×(Sm)×(Int)×Unit)=>Mp p.1 p.2.1 p.2.2.1) (fun p:(Fa×(Sm)×(Int)×Unit)=>JG p.1 p.2.1 p.2.2.1) (fun p:(Fa×(Sm)×(Int)×Unit)=>I7 p.1 p.2.1 p.2.2.1) (fun p:(Fa×(Sm)×(Int)×Unit)=>Fa.memO (Ee p.1 p.2.1 p.2.2.1)) (fun p:(Fa×(Sm)×(Int)×Unit)=>mlO (Fa.pan (H8 p.1 p.2.1 p.2.2.1))) (od) (oe) (og) (fun _=>rfl) h
theorem oh {X:Ctx} {w0:World} (h:Rz):(V5 (X:=X) (w0:=w0) h).f=101:=rfl
theorem oi {X:Ctx} {w0:World} (h:Rz) (t:Nat) (args:List SV) (H:Hp):(V5 (X:=X) (w0:=w0) h).fn t args H=spL X ((I8).d H args) t H (fun p:(Fa×(Sm)×(Int)×Unit)=>Mp p.1 p.2.1 p.2.2.1) (fun p:(Fa×(Sm)×(Int)×Unit)=>JG p.1 p.2.1 p.2.2.1) (fun p:(Fa×(Sm)×(Int)×Unit)=>I7 p.1 p.2.1 p.2.2.1) (fun p:(Fa×(Sm)×(Int)×Unit)=>Fa.memO (Ee p.1 p.2.1 p.2.2.1)) (fun p:(Fa×(Sm)×(Int)×Unit)=>mlO (Fa.pan (H8 p.1 p.2.1 p.2.2.1))):=rfl
attribute[local go_sem] xt JG Ee H8 in
theorem vU:Rz:=by
 rintro ⟨q,s,i,_u⟩ w M I lab fz xs hc hA hl hx
 refine UE Try.func101 rfl (Fa.mem q) w M I lab fz (JG q s i) (Fa.pan (H8 q s i)) (Fa.memO (Ee q s i)) [Bf] [] ((I8).args ⟨q,s,i,_u⟩) 1 ([(0,9),(((Eu q s i).vl 0).toNat,1)]) (1) ((if (Eu q s i).b=true then 0 else i.toNat)) (0) xs hA hl hx (H6 _ _ _ _) (jN rfl) (Nat.le_refl _) rfl (Im _) ?_
 clear hx hl hA xs
 simp only[Try.f101]
 obtain⟨hc1,hc2⟩:=hc
 dsimp only at hc1 hc2
 obtain⟨k0,x,y,e0,f0,cd0,ar0,th0,el0,no0⟩:=s
 cases h2:q.P.ai y with
 |none=>
  have h:Eu q (.mk k0 x y e0 f0 cd0 ar0 th0 el0 no0) i= .no 4:=by unfold Eu;rw[show q.P.ai (Sm.mk k0 x y e0 f0 cd0 ar0 th0 el0 no0).y=none from h2]
  simp only[↓eB,seval,go_sem,↓A1,Option.isSome_some,Option.isSome_none,h,h2]
  try simp only[A3,A4]
  repeat' first|exact ck|with_reducible apply And.intro|intro _
  all_goals first|exact trivial|(rename_i h;first|exact oI h|exact nah h)|(rename_i _ h _ g;exact sL h g)|decide|omega|(refine A0 [] ?_;simp only[↓eB,seval,go_sem,bne,I7,Ma,↓A1,Io,h])
 |some k=>
  have hi:=Pg.ai_lt hc1 h2
  have hg:=Xs hi
  have ha:(q.m.ar.getD k.toNat ⟨[],[]⟩).l.length≤1000000000:=hc2 _ (by
   have:k.toNat<q.m.ar.length:=by omega
   rw[List.getD,List.getElem?_eq_getElem this];exact List.getElem_mem this)
  cases n1:decide (i<0) with
  |true=>
   have h:Eu q (.mk k0 x y e0 f0 cd0 ar0 th0 el0 no0) i= .no 1:=by unfold Eu;rw[show q.P.ai (Sm.mk k0 x y e0 f0 cd0 ar0 th0 el0 no0).y=some k from h2];exact if_pos (.inl (of_decide_eq_true n1))
   simp only[↓eB,seval,go_sem,↓A1,Option.isSome_some,Option.isSome_none,h,h2,hg,n1]
   try simp only[A3,A4]
   repeat' first|exact ck|with_reducible apply And.intro|intro _
   all_goals first|exact hi.1|exact hi.2|(rename_i h;first|exact oI h|exact nah h)|(rename_i _ h _ g;exact sL h g)|decide|omega|(refine A0 [] ?_;simp only[↓eB,seval,go_sem,bne,I7,Ma,↓A1,Io,h])
  |false=>
   cases n2:decide (((q.m.ar.getD k.toNat ⟨[],[]⟩).l.length:Int)≤i) with
   |true=>
    have h:Eu q (.mk k0 x y e0 f0 cd0 ar0 th0 el0 no0) i= .no 1:=by unfold Eu;rw[show q.P.ai (Sm.mk k0 x y e0 f0 cd0 ar0 th0 el0 no0).y=some k from h2];exact if_pos (.inr (of_decide_eq_true n2))
    simp only[↓eB,seval,go_sem,↓A1,Option.isSome_some,Option.isSome_none,h,h2,hg,n1,n2]
    try simp only[A3,A4]
    repeat' first|exact ck|with_reducible apply And.intro|intro _
    all_goals first|exact hi.1|exact hi.2|(rename_i h;first|exact oI h|exact nah h)|(rename_i _ h _ g;exact sL h g)|decide|omega|(refine A0 [] ?_;simp only[↓eB,seval,go_sem,bne,I7,Ma,↓A1,Io,h])
   |false=>
    have m1:=of_decide_eq_false n1
    have m2:=of_decide_eq_false n2
    have h:Eu q (.mk k0 x y e0 f0 cd0 ar0 th0 el0 no0) i= .ok k:=by unfold Eu;rw[show q.P.ai (Sm.mk k0 x y e0 f0 cd0 ar0 th0 el0 no0).y=some k from h2];exact if_neg (fun hh=>by rcases hh with hh|hh;exact m1 hh;exact m2 hh)
    simp only[↓eB,seval,go_sem,↓A1,Option.isSome_some,Option.isSome_none,h,h2,hg,n1,n2]
    try simp only[A3,A4]
    repeat' first|exact ck|with_reducible apply And.intro|intro _
    all_goals first|exact hi.1|exact hi.2|(rename_i h;first|exact oI h|exact nah h)|(rename_i _ h _ g;exact sL h g)|decide|omega|(refine A0 [] ?_;simp only[↓eB,seval,go_sem,bne,I7,Ma,↓A1,Io,h])
noncomputable def ZW {X:Ctx} {w0:World}:Sy.Spec Try.prog X w0:=V5 vU
end Go.Proofs.Ytjnnmindcbgjhaa
