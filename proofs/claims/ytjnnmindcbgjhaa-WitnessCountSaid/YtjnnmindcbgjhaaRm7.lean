/- A frame's assignments and places, walked. No conditions but those in each statement. -/
import Derived.Test.YtjnnmindcbgjhaaRm5
set_option linter.unusedVariables false
set_option linter.unusedSimpArgs false
set_option maxRecDepth 20000
set_option maxHeartbeats 16000000
namespace Go.Proofs.Ytjnnmindcbgjhaa
open Go Go.Sy Go.RowKit
theorem cz (l:List Nb) (i:Nat) (s:List UInt8) (v:Int):(l.map Nb.c).set i [.v (.string (bs s)),.v (.int .i64 v)]=(l.set i ⟨s,v⟩).map Nb.c:=(List.map_set (f:=Nb.c) (a:=⟨s,v⟩)).symm
theorem uI (l:List Na) (i:Nat) (s:List UInt8) (x:List Int):(l.map Na.c).set i [.v (.string (bs s)),.ov zI (x.map cI)]=(l.set i ⟨s,x⟩).map Na.c:=(List.map_set (f:=Na.c) (a:=⟨s,x⟩)).symm
theorem uJ (l:List Int) (i:Nat) (v:Int):(l.map cI).set i [.v (.int .i64 v)]=(l.set i v).map cI:=(List.map_set (f:=cI) (a:=v)).symm
theorem uK:(([]:List UInt8)==[])=true:=rfl
theorem IX (k u0 v:Nat) (p:List (Nat×Nat)) (s m o:Nat) (z0 z1:List C) (es0 es1:List (List C)):(∃u z es,SV.one (C.q k u0 p s m o)=SV.one (C.q k u p s m o)∧some (Ch.vec v z0 es0)=some (Ch.vec u z es)∧some (some (ML.vec z1 es1))=some (some (ML.vec z es)))=(v=u0∧z1=z0∧es1=es0):=by
 refine propext ⟨?_,?_⟩
 ·rintro ⟨u,z,es,h1,h2,h3⟩
  simp only[SV.one.injEq,C.q.injEq,jS,Ch.vec.injEq,ML.vec.injEq,and_true,true_and]at h1 h2 h3
  obtain⟨rfl,rfl,rfl⟩:=h2
  exact⟨h1.symm,h3.1,h3.2⟩
 ·rintro ⟨rfl,rfl,rfl⟩
  exact⟨_,_,_,rfl,rfl,rfl⟩
theorem put_get {α:Type} (s:List UInt8) (v:α):∀es:List (List UInt8×α),B4 (CB es s v) s=some v
 |[]=>by simp[CB,B4]
 |(a,b)::r=>by
  simp only[CB]
  split
  ·simp only[B4,beq_self_eq_true,if_true]
  ·rename_i h
   simp only[B4];rw[if_neg h];exact put_get s v r
theorem gK (q:Fa) (s:Sm) (v:Int):FE (q.dead s) s v=Fa.go { q.dead s with vs:=CB (q.dead s).vs s.x ⟨false,v,[]⟩ }:=by
 have h:B4 (q.dead s).vs s.x=some va0:=put_get s.x va0 q.vs
 unfold FE
 rw[h]
abbrev MY (q:Fa) (s:Sm) (v:Int):Prop:=B4 q.vs s.x=none→okC q.P q.m
abbrev C2 (q:Fa) (s:Sm) (v:Int):Bool:=(FE q s v).b
abbrev BJ (q:Fa) (s:Sm) (v:Int):Fa:=(FE q s v).q
abbrev Br (q:Fa) (s:Sm) (v:Int):Fa:=(FE q s v).q
abbrev Bv (q:Fa) (s:Sm) (v:Int):SV:=.tup []
theorem nA:∀b,∀v∈ArgC.e (acS (cSp) (acS (cInt .i64) ac0)) b,v.tupB=false:=by rintro ⟨x0,x1,_⟩ v hv;simp only[HU,HT,List.mem_cons,List.not_mem_nil,or_false]at hv;rcases hv with rfl|rfl<;>first|rfl|exact Ik _|exact Il _
noncomputable abbrev Hm:ArgL (Fa×(Sm)×(Int)×Unit):=amFr (acS (cSp) (acS (cInt .i64) ac0)) nA
abbrev Rk:Prop:=E8 Try.prog 97 (Hm).args (Hm).mem (fun p:(Fa×(Sm)×(Int)×Unit)=>MY p.1 p.2.1 p.2.2.1) (fun p:(Fa×(Sm)×(Int)×Unit)=>C2 p.1 p.2.1 p.2.2.1) (fun p:(Fa×(Sm)×(Int)×Unit)=>Bv p.1 p.2.1 p.2.2.1) (fun p:(Fa×(Sm)×(Int)×Unit)=>Fa.memO (BJ p.1 p.2.1 p.2.2.1)) (fun p:(Fa×(Sm)×(Int)×Unit)=>mlO (Fa.pan (Br p.1 p.2.1 p.2.2.1)))
theorem nB:∀p,(fun p:(Fa×(Sm)×(Int)×Unit)=>MY p.1 p.2.1 p.2.2.1) p→(fun p:(Fa×(Sm)×(Int)×Unit)=>C2 p.1 p.2.1 p.2.2.1) p=false→Dr ((Hm).mem p).length ((fun p:(Fa×(Sm)×(Int)×Unit)=>Fa.memO (BJ p.1 p.2.1 p.2.2.1)) p)=true∧kdL ((Hm).mem p) ((fun p:(Fa×(Sm)×(Int)×Unit)=>Fa.memO (BJ p.1 p.2.1 p.2.2.1)) p)=true∧EX ((fun p:(Fa×(Sm)×(Int)×Unit)=>Fa.memO (BJ p.1 p.2.1 p.2.2.1)) p) ((fun p:(Fa×(Sm)×(Int)×Unit)=>Bv p.1 p.2.1 p.2.2.1) p)∧∀q,some q∈(fun p:(Fa×(Sm)×(Int)×Unit)=>Fa.memO (BJ p.1 p.2.1 p.2.2.1)) p→DO ((fun p:(Fa×(Sm)×(Int)×Unit)=>Fa.memO (BJ p.1 p.2.1 p.2.2.1)) p).length q:=fun p _ _=>have h:=DZ p.1 (BJ p.1 p.2.1 p.2.2.1);⟨h.1,h.2.1,rfl,h.2.2⟩
theorem nC:∀p,(fun p:(Fa×(Sm)×(Int)×Unit)=>MY p.1 p.2.1 p.2.2.1) p→(fun p:(Fa×(Sm)×(Int)×Unit)=>C2 p.1 p.2.1 p.2.2.1) p=true→((fun p:(Fa×(Sm)×(Int)×Unit)=>mlO (Fa.pan (Br p.1 p.2.1 p.2.2.1))) p).length=((Hm).mem p).length∧kdL ((Hm).mem p) ((fun p:(Fa×(Sm)×(Int)×Unit)=>mlO (Fa.pan (Br p.1 p.2.1 p.2.2.1))) p)=true∧∀q,some q∈(fun p:(Fa×(Sm)×(Int)×Unit)=>mlO (Fa.pan (Br p.1 p.2.1 p.2.2.1))) p→DO ((fun p:(Fa×(Sm)×(Int)×Unit)=>mlO (Fa.pan (Br p.1 p.2.1 p.2.2.1))) p).length q:=fun p _ _=>IV p.1 (Br p.1 p.2.1 p.2.2.1)
theorem nD:∀p,(fun p:(Fa×(Sm)×(Int)×Unit)=>MY p.1 p.2.1 p.2.2.1) p→(fun p:(Fa×(Sm)×(Int)×Unit)=>C2 p.1 p.2.1 p.2.2.1) p=true→Dr ((Hm).mem p).length ((fun p:(Fa×(Sm)×(Int)×Unit)=>Fa.memO (BJ p.1 p.2.1 p.2.2.1)) p)=true∧EX ((fun p:(Fa×(Sm)×(Int)×Unit)=>Fa.memO (BJ p.1 p.2.1 p.2.2.1)) p) ((fun p:(Fa×(Sm)×(Int)×Unit)=>Bv p.1 p.2.1 p.2.2.1) p):=fun p _ _=>⟨(DZ p.1 (BJ p.1 p.2.1 p.2.2.1)).1,rfl⟩
noncomputable def Uj {X:Ctx} {w0:World} (h:Rk):Sy.Spec Try.prog X w0:=Dj 97 Try.call97 (Hm) (fun p:(Fa×(Sm)×(Int)×Unit)=>MY p.1 p.2.1 p.2.2.1) (fun p:(Fa×(Sm)×(Int)×Unit)=>C2 p.1 p.2.1 p.2.2.1) (fun p:(Fa×(Sm)×(Int)×Unit)=>Bv p.1 p.2.1 p.2.2.1) (fun p:(Fa×(Sm)×(Int)×Unit)=>Fa.memO (BJ p.1 p.2.1 p.2.2.1)) (fun p:(Fa×(Sm)×(Int)×Unit)=>mlO (Fa.pan (Br p.1 p.2.1 p.2.2.1))) (nB) (nC) (nD) (fun _=>rfl) h
theorem D7 {X:Ctx} {w0:World} (h:Rk):(Uj (X:=X) (w0:=w0) h).f=97:=rfl
theorem D8 {X:Ctx} {w0:World} (h:Rk) (t:Nat) (args:List SV) (H:Hp):(Uj (X:=X) (w0:=w0) h).fn t args H=spL X ((Hm).d H args) t H (fun p:(Fa×(Sm)×(Int)×Unit)=>MY p.1 p.2.1 p.2.2.1) (fun p:(Fa×(Sm)×(Int)×Unit)=>C2 p.1 p.2.1 p.2.2.1) (fun p:(Fa×(Sm)×(Int)×Unit)=>Bv p.1 p.2.1 p.2.2.1) (fun p:(Fa×(Sm)×(Int)×Unit)=>Fa.memO (BJ p.1 p.2.1 p.2.2.1)) (fun p:(Fa×(Sm)×(Int)×Unit)=>mlO (Fa.pan (Br p.1 p.2.1 p.2.2.1))):=rfl
attribute [local go_sem] Ev.b Ev.vl Fa.mem Fa.memO Fa.pan ML.ch ML.ren Ms.brk Ms.exh Ms.spd Sm.ar Sm.cd Sm.e Sm.el Sm.f Sm.k Sm.no Sm.th Sm.x Sm.y Va.c G5 G4 G6 Dl BG BP BQ BC BN BO KX KW Cy Cx chL evA evW ID EK EJ GA fcN Im frC IE G3 lmH lmO Fk HH HI mcC IF HG mcW E9 DQ DR Bg Bf Bh Bi Fl nmX AB AA Es Eh Dt Du Fo Fm FM FL EN F7 rnC H7 AK DA Ds DP CR EW va0 vrQ IG Io FO Cl Cm Bd Be B6 BM
attribute[local go_sem] xt C2 BJ Br in
theorem uL:Rk:=by
 rintro ⟨q,s,v,_u⟩ w M I lab fz xs hc hA hl hx
 refine Cf Try.func97 rfl (Fa.mem q) w M I lab fz (C2 q s v) (Fa.pan (Br q s v)) (Fa.memO (BJ q s v)) [Be] [] ((Hm).args ⟨q,s,v,_u⟩) (Bv q s v) xs hA hl hx (Gn _ _ _ _) (jN rfl) (Nat.le_refl _) rfl (IW _) ?_
 clear hx hl hA xs
 simp only[Try.f97]
 have hc1:B4 q.vs s.x=none→okC q.P q.m:=hc
 obtain⟨k0,x,y,e0,f0,cd0,ar0,th0,el0,no0⟩:=s
 cases h1:B4 q.vs x with
 |some u=>
  have h:FE q (.mk k0 x y e0 f0 cd0 ar0 th0 el0 no0) v=Fa.go { q with vs:=CB q.vs x ⟨false,v,[]⟩ }:=by unfold FE;rw[show B4 q.vs (Sm.mk k0 x y e0 f0 cd0 ar0 th0 el0 no0).x=some u from h1];rfl
  simp only[↓eB,seval,go_sem,↓A1,Option.isSome_some,Option.isSome_none,h1,h,Fa.go,M0]
  try simp only[A2,A3]
  repeat' first|exact ck|with_reducible apply And.intro|intro _
  all_goals first|exact trivial|(rename_i h;first|exact oI h|exact nah h)|(rename_i _ h _ g;exact sL h g)|decide|omega|(refine A0 [] ?_;simp only[↓eB,seval,go_sem,bne,Bv,A6,↓A1,IX,h,Fa.go])
 |none=>
  have hc2:okC q.P q.m:=hc1 h1
  cases h2:q.P.ci x with
  |none=>
   have h:FE q (.mk k0 x y e0 f0 cd0 ar0 th0 el0 no0) v=q.brk (.mk k0 x y e0 f0 cd0 ar0 th0 el0 no0) 4:=by unfold FE;rw[show B4 q.vs (Sm.mk k0 x y e0 f0 cd0 ar0 th0 el0 no0).x=none from h1,show q.P.ci (Sm.mk k0 x y e0 f0 cd0 ar0 th0 el0 no0).x=none from h2]
   simp only[↓eB,seval,go_sem,↓A1,Option.isSome_some,Option.isSome_none,h1,h2,h,Fa.brk]
   try simp only[A2,A3]
   repeat' first|exact ck|with_reducible apply And.intro|intro _
   all_goals first|exact trivial|(rename_i h;first|exact oI h|exact nah h)|(rename_i _ h _ g;exact sL h g)|decide|omega|(refine A0 [] ?_;simp only[↓eB,seval,go_sem,bne,Bv,A6,↓A1,IX,h,Fa.brk])
  |some i=>
   have h:FE q (.mk k0 x y e0 f0 cd0 ar0 th0 el0 no0) v=Fa.go { q with m:=q.m.set i v }:=by unfold FE;rw[show B4 q.vs (Sm.mk k0 x y e0 f0 cd0 ar0 th0 el0 no0).x=none from h1,show q.P.ci (Sm.mk k0 x y e0 f0 cd0 ar0 th0 el0 no0).x=some i from h2]
   have hi:=Pg.ci_lt hc2 h2
   have hg:=Tz hi
   simp only[↓eB,seval,go_sem,↓A1,Option.isSome_some,Option.isSome_none,h1,h2,h,hg,Fa.go,Ms.set,cz]
   try simp only[A2,A3]
   repeat' first|exact ck|with_reducible apply And.intro|intro _
   all_goals first|exact hi.1|exact hi.2|(rename_i h;first|exact oI h|exact nah h)|(rename_i _ h _ g;exact sL h g)|decide|omega|(refine A0 [] ?_;simp only[↓eB,seval,go_sem,bne,Bv,A6,↓A1,IX,h,Fa.go,Ms.set])
noncomputable def Ck {X:Ctx} {w0:World}:Sy.Spec Try.prog X w0:=Uj uL
abbrev MZ (q:Fa) (s:Sm) (x:List UInt8):Prop:=okC q.P q.m
abbrev J3 (q:Fa) (s:Sm) (x:List UInt8):Bool:=(Fv q x).b
abbrev Ea (q:Fa) (s:Sm) (x:List UInt8):Fa:=evA q s (Fv q x)
abbrev Gp (q:Fa) (s:Sm) (x:List UInt8):Fa:=evW q s (Fv q x)
abbrev Hn (q:Fa) (s:Sm) (x:List UInt8):SV:=.one (.q 1 0 ([(0,8)]) (2) (((Fv q x).vl 0).toNat) (0))
theorem nE:∀b,∀v∈ArgC.e (acS (cSp) (acS (cStr) ac0)) b,v.tupB=false:=by rintro ⟨x0,x1,_⟩ v hv;simp only[HU,HT,List.mem_cons,List.not_mem_nil,or_false]at hv;rcases hv with rfl|rfl<;>first|rfl|exact Ik _|exact Il _
noncomputable abbrev Ho:ArgL (Fa×(Sm)×(List UInt8)×Unit):=amFr (acS (cSp) (acS (cStr) ac0)) nE
abbrev Rl:Prop:=E8 Try.prog 100 (Ho).args (Ho).mem (fun p:(Fa×(Sm)×(List UInt8)×Unit)=>MZ p.1 p.2.1 p.2.2.1) (fun p:(Fa×(Sm)×(List UInt8)×Unit)=>J3 p.1 p.2.1 p.2.2.1) (fun p:(Fa×(Sm)×(List UInt8)×Unit)=>Hn p.1 p.2.1 p.2.2.1) (fun p:(Fa×(Sm)×(List UInt8)×Unit)=>Fa.memO (Ea p.1 p.2.1 p.2.2.1)) (fun p:(Fa×(Sm)×(List UInt8)×Unit)=>mlO (Fa.pan (Gp p.1 p.2.1 p.2.2.1)))
theorem nF:∀p,(fun p:(Fa×(Sm)×(List UInt8)×Unit)=>MZ p.1 p.2.1 p.2.2.1) p→(fun p:(Fa×(Sm)×(List UInt8)×Unit)=>J3 p.1 p.2.1 p.2.2.1) p=false→Dr ((Ho).mem p).length ((fun p:(Fa×(Sm)×(List UInt8)×Unit)=>Fa.memO (Ea p.1 p.2.1 p.2.2.1)) p)=true∧kdL ((Ho).mem p) ((fun p:(Fa×(Sm)×(List UInt8)×Unit)=>Fa.memO (Ea p.1 p.2.1 p.2.2.1)) p)=true∧EX ((fun p:(Fa×(Sm)×(List UInt8)×Unit)=>Fa.memO (Ea p.1 p.2.1 p.2.2.1)) p) ((fun p:(Fa×(Sm)×(List UInt8)×Unit)=>Hn p.1 p.2.1 p.2.2.1) p)∧∀q,some q∈(fun p:(Fa×(Sm)×(List UInt8)×Unit)=>Fa.memO (Ea p.1 p.2.1 p.2.2.1)) p→DO ((fun p:(Fa×(Sm)×(List UInt8)×Unit)=>Fa.memO (Ea p.1 p.2.1 p.2.2.1)) p).length q:=fun p _ _=>have h:=DZ p.1 (Ea p.1 p.2.1 p.2.2.1);⟨h.1,h.2.1,⟨rfl,_,_,rfl,WH _ _ rfl⟩,h.2.2⟩
theorem nG:∀p,(fun p:(Fa×(Sm)×(List UInt8)×Unit)=>MZ p.1 p.2.1 p.2.2.1) p→(fun p:(Fa×(Sm)×(List UInt8)×Unit)=>J3 p.1 p.2.1 p.2.2.1) p=true→((fun p:(Fa×(Sm)×(List UInt8)×Unit)=>mlO (Fa.pan (Gp p.1 p.2.1 p.2.2.1))) p).length=((Ho).mem p).length∧kdL ((Ho).mem p) ((fun p:(Fa×(Sm)×(List UInt8)×Unit)=>mlO (Fa.pan (Gp p.1 p.2.1 p.2.2.1))) p)=true∧∀q,some q∈(fun p:(Fa×(Sm)×(List UInt8)×Unit)=>mlO (Fa.pan (Gp p.1 p.2.1 p.2.2.1))) p→DO ((fun p:(Fa×(Sm)×(List UInt8)×Unit)=>mlO (Fa.pan (Gp p.1 p.2.1 p.2.2.1))) p).length q:=fun p _ _=>IV p.1 (Gp p.1 p.2.1 p.2.2.1)
theorem nH:∀p,(fun p:(Fa×(Sm)×(List UInt8)×Unit)=>MZ p.1 p.2.1 p.2.2.1) p→(fun p:(Fa×(Sm)×(List UInt8)×Unit)=>J3 p.1 p.2.1 p.2.2.1) p=true→Dr ((Ho).mem p).length ((fun p:(Fa×(Sm)×(List UInt8)×Unit)=>Fa.memO (Ea p.1 p.2.1 p.2.2.1)) p)=true∧EX ((fun p:(Fa×(Sm)×(List UInt8)×Unit)=>Fa.memO (Ea p.1 p.2.1 p.2.2.1)) p) ((fun p:(Fa×(Sm)×(List UInt8)×Unit)=>Hn p.1 p.2.1 p.2.2.1) p):=fun p _ _=>⟨(DZ p.1 (Ea p.1 p.2.1 p.2.2.1)).1,⟨rfl,_,_,rfl,WH _ _ rfl⟩⟩
noncomputable def Uk {X:Ctx} {w0:World} (h:Rl):Sy.Spec Try.prog X w0:=Dj 100 Try.call100 (Ho) (fun p:(Fa×(Sm)×(List UInt8)×Unit)=>MZ p.1 p.2.1 p.2.2.1) (fun p:(Fa×(Sm)×(List UInt8)×Unit)=>J3 p.1 p.2.1 p.2.2.1) (fun p:(Fa×(Sm)×(List UInt8)×Unit)=>Hn p.1 p.2.1 p.2.2.1) (fun p:(Fa×(Sm)×(List UInt8)×Unit)=>Fa.memO (Ea p.1 p.2.1 p.2.2.1)) (fun p:(Fa×(Sm)×(List UInt8)×Unit)=>mlO (Fa.pan (Gp p.1 p.2.1 p.2.2.1))) (nF) (nG) (nH) (fun _=>rfl) h
theorem nI {X:Ctx} {w0:World} (h:Rl):(Uk (X:=X) (w0:=w0) h).f=100:=rfl
theorem nJ {X:Ctx} {w0:World} (h:Rl) (t:Nat) (args:List SV) (H:Hp):(Uk (X:=X) (w0:=w0) h).fn t args H=spL X ((Ho).d H args) t H (fun p:(Fa×(Sm)×(List UInt8)×Unit)=>MZ p.1 p.2.1 p.2.2.1) (fun p:(Fa×(Sm)×(List UInt8)×Unit)=>J3 p.1 p.2.1 p.2.2.1) (fun p:(Fa×(Sm)×(List UInt8)×Unit)=>Hn p.1 p.2.1 p.2.2.1) (fun p:(Fa×(Sm)×(List UInt8)×Unit)=>Fa.memO (Ea p.1 p.2.1 p.2.2.1)) (fun p:(Fa×(Sm)×(List UInt8)×Unit)=>mlO (Fa.pan (Gp p.1 p.2.1 p.2.2.1))):=rfl
attribute[local go_sem] xt J3 Ea Gp in
theorem uM:Rl:=by
 rintro ⟨q,s,x,_u⟩ w M I lab fz xs hc hA hl hx
 refine Tw Try.func100 rfl (Fa.mem q) w M I lab fz (J3 q s x) (Fa.pan (Gp q s x)) (Fa.memO (Ea q s x)) [Be] [] ((Ho).args ⟨q,s,x,_u⟩) 1 ([(0,8)]) (2) (((Fv q x).vl 0).toNat) (0) xs hA hl hx (Gn _ _ _ _) (jN rfl) (Nat.le_refl _) rfl (IW _) ?_
 clear hx hl hA xs
 simp only[Try.f100]
 have hc1:okC q.P q.m:=hc
 obtain⟨k0,x1,y,e0,f0,cd0,ar0,th0,el0,no0⟩:=s
 have hvg:∀o,B4 q.vs x=o→(Fp q.vs x)=o.getD va0:=fun o ho=>by unfold Fp;rw[ho]
 cases h1:B4 q.vs x with
 |none=>
  have h:Fv q x= .no 2:=by unfold Fv Fp;rw[h1];rfl
  simp only[↓eB,seval,go_sem,↓A1,Option.isSome_some,Option.isSome_none,h1,h,uK]
  try simp only[A2,A3]
  repeat' first|exact ck|with_reducible apply And.intro|intro _
  all_goals first|exact trivial|(rename_i h;first|exact oI h|exact nah h)|(rename_i _ h _ g;exact sL h g)|decide|omega|(refine A0 [] ?_;simp only[↓eB,seval,go_sem,bne,Hn,MM,↓A1,IX,h,h1])
 |some v=>
  have hv:Fp q.vs x=v:=hvg _ h1
  cases hs:((Fp q.vs x).s==[]) with
  |true=>
   have h:Fv q x= .no 2:=by unfold Fv;rw[if_pos hs]
   rw[hv]at hs
   simp only[↓eB,seval,go_sem,↓A1,Option.isSome_some,Option.isSome_none,h1,h,hs]
   try simp only[A2,A3]
   repeat' first|exact ck|with_reducible apply And.intro|intro _
   all_goals first|exact trivial|(rename_i h;first|exact oI h|exact nah h)|(rename_i _ h _ g;exact sL h g)|decide|omega|(refine A0 [] ?_;simp only[↓eB,seval,go_sem,bne,Hn,MM,↓A1,IX,h,h1])
  |false=>
   cases h2:q.P.ci (Fp q.vs x).s with
   |none=>
    have h:Fv q x= .no 4:=by unfold Fv;rw[if_neg (by rw[hs];decide),h2]
    rw[hv]at hs h2
    simp only[↓eB,seval,go_sem,↓A1,Option.isSome_some,Option.isSome_none,h1,h,hs,h2]
    try simp only[A2,A3]
    repeat' first|exact ck|with_reducible apply And.intro|intro _
    all_goals first|exact trivial|(rename_i h;first|exact oI h|exact nah h)|(rename_i _ h _ g;exact sL h g)|decide|omega|(refine A0 [] ?_;simp only[↓eB,seval,go_sem,bne,Hn,MM,↓A1,IX,h,h1])
   |some i=>
    have h:Fv q x= .ok i:=by unfold Fv;rw[if_neg (by rw[hs];decide),h2]
    have hi:=Pg.ci_lt hc1 h2
    rw[hv]at hs h2
    simp only[↓eB,seval,go_sem,↓A1,Option.isSome_some,Option.isSome_none,h1,h,hs,h2]
    try simp only[A2,A3]
    repeat' first|exact ck|with_reducible apply And.intro|intro _
    all_goals first|exact hi.1|exact hi.2|(rename_i h;first|exact oI h|exact nah h)|(rename_i _ h _ g;exact sL h g)|decide|omega|(refine A0 [] ?_;simp only[↓eB,seval,go_sem,bne,Hn,MM,↓A1,IX,h,h1])
noncomputable def ZA {X:Ctx} {w0:World}:Sy.Spec Try.prog X w0:=Uk uM
abbrev Ma (q:Fa) (s:Sm) (i:Int):Prop:=okC q.P q.m∧∀a∈q.m.ar,a.l.length≤1000000000
abbrev J4 (q:Fa) (s:Sm) (i:Int):Bool:=(Et q s i).b
abbrev Eb (q:Fa) (s:Sm) (i:Int):Fa:=evA q s (Et q s i)
abbrev Gq (q:Fa) (s:Sm) (i:Int):Fa:=evW q s (Et q s i)
abbrev Hq (q:Fa) (s:Sm) (i:Int):SV:=.one (.q 1 0 ([(0,9),(((Et q s i).vl 0).toNat,1)]) (1) ((if (Et q s i).b=true then 0 else i.toNat)) (0))
theorem nK:∀b,∀v∈ArgC.e (acS (cSp) (acS (cInt .i64) ac0)) b,v.tupB=false:=by rintro ⟨x0,x1,_⟩ v hv;simp only[HU,HT,List.mem_cons,List.not_mem_nil,or_false]at hv;rcases hv with rfl|rfl<;>first|rfl|exact Ik _|exact Il _
noncomputable abbrev Hr:ArgL (Fa×(Sm)×(Int)×Unit):=amFr (acS (cSp) (acS (cInt .i64) ac0)) nK
abbrev Rm:Prop:=E8 Try.prog 101 (Hr).args (Hr).mem (fun p:(Fa×(Sm)×(Int)×Unit)=>Ma p.1 p.2.1 p.2.2.1) (fun p:(Fa×(Sm)×(Int)×Unit)=>J4 p.1 p.2.1 p.2.2.1) (fun p:(Fa×(Sm)×(Int)×Unit)=>Hq p.1 p.2.1 p.2.2.1) (fun p:(Fa×(Sm)×(Int)×Unit)=>Fa.memO (Eb p.1 p.2.1 p.2.2.1)) (fun p:(Fa×(Sm)×(Int)×Unit)=>mlO (Fa.pan (Gq p.1 p.2.1 p.2.2.1)))
theorem nL:∀p,(fun p:(Fa×(Sm)×(Int)×Unit)=>Ma p.1 p.2.1 p.2.2.1) p→(fun p:(Fa×(Sm)×(Int)×Unit)=>J4 p.1 p.2.1 p.2.2.1) p=false→Dr ((Hr).mem p).length ((fun p:(Fa×(Sm)×(Int)×Unit)=>Fa.memO (Eb p.1 p.2.1 p.2.2.1)) p)=true∧kdL ((Hr).mem p) ((fun p:(Fa×(Sm)×(Int)×Unit)=>Fa.memO (Eb p.1 p.2.1 p.2.2.1)) p)=true∧EX ((fun p:(Fa×(Sm)×(Int)×Unit)=>Fa.memO (Eb p.1 p.2.1 p.2.2.1)) p) ((fun p:(Fa×(Sm)×(Int)×Unit)=>Hq p.1 p.2.1 p.2.2.1) p)∧∀q,some q∈(fun p:(Fa×(Sm)×(Int)×Unit)=>Fa.memO (Eb p.1 p.2.1 p.2.2.1)) p→DO ((fun p:(Fa×(Sm)×(Int)×Unit)=>Fa.memO (Eb p.1 p.2.1 p.2.2.1)) p).length q:=fun p _ _=>have h:=DZ p.1 (Eb p.1 p.2.1 p.2.2.1);⟨h.1,h.2.1,⟨rfl,_,_,rfl,WH _ _ rfl⟩,h.2.2⟩
theorem nM:∀p,(fun p:(Fa×(Sm)×(Int)×Unit)=>Ma p.1 p.2.1 p.2.2.1) p→(fun p:(Fa×(Sm)×(Int)×Unit)=>J4 p.1 p.2.1 p.2.2.1) p=true→((fun p:(Fa×(Sm)×(Int)×Unit)=>mlO (Fa.pan (Gq p.1 p.2.1 p.2.2.1))) p).length=((Hr).mem p).length∧kdL ((Hr).mem p) ((fun p:(Fa×(Sm)×(Int)×Unit)=>mlO (Fa.pan (Gq p.1 p.2.1 p.2.2.1))) p)=true∧∀q,some q∈(fun p:(Fa×(Sm)×(Int)×Unit)=>mlO (Fa.pan (Gq p.1 p.2.1 p.2.2.1))) p→DO ((fun p:(Fa×(Sm)×(Int)×Unit)=>mlO (Fa.pan (Gq p.1 p.2.1 p.2.2.1))) p).length q:=fun p _ _=>IV p.1 (Gq p.1 p.2.1 p.2.2.1)
theorem nN:∀p,(fun p:(Fa×(Sm)×(Int)×Unit)=>Ma p.1 p.2.1 p.2.2.1) p→(fun p:(Fa×(Sm)×(Int)×Unit)=>J4 p.1 p.2.1 p.2.2.1) p=true→Dr ((Hr).mem p).length ((fun p:(Fa×(Sm)×(Int)×Unit)=>Fa.memO (Eb p.1 p.2.1 p.2.2.1)) p)=true∧EX ((fun p:(Fa×(Sm)×(Int)×Unit)=>Fa.memO (Eb p.1 p.2.1 p.2.2.1)) p) ((fun p:(Fa×(Sm)×(Int)×Unit)=>Hq p.1 p.2.1 p.2.2.1) p):=fun p _ _=>⟨(DZ p.1 (Eb p.1 p.2.1 p.2.2.1)).1,⟨rfl,_,_,rfl,WH _ _ rfl⟩⟩
noncomputable def Ul {X:Ctx} {w0:World} (h:Rm):Sy.Spec Try.prog X w0:=Dj 101 Try.call101 (Hr) (fun p:(Fa×(Sm)×(Int)×Unit)=>Ma p.1 p.2.1 p.2.2.1) (fun p:(Fa×(Sm)×(Int)×Unit)=>J4 p.1 p.2.1 p.2.2.1) (fun p:(Fa×(Sm)×(Int)×Unit)=>Hq p.1 p.2.1 p.2.2.1) (fun p:(Fa×(Sm)×(Int)×Unit)=>Fa.memO (Eb p.1 p.2.1 p.2.2.1)) (fun p:(Fa×(Sm)×(Int)×Unit)=>mlO (Fa.pan (Gq p.1 p.2.1 p.2.2.1))) (nL) (nM) (nN) (fun _=>rfl) h
theorem nO {X:Ctx} {w0:World} (h:Rm):(Ul (X:=X) (w0:=w0) h).f=101:=rfl
theorem nP {X:Ctx} {w0:World} (h:Rm) (t:Nat) (args:List SV) (H:Hp):(Ul (X:=X) (w0:=w0) h).fn t args H=spL X ((Hr).d H args) t H (fun p:(Fa×(Sm)×(Int)×Unit)=>Ma p.1 p.2.1 p.2.2.1) (fun p:(Fa×(Sm)×(Int)×Unit)=>J4 p.1 p.2.1 p.2.2.1) (fun p:(Fa×(Sm)×(Int)×Unit)=>Hq p.1 p.2.1 p.2.2.1) (fun p:(Fa×(Sm)×(Int)×Unit)=>Fa.memO (Eb p.1 p.2.1 p.2.2.1)) (fun p:(Fa×(Sm)×(Int)×Unit)=>mlO (Fa.pan (Gq p.1 p.2.1 p.2.2.1))):=rfl
attribute[local go_sem] xt J4 Eb Gq in
theorem uN:Rm:=by
 rintro ⟨q,s,i,_u⟩ w M I lab fz xs hc hA hl hx
 refine Tw Try.func101 rfl (Fa.mem q) w M I lab fz (J4 q s i) (Fa.pan (Gq q s i)) (Fa.memO (Eb q s i)) [Be] [] ((Hr).args ⟨q,s,i,_u⟩) 1 ([(0,9),(((Et q s i).vl 0).toNat,1)]) (1) ((if (Et q s i).b=true then 0 else i.toNat)) (0) xs hA hl hx (Gn _ _ _ _) (jN rfl) (Nat.le_refl _) rfl (IW _) ?_
 clear hx hl hA xs
 simp only[Try.f101]
 obtain⟨hc1,hc2⟩:=hc
 dsimp only at hc1 hc2
 obtain⟨k0,x,y,e0,f0,cd0,ar0,th0,el0,no0⟩:=s
 cases h2:q.P.ai y with
 |none=>
  have h:Et q (.mk k0 x y e0 f0 cd0 ar0 th0 el0 no0) i= .no 4:=by unfold Et;rw[show q.P.ai (Sm.mk k0 x y e0 f0 cd0 ar0 th0 el0 no0).y=none from h2]
  simp only[↓eB,seval,go_sem,↓A1,Option.isSome_some,Option.isSome_none,h,h2]
  try simp only[A2,A3]
  repeat' first|exact ck|with_reducible apply And.intro|intro _
  all_goals first|exact trivial|(rename_i h;first|exact oI h|exact nah h)|(rename_i _ h _ g;exact sL h g)|decide|omega|(refine A0 [] ?_;simp only[↓eB,seval,go_sem,bne,Hq,MM,↓A1,IX,h])
 |some k=>
  have hi:=Pg.ai_lt hc1 h2
  have hg:=XQ hi
  have ha:(q.m.ar.getD k.toNat ⟨[],[]⟩).l.length≤1000000000:=hc2 _ (by
   have:k.toNat<q.m.ar.length:=by omega
   rw[List.getD,List.getElem?_eq_getElem this];exact List.getElem_mem this)
  cases n1:decide (i<0) with
  |true=>
   have h:Et q (.mk k0 x y e0 f0 cd0 ar0 th0 el0 no0) i= .no 1:=by unfold Et;rw[show q.P.ai (Sm.mk k0 x y e0 f0 cd0 ar0 th0 el0 no0).y=some k from h2];exact if_pos (.inl (of_decide_eq_true n1))
   simp only[↓eB,seval,go_sem,↓A1,Option.isSome_some,Option.isSome_none,h,h2,hg,n1]
   try simp only[A2,A3]
   repeat' first|exact ck|with_reducible apply And.intro|intro _
   all_goals first|exact hi.1|exact hi.2|(rename_i h;first|exact oI h|exact nah h)|(rename_i _ h _ g;exact sL h g)|decide|omega|(refine A0 [] ?_;simp only[↓eB,seval,go_sem,bne,Hq,MM,↓A1,IX,h])
  |false=>
   cases n2:decide (((q.m.ar.getD k.toNat ⟨[],[]⟩).l.length:Int)≤i) with
   |true=>
    have h:Et q (.mk k0 x y e0 f0 cd0 ar0 th0 el0 no0) i= .no 1:=by unfold Et;rw[show q.P.ai (Sm.mk k0 x y e0 f0 cd0 ar0 th0 el0 no0).y=some k from h2];exact if_pos (.inr (of_decide_eq_true n2))
    simp only[↓eB,seval,go_sem,↓A1,Option.isSome_some,Option.isSome_none,h,h2,hg,n1,n2]
    try simp only[A2,A3]
    repeat' first|exact ck|with_reducible apply And.intro|intro _
    all_goals first|exact hi.1|exact hi.2|(rename_i h;first|exact oI h|exact nah h)|(rename_i _ h _ g;exact sL h g)|decide|omega|(refine A0 [] ?_;simp only[↓eB,seval,go_sem,bne,Hq,MM,↓A1,IX,h])
   |false=>
    have m1:=of_decide_eq_false n1
    have m2:=of_decide_eq_false n2
    have h:Et q (.mk k0 x y e0 f0 cd0 ar0 th0 el0 no0) i= .ok k:=by unfold Et;rw[show q.P.ai (Sm.mk k0 x y e0 f0 cd0 ar0 th0 el0 no0).y=some k from h2];exact if_neg (fun hh=>by rcases hh with hh|hh;exact m1 hh;exact m2 hh)
    simp only[↓eB,seval,go_sem,↓A1,Option.isSome_some,Option.isSome_none,h,h2,hg,n1,n2]
    try simp only[A2,A3]
    repeat' first|exact ck|with_reducible apply And.intro|intro _
    all_goals first|exact hi.1|exact hi.2|(rename_i h;first|exact oI h|exact nah h)|(rename_i _ h _ g;exact sL h g)|decide|omega|(refine A0 [] ?_;simp only[↓eB,seval,go_sem,bne,Hq,MM,↓A1,IX,h])
noncomputable def ZB {X:Ctx} {w0:World}:Sy.Spec Try.prog X w0:=Ul uN
end Go.Proofs.Ytjnnmindcbgjhaa
