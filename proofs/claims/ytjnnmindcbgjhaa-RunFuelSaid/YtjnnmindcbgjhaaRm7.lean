/- A frame's assignments and places, walked. No conditions but those in each statement. -/
import Derived.Test.YtjnnmindcbgjhaaRm5
set_option linter.unusedVariables false
set_option linter.unusedSimpArgs false
set_option maxRecDepth 20000
set_option maxHeartbeats 16000000
namespace Go.Proofs.Ytjnnmindcbgjhaa
open Go Go.Sy Go.RowKit
theorem dP (l:List Nb) (i:Nat) (s:List UInt8) (v:Int):(l.map Nb.c).set i [.v (.string (bs s)),.v (.int .i64 v)]=(l.set i ⟨s,v⟩).map Nb.c:=(List.map_set (f:=Nb.c) (a:=⟨s,v⟩)).symm
theorem vD (l:List Na) (i:Nat) (s:List UInt8) (x:List Int):(l.map Na.c).set i [.v (.string (bs s)),.ov zI (x.map cI)]=(l.set i ⟨s,x⟩).map Na.c:=(List.map_set (f:=Na.c) (a:=⟨s,x⟩)).symm
theorem vE (l:List Int) (i:Nat) (v:Int):(l.map cI).set i [.v (.int .i64 v)]=(l.set i v).map cI:=(List.map_set (f:=cI) (a:=v)).symm
theorem vF:(([]:List UInt8)==[])=true:=rfl
theorem IU (k u0 v:Nat) (p:List (Nat×Nat)) (s m o:Nat) (z0 z1:List C) (es0 es1:List (List C)):(∃u z es,SV.one (C.q k u0 p s m o)=SV.one (C.q k u p s m o)∧some (Ch.vec v z0 es0)=some (Ch.vec u z es)∧some (some (ML.vec z1 es1))=some (some (ML.vec z es)))=(v=u0∧z1=z0∧es1=es0):=by
 refine propext ⟨?_,?_⟩
 ·rintro ⟨u,z,es,h1,h2,h3⟩
  simp only[SV.one.injEq,C.q.injEq,jS,Ch.vec.injEq,ML.vec.injEq,and_true,true_and]at h1 h2 h3
  obtain⟨rfl,rfl,rfl⟩:=h2
  exact⟨h1.symm,h3.1,h3.2⟩
 ·rintro ⟨rfl,rfl,rfl⟩
  exact⟨_,_,_,rfl,rfl,rfl⟩
theorem put_get {α:Type} (s:List UInt8) (v:α):∀es:List (List UInt8×α),B4 (CB es s v) s=some v
 |[]=>by simp[CB,B4]
 |(a,b)::r=>by
  simp only[CB]
  split
  ·simp only[B4,beq_self_eq_true,if_true]
  ·rename_i h
   simp only[B4];rw[if_neg h];exact put_get s v r
theorem gq (q:Fa) (s:Sm) (v:Int):DZ (q.dead s) s v=Fa.go { q.dead s with vs:=CB (q.dead s).vs s.x ⟨false,v,[]⟩ }:=by
 have h:B4 (q.dead s).vs s.x=some va0:=put_get s.x va0 q.vs
 unfold DZ
 rw[h]
abbrev MS (q:Fa) (s:Sm) (v:Int):Prop:=B4 q.vs s.x=none→okC q.P q.m
abbrev C2 (q:Fa) (s:Sm) (v:Int):Bool:=(DZ q s v).b
abbrev BK (q:Fa) (s:Sm) (v:Int):Fa:=(DZ q s v).q
abbrev Bq (q:Fa) (s:Sm) (v:Int):Fa:=(DZ q s v).q
abbrev Bv (q:Fa) (s:Sm) (v:Int):SV:=.tup []
theorem o9:∀b,∀v∈ArgC.e (acS (cSp) (acS (cInt .i64) ac0)) b,v.tupB=false:=by rintro ⟨x0,x1,_⟩ v hv;simp only[HU,HT,List.mem_cons,List.not_mem_nil,or_false]at hv;rcases hv with rfl|rfl<;>first|rfl|exact Ik _|exact Il _
noncomputable abbrev Hi:ArgL (Fa×(Sm)×(Int)×Unit):=amFr (acS (cSp) (acS (cInt .i64) ac0)) o9
abbrev Rf:Prop:=E8 Try.prog 97 (Hi).args (Hi).mem (fun p:(Fa×(Sm)×(Int)×Unit)=>MS p.1 p.2.1 p.2.2.1) (fun p:(Fa×(Sm)×(Int)×Unit)=>C2 p.1 p.2.1 p.2.2.1) (fun p:(Fa×(Sm)×(Int)×Unit)=>Bv p.1 p.2.1 p.2.2.1) (fun p:(Fa×(Sm)×(Int)×Unit)=>Fa.memO (BK p.1 p.2.1 p.2.2.1)) (fun p:(Fa×(Sm)×(Int)×Unit)=>mlO (Fa.pan (Bq p.1 p.2.1 p.2.2.1)))
theorem oA:∀p,(fun p:(Fa×(Sm)×(Int)×Unit)=>MS p.1 p.2.1 p.2.2.1) p→(fun p:(Fa×(Sm)×(Int)×Unit)=>C2 p.1 p.2.1 p.2.2.1) p=false→Dq ((Hi).mem p).length ((fun p:(Fa×(Sm)×(Int)×Unit)=>Fa.memO (BK p.1 p.2.1 p.2.2.1)) p)=true∧kdL ((Hi).mem p) ((fun p:(Fa×(Sm)×(Int)×Unit)=>Fa.memO (BK p.1 p.2.1 p.2.2.1)) p)=true∧EZ ((fun p:(Fa×(Sm)×(Int)×Unit)=>Fa.memO (BK p.1 p.2.1 p.2.2.1)) p) ((fun p:(Fa×(Sm)×(Int)×Unit)=>Bv p.1 p.2.1 p.2.2.1) p)∧∀q,some q∈(fun p:(Fa×(Sm)×(Int)×Unit)=>Fa.memO (BK p.1 p.2.1 p.2.2.1)) p→DO ((fun p:(Fa×(Sm)×(Int)×Unit)=>Fa.memO (BK p.1 p.2.1 p.2.2.1)) p).length q:=fun p _ _=>have h:=Db p.1 (BK p.1 p.2.1 p.2.2.1);⟨h.1,h.2.1,rfl,h.2.2⟩
theorem oB:∀p,(fun p:(Fa×(Sm)×(Int)×Unit)=>MS p.1 p.2.1 p.2.2.1) p→(fun p:(Fa×(Sm)×(Int)×Unit)=>C2 p.1 p.2.1 p.2.2.1) p=true→((fun p:(Fa×(Sm)×(Int)×Unit)=>mlO (Fa.pan (Bq p.1 p.2.1 p.2.2.1))) p).length=((Hi).mem p).length∧kdL ((Hi).mem p) ((fun p:(Fa×(Sm)×(Int)×Unit)=>mlO (Fa.pan (Bq p.1 p.2.1 p.2.2.1))) p)=true∧∀q,some q∈(fun p:(Fa×(Sm)×(Int)×Unit)=>mlO (Fa.pan (Bq p.1 p.2.1 p.2.2.1))) p→DO ((fun p:(Fa×(Sm)×(Int)×Unit)=>mlO (Fa.pan (Bq p.1 p.2.1 p.2.2.1))) p).length q:=fun p _ _=>IQ p.1 (Bq p.1 p.2.1 p.2.2.1)
theorem oC:∀p,(fun p:(Fa×(Sm)×(Int)×Unit)=>MS p.1 p.2.1 p.2.2.1) p→(fun p:(Fa×(Sm)×(Int)×Unit)=>C2 p.1 p.2.1 p.2.2.1) p=true→Dq ((Hi).mem p).length ((fun p:(Fa×(Sm)×(Int)×Unit)=>Fa.memO (BK p.1 p.2.1 p.2.2.1)) p)=true∧EZ ((fun p:(Fa×(Sm)×(Int)×Unit)=>Fa.memO (BK p.1 p.2.1 p.2.2.1)) p) ((fun p:(Fa×(Sm)×(Int)×Unit)=>Bv p.1 p.2.1 p.2.2.1) p):=fun p _ _=>⟨(Db p.1 (BK p.1 p.2.1 p.2.2.1)).1,rfl⟩
noncomputable def Um {X:Ctx} {w0:World} (h:Rf):Sy.Spec Try.prog X w0:=Dj 97 Try.call97 (Hi) (fun p:(Fa×(Sm)×(Int)×Unit)=>MS p.1 p.2.1 p.2.2.1) (fun p:(Fa×(Sm)×(Int)×Unit)=>C2 p.1 p.2.1 p.2.2.1) (fun p:(Fa×(Sm)×(Int)×Unit)=>Bv p.1 p.2.1 p.2.2.1) (fun p:(Fa×(Sm)×(Int)×Unit)=>Fa.memO (BK p.1 p.2.1 p.2.2.1)) (fun p:(Fa×(Sm)×(Int)×Unit)=>mlO (Fa.pan (Bq p.1 p.2.1 p.2.2.1))) (oA) (oB) (oC) (fun _=>rfl) h
theorem D4 {X:Ctx} {w0:World} (h:Rf):(Um (X:=X) (w0:=w0) h).f=97:=rfl
theorem D5 {X:Ctx} {w0:World} (h:Rf) (t:Nat) (args:List SV) (H:Hp):(Um (X:=X) (w0:=w0) h).fn t args H=spL X ((Hi).d H args) t H (fun p:(Fa×(Sm)×(Int)×Unit)=>MS p.1 p.2.1 p.2.2.1) (fun p:(Fa×(Sm)×(Int)×Unit)=>C2 p.1 p.2.1 p.2.2.1) (fun p:(Fa×(Sm)×(Int)×Unit)=>Bv p.1 p.2.1 p.2.2.1) (fun p:(Fa×(Sm)×(Int)×Unit)=>Fa.memO (BK p.1 p.2.1 p.2.2.1)) (fun p:(Fa×(Sm)×(Int)×Unit)=>mlO (Fa.pan (Bq p.1 p.2.1 p.2.2.1))):=rfl
attribute [local go_sem] Ev.b Ev.vl Fa.mem Fa.memO Fa.pan ML.ch ML.ren Ms.brk Ms.exh Ms.spd Sm.ar Sm.cd Sm.e Sm.el Sm.f Sm.k Sm.no Sm.th Sm.x Sm.y Va.c G6 G5 G7 Dl BJ BP BQ BE BN BO KV KU Cy Cx chL evA evW IB EL EK GB fcN Im frC IC G4 lmH lmO Fj HF HG mcC ID HE mcW E9 DQ DR Bf Be Bg Bh Fk nmX AB AA Eb Ej Ds Dt Fo Fm FJ FI EO F8 rnC H7 AK D8 Dr DP CR EY va0 vrQ IE Io FM Cj Ck Bc Bd B7 BM
attribute[local go_sem] xt C2 BK Bq in
theorem vG:Rf:=by
 rintro ⟨q,s,v,_u⟩ w M I lab fz xs hc hA hl hx
 refine Cb Try.func97 rfl (Fa.mem q) w M I lab fz (C2 q s v) (Fa.pan (Bq q s v)) (Fa.memO (BK q s v)) [Bd] [] ((Hi).args ⟨q,s,v,_u⟩) (Bv q s v) xs hA hl hx (Gm _ _ _ _) (jN rfl) (Nat.le_refl _) rfl (IR _) ?_
 clear hx hl hA xs
 simp only[Try.f97]
 have hc1:B4 q.vs s.x=none→okC q.P q.m:=hc
 obtain⟨k0,x,y,e0,f0,cd0,ar0,th0,el0,no0⟩:=s
 cases h1:B4 q.vs x with
 |some u=>
  have h:DZ q (.mk k0 x y e0 f0 cd0 ar0 th0 el0 no0) v=Fa.go { q with vs:=CB q.vs x ⟨false,v,[]⟩ }:=by unfold DZ;rw[show B4 q.vs (Sm.mk k0 x y e0 f0 cd0 ar0 th0 el0 no0).x=some u from h1];rfl
  simp only[↓eB,seval,go_sem,↓A1,Option.isSome_some,Option.isSome_none,h1,h,Fa.go,Ly]
  try simp only[A2,A3]
  repeat' first|exact ck|with_reducible apply And.intro|intro _
  all_goals first|exact trivial|(rename_i h;first|exact oI h|exact nah h)|(rename_i _ h _ g;exact sL h g)|decide|omega|(refine A0 [] ?_;simp only[↓eB,seval,go_sem,bne,Bv,A6,↓A1,IU,h,Fa.go])
 |none=>
  have hc2:okC q.P q.m:=hc1 h1
  cases h2:q.P.ci x with
  |none=>
   have h:DZ q (.mk k0 x y e0 f0 cd0 ar0 th0 el0 no0) v=q.brk (.mk k0 x y e0 f0 cd0 ar0 th0 el0 no0) 4:=by unfold DZ;rw[show B4 q.vs (Sm.mk k0 x y e0 f0 cd0 ar0 th0 el0 no0).x=none from h1,show q.P.ci (Sm.mk k0 x y e0 f0 cd0 ar0 th0 el0 no0).x=none from h2]
   simp only[↓eB,seval,go_sem,↓A1,Option.isSome_some,Option.isSome_none,h1,h2,h,Fa.brk]
   try simp only[A2,A3]
   repeat' first|exact ck|with_reducible apply And.intro|intro _
   all_goals first|exact trivial|(rename_i h;first|exact oI h|exact nah h)|(rename_i _ h _ g;exact sL h g)|decide|omega|(refine A0 [] ?_;simp only[↓eB,seval,go_sem,bne,Bv,A6,↓A1,IU,h,Fa.brk])
  |some i=>
   have h:DZ q (.mk k0 x y e0 f0 cd0 ar0 th0 el0 no0) v=Fa.go { q with m:=q.m.set i v }:=by unfold DZ;rw[show B4 q.vs (Sm.mk k0 x y e0 f0 cd0 ar0 th0 el0 no0).x=none from h1,show q.P.ci (Sm.mk k0 x y e0 f0 cd0 ar0 th0 el0 no0).x=some i from h2]
   have hi:=Pg.ci_lt hc2 h2
   have hg:=U1 hi
   simp only[↓eB,seval,go_sem,↓A1,Option.isSome_some,Option.isSome_none,h1,h2,h,hg,Fa.go,Ms.set,dP]
   try simp only[A2,A3]
   repeat' first|exact ck|with_reducible apply And.intro|intro _
   all_goals first|exact hi.1|exact hi.2|(rename_i h;first|exact oI h|exact nah h)|(rename_i _ h _ g;exact sL h g)|decide|omega|(refine A0 [] ?_;simp only[↓eB,seval,go_sem,bne,Bv,A6,↓A1,IU,h,Fa.go,Ms.set])
noncomputable def Ci {X:Ctx} {w0:World}:Sy.Spec Try.prog X w0:=Um vG
abbrev MT (q:Fa) (s:Sm) (x:List UInt8):Prop:=okC q.P q.m
abbrev J3 (q:Fa) (s:Sm) (x:List UInt8):Bool:=(Ea q x).b
abbrev Ee (q:Fa) (s:Sm) (x:List UInt8):Fa:=evA q s (Ea q x)
abbrev Gn (q:Fa) (s:Sm) (x:List UInt8):Fa:=evW q s (Ea q x)
abbrev Hj (q:Fa) (s:Sm) (x:List UInt8):SV:=.one (.q 1 0 ([(0,8)]) (2) (((Ea q x).vl 0).toNat) (0))
theorem oE:∀b,∀v∈ArgC.e (acS (cSp) (acS (cStr) ac0)) b,v.tupB=false:=by rintro ⟨x0,x1,_⟩ v hv;simp only[HU,HT,List.mem_cons,List.not_mem_nil,or_false]at hv;rcases hv with rfl|rfl<;>first|rfl|exact Ik _|exact Il _
noncomputable abbrev Hk:ArgL (Fa×(Sm)×(List UInt8)×Unit):=amFr (acS (cSp) (acS (cStr) ac0)) oE
abbrev Rg:Prop:=E8 Try.prog 100 (Hk).args (Hk).mem (fun p:(Fa×(Sm)×(List UInt8)×Unit)=>MT p.1 p.2.1 p.2.2.1) (fun p:(Fa×(Sm)×(List UInt8)×Unit)=>J3 p.1 p.2.1 p.2.2.1) (fun p:(Fa×(Sm)×(List UInt8)×Unit)=>Hj p.1 p.2.1 p.2.2.1) (fun p:(Fa×(Sm)×(List UInt8)×Unit)=>Fa.memO (Ee p.1 p.2.1 p.2.2.1)) (fun p:(Fa×(Sm)×(List UInt8)×Unit)=>mlO (Fa.pan (Gn p.1 p.2.1 p.2.2.1)))
theorem oF:∀p,(fun p:(Fa×(Sm)×(List UInt8)×Unit)=>MT p.1 p.2.1 p.2.2.1) p→(fun p:(Fa×(Sm)×(List UInt8)×Unit)=>J3 p.1 p.2.1 p.2.2.1) p=false→Dq ((Hk).mem p).length ((fun p:(Fa×(Sm)×(List UInt8)×Unit)=>Fa.memO (Ee p.1 p.2.1 p.2.2.1)) p)=true∧kdL ((Hk).mem p) ((fun p:(Fa×(Sm)×(List UInt8)×Unit)=>Fa.memO (Ee p.1 p.2.1 p.2.2.1)) p)=true∧EZ ((fun p:(Fa×(Sm)×(List UInt8)×Unit)=>Fa.memO (Ee p.1 p.2.1 p.2.2.1)) p) ((fun p:(Fa×(Sm)×(List UInt8)×Unit)=>Hj p.1 p.2.1 p.2.2.1) p)∧∀q,some q∈(fun p:(Fa×(Sm)×(List UInt8)×Unit)=>Fa.memO (Ee p.1 p.2.1 p.2.2.1)) p→DO ((fun p:(Fa×(Sm)×(List UInt8)×Unit)=>Fa.memO (Ee p.1 p.2.1 p.2.2.1)) p).length q:=fun p _ _=>have h:=Db p.1 (Ee p.1 p.2.1 p.2.2.1);⟨h.1,h.2.1,⟨rfl,_,_,rfl,WR _ _ rfl⟩,h.2.2⟩
theorem oG:∀p,(fun p:(Fa×(Sm)×(List UInt8)×Unit)=>MT p.1 p.2.1 p.2.2.1) p→(fun p:(Fa×(Sm)×(List UInt8)×Unit)=>J3 p.1 p.2.1 p.2.2.1) p=true→((fun p:(Fa×(Sm)×(List UInt8)×Unit)=>mlO (Fa.pan (Gn p.1 p.2.1 p.2.2.1))) p).length=((Hk).mem p).length∧kdL ((Hk).mem p) ((fun p:(Fa×(Sm)×(List UInt8)×Unit)=>mlO (Fa.pan (Gn p.1 p.2.1 p.2.2.1))) p)=true∧∀q,some q∈(fun p:(Fa×(Sm)×(List UInt8)×Unit)=>mlO (Fa.pan (Gn p.1 p.2.1 p.2.2.1))) p→DO ((fun p:(Fa×(Sm)×(List UInt8)×Unit)=>mlO (Fa.pan (Gn p.1 p.2.1 p.2.2.1))) p).length q:=fun p _ _=>IQ p.1 (Gn p.1 p.2.1 p.2.2.1)
theorem oH:∀p,(fun p:(Fa×(Sm)×(List UInt8)×Unit)=>MT p.1 p.2.1 p.2.2.1) p→(fun p:(Fa×(Sm)×(List UInt8)×Unit)=>J3 p.1 p.2.1 p.2.2.1) p=true→Dq ((Hk).mem p).length ((fun p:(Fa×(Sm)×(List UInt8)×Unit)=>Fa.memO (Ee p.1 p.2.1 p.2.2.1)) p)=true∧EZ ((fun p:(Fa×(Sm)×(List UInt8)×Unit)=>Fa.memO (Ee p.1 p.2.1 p.2.2.1)) p) ((fun p:(Fa×(Sm)×(List UInt8)×Unit)=>Hj p.1 p.2.1 p.2.2.1) p):=fun p _ _=>⟨(Db p.1 (Ee p.1 p.2.1 p.2.2.1)).1,⟨rfl,_,_,rfl,WR _ _ rfl⟩⟩
noncomputable def Uo {X:Ctx} {w0:World} (h:Rg):Sy.Spec Try.prog X w0:=Dj 100 Try.call100 (Hk) (fun p:(Fa×(Sm)×(List UInt8)×Unit)=>MT p.1 p.2.1 p.2.2.1) (fun p:(Fa×(Sm)×(List UInt8)×Unit)=>J3 p.1 p.2.1 p.2.2.1) (fun p:(Fa×(Sm)×(List UInt8)×Unit)=>Hj p.1 p.2.1 p.2.2.1) (fun p:(Fa×(Sm)×(List UInt8)×Unit)=>Fa.memO (Ee p.1 p.2.1 p.2.2.1)) (fun p:(Fa×(Sm)×(List UInt8)×Unit)=>mlO (Fa.pan (Gn p.1 p.2.1 p.2.2.1))) (oF) (oG) (oH) (fun _=>rfl) h
theorem oJ {X:Ctx} {w0:World} (h:Rg):(Uo (X:=X) (w0:=w0) h).f=100:=rfl
theorem oL {X:Ctx} {w0:World} (h:Rg) (t:Nat) (args:List SV) (H:Hp):(Uo (X:=X) (w0:=w0) h).fn t args H=spL X ((Hk).d H args) t H (fun p:(Fa×(Sm)×(List UInt8)×Unit)=>MT p.1 p.2.1 p.2.2.1) (fun p:(Fa×(Sm)×(List UInt8)×Unit)=>J3 p.1 p.2.1 p.2.2.1) (fun p:(Fa×(Sm)×(List UInt8)×Unit)=>Hj p.1 p.2.1 p.2.2.1) (fun p:(Fa×(Sm)×(List UInt8)×Unit)=>Fa.memO (Ee p.1 p.2.1 p.2.2.1)) (fun p:(Fa×(Sm)×(List UInt8)×Unit)=>mlO (Fa.pan (Gn p.1 p.2.1 p.2.2.1))):=rfl
attribute[local go_sem] xt J3 Ee Gn in
theorem vH:Rg:=by
 rintro ⟨q,s,x,_u⟩ w M I lab fz xs hc hA hl hx
 refine Ty Try.func100 rfl (Fa.mem q) w M I lab fz (J3 q s x) (Fa.pan (Gn q s x)) (Fa.memO (Ee q s x)) [Bd] [] ((Hk).args ⟨q,s,x,_u⟩) 1 ([(0,8)]) (2) (((Ea q x).vl 0).toNat) (0) xs hA hl hx (Gm _ _ _ _) (jN rfl) (Nat.le_refl _) rfl (IR _) ?_
 clear hx hl hA xs
 simp only[Try.f100]
 have hc1:okC q.P q.m:=hc
 obtain⟨k0,x1,y,e0,f0,cd0,ar0,th0,el0,no0⟩:=s
 have hvg:∀o,B4 q.vs x=o→(Fp q.vs x)=o.getD va0:=fun o ho=>by unfold Fp;rw[ho]
 cases h1:B4 q.vs x with
 |none=>
  have h:Ea q x= .no 2:=by unfold Ea Fp;rw[h1];rfl
  simp only[↓eB,seval,go_sem,↓A1,Option.isSome_some,Option.isSome_none,h1,h,vF]
  try simp only[A2,A3]
  repeat' first|exact ck|with_reducible apply And.intro|intro _
  all_goals first|exact trivial|(rename_i h;first|exact oI h|exact nah h)|(rename_i _ h _ g;exact sL h g)|decide|omega|(refine A0 [] ?_;simp only[↓eB,seval,go_sem,bne,Hj,MH,↓A1,IU,h,h1])
 |some v=>
  have hv:Fp q.vs x=v:=hvg _ h1
  cases hs:((Fp q.vs x).s==[]) with
  |true=>
   have h:Ea q x= .no 2:=by unfold Ea;rw[if_pos hs]
   rw[hv]at hs
   simp only[↓eB,seval,go_sem,↓A1,Option.isSome_some,Option.isSome_none,h1,h,hs]
   try simp only[A2,A3]
   repeat' first|exact ck|with_reducible apply And.intro|intro _
   all_goals first|exact trivial|(rename_i h;first|exact oI h|exact nah h)|(rename_i _ h _ g;exact sL h g)|decide|omega|(refine A0 [] ?_;simp only[↓eB,seval,go_sem,bne,Hj,MH,↓A1,IU,h,h1])
  |false=>
   cases h2:q.P.ci (Fp q.vs x).s with
   |none=>
    have h:Ea q x= .no 4:=by unfold Ea;rw[if_neg (by rw[hs];decide),h2]
    rw[hv]at hs h2
    simp only[↓eB,seval,go_sem,↓A1,Option.isSome_some,Option.isSome_none,h1,h,hs,h2]
    try simp only[A2,A3]
    repeat' first|exact ck|with_reducible apply And.intro|intro _
    all_goals first|exact trivial|(rename_i h;first|exact oI h|exact nah h)|(rename_i _ h _ g;exact sL h g)|decide|omega|(refine A0 [] ?_;simp only[↓eB,seval,go_sem,bne,Hj,MH,↓A1,IU,h,h1])
   |some i=>
    have h:Ea q x= .ok i:=by unfold Ea;rw[if_neg (by rw[hs];decide),h2]
    have hi:=Pg.ci_lt hc1 h2
    rw[hv]at hs h2
    simp only[↓eB,seval,go_sem,↓A1,Option.isSome_some,Option.isSome_none,h1,h,hs,h2]
    try simp only[A2,A3]
    repeat' first|exact ck|with_reducible apply And.intro|intro _
    all_goals first|exact hi.1|exact hi.2|(rename_i h;first|exact oI h|exact nah h)|(rename_i _ h _ g;exact sL h g)|decide|omega|(refine A0 [] ?_;simp only[↓eB,seval,go_sem,bne,Hj,MH,↓A1,IU,h,h1])
noncomputable def ZI {X:Ctx} {w0:World}:Sy.Spec Try.prog X w0:=Uo vH
abbrev MU (q:Fa) (s:Sm) (i:Int):Prop:=okC q.P q.m∧∀a∈q.m.ar,a.l.length≤1000000000
abbrev J4 (q:Fa) (s:Sm) (i:Int):Bool:=(Da q s i).b
abbrev Ef (q:Fa) (s:Sm) (i:Int):Fa:=evA q s (Da q s i)
abbrev Gp (q:Fa) (s:Sm) (i:Int):Fa:=evW q s (Da q s i)
abbrev Hl (q:Fa) (s:Sm) (i:Int):SV:=.one (.q 1 0 ([(0,9),(((Da q s i).vl 0).toNat,1)]) (1) ((if (Da q s i).b=true then 0 else i.toNat)) (0))
theorem oM:∀b,∀v∈ArgC.e (acS (cSp) (acS (cInt .i64) ac0)) b,v.tupB=false:=by rintro ⟨x0,x1,_⟩ v hv;simp only[HU,HT,List.mem_cons,List.not_mem_nil,or_false]at hv;rcases hv with rfl|rfl<;>first|rfl|exact Ik _|exact Il _
noncomputable abbrev Hm:ArgL (Fa×(Sm)×(Int)×Unit):=amFr (acS (cSp) (acS (cInt .i64) ac0)) oM
abbrev Rh:Prop:=E8 Try.prog 101 (Hm).args (Hm).mem (fun p:(Fa×(Sm)×(Int)×Unit)=>MU p.1 p.2.1 p.2.2.1) (fun p:(Fa×(Sm)×(Int)×Unit)=>J4 p.1 p.2.1 p.2.2.1) (fun p:(Fa×(Sm)×(Int)×Unit)=>Hl p.1 p.2.1 p.2.2.1) (fun p:(Fa×(Sm)×(Int)×Unit)=>Fa.memO (Ef p.1 p.2.1 p.2.2.1)) (fun p:(Fa×(Sm)×(Int)×Unit)=>mlO (Fa.pan (Gp p.1 p.2.1 p.2.2.1)))
theorem oN:∀p,(fun p:(Fa×(Sm)×(Int)×Unit)=>MU p.1 p.2.1 p.2.2.1) p→(fun p:(Fa×(Sm)×(Int)×Unit)=>J4 p.1 p.2.1 p.2.2.1) p=false→Dq ((Hm).mem p).length ((fun p:(Fa×(Sm)×(Int)×Unit)=>Fa.memO (Ef p.1 p.2.1 p.2.2.1)) p)=true∧kdL ((Hm).mem p) ((fun p:(Fa×(Sm)×(Int)×Unit)=>Fa.memO (Ef p.1 p.2.1 p.2.2.1)) p)=true∧EZ ((fun p:(Fa×(Sm)×(Int)×Unit)=>Fa.memO (Ef p.1 p.2.1 p.2.2.1)) p) ((fun p:(Fa×(Sm)×(Int)×Unit)=>Hl p.1 p.2.1 p.2.2.1) p)∧∀q,some q∈(fun p:(Fa×(Sm)×(Int)×Unit)=>Fa.memO (Ef p.1 p.2.1 p.2.2.1)) p→DO ((fun p:(Fa×(Sm)×(Int)×Unit)=>Fa.memO (Ef p.1 p.2.1 p.2.2.1)) p).length q:=fun p _ _=>have h:=Db p.1 (Ef p.1 p.2.1 p.2.2.1);⟨h.1,h.2.1,⟨rfl,_,_,rfl,WR _ _ rfl⟩,h.2.2⟩
theorem oO:∀p,(fun p:(Fa×(Sm)×(Int)×Unit)=>MU p.1 p.2.1 p.2.2.1) p→(fun p:(Fa×(Sm)×(Int)×Unit)=>J4 p.1 p.2.1 p.2.2.1) p=true→((fun p:(Fa×(Sm)×(Int)×Unit)=>mlO (Fa.pan (Gp p.1 p.2.1 p.2.2.1))) p).length=((Hm).mem p).length∧kdL ((Hm).mem p) ((fun p:(Fa×(Sm)×(Int)×Unit)=>mlO (Fa.pan (Gp p.1 p.2.1 p.2.2.1))) p)=true∧∀q,some q∈(fun p:(Fa×(Sm)×(Int)×Unit)=>mlO (Fa.pan (Gp p.1 p.2.1 p.2.2.1))) p→DO ((fun p:(Fa×(Sm)×(Int)×Unit)=>mlO (Fa.pan (Gp p.1 p.2.1 p.2.2.1))) p).length q:=fun p _ _=>IQ p.1 (Gp p.1 p.2.1 p.2.2.1)
theorem oP:∀p,(fun p:(Fa×(Sm)×(Int)×Unit)=>MU p.1 p.2.1 p.2.2.1) p→(fun p:(Fa×(Sm)×(Int)×Unit)=>J4 p.1 p.2.1 p.2.2.1) p=true→Dq ((Hm).mem p).length ((fun p:(Fa×(Sm)×(Int)×Unit)=>Fa.memO (Ef p.1 p.2.1 p.2.2.1)) p)=true∧EZ ((fun p:(Fa×(Sm)×(Int)×Unit)=>Fa.memO (Ef p.1 p.2.1 p.2.2.1)) p) ((fun p:(Fa×(Sm)×(Int)×Unit)=>Hl p.1 p.2.1 p.2.2.1) p):=fun p _ _=>⟨(Db p.1 (Ef p.1 p.2.1 p.2.2.1)).1,⟨rfl,_,_,rfl,WR _ _ rfl⟩⟩
noncomputable def Up {X:Ctx} {w0:World} (h:Rh):Sy.Spec Try.prog X w0:=Dj 101 Try.call101 (Hm) (fun p:(Fa×(Sm)×(Int)×Unit)=>MU p.1 p.2.1 p.2.2.1) (fun p:(Fa×(Sm)×(Int)×Unit)=>J4 p.1 p.2.1 p.2.2.1) (fun p:(Fa×(Sm)×(Int)×Unit)=>Hl p.1 p.2.1 p.2.2.1) (fun p:(Fa×(Sm)×(Int)×Unit)=>Fa.memO (Ef p.1 p.2.1 p.2.2.1)) (fun p:(Fa×(Sm)×(Int)×Unit)=>mlO (Fa.pan (Gp p.1 p.2.1 p.2.2.1))) (oN) (oO) (oP) (fun _=>rfl) h
theorem oQ {X:Ctx} {w0:World} (h:Rh):(Up (X:=X) (w0:=w0) h).f=101:=rfl
theorem oR {X:Ctx} {w0:World} (h:Rh) (t:Nat) (args:List SV) (H:Hp):(Up (X:=X) (w0:=w0) h).fn t args H=spL X ((Hm).d H args) t H (fun p:(Fa×(Sm)×(Int)×Unit)=>MU p.1 p.2.1 p.2.2.1) (fun p:(Fa×(Sm)×(Int)×Unit)=>J4 p.1 p.2.1 p.2.2.1) (fun p:(Fa×(Sm)×(Int)×Unit)=>Hl p.1 p.2.1 p.2.2.1) (fun p:(Fa×(Sm)×(Int)×Unit)=>Fa.memO (Ef p.1 p.2.1 p.2.2.1)) (fun p:(Fa×(Sm)×(Int)×Unit)=>mlO (Fa.pan (Gp p.1 p.2.1 p.2.2.1))):=rfl
attribute[local go_sem] xt J4 Ef Gp in
theorem vI:Rh:=by
 rintro ⟨q,s,i,_u⟩ w M I lab fz xs hc hA hl hx
 refine Ty Try.func101 rfl (Fa.mem q) w M I lab fz (J4 q s i) (Fa.pan (Gp q s i)) (Fa.memO (Ef q s i)) [Bd] [] ((Hm).args ⟨q,s,i,_u⟩) 1 ([(0,9),(((Da q s i).vl 0).toNat,1)]) (1) ((if (Da q s i).b=true then 0 else i.toNat)) (0) xs hA hl hx (Gm _ _ _ _) (jN rfl) (Nat.le_refl _) rfl (IR _) ?_
 clear hx hl hA xs
 simp only[Try.f101]
 obtain⟨hc1,hc2⟩:=hc
 dsimp only at hc1 hc2
 obtain⟨k0,x,y,e0,f0,cd0,ar0,th0,el0,no0⟩:=s
 cases h2:q.P.ai y with
 |none=>
  have h:Da q (.mk k0 x y e0 f0 cd0 ar0 th0 el0 no0) i= .no 4:=by unfold Da;rw[show q.P.ai (Sm.mk k0 x y e0 f0 cd0 ar0 th0 el0 no0).y=none from h2]
  simp only[↓eB,seval,go_sem,↓A1,Option.isSome_some,Option.isSome_none,h,h2]
  try simp only[A2,A3]
  repeat' first|exact ck|with_reducible apply And.intro|intro _
  all_goals first|exact trivial|(rename_i h;first|exact oI h|exact nah h)|(rename_i _ h _ g;exact sL h g)|decide|omega|(refine A0 [] ?_;simp only[↓eB,seval,go_sem,bne,Hl,MH,↓A1,IU,h])
 |some k=>
  have hi:=Pg.ai_lt hc1 h2
  have hg:=Xg hi
  have ha:(q.m.ar.getD k.toNat ⟨[],[]⟩).l.length≤1000000000:=hc2 _ (by
   have:k.toNat<q.m.ar.length:=by omega
   rw[List.getD,List.getElem?_eq_getElem this];exact List.getElem_mem this)
  cases n1:decide (i<0) with
  |true=>
   have h:Da q (.mk k0 x y e0 f0 cd0 ar0 th0 el0 no0) i= .no 1:=by unfold Da;rw[show q.P.ai (Sm.mk k0 x y e0 f0 cd0 ar0 th0 el0 no0).y=some k from h2];exact if_pos (.inl (of_decide_eq_true n1))
   simp only[↓eB,seval,go_sem,↓A1,Option.isSome_some,Option.isSome_none,h,h2,hg,n1]
   try simp only[A2,A3]
   repeat' first|exact ck|with_reducible apply And.intro|intro _
   all_goals first|exact hi.1|exact hi.2|(rename_i h;first|exact oI h|exact nah h)|(rename_i _ h _ g;exact sL h g)|decide|omega|(refine A0 [] ?_;simp only[↓eB,seval,go_sem,bne,Hl,MH,↓A1,IU,h])
  |false=>
   cases n2:decide (((q.m.ar.getD k.toNat ⟨[],[]⟩).l.length:Int)≤i) with
   |true=>
    have h:Da q (.mk k0 x y e0 f0 cd0 ar0 th0 el0 no0) i= .no 1:=by unfold Da;rw[show q.P.ai (Sm.mk k0 x y e0 f0 cd0 ar0 th0 el0 no0).y=some k from h2];exact if_pos (.inr (of_decide_eq_true n2))
    simp only[↓eB,seval,go_sem,↓A1,Option.isSome_some,Option.isSome_none,h,h2,hg,n1,n2]
    try simp only[A2,A3]
    repeat' first|exact ck|with_reducible apply And.intro|intro _
    all_goals first|exact hi.1|exact hi.2|(rename_i h;first|exact oI h|exact nah h)|(rename_i _ h _ g;exact sL h g)|decide|omega|(refine A0 [] ?_;simp only[↓eB,seval,go_sem,bne,Hl,MH,↓A1,IU,h])
   |false=>
    have m1:=of_decide_eq_false n1
    have m2:=of_decide_eq_false n2
    have h:Da q (.mk k0 x y e0 f0 cd0 ar0 th0 el0 no0) i= .ok k:=by unfold Da;rw[show q.P.ai (Sm.mk k0 x y e0 f0 cd0 ar0 th0 el0 no0).y=some k from h2];exact if_neg (fun hh=>by rcases hh with hh|hh;exact m1 hh;exact m2 hh)
    simp only[↓eB,seval,go_sem,↓A1,Option.isSome_some,Option.isSome_none,h,h2,hg,n1,n2]
    try simp only[A2,A3]
    repeat' first|exact ck|with_reducible apply And.intro|intro _
    all_goals first|exact hi.1|exact hi.2|(rename_i h;first|exact oI h|exact nah h)|(rename_i _ h _ g;exact sL h g)|decide|omega|(refine A0 [] ?_;simp only[↓eB,seval,go_sem,bne,Hl,MH,↓A1,IU,h])
noncomputable def ZJ {X:Ctx} {w0:World}:Sy.Spec Try.prog X w0:=Up vI
end Go.Proofs.Ytjnnmindcbgjhaa
