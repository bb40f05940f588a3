/- A frame's assignments and places, walked. No conditions but those in each statement. -/
import Derived.Test.YtapedeoheilnnaaGreatRm5
set_option linter.all false
set_option maxRecDepth 20000
set_option maxHeartbeats 16000000
open Option (isSome_some isSome_none)
namespace Go.Proofs.YtapedeoheilnnaaGreat
open Go Go.Sy Go.RowKit
variable{X:Ctx}{w0:World}
theorem nE{P:Prop}(h:P:=by (repeat' first|exact ck|with_reducible apply And.intro|intro _);all_goals first|exact trivial|exact KZ|(refine A1 [] ?_;simp only[seval,go_sem,bne,TL,Vp,↓A0,Nt,h,h1])):P:=h
theorem nF{P:Prop}(h:P:=by (repeat' first|exact ck|with_reducible apply And.intro|intro _);all_goals first|exact hi.1|exact hi.2|exact KZ|(refine A1 [] ?_;simp only[seval,go_sem,bne,TP,Vp,↓A0,Nt,h])):P:=h
theorem VQ(l:List Nb)(i:Nat)(s:List UInt8)(v:Int):(l.map Nb.c).set i [.v (.string (bs s)),.v (.int .i64 v)]=(l.set i ⟨s,v⟩).map Nb.c:=(List.map_set (f:=Nb.c) (a:=⟨s,v⟩)).symm
theorem iv(l:List Na)(i:Nat)(s:List UInt8)(x:List Int):(l.map Na.c).set i [.v (.string (bs s)),.ov zI (x.map cI)]=(l.set i ⟨s,x⟩).map Na.c:=(List.map_set (f:=Na.c) (a:=⟨s,x⟩)).symm
theorem iw(l:List Int)(i:Nat)(v:Int):(l.map cI).set i [.v (.int .i64 v)]=(l.set i v).map cI:=(List.map_set (f:=cI) (a:=v)).symm
theorem VS:(([]:List UInt8)==[])=true:=rfl
theorem Nt(k u0 v:Nat)(p:List (Nat×Nat))(s m o:Nat)(z0 z1:List C)(es0 es1:List (List C)):(∃u z es,SV.one (C.q k u0 p s m o)=SV.one (C.q k u p s m o)/\some (Ch.vec v z0 es0)=some (Ch.vec u z es)/\some (some (ML.vec z1 es1))=some (some (ML.vec z es)))=(v=u0/\z1=z0/\es1=es0):=by
 refine propext ⟨?_,?_⟩
 .rintro ⟨u,z,es,h1,h2,h3⟩
  simp only[SV.one.injEq,C.q.injEq,jS,Ch.vec.injEq,ML.vec.injEq,and_true,true_and]at h1 h2 h3
  obtain⟨rfl,rfl,rfl⟩:=h2
  exact⟨h1.symm,h3.1,h3.2⟩
 rintro ⟨rfl,rfl,rfl⟩
 exact⟨_,_,_,rfl,rfl,rfl⟩
theorem put_get{α:Type}(s:List UInt8)(v:α):∀es:List (List UInt8×α),AD (B1 es s v) s=some v
 |[]=>by simp[B1,AD]
 |(a,b)::r=>by
  simp only[B1]
  split
  .simp only[AD,beq_self_eq_true,if_true]
  rename_i h
  simp only[AD];rw[if_neg h];exact put_get s v r
theorem nG(q:Fa)(s:Sm)(v:Int):FW (q.dead s) s v=Fa.go { q.dead s with vs:=B1 (q.dead s).vs s.x ⟨false,v,[]⟩ }:=by
 have h:AD (q.dead s).vs s.x=some va0:=put_get s.x va0 q.vs
 unfold FW
 rw[h]
abbrev tV(q:Fa)(s:Sm)(v:Int):Prop:=AD q.vs s.x=none->okC q.P q.m
abbrev Du(q:Fa)(s:Sm)(v:Int):Bool:=(FW q s v).b
abbrev Db(q:Fa)(s:Sm)(v:Int):Fa:=(FW q s v).q
abbrev Dj(q:Fa)(s:Sm)(v:Int):Fa:=(FW q s v).q
abbrev Dc(q:Fa)(s:Sm)(v:Int):SV:=.tup []
theorem tW:∀b,∀v∈ArgC.e (acS (cSp) (acS (cInt .i64) ac0)) b,v.tupB=false:=by rintro ⟨x0,x1,_⟩ v hv;simp only[FM,FL,List.mem_cons,List.not_mem_nil,or_false]at hv;rcases hv with rfl|rfl<;>first|rfl|exact FD _|exact FE _
noncomputable abbrev TI:ArgL (Fa×(Sm)×(Int)×Unit):=amFr (acS (cSp) (acS (cInt .i64) ac0)) tW
abbrev TJ:Prop:=DY Tryz.prog 107 (TI).args (TI).mem (λp:(Fa×(Sm)×(Int)×Unit)=>tV p.1 p.2.1 p.2.2.1) (λp:(Fa×(Sm)×(Int)×Unit)=>Du p.1 p.2.1 p.2.2.1) (λp:(Fa×(Sm)×(Int)×Unit)=>Dc p.1 p.2.1 p.2.2.1) (λp:(Fa×(Sm)×(Int)×Unit)=>Fa.memO (Db p.1 p.2.1 p.2.2.1)) (λp:(Fa×(Sm)×(Int)×Unit)=>mlO (Fa.pan (Dj p.1 p.2.1 p.2.2.1)))
noncomputable def X9{X:Ctx}{w0:World}(h:TJ):Sy.Spec Tryz.prog X w0:=DL 107 Tryz.call107 (TI) _ _ _ _ _ (id (by exact λp _ _=>have h:=Ee p.1 (Db p.1 p.2.1 p.2.2.1);⟨h.1,h.2.1,rfl,h.2.2⟩)) (id (by exact λp _ _=>JG p.1 (Dj p.1 p.2.1 p.2.2.1))) (id (by exact λp _ _=>⟨(Ee p.1 (Db p.1 p.2.1 p.2.2.1)).1,rfl⟩)) KF3 h
theorem Ea(h:TJ):(X9 (X:=X) (w0:=w0) h).f=107:=rfl
def Eb{X:Ctx}{w0:World}(h:TJ)(t:Nat)(args:List SV)(H:Hp):=@id ((X9 (X:=X) (w0:=w0) h).fn t args H=spL X _ t H _ _ _ _ _) rfl
attribute [local go_sem] Ev.b Ev.vl Fa.mem Fa.memO Fa.pan ML.ch ML.ren Ms.brk Ms.exh Ms.spd Sm.ar Sm.cd Sm.e Sm.el Sm.f Sm.k Sm.no Sm.th Sm.x Sm.y Va.c HA H9 HB Dd CS CR CA CP CQ L9 L8 DO DN chL evA evW J0 FG FF H7 fcN JC frC J1 H8 lmH lmO Gg ID IE mcC J2 IC mcW DJ Cg Ci CC CB CE CF EG nmX AB AA Dq De Cx Cy EK EJ GJ GI E1 EH rnC Fl AN Cf DP Cr CO EE va0 vrQ J3 JD Ds Dt DG CV Cv D4
attribute[local go_sem] xt Du Db Dj in
theorem yi:TJ:=by
 rintro ⟨q,s,v,_u⟩ w M I lab fz xs hc hA hl hx
 refine Bn Tryz.func107 rfl (Fa.mem q) w M I lab fz (Du q s v) (Fa.pan (Dj q s v)) (Fa.memO (Db q s v)) [CV] [] ((TI).args ⟨q,s,v,_u⟩) (Dc q s v) xs hA hl hx (Ht _ _ _ _) (jN rfl) (Nat.le_refl _) rfl (JH _) ?_
 clear hx hl hA xs
 simp only[Tryz.f107]
 have hc1:AD q.vs s.x=none->okC q.P q.m:=hc
 obtain⟨k0,x,y,e0,f0,cd0,ar0,th0,el0,no0⟩:=s
 cases h1:AD q.vs x with
 |some u=>
  have h:FW q (.mk k0 x y e0 f0 cd0 ar0 th0 el0 no0) v=Fa.go { q with vs:=B1 q.vs x ⟨false,v,[]⟩ }:=by unfold FW;rw[show AD q.vs (Sm.mk k0 x y e0 f0 cd0 ar0 th0 el0 no0).x=some u from h1];rfl
  simp only[seval,go_sem,↓A0,isSome_some,isSome_none,h1,h,Fa.go,MJ]
  try simp only[A2,A3]
  repeat' first|exact ck|with_reducible apply And.intro|intro _
  all_goals first|exact trivial|exact KZ|(refine A1 [] ?_;simp only[seval,go_sem,bne,Dc,A5,↓A0,Nt,h,Fa.go])
 |none=>
 have hc2:okC q.P q.m:=hc1 h1
 cases h2:q.P.ci x with
 |none=>
  have h:FW q (.mk k0 x y e0 f0 cd0 ar0 th0 el0 no0) v=q.brk (.mk k0 x y e0 f0 cd0 ar0 th0 el0 no0) 4:=by unfold FW;rw[show AD q.vs (Sm.mk k0 x y e0 f0 cd0 ar0 th0 el0 no0).x=none from h1,show q.P.ci (Sm.mk k0 x y e0 f0 cd0 ar0 th0 el0 no0).x=none from h2]
  simp only[seval,go_sem,↓A0,isSome_some,isSome_none,h1,h2,h,Fa.brk]
  try simp only[A2,A3]
  repeat' first|exact ck|with_reducible apply And.intro|intro _
  all_goals first|exact trivial|exact KZ|(refine A1 [] ?_;simp only[seval,go_sem,bne,Dc,A5,↓A0,Nt,h,Fa.brk])
 |some i=>
 have h:FW q (.mk k0 x y e0 f0 cd0 ar0 th0 el0 no0) v=Fa.go { q with m:=q.m.set i v }:=by unfold FW;rw[show AD q.vs (Sm.mk k0 x y e0 f0 cd0 ar0 th0 el0 no0).x=none from h1,show q.P.ci (Sm.mk k0 x y e0 f0 cd0 ar0 th0 el0 no0).x=some i from h2]
 have hi:=Pg.ci_lt hc2 h2
 have hg:=MK hi
 simp only[seval,go_sem,↓A0,isSome_some,isSome_none,h1,h2,h,hg,Fa.go,Ms.set,VQ]
 try simp only[A2,A3]
 repeat' first|exact ck|with_reducible apply And.intro|intro _
 all_goals first|exact hi.1|exact hi.2|exact KZ|(refine A1 [] ?_;simp only[seval,go_sem,bne,Dc,A5,↓A0,Nt,h,Fa.go,Ms.set])
noncomputable def Dv{X:Ctx}{w0:World}:Sy.Spec Tryz.prog X w0:=X9 yi
abbrev tX(q:Fa)(s:Sm)(x:List UInt8):Prop:=okC q.P q.m
abbrev TK(q:Fa)(s:Sm)(x:List UInt8):Bool:=(G2 q x).b
abbrev NO(q:Fa)(s:Sm)(x:List UInt8):Fa:=evA q s (G2 q x)
abbrev Py(q:Fa)(s:Sm)(x:List UInt8):Fa:=evW q s (G2 q x)
abbrev TL(q:Fa)(s:Sm)(x:List UInt8):SV:=.one (.q 1 0 ([(0,8)]) (2) (((G2 q x).vl 0).toNat) (0))
theorem tY:∀b,∀v∈ArgC.e (acS (cSp) (acS (cStr) ac0)) b,v.tupB=false:=by rintro ⟨x0,x1,_⟩ v hv;simp only[FM,FL,List.mem_cons,List.not_mem_nil,or_false]at hv;rcases hv with rfl|rfl<;>first|rfl|exact FD _|exact FE _
noncomputable abbrev TM:ArgL (Fa×(Sm)×(List UInt8)×Unit):=amFr (acS (cSp) (acS (cStr) ac0)) tY
abbrev TN:Prop:=DY Tryz.prog 110 (TM).args (TM).mem (λp:(Fa×(Sm)×(List UInt8)×Unit)=>tX p.1 p.2.1 p.2.2.1) (λp:(Fa×(Sm)×(List UInt8)×Unit)=>TK p.1 p.2.1 p.2.2.1) (λp:(Fa×(Sm)×(List UInt8)×Unit)=>TL p.1 p.2.1 p.2.2.1) (λp:(Fa×(Sm)×(List UInt8)×Unit)=>Fa.memO (NO p.1 p.2.1 p.2.2.1)) (λp:(Fa×(Sm)×(List UInt8)×Unit)=>mlO (Fa.pan (Py p.1 p.2.1 p.2.2.1)))
noncomputable def XA{X:Ctx}{w0:World}(h:TN):Sy.Spec Tryz.prog X w0:=DL 110 Tryz.call110 (TM) _ _ _ _ _ (id (by exact λp _ _=>have h:=Ee p.1 (NO p.1 p.2.1 p.2.2.1);⟨h.1,h.2.1,⟨rfl,_,_,rfl,Yy _ _ rfl⟩,h.2.2⟩)) (id (by exact λp _ _=>JG p.1 (Py p.1 p.2.1 p.2.2.1))) (id (by exact λp _ _=>⟨(Ee p.1 (NO p.1 p.2.1 p.2.2.1)).1,⟨rfl,_,_,rfl,Yy _ _ rfl⟩⟩)) KF3 h
theorem tZ(h:TN):(XA (X:=X) (w0:=w0) h).f=110:=rfl
def tb{X:Ctx}{w0:World}(h:TN)(t:Nat)(args:List SV)(H:Hp):=@id ((XA (X:=X) (w0:=w0) h).fn t args H=spL X _ t H _ _ _ _ _) rfl
attribute[local go_sem] xt TK NO Py in
theorem yj:TN:=by
 rintro ⟨q,s,x,_u⟩ w M I lab fz xs hc hA hl hx
 refine Vt Tryz.func110 rfl (Fa.mem q) w M I lab fz (TK q s x) (Fa.pan (Py q s x)) (Fa.memO (NO q s x)) [CV] [] ((TM).args ⟨q,s,x,_u⟩) 1 ([(0,8)]) (2) (((G2 q x).vl 0).toNat) (0) xs hA hl hx (Ht _ _ _ _) (jN rfl) (Nat.le_refl _) rfl (JH _) ?_
 clear hx hl hA xs
 simp only[Tryz.f110]
 have hc1:okC q.P q.m:=hc
 obtain⟨k0,x1,y,e0,f0,cd0,ar0,th0,el0,no0⟩:=s
 have hvg:∀o,AD q.vs x=o->(G1 q.vs x)=o.getD va0:=λo ho=>by unfold G1;rw[ho]
 cases h1:AD q.vs x with
 |none=>
  have h:G2 q x= .no 2:=by unfold G2 G1;rw[h1];rfl
  simp only[seval,go_sem,↓A0,isSome_some,isSome_none,h1,h,VS]
  try simp only[A2,A3]
  try exact nE
 |some v=>
 have hv:G1 q.vs x=v:=hvg _ h1
 cases hs:((G1 q.vs x).s==[]) with
 |true=>
  have h:G2 q x= .no 2:=by unfold G2;rw[if_pos hs]
  rw[hv]at hs
  simp only[seval,go_sem,↓A0,isSome_some,isSome_none,h1,h,hs]
  try simp only[A2,A3]
  try exact nE
 |false=>
 cases h2:q.P.ci (G1 q.vs x).s with
 |none=>
  have h:G2 q x= .no 4:=by unfold G2;rw[if_neg (by rw[hs];decide),h2]
  rw[hv]at hs h2
  simp only[seval,go_sem,↓A0,isSome_some,isSome_none,h1,h,hs,h2]
  try simp only[A2,A3]
  try exact nE
 |some i=>
 have h:G2 q x= .ok i:=by unfold G2;rw[if_neg (by rw[hs];decide),h2]
 have hi:=Pg.ci_lt hc1 h2
 rw[hv]at hs h2
 simp only[seval,go_sem,↓A0,isSome_some,isSome_none,h1,h,hs,h2]
 try simp only[A2,A3]
 repeat' first|exact ck|with_reducible apply And.intro|intro _
 all_goals first|exact hi.1|exact hi.2|exact KZ|(refine A1 [] ?_;simp only[seval,go_sem,bne,TL,Vp,↓A0,Nt,h,h1])
noncomputable def dE{X:Ctx}{w0:World}:Sy.Spec Tryz.prog X w0:=XA yj
abbrev te(q:Fa)(s:Sm)(i:Int):Prop:=okC q.P q.m/\∀a∈q.m.ar,a.l.length<=1000000000
abbrev TO(q:Fa)(s:Sm)(i:Int):Bool:=(FI q s i).b
abbrev NP(q:Fa)(s:Sm)(i:Int):Fa:=evA q s (FI q s i)
abbrev Pz(q:Fa)(s:Sm)(i:Int):Fa:=evW q s (FI q s i)
abbrev TP(q:Fa)(s:Sm)(i:Int):SV:=.one (.q 1 0 ([(0,9),(((FI q s i).vl 0).toNat,1)]) (1) ((if (FI q s i).b=true then 0 else i.toNat)) (0))
theorem tf:∀b,∀v∈ArgC.e (acS (cSp) (acS (cInt .i64) ac0)) b,v.tupB=false:=by rintro ⟨x0,x1,_⟩ v hv;simp only[FM,FL,List.mem_cons,List.not_mem_nil,or_false]at hv;rcases hv with rfl|rfl<;>first|rfl|exact FD _|exact FE _
noncomputable abbrev TQ:ArgL (Fa×(Sm)×(Int)×Unit):=amFr (acS (cSp) (acS (cInt .i64) ac0)) tf
abbrev TR:Prop:=DY Tryz.prog 111 (TQ).args (TQ).mem (λp:(Fa×(Sm)×(Int)×Unit)=>te p.1 p.2.1 p.2.2.1) (λp:(Fa×(Sm)×(Int)×Unit)=>TO p.1 p.2.1 p.2.2.1) (λp:(Fa×(Sm)×(Int)×Unit)=>TP p.1 p.2.1 p.2.2.1) (λp:(Fa×(Sm)×(Int)×Unit)=>Fa.memO (NP p.1 p.2.1 p.2.2.1)) (λp:(Fa×(Sm)×(Int)×Unit)=>mlO (Fa.pan (Pz p.1 p.2.1 p.2.2.1)))
noncomputable def XB{X:Ctx}{w0:World}(h:TR):Sy.Spec Tryz.prog X w0:=DL 111 Tryz.call111 (TQ) _ _ _ _ _ (id (by exact λp _ _=>have h:=Ee p.1 (NP p.1 p.2.1 p.2.2.1);⟨h.1,h.2.1,⟨rfl,_,_,rfl,Yy _ _ rfl⟩,h.2.2⟩)) (id (by exact λp _ _=>JG p.1 (Pz p.1 p.2.1 p.2.2.1))) (id (by exact λp _ _=>⟨(Ee p.1 (NP p.1 p.2.1 p.2.2.1)).1,⟨rfl,_,_,rfl,Yy _ _ rfl⟩⟩)) KF3 h
theorem tg(h:TR):(XB (X:=X) (w0:=w0) h).f=111:=rfl
def tj{X:Ctx}{w0:World}(h:TR)(t:Nat)(args:List SV)(H:Hp):=@id ((XB (X:=X) (w0:=w0) h).fn t args H=spL X _ t H _ _ _ _ _) rfl
attribute[local go_sem] xt TO NP Pz in
theorem yk:TR:=by
 rintro ⟨q,s,i,_u⟩ w M I lab fz xs hc hA hl hx
 refine Vt Tryz.func111 rfl (Fa.mem q) w M I lab fz (TO q s i) (Fa.pan (Pz q s i)) (Fa.memO (NP q s i)) [CV] [] ((TQ).args ⟨q,s,i,_u⟩) 1 ([(0,9),(((FI q s i).vl 0).toNat,1)]) (1) ((if (FI q s i).b=true then 0 else i.toNat)) (0) xs hA hl hx (Ht _ _ _ _) (jN rfl) (Nat.le_refl _) rfl (JH _) ?_
 clear hx hl hA xs
 simp only[Tryz.f111]
 obtain⟨hc1,hc2⟩:=hc
 dsimp only at hc1 hc2
 obtain⟨k0,x,y,e0,f0,cd0,ar0,th0,el0,no0⟩:=s
 cases h2:q.P.ai y with
 |none=>
  have h:FI q (.mk k0 x y e0 f0 cd0 ar0 th0 el0 no0) i= .no 4:=by unfold FI;rw[show q.P.ai (Sm.mk k0 x y e0 f0 cd0 ar0 th0 el0 no0).y=none from h2]
  simp only[seval,go_sem,↓A0,isSome_some,isSome_none,h,h2]
  try simp only[A2,A3]
  repeat' first|exact ck|with_reducible apply And.intro|intro _
  all_goals first|exact trivial|exact KZ|(refine A1 [] ?_;simp only[seval,go_sem,bne,TP,Vp,↓A0,Nt,h])
 |some k=>
 have hi:=Pg.ai_lt hc1 h2
 have hg:=Pl hi
 have ha:(q.m.ar.getD k.toNat ⟨[],[]⟩).l.length<=1000000000:=hc2 _ (by
  have:k.toNat<q.m.ar.length:=by omega
  rw[List.getD,List.getElem?_eq_getElem this];exact List.getElem_mem this)
 cases n1:decide (i<0) with
 |true=>
  have h:FI q (.mk k0 x y e0 f0 cd0 ar0 th0 el0 no0) i= .no 1:=by unfold FI;rw[show q.P.ai (Sm.mk k0 x y e0 f0 cd0 ar0 th0 el0 no0).y=some k from h2];exact if_pos (.inl (of_decide_eq_true n1))
  simp only[seval,go_sem,↓A0,isSome_some,isSome_none,h,h2,hg,n1]
  try simp only[A2,A3]
  try exact nF
 |false=>
 cases n2:decide (((q.m.ar.getD k.toNat ⟨[],[]⟩).l.length:Int)<=i) with
 |true=>
  have h:FI q (.mk k0 x y e0 f0 cd0 ar0 th0 el0 no0) i= .no 1:=by unfold FI;rw[show q.P.ai (Sm.mk k0 x y e0 f0 cd0 ar0 th0 el0 no0).y=some k from h2];exact if_pos (.inr (of_decide_eq_true n2))
  simp only[seval,go_sem,↓A0,isSome_some,isSome_none,h,h2,hg,n1,n2]
  try simp only[A2,A3]
  try exact nF
 |false=>
 have m1:=of_decide_eq_false n1
 have m2:=of_decide_eq_false n2
 have h:FI q (.mk k0 x y e0 f0 cd0 ar0 th0 el0 no0) i= .ok k:=by unfold FI;rw[show q.P.ai (Sm.mk k0 x y e0 f0 cd0 ar0 th0 el0 no0).y=some k from h2];exact if_neg (λhh=>by rcases hh with hh|hh;exact m1 hh;exact m2 hh)
 simp only[seval,go_sem,↓A0,isSome_some,isSome_none,h,h2,hg,n1,n2]
 try simp only[A2,A3]
 try exact nF
noncomputable def dF{X:Ctx}{w0:World}:Sy.Spec Tryz.prog X w0:=XB yk
end Go.Proofs.YtapedeoheilnnaaGreat
