/- A frame's assignments and places, walked. No conditions but those in each statement. -/
import Derived.Test.YtapedeoheilnnaaGreatRm5
set_option linter.all false
set_option maxRecDepth 20000
set_option maxHeartbeats 16000000
open Option (isSome_some isSome_none)
namespace Go.Proofs.YtapedeoheilnnaaGreat
open Go Go.Sy Go.RowKit
theorem AAI{P:Prop}(h:P:=by all_goals first|(refine A1 [] ?_;simp only[seval,go_sem,bne,Nf,N6,↓A0,JO,h])|exact KA):P:=h
variable{X:Ctx}{w0:World}
theorem Vj(l:List Nb)(i:Nat)(s:List UInt8)(v:Int):(l.map Nb.c).set i [.v (.string (bs s)),.v (.int .i64 v)]=(l.set i ⟨s,v⟩).map Nb.c:=(List.map_set (f:=Nb.c) (a:=⟨s,v⟩)).symm
theorem jY(l:List Na)(i:Nat)(s:List UInt8)(x:List Int):(l.map Na.c).set i [.v (.string (bs s)),.ov zI (x.map cI)]=(l.set i ⟨s,x⟩).map Na.c:=(List.map_set (f:=Na.c) (a:=⟨s,x⟩)).symm
theorem jZ(l:List Int)(i:Nat)(v:Int):(l.map cI).set i [.v (.int .i64 v)]=(l.set i v).map cI:=(List.map_set (f:=cI) (a:=v)).symm
theorem Vk:(([]:List UInt8)==[])=true:=rfl
theorem JO(k u0 v:Nat)(p:List (Nat×Nat))(s m o:Nat)(z0 z1:List C)(es0 es1:List (List C)):(∃u z es,SV.one (C.q k u0 p s m o)=SV.one (C.q k u p s m o)/\some (Ch.vec v z0 es0)=some (Ch.vec u z es)/\some (some (ML.vec z1 es1))=some (some (ML.vec z es)))=(v=u0/\z1=z0/\es1=es0):=by
 refine propext ⟨?_,?_⟩
 .rintro ⟨u,z,es,h1,h2,h3⟩
  simp only[SV.one.injEq,C.q.injEq,jS,Ch.vec.injEq,ML.vec.injEq,and_true,true_and]at h1 h2 h3
  obtain⟨rfl,rfl,rfl⟩:=h2
  exact⟨h1.symm,h3.1,h3.2⟩
 rintro ⟨rfl,rfl,rfl⟩
 exact⟨_,_,_,rfl,rfl,rfl⟩
theorem put_get{α:Type}(s:List UInt8)(v:α):∀es:List (List UInt8×α),AH (B5 es s v) s=some v
 |[]=>by simp[B5,AH]
 |(a,b)::r=>by
  simp only[B5]
  split
  .simp only[AH,beq_self_eq_true,if_true]
  rename_i h
  simp only[AH];rw[if_neg h];exact put_get s v r
theorem ng(q:Fa)(s:Sm)(v:Int):Fk (q.dead s) s v=Fa.go { q.dead s with vs:=B5 (q.dead s).vs s.x ⟨false,v,[]⟩ }:=by
 have h:AH (q.dead s).vs s.x=some va0:=put_get s.x va0 q.vs
 unfold Fk
 rw[h]
abbrev uC(q:Fa)(s:Sm)(v:Int):Prop:=AH q.vs s.x=none->okC q.P q.m
abbrev Dm(q:Fa)(s:Sm)(v:Int):Bool:=(Fk q s v).b
abbrev DY(q:Fa)(s:Sm)(v:Int):Fa:=(Fk q s v).q
abbrev Df(q:Fa)(s:Sm)(v:Int):Fa:=(Fk q s v).q
abbrev DZ(q:Fa)(s:Sm)(v:Int):SV:=.tup []
theorem uD:∀b,∀v∈ArgC.e (acS (cSp) (acS (cInt .i64) ac0)) b,v.tupB=false:=by rintro ⟨x0,x1,_⟩ v hv;simp only[FV,FU,List.mem_cons,List.not_mem_nil,or_false]at hv;rcases hv with rfl|rfl<;>first|rfl|exact FN _|exact FO _
noncomputable abbrev TY:ArgL (Fa×(Sm)×(Int)×Unit):=amFr (acS (cSp) (acS (cInt .i64) ac0)) uD
abbrev TZ:Prop:=Dj Tryz.prog 107 (TY).args (TY).mem (λp:(Fa×(Sm)×(Int)×Unit)=>uC p.1 p.2.1 p.2.2.1) (λp:(Fa×(Sm)×(Int)×Unit)=>Dm p.1 p.2.1 p.2.2.1) (λp:(Fa×(Sm)×(Int)×Unit)=>DZ p.1 p.2.1 p.2.2.1) (λp:(Fa×(Sm)×(Int)×Unit)=>Fa.memO (DY p.1 p.2.1 p.2.2.1)) (λp:(Fa×(Sm)×(Int)×Unit)=>mlO (Fa.pan (Df p.1 p.2.1 p.2.2.1)))
noncomputable def XI{X:Ctx}{w0:World}(h:TZ):Sy.Spec Tryz.prog X w0:=Dc 107 Tryz.call107 (TY) _ _ _ _ _ (id (by exact λp _ _=>have h:=Ek p.1 (DY p.1 p.2.1 p.2.2.1);⟨h.1,h.2.1,rfl,h.2.2⟩)) (id (by exact λp _ _=>JM p.1 (Df p.1 p.2.1 p.2.2.1))) (id (by exact λp _ _=>⟨(Ek p.1 (DY p.1 p.2.1 p.2.2.1)).1,rfl⟩)) KF5 h
theorem EH(h:TZ):(XI (X:=X) (w0:=w0) h).f=107:=rfl
def EJ{X:Ctx}{w0:World}(h:TZ)(t:Nat)(args:List SV)(H:Hp):=@id ((XI (X:=X) (w0:=w0) h).fn t args H=spL X _ t H _ _ _ _ _) rfl
attribute [local go_sem] Ev.b Ev.vl Fa.mem Fa.memO Fa.pan ML.ch ML.ren Ms.brk Ms.exh Ms.spd Sm.ar Sm.cd Sm.e Sm.el Sm.f Sm.k Sm.no Sm.th Sm.x Sm.y Va.c H4 Gz H5 Di Bl Bk Be Bi Bj LJ LI DJ DI chL evA evW IJ F6 F5 Gv fcN JI frC IK Gx lmH lmO Gw IH II mcC IL Hm mcW DH Cj Ck CQ CP CR CS EQ nmX A5 A4 Dz Dh D3 D4 ED E9 GW GV E5 EE rnC Fx AF Ci DS Cu CU E8 va0 vrQ IM JJ Dk Dl D8 CN Cn Cy
attribute[local go_sem] xt Dm DY Df in
theorem zH:TZ:=by
 rintro ⟨q,s,v,_u⟩ w M I lab fz xs hc hA hl hx
 refine Bz Tryz.func107 rfl (Fa.mem q) w M I lab fz (Dm q s v) (Fa.pan (Df q s v)) (Fa.memO (DY q s v)) [CN] [] ((TY).args ⟨q,s,v,_u⟩) (DZ q s v) xs hA hl hx (Hx _ _ _ _) (jN rfl) (Nat.le_refl _) rfl (JN _) ?_
 clear hx hl hA xs
 simp only[Tryz.f107]
 have hc1:AH q.vs s.x=none->okC q.P q.m:=hc
 obtain⟨k0,x,y,e0,f0,cd0,ar0,th0,el0,no0⟩:=s
 cases h1:AH q.vs x with
 |some u=>
  have h:Fk q (.mk k0 x y e0 f0 cd0 ar0 th0 el0 no0) v=Fa.go { q with vs:=B5 q.vs x ⟨false,v,[]⟩ }:=by unfold Fk;rw[show AH q.vs (Sm.mk k0 x y e0 f0 cd0 ar0 th0 el0 no0).x=some u from h1];rfl
  simp only[seval,go_sem,↓A0,isSome_some,isSome_none,h1,h,Fa.go,MQ]
  repeat refine AX ?_
  refine A1 [] ?_;simp only[seval,go_sem,bne,DZ,A3,↓A0,JO,h,Fa.go]
 |none=>
 have hc2:okC q.P q.m:=hc1 h1
 cases h2:q.P.ci x with
 |none=>
  have h:Fk q (.mk k0 x y e0 f0 cd0 ar0 th0 el0 no0) v=q.brk (.mk k0 x y e0 f0 cd0 ar0 th0 el0 no0) 4:=by unfold Fk;rw[show AH q.vs (Sm.mk k0 x y e0 f0 cd0 ar0 th0 el0 no0).x=none from h1,show q.P.ci (Sm.mk k0 x y e0 f0 cd0 ar0 th0 el0 no0).x=none from h2]
  simp only[seval,go_sem,↓A0,isSome_some,isSome_none,h1,h2,h,Fa.brk]
  repeat refine AX ?_
  all_goals first|(refine A1 [] ?_;simp only[seval,go_sem,bne,DZ,A3,↓A0,JO,h,Fa.brk])|exact KA
 |some i=>
 have h:Fk q (.mk k0 x y e0 f0 cd0 ar0 th0 el0 no0) v=Fa.go { q with m:=q.m.set i v }:=by unfold Fk;rw[show AH q.vs (Sm.mk k0 x y e0 f0 cd0 ar0 th0 el0 no0).x=none from h1,show q.P.ci (Sm.mk k0 x y e0 f0 cd0 ar0 th0 el0 no0).x=some i from h2]
 have hi:=Pg.ci_lt hc2 h2
 have hg:=MR hi
 simp only[seval,go_sem,↓A0,isSome_some,isSome_none,h1,h2,h,hg,Fa.go,Ms.set,Vj]
 have:=hi.1;have:=hi.2;repeat refine AX ?_
 refine A1 [] ?_;simp only[seval,go_sem,bne,DZ,A3,↓A0,JO,h,Fa.go,Ms.set]
noncomputable def Dn{X:Ctx}{w0:World}:Sy.Spec Tryz.prog X w0:=XI zH
abbrev uE(q:Fa)(s:Sm)(x:List UInt8):Prop:=okC q.P q.m
abbrev Ta(q:Fa)(s:Sm)(x:List UInt8):Bool:=(GC q x).b
abbrev NZ(q:Fa)(s:Sm)(x:List UInt8):Fa:=evA q s (GC q x)
abbrev QJ(q:Fa)(s:Sm)(x:List UInt8):Fa:=evW q s (GC q x)
abbrev Nc(q:Fa)(s:Sm)(x:List UInt8):SV:=.one (.q 1 0 ([(0,8)]) (2) (((GC q x).vl 0).toNat) (0))
theorem uF:∀b,∀v∈ArgC.e (acS (cSp) (acS (cStr) ac0)) b,v.tupB=false:=by rintro ⟨x0,x1,_⟩ v hv;simp only[FV,FU,List.mem_cons,List.not_mem_nil,or_false]at hv;rcases hv with rfl|rfl<;>first|rfl|exact FN _|exact FO _
noncomputable abbrev Tb:ArgL (Fa×(Sm)×(List UInt8)×Unit):=amFr (acS (cSp) (acS (cStr) ac0)) uF
abbrev Tc:Prop:=Dj Tryz.prog 110 (Tb).args (Tb).mem (λp:(Fa×(Sm)×(List UInt8)×Unit)=>uE p.1 p.2.1 p.2.2.1) (λp:(Fa×(Sm)×(List UInt8)×Unit)=>Ta p.1 p.2.1 p.2.2.1) (λp:(Fa×(Sm)×(List UInt8)×Unit)=>Nc p.1 p.2.1 p.2.2.1) (λp:(Fa×(Sm)×(List UInt8)×Unit)=>Fa.memO (NZ p.1 p.2.1 p.2.2.1)) (λp:(Fa×(Sm)×(List UInt8)×Unit)=>mlO (Fa.pan (QJ p.1 p.2.1 p.2.2.1)))
noncomputable def XJ{X:Ctx}{w0:World}(h:Tc):Sy.Spec Tryz.prog X w0:=Dc 110 Tryz.call110 (Tb) _ _ _ _ _ (id (by exact λp _ _=>have h:=Ek p.1 (NZ p.1 p.2.1 p.2.2.1);⟨h.1,h.2.1,⟨rfl,_,_,rfl,ZG _ _ rfl⟩,h.2.2⟩)) (id (by exact λp _ _=>JM p.1 (QJ p.1 p.2.1 p.2.2.1))) (id (by exact λp _ _=>⟨(Ek p.1 (NZ p.1 p.2.1 p.2.2.1)).1,⟨rfl,_,_,rfl,ZG _ _ rfl⟩⟩)) KF5 h
theorem uG(h:Tc):(XJ (X:=X) (w0:=w0) h).f=110:=rfl
def uH{X:Ctx}{w0:World}(h:Tc)(t:Nat)(args:List SV)(H:Hp):=@id ((XJ (X:=X) (w0:=w0) h).fn t args H=spL X _ t H _ _ _ _ _) rfl
attribute[local go_sem] xt Ta NZ QJ in
theorem zJ:Tc:=by
 rintro ⟨q,s,x,_u⟩ w M I lab fz xs hc hA hl hx
 refine W9 Tryz.func110 rfl (Fa.mem q) w M I lab fz (Ta q s x) (Fa.pan (QJ q s x)) (Fa.memO (NZ q s x)) [CN] [] ((Tb).args ⟨q,s,x,_u⟩) 1 ([(0,8)]) (2) (((GC q x).vl 0).toNat) (0) xs hA hl hx (Hx _ _ _ _) (jN rfl) (Nat.le_refl _) rfl (JN _) ?_
 clear hx hl hA xs
 simp only[Tryz.f110]
 have hc1:okC q.P q.m:=hc
 obtain⟨k0,x1,y,e0,f0,cd0,ar0,th0,el0,no0⟩:=s
 have hvg:∀o,AH q.vs x=o->(GB q.vs x)=o.getD va0:=λo ho=>by unfold GB;rw[ho]
 cases h1:AH q.vs x with
 |none=>
  have h:GC q x= .no 2:=by unfold GC GB;rw[h1];rfl
  simp only[seval,go_sem,↓A0,isSome_some,isSome_none,h1,h,Vk]
  repeat refine AX ?_
  all_goals first|(refine A1 [] ?_;simp only[seval,go_sem,bne,Nc,N6,↓A0,JO,h,h1])|exact KA
 |some v=>
 have hv:GB q.vs x=v:=hvg _ h1
 cases hs:((GB q.vs x).s==[]) with
 |true=>
  have h:GC q x= .no 2:=by unfold GC;rw[if_pos hs]
  rw[hv]at hs
  simp only[seval,go_sem,↓A0,isSome_some,isSome_none,h1,h,hs]
  repeat refine AX ?_
  all_goals first|(refine A1 [] ?_;simp only[seval,go_sem,bne,Nc,N6,↓A0,JO,h,h1])|exact KA
 |false=>
 cases h2:q.P.ci (GB q.vs x).s with
 |none=>
  have h:GC q x= .no 4:=by unfold GC;rw[if_neg (by rw[hs];decide),h2]
  rw[hv]at hs h2
  simp only[seval,go_sem,↓A0,isSome_some,isSome_none,h1,h,hs,h2]
  repeat refine AX ?_
  all_goals first|(refine A1 [] ?_;simp only[seval,go_sem,bne,Nc,N6,↓A0,JO,h,h1])|exact KA
 |some i=>
 have h:GC q x= .ok i:=by unfold GC;rw[if_neg (by rw[hs];decide),h2]
 have hi:=Pg.ci_lt hc1 h2
 rw[hv]at hs h2
 simp only[seval,go_sem,↓A0,isSome_some,isSome_none,h1,h,hs,h2]
 have:=hi.1;have:=hi.2;repeat refine AX ?_
 refine A1 [] ?_;simp only[seval,go_sem,bne,Nc,N6,↓A0,JO,h,h1]
noncomputable def da{X:Ctx}{w0:World}:Sy.Spec Tryz.prog X w0:=XJ zJ
abbrev uI(q:Fa)(s:Sm)(i:Int):Prop:=okC q.P q.m/\∀a∈q.m.ar,a.l.length<=1000000000
abbrev Td(q:Fa)(s:Sm)(i:Int):Bool:=(FR q s i).b
abbrev Nd(q:Fa)(s:Sm)(i:Int):Fa:=evA q s (FR q s i)
abbrev QK(q:Fa)(s:Sm)(i:Int):Fa:=evW q s (FR q s i)
abbrev Nf(q:Fa)(s:Sm)(i:Int):SV:=.one (.q 1 0 ([(0,9),(((FR q s i).vl 0).toNat,1)]) (1) ((if (FR q s i).b=true then 0 else i.toNat)) (0))
theorem uJ:∀b,∀v∈ArgC.e (acS (cSp) (acS (cInt .i64) ac0)) b,v.tupB=false:=by rintro ⟨x0,x1,_⟩ v hv;simp only[FV,FU,List.mem_cons,List.not_mem_nil,or_false]at hv;rcases hv with rfl|rfl<;>first|rfl|exact FN _|exact FO _
noncomputable abbrev Te:ArgL (Fa×(Sm)×(Int)×Unit):=amFr (acS (cSp) (acS (cInt .i64) ac0)) uJ
abbrev Tf:Prop:=Dj Tryz.prog 111 (Te).args (Te).mem (λp:(Fa×(Sm)×(Int)×Unit)=>uI p.1 p.2.1 p.2.2.1) (λp:(Fa×(Sm)×(Int)×Unit)=>Td p.1 p.2.1 p.2.2.1) (λp:(Fa×(Sm)×(Int)×Unit)=>Nf p.1 p.2.1 p.2.2.1) (λp:(Fa×(Sm)×(Int)×Unit)=>Fa.memO (Nd p.1 p.2.1 p.2.2.1)) (λp:(Fa×(Sm)×(Int)×Unit)=>mlO (Fa.pan (QK p.1 p.2.1 p.2.2.1)))
noncomputable def XK{X:Ctx}{w0:World}(h:Tf):Sy.Spec Tryz.prog X w0:=Dc 111 Tryz.call111 (Te) _ _ _ _ _ (id (by exact λp _ _=>have h:=Ek p.1 (Nd p.1 p.2.1 p.2.2.1);⟨h.1,h.2.1,⟨rfl,_,_,rfl,ZG _ _ rfl⟩,h.2.2⟩)) (id (by exact λp _ _=>JM p.1 (QK p.1 p.2.1 p.2.2.1))) (id (by exact λp _ _=>⟨(Ek p.1 (Nd p.1 p.2.1 p.2.2.1)).1,⟨rfl,_,_,rfl,ZG _ _ rfl⟩⟩)) KF5 h
theorem uK(h:Tf):(XK (X:=X) (w0:=w0) h).f=111:=rfl
def uL{X:Ctx}{w0:World}(h:Tf)(t:Nat)(args:List SV)(H:Hp):=@id ((XK (X:=X) (w0:=w0) h).fn t args H=spL X _ t H _ _ _ _ _) rfl
attribute[local go_sem] xt Td Nd QK in
theorem zK:Tf:=by
 rintro ⟨q,s,i,_u⟩ w M I lab fz xs hc hA hl hx
 refine W9 Tryz.func111 rfl (Fa.mem q) w M I lab fz (Td q s i) (Fa.pan (QK q s i)) (Fa.memO (Nd q s i)) [CN] [] ((Te).args ⟨q,s,i,_u⟩) 1 ([(0,9),(((FR q s i).vl 0).toNat,1)]) (1) ((if (FR q s i).b=true then 0 else i.toNat)) (0) xs hA hl hx (Hx _ _ _ _) (jN rfl) (Nat.le_refl _) rfl (JN _) ?_
 clear hx hl hA xs
 simp only[Tryz.f111]
 obtain⟨hc1,hc2⟩:=hc
 dsimp only at hc1 hc2
 obtain⟨k0,x,y,e0,f0,cd0,ar0,th0,el0,no0⟩:=s
 cases h2:q.P.ai y with
 |none=>
  have h:FR q (.mk k0 x y e0 f0 cd0 ar0 th0 el0 no0) i= .no 4:=by unfold FR;rw[show q.P.ai (Sm.mk k0 x y e0 f0 cd0 ar0 th0 el0 no0).y=none from h2]
  simp only[seval,go_sem,↓A0,isSome_some,isSome_none,h,h2]
  repeat refine AX ?_
  exact AAI
 |some k=>
 have hi:=Pg.ai_lt hc1 h2
 have hg:=Q9 hi
 have ha:(q.m.ar.getD k.toNat ⟨[],[]⟩).l.length<=1000000000:=hc2 _ (by
  have:k.toNat<q.m.ar.length:=by omega
  rw[List.getD,List.getElem?_eq_getElem this];exact List.getElem_mem this)
 cases n1:decide (i<0) with
 |true=>
  have h:FR q (.mk k0 x y e0 f0 cd0 ar0 th0 el0 no0) i= .no 1:=by unfold FR;rw[show q.P.ai (Sm.mk k0 x y e0 f0 cd0 ar0 th0 el0 no0).y=some k from h2];exact if_pos (.inl (of_decide_eq_true n1))
  simp only[seval,go_sem,↓A0,isSome_some,isSome_none,h,h2,hg,n1]
  have:=hi.1;have:=hi.2;repeat refine AX ?_
  exact AAI
 |false=>
 cases n2:decide (((q.m.ar.getD k.toNat ⟨[],[]⟩).l.length:Int)<=i) with
 |true=>
  have h:FR q (.mk k0 x y e0 f0 cd0 ar0 th0 el0 no0) i= .no 1:=by unfold FR;rw[show q.P.ai (Sm.mk k0 x y e0 f0 cd0 ar0 th0 el0 no0).y=some k from h2];exact if_pos (.inr (of_decide_eq_true n2))
  simp only[seval,go_sem,↓A0,isSome_some,isSome_none,h,h2,hg,n1,n2]
  have:=hi.1;have:=hi.2;repeat refine AX ?_
  exact AAI
 |false=>
 have m1:=of_decide_eq_false n1
 have m2:=of_decide_eq_false n2
 have h:FR q (.mk k0 x y e0 f0 cd0 ar0 th0 el0 no0) i= .ok k:=by unfold FR;rw[show q.P.ai (Sm.mk k0 x y e0 f0 cd0 ar0 th0 el0 no0).y=some k from h2];exact if_neg (λhh=>by rcases hh with hh|hh;exact m1 hh;exact m2 hh)
 simp only[seval,go_sem,↓A0,isSome_some,isSome_none,h,h2,hg,n1,n2]
 have:=hi.1;have:=hi.2;repeat refine AX ?_
 refine A1 [] ?_;simp only[seval,go_sem,bne,Nf,N6,↓A0,JO,h]
noncomputable def db{X:Ctx}{w0:World}:Sy.Spec Tryz.prog X w0:=XK zK
end Go.Proofs.YtapedeoheilnnaaGreat
