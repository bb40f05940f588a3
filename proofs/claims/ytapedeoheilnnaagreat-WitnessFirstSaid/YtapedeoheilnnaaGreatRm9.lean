/- Statements, blocks, loops, calls: walked. No conditions but those in each statement. -/
import Derived.Test.YtapedeoheilnnaaGreatRm6
import Derived.Test.YtapedeoheilnnaaGreatRm7
import Derived.Test.YtapedeoheilnnaaGreatMi0
set_option linter.all false
set_option maxRecDepth 20000
set_option maxHeartbeats 32000000
open Option (isSome_some isSome_none)
namespace Go.Proofs.YtapedeoheilnnaaGreat
open Go Go.Sy Go.RowKit
variable{l:List Sm}{i:Nat}{s:Sm}{X:Ctx}{w0:World}
theorem qw{x:Sm}(h:l[i]?=some x)(z:List D):(l.map Sm.r).getD i z=x.r:=by simp[List.getD,h]
structure okT(N:Nat)(s:Sm):Prop where
 k:OkS N s
 t:∃m,okB N m s.th
 e:∃m,okB N m s.el
theorem qx{N m:Nat}(h:okB N m l)(hs:s∈l):okT N s:=by
 cases m with
 |zero=>exact h.elim
 |succ m=>obtain⟨a,b,c⟩:=h.2 s hs;exact⟨a,⟨m,b⟩,⟨m,c⟩⟩
theorem dg{N m:Nat}(h:okB N m l):l.length<=5000:=by
 cases m with
 |zero=>exact h.elim
 |succ m=>exact h.1
abbrev nh(N:Nat)(n:Nat)(q:Fa)(s:Sm):Prop:=okT N s/\okMs N n q/\n<=1000000000
abbrev JP(N:Nat)(n:Nat)(q:Fa)(s:Sm):Bool:=(stF n s q).b
abbrev Hb(N:Nat)(n:Nat)(q:Fa)(s:Sm):Fa:=(stF n s q).q
abbrev IP(N:Nat)(n:Nat)(q:Fa)(s:Sm):Fa:=(stF n s q).q
abbrev JQ(N:Nat)(n:Nat)(q:Fa)(s:Sm):SV:=.one (.v (.bool (stF n s q).t))
theorem ni:∀b,∀v∈ArgC.e (acS (cSp) ac0) b,v.tupB=false:=by rintro ⟨x0,_⟩ v hv;simp only[FV,FU,List.mem_cons,List.not_mem_nil,or_false]at hv;subst hv<;>first|rfl|exact FN _|exact FO _
noncomputable abbrev R9:ArgL (Fa×(Sm)×Unit):=amFr (acS (cSp) ac0) ni
abbrev Lp(N:Nat)(n:Nat):Prop:=Dj Tryz.prog 87 (R9).args (R9).mem (λp:(Fa×(Sm)×Unit)=>nh N n p.1 p.2.1) (λp:(Fa×(Sm)×Unit)=>JP N n p.1 p.2.1) (λp:(Fa×(Sm)×Unit)=>JQ N n p.1 p.2.1) (λp:(Fa×(Sm)×Unit)=>Fa.memO (Hb N n p.1 p.2.1)) (λp:(Fa×(Sm)×Unit)=>mlO (Fa.pan (IP N n p.1 p.2.1)))
noncomputable def RA{X:Ctx}{w0:World}(N:Nat)(n:Nat)(h:Lp N n):Sy.Spec Tryz.prog X w0:=Dc 87 Tryz.call87 (R9) _ _ _ _ _ (id (by exact λp _ _=>have h:=Ek p.1 (Hb N n p.1 p.2.1);⟨h.1,h.2.1,rfl,h.2.2⟩)) (id (by exact λp _ _=>JM p.1 (IP N n p.1 p.2.1))) (id (by exact λp _ _=>⟨(Ek p.1 (Hb N n p.1 p.2.1)).1,rfl⟩)) KF5 h
theorem O7(N:Nat)(n:Nat)(h:Lp N n):(RA (X:=X) (w0:=w0) N n h).f=87:=rfl
def O8{X:Ctx}{w0:World}(N:Nat)(n:Nat)(h:Lp N n)(t:Nat)(args:List SV)(H:Hp):=@id ((RA (X:=X) (w0:=w0) N n h).fn t args H=spL X _ t H _ _ _ _ _) rfl
abbrev jc(N:Nat)(n:Nat)(q:Fa)(l:List Sm):Prop:=(∃m,okB N m l)/\okMs N n q/\n<=1000000000
abbrev BP(N:Nat)(n:Nat)(q:Fa)(l:List Sm):Bool:=(blF (stF n) l q).b
abbrev BC(N:Nat)(n:Nat)(q:Fa)(l:List Sm):Fa:=(blF (stF n) l q).q
abbrev BJ(N:Nat)(n:Nat)(q:Fa)(l:List Sm):Fa:=(blF (stF n) l q).q
abbrev Bw(N:Nat)(n:Nat)(q:Fa)(l:List Sm):SV:=.one (.v (.bool (blF (stF n) l q).t))
theorem jd:∀b,∀v∈ArgC.e (acS (cSs) ac0) b,v.tupB=false:=by rintro ⟨x0,_⟩ v hv;simp only[FV,FU,List.mem_cons,List.not_mem_nil,or_false]at hv;subst hv<;>first|rfl|exact FN _|exact FO _
noncomputable abbrev P3:ArgL (Fa×(List Sm)×Unit):=amFr (acS (cSs) ac0) jd
abbrev JR(N:Nat)(n:Nat):Prop:=Dj Tryz.prog 73 (P3).args (P3).mem (λp:(Fa×(List Sm)×Unit)=>jc N n p.1 p.2.1) (λp:(Fa×(List Sm)×Unit)=>BP N n p.1 p.2.1) (λp:(Fa×(List Sm)×Unit)=>Bw N n p.1 p.2.1) (λp:(Fa×(List Sm)×Unit)=>Fa.memO (BC N n p.1 p.2.1)) (λp:(Fa×(List Sm)×Unit)=>mlO (Fa.pan (BJ N n p.1 p.2.1)))
noncomputable def IA{X:Ctx}{w0:World}(N:Nat)(n:Nat)(h:JR N n):Sy.Spec Tryz.prog X w0:=Dc 73 Tryz.call73 (P3) _ _ _ _ _ (id (by exact λp _ _=>have h:=Ek p.1 (BC N n p.1 p.2.1);⟨h.1,h.2.1,rfl,h.2.2⟩)) (id (by exact λp _ _=>JM p.1 (BJ N n p.1 p.2.1))) (id (by exact λp _ _=>⟨(Ek p.1 (BC N n p.1 p.2.1)).1,rfl⟩)) KF5 h
theorem Cb(N:Nat)(n:Nat)(h:JR N n):(IA (X:=X) (w0:=w0) N n h).f=73:=rfl
def Cc{X:Ctx}{w0:World}(N:Nat)(n:Nat)(h:JR N n)(t:Nat)(args:List SV)(H:Hp):=@id ((IA (X:=X) (w0:=w0) N n h).fn t args H=spL X _ t H _ _ _ _ _) rfl
section
attribute [local go_sem] Fa.mem Fa.memO Fa.pan ML.ch ML.ren Ms.brk Ms.exh Ms.spd Sm.ar Sm.cd Sm.e Sm.el Sm.f Sm.k Sm.no Sm.th Sm.x Sm.y H4 Gz H5 Di Bl Bk Be Bi Bj LJ LI DJ DI chL IJ F6 F5 Gv fcN JI frC IK Gx lmH lmO Gw IH II mcC IL Hm mcW DH Cj Ck EQ nmX A5 A4 Dz Dh D3 D4 ED E9 GW GV E5 EE rnC Fx AF Ci DS Cu CU E8 vrQ IM JJ
theorem RB(N:Nat)(n:Nat)(hu:Lp N n):JR N n:=by
 rintro ⟨q,l,_u⟩ w M I lab fz xs hc hA hl hx
 refine Bz Tryz.func73 rfl (Fa.mem q) w M I lab fz (BP N n q l) (Fa.pan (BJ N n q l)) (Fa.memO (BC N n q l)) [(RA N n hu)] [] ((P3).args ⟨q,l,_u⟩) (Bw N n q l) xs hA hl hx (Hx _ _ _ _) (jN rfl) (Nat.le_refl _) rfl (JN _) ?_
 clear hx hl hA xs
 simp only[Tryz.f73]
 obtain⟨⟨m,hl⟩,hM,hn⟩:=hc
 dsimp only at hl hM hn
 have hlen:=dg hl
 obtain⟨G,hG⟩:∃G,blF (stF n) l q=G:=⟨_,rfl⟩
 simp only[seval,go_sem,xt,↓A0,CP,CQ,CR,CS,Va.c,isSome_some,isSome_none,Ev.b,Ev.vl,evA,evW,va0,O7,O8,JQ,JP,Hb,IP,BP,BC,BJ,hG]
 refine AC (Y:=Nat×Fa) (λz=>z.1<=l.length/\okMs N n z.2/\blF (stF n) (l.drop z.1) z.2=G)
  (λz=>⟨[(0,true,.one (.p 0 0 0)),(1,true,.one (.d (.sl zSm (l.map Sm.r)))),(6,true,.one (.d (.sl zSm (l.map Sm.r)))),(7,true,.one (.v (.int .i64 (l.length:Int)))),(8,true,.one (.v (.int .i64 (z.1:Int))))],[(0,.vec 0 zFr [frC z.2]),(1,.vec 0 zMc [mcC z.2.P z.2.m]),(2,.mp true (vsC z.2.vs))]⟩)
  (λz=>l.length-z.1) (0,q) ⟨Nat.zero_le _,hM,hG⟩ ?_ ?_
 .refine A2 [] ?_;simp only[seval,go_sem,xt,↓A0]
 rintro ⟨i,r⟩ ⟨hi,hr,hJ⟩
 dsimp only at hi hr hJ
 refine AP [RA N n hu] [] _ _ _ ?_
 have w1:IntKind.i64.wrap ((i:Int)+1)=((i+1:Nat):Int):=by rw[wrap_i64 (by omega) (by omega)];rfl
 cases hx:l[i]? with
 |none=>
  have h2:=List.getElem?_eq_none_iff.1 hx
  have h1:=Ai h2
  rw[List.drop_eq_nil_of_le h2]at hJ
  have hJ':r.go=G:=hJ
  subst hJ'
  simp only[seval,go_sem,xt,↓A0,CP,CQ,CR,CS,Va.c,isSome_some,isSome_none,Ev.b,Ev.vl,evA,evW,va0,O7,O8,JQ,JP,Hb,IP,BP,BC,BJ,h1,hG]
  repeat refine AX ?_
  refine A1 [] ?_;simp only[seval,go_sem,bne,Bw,BP,BC,BJ,A3,xt,↓A0,Ev.b,Ev.vl,evA,evW,va0,hG,Fa.go]
 |some s=>
 have hlt:=(List.getElem?_eq_some_iff.1 hx).1
 have h1:=Ah hlt
 have h2:=qw hx
 have hT:=qx hl (List.mem_of_getElem? hx)
 have hk:=ME n s r hr.l (by have:=hr.u;omega)
 rw[BF hx]at hJ
 simp only[blF]at hJ
 obtain⟨T,hT2⟩:∃T,stF n s r=T:=⟨_,rfl⟩
 rw[hT2]at hJ hk
 obtain⟨k0,x0,y0,e0,f0,cd0,ar0,th0,el0,no0⟩:=s
 obtain⟨b,t,r'⟩:=T
 cases b with
 |true=>
  have hJ':(⟨true,t,r'⟩:Ro)=G:=by simpa using hJ
  subst hJ'
  simp only[seval,go_sem,xt,↓A0,CP,CQ,CR,CS,Va.c,isSome_some,isSome_none,Ev.b,Ev.vl,evA,evW,va0,O7,O8,JQ,JP,Hb,IP,BP,BC,BJ,h1,h2,hG,hT2]
  repeat refine AX ?_
  all_goals first|(refine A1 [] ?_;simp only[seval,go_sem,bne,Bw,BP,BC,BJ,A3,xt,↓A0,Ev.b,Ev.vl,evA,evW,va0,hG,hT2])|exact KA
 |false=>
 cases t with
 |true=>
  have hJ':(⟨false,true,r'⟩:Ro)=G:=by simpa using hJ
  subst hJ'
  simp only[seval,go_sem,xt,↓A0,CP,CQ,CR,CS,Va.c,isSome_some,isSome_none,Ev.b,Ev.vl,evA,evW,va0,O7,O8,JQ,JP,Hb,IP,BP,BC,BJ,h1,h2,hG,hT2]
  repeat refine AX ?_
  refine A1 [] ?_;simp only[seval,go_sem,bne,Bw,BP,BC,BJ,A3,xt,↓A0,Ev.b,Ev.vl,evA,evW,va0,hG,hT2]
 |false=>
 have hJ':blF (stF n) (l.drop (i+1)) r'=G:=by simpa using hJ
 simp only[seval,go_sem,xt,↓A0,CP,CQ,CR,CS,Va.c,isSome_some,isSome_none,Ev.b,Ev.vl,evA,evW,va0,O7,O8,JQ,JP,Hb,IP,BP,BC,BJ,h1,h2,hG,hT2,w1]
 repeat refine AX ?_
 refine⟨(i+1,r'),⟨hlt,hr.kq hk (by have h9:r'.m.fuel<=r.m.fuel:=hk.u;have:=hr.u;show r'.m.fuel<_;omega),hJ'⟩,by dsimp only;omega,A2 [] ?_⟩
 simp only[seval,go_sem,xt,↓A0]
end
open Go Go.Sy Go.RowKit
theorem je{bl:Fa->Ro}{k:Nat}{q:Fa}(h:q.m.out=true):lpF bl s (k+1) q=⟨true,false,{ q with m:=q.m.exh }⟩:=by simp only[lpF];rw[if_pos h]
theorem qy{bl:Fa->Ro}{k:Nat}{q:Fa}(h:q.m.out=false):lpF bl s (k+1) q=(match cdF q.P q.m.spd q.vs s.cd with
  | .no j=>Fa.brk { q with m:=q.m.spd } s j
  | .ok false=>Fa.go { q with m:=q.m.spd }
  | .ok true=>
   let r:=bl { q with m:=q.m.spd }
   if r.b=true∨r.t=true then r else lpF bl s k r.q):=by simp only[lpF];rw[if_neg (by rw[h];decide)];rfl
theorem uM{P:Pg}{m:Ms}(h:okC P m):okC P m.spd:=⟨h.c,h.a,h.n,h.k⟩
abbrev nj(N:Nat)(n:Nat)(q:Fa)(s:Sm):Prop:=okT N s/\okMs N (n+1) q/\n+1<=1000000000
abbrev F7(N:Nat)(n:Nat)(q:Fa)(s:Sm):Bool:=(lpF (blF (stF n) s.th) s (n+1) q).b
abbrev Ec(N:Nat)(n:Nat)(q:Fa)(s:Sm):Fa:=(lpF (blF (stF n) s.th) s (n+1) q).q
abbrev Ep(N:Nat)(n:Nat)(q:Fa)(s:Sm):Fa:=(lpF (blF (stF n) s.th) s (n+1) q).q
abbrev JS(N:Nat)(n:Nat)(q:Fa)(s:Sm):SV:=.one (.v (.bool (lpF (blF (stF n) s.th) s (n+1) q).t))
theorem nk:∀b,∀v∈ArgC.e (acS (cSp) ac0) b,v.tupB=false:=by rintro ⟨x0,_⟩ v hv;simp only[FV,FU,List.mem_cons,List.not_mem_nil,or_false]at hv;subst hv<;>first|rfl|exact FN _|exact FO _
noncomputable abbrev RC:ArgL (Fa×(Sm)×Unit):=amFr (acS (cSp) ac0) nk
abbrev O9(N:Nat)(n:Nat):Prop:=Dj Tryz.prog 105 (RC).args (RC).mem (λp:(Fa×(Sm)×Unit)=>nj N n p.1 p.2.1) (λp:(Fa×(Sm)×Unit)=>F7 N n p.1 p.2.1) (λp:(Fa×(Sm)×Unit)=>JS N n p.1 p.2.1) (λp:(Fa×(Sm)×Unit)=>Fa.memO (Ec N n p.1 p.2.1)) (λp:(Fa×(Sm)×Unit)=>mlO (Fa.pan (Ep N n p.1 p.2.1)))
noncomputable def Uf{X:Ctx}{w0:World}(N:Nat)(n:Nat)(h:O9 N n):Sy.Spec Tryz.prog X w0:=Dc 105 Tryz.call105 (RC) _ _ _ _ _ (id (by exact λp _ _=>have h:=Ek p.1 (Ec N n p.1 p.2.1);⟨h.1,h.2.1,rfl,h.2.2⟩)) (id (by exact λp _ _=>JM p.1 (Ep N n p.1 p.2.1))) (id (by exact λp _ _=>⟨(Ek p.1 (Ec N n p.1 p.2.1)).1,rfl⟩)) KF5 h
theorem nl(N:Nat)(n:Nat)(h:O9 N n):(Uf (X:=X) (w0:=w0) N n h).f=105:=rfl
def np{X:Ctx}{w0:World}(N:Nat)(n:Nat)(h:O9 N n)(t:Nat)(args:List SV)(H:Hp):=@id ((Uf (X:=X) (w0:=w0) N n h).fn t args H=spL X _ t H _ _ _ _ _) rfl
section
attribute [local go_sem] Fa.mem Fa.memO Fa.pan ML.ch ML.ren Sm.ar Sm.cd Sm.e Sm.el Sm.f Sm.k Sm.no Sm.th Sm.x Sm.y H4 Gz H5 Di Bl Bk Be Bi Bj LJ LI DJ DI chL IJ F6 F5 Gv fcN JI frC IK Gx lmH lmO Gw IH II mcC IL Hm mcW DH Cj Ck EQ nmX A5 A4 Dz Dh D3 D4 ED E9 GW GV E5 EE rnC Fx AF Ci DS Cu CU E8 vrQ IM JJ
attribute[local go_sem] xt in
theorem uN(N:Nat)(n:Nat)(hu:JR N n):O9 N n:=by
 rintro ⟨q,s,_u⟩ w M I lab fz xs hc hA hl hx
 refine Bz Tryz.func105 rfl (Fa.mem q) w M I lab fz (F7 N n q s) (Fa.pan (Ep N n q s)) (Fa.memO (Ec N n q s)) [Fe,(Lo N false (TX N false)),(IA N n hu)] [] ((RC).args ⟨q,s,_u⟩) (JS N n q s) xs hA hl hx (Hx _ _ _ _) (jN rfl) (Nat.le_refl _) rfl (JN _) ?_
 clear hx hl hA xs
 simp only[Tryz.f105]
 obtain⟨hT,hM,hn⟩:=hc
 dsimp only at hT hM hn
 obtain⟨G,hG⟩:∃G,(lpF (blF (stF n) s.th) s (n+1) q)=G:=⟨_,rfl⟩
 have hcd:s.cd.dp<N:=hT.k.c
 obtain⟨mt,hth⟩:=hT.t
 obtain⟨k0,x0,y0,e0,f0,cd0,ar0,th0,el0,no0⟩:=s
 dsimp only[Sm.cd,Sm.th]at hcd hth hG
 simp only[seval,go_sem,↓A0,CP,CQ,CR,CS,Va.c,isSome_some,isSome_none,Ev.b,Ev.vl,evA,evW,va0,Fe,Fc,FE,FP,FQ,Eo,En,EO,Eb,Cb,Cc,Bw,BP,BC,BJ,F7,Ec,Ep,hG]
 refine AC (Y:=Nat×Fa) (λz=>okMs N (n+1) z.2/\z.2.m.fuel<z.1/\lpF (blF (stF n) th0) (.mk k0 x0 y0 e0 f0 cd0 ar0 th0 el0 no0) z.1 z.2=G)
  (λz=>⟨[(0,true,.one (.p 0 0 0)),(1,true,.one (.dp [.v (.int .i64 k0),.v (.string (bs x0)),.v (.string (bs y0)),e0.d,f0.d,cd0.d,.sl zAr (ar0.map Ar.r),.sl zSm (th0.map Sm.r),.sl zSm (el0.map Sm.r),.v (.int .i64 no0)]))],[(0,.vec 0 zFr [frC z.2]),(1,.vec 0 zMc [mcC z.2.P z.2.m]),(2,.mp true (vsC z.2.vs))]⟩)
  (λz=>z.1) (n+1,q) ⟨hM,hM.u,hG⟩ ?_ ?_
 .refine A2 [] ?_;simp only[seval,go_sem,↓A0]
 rintro ⟨k,r⟩ ⟨hr,hk,hJ⟩
 dsimp only at hr hk hJ
 refine AP [Fe,Lo N false (TX N false),IA N n hu] [] _ _ _ ?_
 obtain⟨j,rfl⟩:∃j,k=j+1:=⟨k-1,by have:=hr.l;omega⟩
 cases ho:r.m.out with
 |true=>
  rw[je ho]at hJ
  subst hJ
  simp only[seval,go_sem,↓A0,CP,CQ,CR,CS,Va.c,isSome_some,isSome_none,Ev.b,Ev.vl,evA,evW,va0,Fe,Fc,FE,FP,FQ,Eo,En,EO,Eb,Cb,Cc,Bw,BP,BC,BJ,F7,Ec,Ep,ho,hG]
  repeat refine AX ?_
  all_goals first|(refine A1 [] ?_;simp only[seval,go_sem,bne,JS,F7,Ec,Ep,A3,↓A0,Ev.b,Ev.vl,evA,evW,va0,Fe,Fc,FE,FP,FQ,Eo,En,EO,Eb,Cb,Cc,Bw,BP,BC,BJ,hG,ho])|exact KA
 |false=>
 rw[qy ho]at hJ
 have ks:=Vm ho hr.l (by have:=hr.u;omega)
 have ka:=ff ho hr.l (by have:=hr.u;omega)
 have hc2:=uM hr.c
 have hcs:okC r.P r.m.spd:=hc2
 have hMs:okMs N n { r with m:=r.m.spd }:=hr.kq ks (by show r.m.spd.fuel<_;have:=hr.u;omega)
 cases hcv:cdF r.P r.m.spd r.vs cd0 with
 |no e=>
  have hJ':Fa.brk { r with m:=r.m.spd } (.mk k0 x0 y0 e0 f0 cd0 ar0 th0 el0 no0) e=G:=by rw[<- hJ];show _=(match cdF r.P r.m.spd r.vs cd0 with| .no j=>_| .ok false=>_| .ok true=>_);rw[hcv]
  subst hJ'
  simp only[seval,go_sem,↓A0,CP,CQ,CR,CS,Va.c,isSome_some,isSome_none,Ev.b,Ev.vl,evA,evW,va0,Fe,Fc,FE,FP,FQ,Eo,En,EO,Eb,Cb,Cc,Bw,BP,BC,BJ,F7,Ec,Ep,ho,hcv,hG,Fa.brk]
  repeat refine AX ?_
  all_goals first|(refine A1 [] ?_;simp only[seval,go_sem,bne,JS,F7,Ec,Ep,A3,↓A0,Ev.b,Ev.vl,evA,evW,va0,Fe,Fc,FE,FP,FQ,Eo,En,EO,Eb,Cb,Cc,Bw,BP,BC,BJ,hG,ho,Fa.brk])|exact KA
 |ok v=>
 cases v with
 |false=>
  have hJ':Fa.go { r with m:=r.m.spd }=G:=by rw[<- hJ];show _=(match cdF r.P r.m.spd r.vs cd0 with| .no j=>_| .ok false=>_| .ok true=>_);rw[hcv]
  subst hJ'
  simp only[seval,go_sem,↓A0,CP,CQ,CR,CS,Va.c,isSome_some,isSome_none,Ev.b,Ev.vl,evA,evW,va0,Fe,Fc,FE,FP,FQ,Eo,En,EO,Eb,Cb,Cc,Bw,BP,BC,BJ,F7,Ec,Ep,ho,hcv,hG,Fa.go]
  repeat refine AX ?_
  refine A1 [] ?_;simp only[seval,go_sem,bne,JS,F7,Ec,Ep,A3,↓A0,Ev.b,Ev.vl,evA,evW,va0,Fe,Fc,FE,FP,FQ,Eo,En,EO,Eb,Cb,Cc,Bw,BP,BC,BJ,hG,ho,Fa.go]
 |true=>
 obtain⟨T,hT2⟩:∃T,blF (stF n) th0 { r with m:=r.m.spd }=T:=⟨_,rfl⟩
 have hJ':(if T.b=true∨T.t=true then T else lpF (blF (stF n) th0) (.mk k0 x0 y0 e0 f0 cd0 ar0 th0 el0 no0) j T.q)=G:=by
  rw[<- hT2,<- hJ];show _=(match cdF r.P r.m.spd r.vs cd0 with| .no j=>_| .ok false=>_| .ok true=>_);rw[hcv]
 have kb:=N2 (ME n) th0 { r with m:=r.m.spd } hMs.l (by have:=hMs.u;omega)
 rw[hT2]at kb
 obtain⟨b,t,r'⟩:=T
 cases b with
 |true=>
  have hJ2:(⟨true,t,r'⟩:Ro)=G:=by simpa using hJ'
  subst hJ2
  simp only[seval,go_sem,↓A0,CP,CQ,CR,CS,Va.c,isSome_some,isSome_none,Ev.b,Ev.vl,evA,evW,va0,Fe,Fc,FE,FP,FQ,Eo,En,EO,Eb,Cb,Cc,Bw,BP,BC,BJ,F7,Ec,Ep,ho,hcv,hG,hT2]
  try simp only[AD,AE]
  repeat' first|exact ck|with_reducible apply And.intro|intro _
  all_goals first|exact⟨hcs,hcd⟩|exact⟨⟨mt,hth⟩,hMs,by omega⟩|exact⟨mt,hth⟩|exact hMs|exact hcs|exact hcd|exact KZ|(refine A1 [] ?_;simp only[seval,go_sem,bne,JS,F7,Ec,Ep,A3,↓A0,Ev.b,Ev.vl,evA,evW,va0,Fe,Fc,FE,FP,FQ,Eo,En,EO,Eb,Cb,Cc,Bw,BP,BC,BJ,hG,ho,hT2])
 |false=>
 cases t with
 |true=>
  have hJ2:(⟨false,true,r'⟩:Ro)=G:=by simpa using hJ'
  subst hJ2
  simp only[seval,go_sem,↓A0,CP,CQ,CR,CS,Va.c,isSome_some,isSome_none,Ev.b,Ev.vl,evA,evW,va0,Fe,Fc,FE,FP,FQ,Eo,En,EO,Eb,Cb,Cc,Bw,BP,BC,BJ,F7,Ec,Ep,ho,hcv,hG,hT2]
  repeat first|refine AX ?_|refine⟨⟨⟨mt,hth⟩,hMs,by omega⟩,?_⟩
  refine A1 [] ?_;simp only[seval,go_sem,bne,JS,F7,Ec,Ep,A3,↓A0,Ev.b,Ev.vl,evA,evW,va0,Fe,Fc,FE,FP,FQ,Eo,En,EO,Eb,Cb,Cc,Bw,BP,BC,BJ,hG,ho,hT2]
 |false=>
 have hJ2:lpF (blF (stF n) th0) (.mk k0 x0 y0 e0 f0 cd0 ar0 th0 el0 no0) j r'=G:=by simpa using hJ'
 simp only[seval,go_sem,↓A0,CP,CQ,CR,CS,Va.c,isSome_some,isSome_none,Ev.b,Ev.vl,evA,evW,va0,Fe,Fc,FE,FP,FQ,Eo,En,EO,Eb,Cb,Cc,Bw,BP,BC,BJ,F7,Ec,Ep,ho,hcv,hG,hT2]
 repeat first|refine AX ?_|refine⟨⟨⟨mt,hth⟩,hMs,by omega⟩,?_⟩
 have hf:r'.m.fuel<=r.m.spd.fuel:=kb.u
 refine⟨(j,r'),⟨hMs.kq kb (by show r'.m.fuel<_;have h7:r.m.spd.fuel<n:=hMs.u;omega),by dsimp only;omega,hJ2⟩,Nat.lt_succ_self _,A2 [] ?_⟩
 simp only[seval,go_sem,↓A0]
end
open Go Go.Sy Go.RowKit
def Va.r(a:Va):List D:=[.v (.bool a.p),.v (.int .i64 a.n),.v (.string (bs a.s))]
abbrev IQ:List D:=[.v (.bool false),.v (.int .i64 0),.v (.string (bs []))]
theorem dh(a b:Va)(h:a.r=b.r):a=b:=by
 obtain⟨p,n,s⟩:=a
 obtain⟨p',n',s'⟩:=b
 simp only[Va.r,List.cons.injEq,D.v.injEq,Value.string.injEq,Value.int.injEq,Value.bool.injEq,true_and,and_true]at h
 obtain⟨rfl,rfl,h1⟩:=h
 rw[bs_inj h1]
noncomputable def rVa:RowC Va:=rowOf IQ Va.r dh λ_=>rfl
theorem Eh:rVa.e=Va.r:=rfl
theorem Ei:rVa.z=IQ:=rfl
theorem DE:IQ.length=3:=rfl
theorem DF:zVr.length=2:=rfl
theorem DG(l:List Va):Re rVa.d (l.map Va.r)=some l:=V9 rVa l
noncomputable def cVq:Cod (List Vr):=Hl (λl=>.one (.d (.sl zVr (l.map Vr.r)))) (λv a b h h'=>by
 cases v with
 |one c=>exact Aj Og (GH h h')
 |agg l=>exact h.elim
 |tup l=>exact h.elim) (λl=>rfl)
theorem DL(l:List Vr):cVq.e l= .one (.d (.sl zVr (l.map Vr.r))):=rfl
theorem DM(l:List Vr):cVq.d (.one (.d (.sl zVr (l.map Vr.r))))=some l:=E4 (e:=λl:List Vr=>.one (.d (.sl zVr (l.map Vr.r)))) (F4 _)
noncomputable def Mr:Cod (List Va):=Hl (λl=>.one (.d (.sl IQ (l.map Va.r)))) (λv a b h h'=>by
 cases v with
 |one c=>exact Aj dh (GH h h')
 |agg l=>exact h.elim
 |tup l=>exact h.elim) (λl=>rfl)
theorem Ad(l:List Va):Mr.e l= .one (.d (.sl IQ (l.map Va.r))):=rfl
theorem Ae(l:List Va):Mr.d (.one (.d (.sl IQ (l.map Va.r))))=some l:=E4 (e:=λl:List Va=>.one (.d (.sl IQ (l.map Va.r)))) (F4 _)
theorem XL{l:List Vr}{x:Vr}(h:l[i]?=some x)(z:List D):(l.map Vr.r).getD i z=[.v (.string (bs x.s)),.v (.bool x.p)]:=by simp[List.getD,h,Vr.r]
theorem Ug{l:List Va}{x:Va}(h:l[i]?=some x)(z:List D):(l.map Va.r).getD i z=[.v (.bool x.p),.v (.int .i64 x.n),.v (.string (bs x.s))]:=by simp[List.getD,h,Va.r]
theorem OA:∀{l:List Vr} {v:List Va},Dw l v=true->l.length=v.length
 |[],[],_=>rfl
 |[],_::_,h=>by cases h
 |_::_,[],h=>by cases h
 |x::l,y::v,h=>by
  simp only[Dw,Bool.and_eq_true]at h
  simp only[List.length_cons,OA h.2]
abbrev di(l:List Vr)(v:List Va):Prop:=l.length<=5000/\v.length<=5000
abbrev CW(l:List Vr)(v:List Va):Value:=Value.bool (Dw l v)
attribute [local go_sem] Va.r Vr.r cSl DM DL DG A5 A4 Eh Ei AF DE DF
theorem zM:Mg Tryz.prog 49 (ahS (cVq.H) (ahS (cSl rVa) ah0)) (λp:(List Vr×(List Va×Unit))=>di p.1 p.2.1) (λp:(List Vr×(List Va×Unit))=>ofV (CW p.1 p.2.1)):=by
 rintro ⟨l,v,_u⟩ w fz xs hc hfz hl hx
 refine Jr Tryz.func49 rfl w fz [] [] (ahS (cVq.H) (ahS (cSl rVa) ah0)) (λp:(List Vr×(List Va×Unit))=>ofV (CW p.1 p.2.1)) _ xs hfz hl hx (jN rfl) ?_
 clear hx hl hfz xs
 simp only[Tryz.f49]
 obtain⟨hc1,hc2⟩:=hc
 dsimp only at hc1 hc2
 cases hl:((l.length:Int)==(v.length:Int)) with
 |false=>
  have hf:Dw l v=false:=by
   cases h:Dw l v with
   |false=>rfl
   |true=>rw[OA h]at hl;simp at hl
  simp only[seval,go_sem,hl,bne]
  repeat refine AX ?_
  refine A1 [] ?_;simp only[seval,go_sem,bne,CW,hf]
 |true=>
 have hlen:l.length=v.length:=by have:=eq_of_beq hl;omega
 simp only[seval,go_sem,hl,bne]
 refine AC (Y:=Nat) (λi=>i<=l.length/\Dw (l.drop i) (v.drop i)=Dw l v)
  (λi=>⟨[(0,true,.one (.d (.sl zVr (l.map Vr.r)))),(1,true,.one (.d (.sl IQ (v.map Va.r)))),(12,true,.one (.d (.sl zVr (l.map Vr.r)))),(13,true,.one (.v (.int .i64 (l.length:Int)))),(14,true,.one (.v (.int .i64 (i:Int))))],[]⟩)
  (λi=>l.length-i) 0 ⟨Nat.zero_le _,rfl⟩ ?_ ?_
 .refine A2 [] ?_;simp only[seval,go_sem]
 rintro i ⟨hi,hJ⟩
 refine AP [] [] _ _ _ ?_
 have w1:IntKind.i64.wrap ((i:Int)+1)=((i+1:Nat):Int):=by rw[wrap_i64 (by omega) (by omega)];rfl
 cases hx:l[i]? with
 |none=>
  have h2:=List.getElem?_eq_none_iff.1 hx
  have h1:=Ai h2
  rw[List.drop_eq_nil_of_le h2,List.drop_eq_nil_of_le (by omega)]at hJ
  have hJ':Dw l v=true:=hJ.symm
  simp only[seval,go_sem,h1]
  repeat refine AX ?_
  refine A1 [] ?_;simp only[seval,go_sem,bne,CW,hJ']
 |some x=>
 have hlt:=(List.getElem?_eq_some_iff.1 hx).1
 have hlt2:i<v.length:=by omega
 have h1:=Ah hlt
 have h2:=XL hx
 obtain⟨y,hy⟩:∃y,v[i]?=some y:=⟨_,List.getElem?_eq_getElem hlt2⟩
 have h3:=Ug hy
 rw[BF hx,BF hy]at hJ
 simp only[Dw]at hJ
 cases hp:(x.p==y.p) with
 |false=>
  rw[hp,Bool.false_and]at hJ
  have hJ':Dw l v=false:=hJ.symm
  simp only[seval,go_sem,h1,h2,h3,hp,bne]
  repeat refine AX ?_
  refine A1 [] ?_;simp only[seval,go_sem,bne,CW,hJ']
 |true=>
 rw[hp,Bool.true_and]at hJ
 simp only[seval,go_sem,h1,h2,h3,hp,bne,w1]
 repeat refine AX ?_
 refine⟨i+1,⟨hlt,hJ⟩,by omega,A2 [] ?_⟩
 simp only[seval,go_sem]
theorem KF2{p:Prop}(h:p:=by intro p;rfl):p:=h
noncomputable def Cz{X:Ctx}{w0:World}:Sy.Spec Tryz.prog X w0:=Rf 49 Tryz.call49 (ahS (cVq.H) (ahS (cSl rVa) ah0)) (λp:(List Vr×(List Va×Unit))=>di p.1 p.2.1) (λp:(List Vr×(List Va×Unit))=>CW p.1 p.2.1) KF2 zM
end Go.Proofs.YtapedeoheilnnaaGreat
