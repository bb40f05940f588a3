/- What a run keeps, plain. No conditions but those in each statement. -/
import Derived.Test.YtapedeoheilnnaaGreatSy36
import Derived.Test.YtapedeoheilnnaaGreatRm6
import Derived.Test.YtapedeoheilnnaaGreatRm7
set_option linter.all false
open Option (isSome_some isSome_none)
open List (length_map)
namespace Go.Proofs.YtapedeoheilnnaaGreat
open Go Go.Sy Go.RowKit
variable{q r:Fa}{st:Sm->Fa->Ro}{s:Sm}{N:Nat}
def naL(x:Na):Nat:=x.l.length
structure Kq(q r:Fa):Prop where
 P:r.P=q.P
 c:r.m.cs.length=q.m.cs.length
 a:r.m.ar.map naL=q.m.ar.map naL
 l:0<=r.m.fuel
 u:r.m.fuel<=q.m.fuel
theorem Kq.tr{t:Fa}(h:Kq q r)(k:Kq r t):Kq q t:=⟨k.P.trans h.P,k.c.trans h.c,k.a.trans h.a,k.l,by have:=k.u;have:=h.u;omega⟩
theorem Kq.of(h:0<=q.m.fuel)(h1:r.P=q.P)(h2:r.m.cs=q.m.cs)(h3:r.m.ar=q.m.ar)(h4:r.m.fuel=q.m.fuel):Kq q r:=⟨h1,by rw[h2],by rw[h3],by omega,by omega⟩
theorem de(m:Ms)(i j:Int)(v:Int):(m.put i j v).ar.map naL=m.ar.map naL:=by
 show (m.ar.set i.toNat ⟨(m.ar.getD i.toNat ⟨[],[]⟩).s,(m.arr i).set j.toNat v⟩).map naL=_
 rw[List.map_set]
 show (m.ar.map naL).set i.toNat ((m.arr i).set j.toNat v).length=_
 rw[List.length_set]
 apply List.ext_getElem?
 intro k
 rw[List.getElem?_set]
 split
 .rename_i hk
  subst hk
  split
  .rename_i hl
   rw[length_map]at hl
   rw[List.getElem?_map,List.getElem?_eq_getElem hl]
   simp[Ms.arr,naL,List.getD,hl]
  simp_all
 rfl
theorem Vl{v:Int}(h:0<=q.m.fuel):Kq q (Fk q s v).q:=by
 unfold Fk
 split
 .exact Kq.of h rfl rfl rfl rfl
 split
 .exact⟨rfl,by show (q.m.cs.set _ _).length=_;rw[List.length_set],rfl,h,Int.le_refl _⟩
 exact Kq.of h rfl rfl rfl rfl
def KqS(st:Sm->Fa->Ro):Prop:=∀s q,0<=q.m.fuel->q.m.fuel<=1000000000->Kq q (st s q).q
theorem N2(h:KqS st):∀(l:List Sm) (q:Fa),0<=q.m.fuel->q.m.fuel<=1000000000->Kq q (blF st l q).q
 |[],q,h0,_=>Kq.of h0 rfl rfl rfl rfl
 |s::l,q,h0,h1=>by
  have k:=h s q h0 h1
  simp only[blF]
  split
  .exact k
  exact k.tr (N2 h l _ k.l (by have:=k.u;omega))
theorem ff{m:Ms}(h1:m.out=false)(h0:0<=m.fuel)(h2:m.fuel<=1000000000):m.spd.fuel=m.fuel-1/\1<=m.fuel:=by
 have:¬m.fuel<1:=of_decide_eq_false h1
 refine⟨?_,by omega⟩
 show w64i (m.fuel-1)=_
 unfold w64i;rw[wrap_i64 (by omega) (by omega)]
theorem Vm(h1:q.m.out=false)(h0:0<=q.m.fuel)(h2:q.m.fuel<=1000000000):Kq q { q with m:=q.m.spd }:=by
 obtain⟨a,b⟩:=ff h1 h0 h2
 exact⟨rfl,rfl,rfl,by show 0<=q.m.spd.fuel;omega,by show q.m.spd.fuel<=_;omega⟩
theorem qv{bl:Fa->Ro}(h:∀q,0<=q.m.fuel->q.m.fuel<=1000000000->Kq q (bl q).q):∀(k:Nat) (q:Fa),0<=q.m.fuel->q.m.fuel<=1000000000->Kq q (lpF bl s k q).q
 |0,q,h0,_=>Kq.of h0 rfl rfl rfl rfl
 |k+1,q,h0,h1=>by
  simp only[lpF]
  cases ho:q.m.out with
  |true=>exact Kq.of h0 rfl rfl rfl rfl
  |false=>
  have ks:=Vm ho h0 h1
  simp only[jB,if_false]
  cases cdF q.P q.m.spd q.vs s.cd with
  |no j=>exact ks.tr (Kq.of ks.l rfl rfl rfl rfl)
  |ok x=>cases x with
   |false=>exact ks
   |true=>
    have kb:=h { q with m:=q.m.spd } ks.l (by have:=ks.u;omega)
    show Kq q (if _ then _ else _:Ro).q
    split
    .exact ks.tr kb
    .exact(ks.tr kb).tr (qv h k _ kb.l (by have:=kb.u;have:=ks.u;omega))
theorem Vn(h:KqS st)(q:Fa)(g:Fn)(a:List Va)(h0:0<=q.m.fuel)(h1:q.m.fuel<=1000000000):Kq q { q with m:=(IX st q.P g a q.m).2.2 }:=by
 unfold IX
 split
 .exact Kq.of h0 rfl rfl rfl rfl
 have k:=N2 h g.body ⟨g.name,0,q.P,{ q.m with deep:=w64i (q.m.deep+1) },vsP g.ps a (vsL g.ls [])⟩ h0 h1
 show Kq q { q with m:=(if _ then _ else _:Bool×Int×Ms).2.2 }
 split
 .exact⟨rfl,k.c,k.a,k.l,k.u⟩
 exact⟨rfl,k.c,k.a,k.l,k.u⟩
theorem zL(h:KqS st)(s:Sm)(q:Fa)(h0:0<=q.m.fuel)(h1:q.m.fuel<=1000000000):Kq q (GQ st s q).q:=by
 unfold GQ
 split
 .exact Kq.of h0 rfl rfl rfl rfl
 split
 .exact Kq.of h0 rfl rfl rfl rfl
 dsimp only
 split
 .exact Kq.of h0 rfl rfl rfl rfl
 rename_i a _ _ i _ _
 have k:=Vn h q (q.P.fs.getD i.toNat ⟨[],[],[],[]⟩) a h0 h1
 unfold RO
 split
 .exact k
 split
 .exact k
 exact k.tr (Vl k.l)
theorem Ij{c:Prop}[Decidable c]{a b:Ro}(h1:Kq q a.q)(h2:Kq q b.q):Kq q (if c then a else b).q:=by grind
theorem A4C(h:KqS st)(s:Sm)(q:Fa)(h0:0<=q.m.fuel)(h1:q.m.fuel<=1000000000):Kq q (smF st s q).q:=by
 have r:∀{t:Fa},t.P=q.P->t.m.cs=q.m.cs->t.m.ar=q.m.ar->t.m.fuel=q.m.fuel->Kq q t:=λa b c d=>Kq.of h0 a b c d
 unfold smF
 refine Ij ?_ (Ij ?_ (Ij ?_ (Ij ?_ (Ij ?_ (Ij ?_ (Ij ?_ (Ij ?_ (Ij ?_ (Ij ?_ (Ij ?_ (Ij ?_ ?_)))))))))))
 .cases evF q.P q.m q.vs s.e with
  |no j=>exact r rfl rfl rfl rfl
  |ok v=>exact Vl h0
 .cases q.P.ci s.y with
  |none=>exact r rfl rfl rfl rfl
  |some i=>exact r rfl rfl rfl rfl
 .exact r rfl rfl rfl rfl
 .exact r rfl rfl rfl rfl
 .cases GC q s.y with
  |no j=>exact r rfl rfl rfl rfl
  |ok i=>exact Vl h0
 .cases evF q.P q.m q.vs s.e with
  |no j=>exact r rfl rfl rfl rfl
  |ok v=>
  show Kq q (match GC q s.x with| .no j=>q.brk s j| .ok i=>Fa.go { q with m:=q.m.set i v }).q
  cases GC q s.x with
  |no j=>exact r rfl rfl rfl rfl
  |ok i=>exact⟨rfl,by show (q.m.cs.set _ _).length=_;rw[List.length_set],rfl,h0,Int.le_refl _⟩
 .cases evF q.P q.m q.vs s.e with
  |no j=>exact r rfl rfl rfl rfl
  |ok i=>
  show Kq q (match FR q s i with| .no j=>q.brk s j| .ok k=>Fk q s ((q.m.arr k).getD i.toNat 0)).q
  cases FR q s i with
  |no j=>exact r rfl rfl rfl rfl
  |ok k=>exact Vl h0
 .cases evF q.P q.m q.vs s.e with
  |no j=>exact r rfl rfl rfl rfl
  |ok i=>
  show Kq q (match evF q.P q.m q.vs s.f with| .no j=>q.brk s j| .ok v=>match FR q s i with| .no j=>q.brk s j| .ok k=>Fa.go { q with m:=q.m.put k i v }).q
  cases evF q.P q.m q.vs s.f with
  |no j=>exact r rfl rfl rfl rfl
  |ok v=>
  show Kq q (match FR q s i with| .no j=>q.brk s j| .ok k=>Fa.go { q with m:=q.m.put k i v }).q
  cases FR q s i with
  |no j=>exact r rfl rfl rfl rfl
  |ok k=>exact⟨rfl,rfl,de _ _ _ _,h0,Int.le_refl _⟩
 .exact zL h s q h0 h1
 .cases evF q.P q.m q.vs s.e with
  |no j=>exact r rfl rfl rfl rfl
  |ok v=>simp_all
 .cases cdF q.P q.m q.vs s.cd with
  |no j=>exact r rfl rfl rfl rfl
  |ok x=>cases x with
   |true=>exact N2 h s.th q h0 h1
   |false=>exact N2 h s.el q h0 h1
 .cases cdF q.P q.m q.vs s.cd with
  |no j=>exact r rfl rfl rfl rfl
  |ok x=>cases x with
   |true=>exact r rfl rfl rfl rfl
   |false=>exact r rfl rfl rfl rfl
 exact r rfl rfl rfl rfl
theorem ME:∀n,KqS (stF n)
 |0=>λs q h0 _=>Kq.of h0 rfl rfl rfl rfl
 |n+1=>λs q h0 h1=>by
  have ih:=ME n
  simp only[stF]
  split
  .exact qv (λq a b=>N2 ih s.th q a b) (n+1) q h0 h1
  cases ho:q.m.out with
  |true=>exact Kq.of h0 rfl rfl rfl rfl
  |false=>
  have ks:=Vm ho h0 h1
  simp only[jB,if_false]
  exact ks.tr (A4C ih s { q with m:=q.m.spd } ks.l (by have:=ks.u;omega))
structure okPg(N:Nat)(P:Pg):Prop where
 l:P.fs.length<=1000000
 f:∀f∈P.fs,okF f/\∃m,okB N m f.body
structure okMs(N:Nat)(n:Int)(q:Fa):Prop where
 p:okPg N q.P
 c:okC q.P q.m
 a:∀x∈q.m.ar,x.l.length<=1000000000
 l:0<=q.m.fuel
 u:q.m.fuel<n
theorem okMs.kq{n k:Int}(h:okMs N n q)(e:Kq q r)(hu:r.m.fuel<k):okMs N k r:=by
 refine⟨by rw[e.P];exact h.p,⟨by rw[e.c,e.P];exact h.c.c,?_,by rw[e.P];exact h.c.n,by rw[e.P];exact h.c.k⟩,λx hx=>?_,e.l,hu⟩
 .have:=congrArg List.length e.a
  rw[length_map,length_map]at this
  rw[this,e.P];exact h.c.a
 have h1:naL x∈r.m.ar.map naL:=List.mem_map.2 ⟨x,hx,rfl⟩
 rw[e.a]at h1
 obtain⟨y,hy,h2⟩:=List.mem_map.1 h1
 have:=h.a y hy
 show naL x<=_
 rw[<- h2];exact this
theorem qw{l:List Sm}{i:Nat}{x:Sm}(h:l[i]?=some x)(z:List D):(l.map Sm.r).getD i z=x.r:=by simp[List.getD,h]
structure okT(N:Nat)(s:Sm):Prop where
 k:OkS N s
 t:∃m,okB N m s.th
 e:∃m,okB N m s.el
theorem qx{m:Nat}{l:List Sm}(h:okB N m l)(hs:s∈l):okT N s:=by
 cases m with
 |zero=>exact h.elim
 |succ m=>obtain⟨a,b,c⟩:=h.2 s hs;exact⟨a,⟨m,b⟩,⟨m,c⟩⟩
theorem dg{m:Nat}{l:List Sm}(h:okB N m l):l.length<=5000:=by
 cases m with
 |zero=>exact h.elim
 |succ m=>exact h.1
abbrev nh(N:Nat)(n:Nat)(q:Fa)(s:Sm):Prop:=okT N s/\okMs N n q/\n<=1000000000
abbrev JP(N:Nat)(n:Nat)(q:Fa)(s:Sm):Bool:=(stF n s q).b
abbrev Hb(N:Nat)(n:Nat)(q:Fa)(s:Sm):Fa:=(stF n s q).q
abbrev IP(N:Nat)(n:Nat)(q:Fa)(s:Sm):Fa:=(stF n s q).q
abbrev JQ(N:Nat)(n:Nat)(q:Fa)(s:Sm):SV:=.one (.v (.bool (stF n s q).t))
theorem ni:∀b,∀v∈ArgC.e (acS (cSp) ac0) b,v.tupB=false:=by rintro ⟨x0,_⟩ v hv;simp only[FV,FU,List.mem_cons,List.not_mem_nil,or_false]at hv;subst hv<;>first|rfl|exact FN _|exact FO _
noncomputable abbrev R9:ArgL (Fa×(Sm)×Unit):=amFr (acS (cSp) ac0) ni
abbrev Lp(N:Nat)(n:Nat):Prop:=Dj Tryz.prog 87 (R9).args (R9).mem (λp:(Fa×(Sm)×Unit)=>nh N n p.1 p.2.1) (λp:(Fa×(Sm)×Unit)=>JP N n p.1 p.2.1) (λp:(Fa×(Sm)×Unit)=>JQ N n p.1 p.2.1) (λp:(Fa×(Sm)×Unit)=>Fa.memO (Hb N n p.1 p.2.1)) (λp:(Fa×(Sm)×Unit)=>mlO (Fa.pan (IP N n p.1 p.2.1)))
noncomputable def RA{X:Ctx}{w0:World}(N:Nat)(n:Nat)(h:Lp N n):Sy.Spec Tryz.prog X w0:=Dc 87 Tryz.call87 (R9) _ _ _ _ _ (id (by exact λp _ _=>have h:=Ek p.1 (Hb N n p.1 p.2.1);⟨h.1,h.2.1,rfl,h.2.2⟩)) (id (by exact λp _ _=>JM p.1 (IP N n p.1 p.2.1))) (id (by exact λp _ _=>⟨(Ek p.1 (Hb N n p.1 p.2.1)).1,rfl⟩)) KF4 h
theorem O7{X:Ctx}{w0:World}(N:Nat)(n:Nat)(h:Lp N n):(RA (X:=X) (w0:=w0) N n h).f=87:=rfl
def O8{X:Ctx}{w0:World}(N:Nat)(n:Nat)(h:Lp N n)(t:Nat)(args:List SV)(H:Hp):=@id ((RA (X:=X) (w0:=w0) N n h).fn t args H=spL X _ t H _ _ _ _ _) rfl
abbrev jc(N:Nat)(n:Nat)(q:Fa)(l:List Sm):Prop:=(∃m,okB N m l)/\okMs N n q/\n<=1000000000
abbrev BP(N:Nat)(n:Nat)(q:Fa)(l:List Sm):Bool:=(blF (stF n) l q).b
abbrev BC(N:Nat)(n:Nat)(q:Fa)(l:List Sm):Fa:=(blF (stF n) l q).q
abbrev BJ(N:Nat)(n:Nat)(q:Fa)(l:List Sm):Fa:=(blF (stF n) l q).q
abbrev Bw(N:Nat)(n:Nat)(q:Fa)(l:List Sm):SV:=.one (.v (.bool (blF (stF n) l q).t))
theorem jd:∀b,∀v∈ArgC.e (acS (cSs) ac0) b,v.tupB=false:=by rintro ⟨x0,_⟩ v hv;simp only[FV,FU,List.mem_cons,List.not_mem_nil,or_false]at hv;subst hv<;>first|rfl|exact FN _|exact FO _
noncomputable abbrev P3:ArgL (Fa×(List Sm)×Unit):=amFr (acS (cSs) ac0) jd
abbrev JR(N:Nat)(n:Nat):Prop:=Dj Tryz.prog 73 (P3).args (P3).mem (λp:(Fa×(List Sm)×Unit)=>jc N n p.1 p.2.1) (λp:(Fa×(List Sm)×Unit)=>BP N n p.1 p.2.1) (λp:(Fa×(List Sm)×Unit)=>Bw N n p.1 p.2.1) (λp:(Fa×(List Sm)×Unit)=>Fa.memO (BC N n p.1 p.2.1)) (λp:(Fa×(List Sm)×Unit)=>mlO (Fa.pan (BJ N n p.1 p.2.1)))
noncomputable def IA{X:Ctx}{w0:World}(N:Nat)(n:Nat)(h:JR N n):Sy.Spec Tryz.prog X w0:=Dc 73 Tryz.call73 (P3) _ _ _ _ _ (id (by exact λp _ _=>have h:=Ek p.1 (BC N n p.1 p.2.1);⟨h.1,h.2.1,rfl,h.2.2⟩)) (id (by exact λp _ _=>JM p.1 (BJ N n p.1 p.2.1))) (id (by exact λp _ _=>⟨(Ek p.1 (BC N n p.1 p.2.1)).1,rfl⟩)) KF4 h
theorem Cb{X:Ctx}{w0:World}(N:Nat)(n:Nat)(h:JR N n):(IA (X:=X) (w0:=w0) N n h).f=73:=rfl
def Cc{X:Ctx}{w0:World}(N:Nat)(n:Nat)(h:JR N n)(t:Nat)(args:List SV)(H:Hp):=@id ((IA (X:=X) (w0:=w0) N n h).fn t args H=spL X _ t H _ _ _ _ _) rfl
attribute [local go_sem] Fa.mem Fa.memO Fa.pan ML.ch ML.ren Ms.brk Ms.exh Ms.spd Sm.ar Sm.cd Sm.e Sm.el Sm.f Sm.k Sm.no Sm.th Sm.x Sm.y H4 Gz H5 Di Bl Bk Be Bi Bj LJ LI DJ DI chL IJ F6 F5 Gv fcN JI frC IK Gx lmH lmO Gw IH II mcC IL Hm mcW DH Cj Ck EQ nmX A5 A4 Dz Dh D3 D4 ED E9 GW GV E5 EE rnC Fx AF Ci DS Cu CU E8 vrQ IM JJ
set_option maxRecDepth 20000 in set_option maxHeartbeats 32000000 in
theorem RB(N:Nat)(n:Nat)(hu:Lp N n):JR N n:=by
 rintro ⟨q,l,_u⟩ w M I lab fz xs hc hA hl hx
 refine Bz Tryz.func73 rfl (Fa.mem q) w M I lab fz (BP N n q l) (Fa.pan (BJ N n q l)) (Fa.memO (BC N n q l)) [(RA N n hu)] [] ((P3).args ⟨q,l,_u⟩) (Bw N n q l) xs hA hl hx (Hx _ _ _ _) (jN rfl) (Nat.le_refl _) rfl (JN _) ?_
 clear hx hl hA xs
 simp only[Tryz.f73]
 obtain⟨⟨m,hl⟩,hM,hn⟩:=hc
 dsimp only at hl hM hn
 have hlen:=dg hl
 obtain⟨G,hG⟩:∃G,blF (stF n) l q=G:=⟨_,rfl⟩
 simp only[seval,go_sem,xt,↓A0,CP,CQ,CR,CS,Va.c,isSome_some,isSome_none,Ev.b,Ev.vl,evA,evW,va0,O7,O8,JQ,JP,Hb,IP,BP,BC,BJ,hG]
 refine AC (Y:=Nat×Fa) (λz=>z.1<=l.length/\okMs N n z.2/\blF (stF n) (l.drop z.1) z.2=G)
  (λz=>⟨[(0,true,.one (.p 0 0 0)),(1,true,.one (.d (.sl zSm (l.map Sm.r)))),(6,true,.one (.d (.sl zSm (l.map Sm.r)))),(7,true,.one (.v (.int .i64 (l.length:Int)))),(8,true,.one (.v (.int .i64 (z.1:Int))))],[(0,.vec 0 zFr [frC z.2]),(1,.vec 0 zMc [mcC z.2.P z.2.m]),(2,.mp true (vsC z.2.vs))]⟩)
  (λz=>l.length-z.1) (0,q) ⟨Nat.zero_le _,hM,hG⟩ ?_ ?_
 .refine A2 [] ?_;simp only[seval,go_sem,xt,↓A0]
 rintro ⟨i,r⟩ ⟨hi,hr,hJ⟩
 dsimp only at hi hr hJ
 refine AP [RA N n hu] [] _ _ _ ?_
 have w1:IntKind.i64.wrap ((i:Int)+1)=((i+1:Nat):Int):=by rw[wrap_i64 (by omega) (by omega)];rfl
 cases hx:l[i]? with
 |none=>
  have h2:=List.getElem?_eq_none_iff.1 hx
  have h1:=Ai h2
  rw[List.drop_eq_nil_of_le h2]at hJ
  have hJ':r.go=G:=hJ
  subst hJ'
  simp only[seval,go_sem,xt,↓A0,CP,CQ,CR,CS,Va.c,isSome_some,isSome_none,Ev.b,Ev.vl,evA,evW,va0,O7,O8,JQ,JP,Hb,IP,BP,BC,BJ,h1,hG]
  repeat refine AX ?_
  refine A1 [] ?_;simp only[seval,go_sem,bne,Bw,BP,BC,BJ,A3,xt,↓A0,Ev.b,Ev.vl,evA,evW,va0,hG,Fa.go]
 |some s=>
 have hlt:=(List.getElem?_eq_some_iff.1 hx).1
 have h1:=Ah hlt
 have h2:=qw hx
 have hT:=qx hl (List.mem_of_getElem? hx)
 have hk:=ME n s r hr.l (by have:=hr.u;omega)
 rw[BF hx]at hJ
 simp only[blF]at hJ
 obtain⟨T,hT2⟩:∃T,stF n s r=T:=⟨_,rfl⟩
 rw[hT2]at hJ hk
 obtain⟨k0,x0,y0,e0,f0,cd0,ar0,th0,el0,no0⟩:=s
 obtain⟨b,t,r'⟩:=T
 cases b with
 |true=>
  have hJ':(⟨true,t,r'⟩:Ro)=G:=by simpa using hJ
  subst hJ'
  simp only[seval,go_sem,xt,↓A0,CP,CQ,CR,CS,Va.c,isSome_some,isSome_none,Ev.b,Ev.vl,evA,evW,va0,O7,O8,JQ,JP,Hb,IP,BP,BC,BJ,h1,h2,hG,hT2]
  repeat refine AX ?_
  all_goals first|(refine A1 [] ?_;simp only[seval,go_sem,bne,Bw,BP,BC,BJ,A3,xt,↓A0,Ev.b,Ev.vl,evA,evW,va0,hG,hT2])|exact KA
 |false=>
 cases t with
 |true=>
  have hJ':(⟨false,true,r'⟩:Ro)=G:=by simpa using hJ
  subst hJ'
  simp only[seval,go_sem,xt,↓A0,CP,CQ,CR,CS,Va.c,isSome_some,isSome_none,Ev.b,Ev.vl,evA,evW,va0,O7,O8,JQ,JP,Hb,IP,BP,BC,BJ,h1,h2,hG,hT2]
  repeat refine AX ?_
  refine A1 [] ?_;simp only[seval,go_sem,bne,Bw,BP,BC,BJ,A3,xt,↓A0,Ev.b,Ev.vl,evA,evW,va0,hG,hT2]
 |false=>
 have hJ':blF (stF n) (l.drop (i+1)) r'=G:=by simpa using hJ
 simp only[seval,go_sem,xt,↓A0,CP,CQ,CR,CS,Va.c,isSome_some,isSome_none,Ev.b,Ev.vl,evA,evW,va0,O7,O8,JQ,JP,Hb,IP,BP,BC,BJ,h1,h2,hG,hT2,w1]
 repeat refine AX ?_
 refine⟨(i+1,r'),⟨hlt,hr.kq hk (by have h9:r'.m.fuel<=r.m.fuel:=hk.u;have:=hr.u;show r'.m.fuel<_;omega),hJ'⟩,by dsimp only;omega,A2 [] ?_⟩
 simp only[seval,go_sem,xt,↓A0]
end Go.Proofs.YtapedeoheilnnaaGreat
