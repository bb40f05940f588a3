/- The document's state of a program, walked. Conditions: lengths. -/
import Derived.Test.YtapedeoheilnnaaGreatRml
import Derived.Test.YtapedeoheilnnaaGreatZr6
import Derived.Test.YtapedeoheilnnaaGreatRs1
set_option linter.all false
set_option maxRecDepth 20000
set_option maxHeartbeats 16000000
open List (length_map map_cons map_set mem_cons)
namespace Go.Proofs.YtapedeoheilnnaaGreat
open Go Go.Sy Go.RowKit
theorem AAL{P:Prop}(h:P:=by
 intro r h c hc
 simp only[List.mem_singleton]at h
 subst h
 simp only[mem_cons,List.not_mem_nil,or_false]at hc
 rcases hc with rfl|rfl<;>rfl):P:=h
theorem AAS{P:Prop}(h:P:=by refine A2 [] ?_;simp only[seval,go_sem,ht,List.map_append,List.flatMap_append]):P:=h
variable{x s:List UInt8}
theorem Bx{α:Type}(v:α)(s t:List UInt8):∀es:List (List UInt8×α),AH (B5 es s v) t=if (s==t)=true then some v else AH es t
 |[]=>by simp only[B5,AH]
 |(k,x)::r=>by
  simp only[B5]
  split
  .rename_i h
   have e:=eq_of_beq h
   subst e
   simp only[AH]
   split<;>rfl
  rename_i h
  simp only[AH,Bx v s t r]
  by_cases h1:(k==t)=true
  .rw[if_pos h1]
   have h2:¬(s==t)=true:=by
    intro h2
    exact h (by rw[eq_of_beq h2];exact h1)
   rw[if_neg h2,if_pos h1]
  rw[if_neg h1,if_neg h1]
def idx(s:List UInt8):List (List UInt8)->Option Nat
 |[]=>none
 |x::r=>if (x==s)=true then some 0 else (idx s r).map (·+1)
theorem dx(s:List UInt8):∀(l:List (List UInt8)) (i:Nat) (es:List (List UInt8×Int)),AH (Gc l i es) s=match AH es s with
  |some v=>some v
  |none=>(idx s l).map λj=>((j+i:Nat):Int)
 |[],i,es=>by simp only[Gc,idx,Option.map_none];cases AH es s<;>rfl
 |x::r,i,es=>by
  simp only[Gc,dx s r (i+1),idx]
  cases hx:(AH es x).isSome with
  |true=>
   rw[if_pos rfl]
   cases hs:AH es s with
   |some v=>rfl
   |none=>
   have:¬(x==s)=true:=by
    intro h
    rw[eq_of_beq h,hs]at hx;cases hx
   rw[if_neg this]
   cases idx s r with
   |none=>rfl
   |some j=>simp only[Option.map_some];congr 2;omega
  |false=>
  rw[if_neg (by decide),Bx]
  by_cases h:(x==s)=true
  .have e:=eq_of_beq h
   subst e
   rw[if_pos h,if_pos h]
   cases hs:AH es x with
   |some v=>rw[hs]at hx;cases hx
   |none=>simp
  rw[if_neg h,if_neg h]
  cases AH es s with
  |some v=>rfl
  |none=>
  cases idx s r with
  |none=>rfl
  |some j=>simp only[Option.map_some];congr 2;omega
theorem SW(s:List UInt8)(l:List (List UInt8)):AH (fI l) s=(idx s l).map Int.ofNat:=by
 unfold fI
 rw[dx]
 cases idx s l<;>rfl
def lkN(s:List UInt8):List Nb->Int
 |[]=>0
 |x::r=>if (x.s==s)=true then x.n else lkN s r
def lkA(s:List UInt8)(d:List Int):List Na->List Int
 |[]=>d
 |x::r=>if (x.s==s)=true then cpL d x.l else lkA s d r
theorem dy(s:List UInt8):∀l:List Nb,lkN s l=match idx s (l.map Nb.s) with
  |some j=>(l.getD j ⟨[],0⟩).n
  |none=>0
 |[]=>rfl
 |x::r=>by
  simp only[lkN,map_cons,idx]
  by_cases h:(x.s==s)=true
  .rw[if_pos h,if_pos h];rfl
  rw[if_neg h,if_neg h,dy s r]
  cases idx s (r.map Nb.s)<;>rfl
theorem dz(s:List UInt8)(d:List Int):∀l:List Na,lkA s d l=match idx s (l.map Na.s) with
  |some j=>cpL d (l.getD j ⟨[],[]⟩).l
  |none=>d
 |[]=>rfl
 |x::r=>by
  simp only[lkA,map_cons,idx]
  by_cases h:(x.s==s)=true
  .rw[if_pos h,if_pos h];rfl
  rw[if_neg h,if_neg h,dz s d r]
  cases idx s (r.map Na.s)<;>rfl
theorem A02(l:List Nb)(s:List UInt8):stN l ⟨s,0⟩=⟨s,lkN s l⟩:=by
 unfold stN
 dsimp only
 rw[SW,dy]
 cases idx s (l.map Nb.s) with
 |none=>rfl
 |some j=>rfl
theorem uu(l:List Na)(s:List UInt8)(d:List Int):LN l ⟨s,d⟩=⟨s,lkA s d l⟩:=by
 unfold LN
 dsimp only
 rw[SW,dz]
 cases idx s (l.map Na.s) with
 |none=>rfl
 |some j=>rfl
theorem kN{p:List (List UInt8)}{s:List Nb}{i:Nat}(h:p[i]?=some x):(stCs (p.take (i+1)) s).map Nb.c=(stCs (p.take i) s).map Nb.c++[[.v (.string (bs x)),.v (.int .i64 (lkN x s))]]:=by
 rw[List.take_add_one,h]
 simp[stCs,blC,A02,Nb.c]
theorem rK{p:List Gy}{s:List Na}{i:Nat}{x:Gy}(h:p[i]?=some x):(stA (p.take (i+1)) s).map Na.c=(stA (p.take i) s).map Na.c++[[.v (.string (bs x.s)),.ov zI ((lkA x.s (List.replicate x.n.toNat 0) s).map cI)]]:=by
 rw[List.take_add_one,h]
 simp[stA,blA,uu,Na.c]
theorem ON(p:List (List UInt8))(s:List Nb):(stCs p s).length=p.length:=by simp[stCs,blC]
theorem W6(p:List Gy)(s:List Na):(stA p s).length=p.length:=by simp[stA,blA]
abbrev KB(sc:List Nb)(sa:List Na):Ch:=.vec 0 [.v (.bool false),.v (.bool false)] [[.d (.sl Hc (sc.map Nb.r)),.d (.sl Hd (sa.map Na.r))]]
theorem ZR(k t:Nat)(l:List Int):(l.map cI).map (λr=>r.map (mvC k t))=l.map cI:=HU cI (λ_=>rfl) l
abbrev A03:List C:=tgN 69 2
abbrev gJ:List C:=tgN 72 2
def exY(f:Fn)(e:Ex):Prop:=exR e/\D9 f e=true
def cdY(f:Fn)(c:Cd):Prop:=cdR c/\J2 f c=true
structure VrS(f:Fn)(P:Pg)(vs:Vs)(is:Zi)(ps:Zp)(s:List UInt8):Prop where
 n:AK f s=0->AH vs s=none/\AH is s=none
 i:AK f s=1->∃n t,AH vs s=some ⟨false,n,t⟩/\AH is s=some n
 p:AK f s=2->∃n t,AH vs s=some ⟨true,n,t⟩/\AH ps s=some t/\(t=[]∨(P.ci t).isSome=true)
theorem cF(s:List UInt8):∀l,El s l=0∨El s l=1∨El s l=2
 |[]=>.inl rfl
 |v::l=>by
  simp only[El]
  split
  .omega
  exact cF s l
theorem lz(f:Fn)(s:List UInt8):AK f s=0∨AK f s=1∨AK f s=2:=cF s _
structure Mq(P:Pg)(m r:Ms):Prop where
 cs:r.cs=m.cs
 ar:r.ar=m.ar
 fu:r.fuel=m.fuel
 dp:r.deep=m.deep
 on:r.on=true
 nc:m.cs.map Nb.s=P.g.c
 na:m.ar.map Na.s=P.g.a.map Gy.s
theorem YD(s:List UInt8):∀(l:List (List UInt8)) (i:Int),ixN s l i=match idx s l with
  |some j=>i+(j:Int)
  |none => -1
 |[],i=>rfl
 |x::r,i=>by
  simp only[ixN,idx]
  by_cases h:(x==s)=true
  .simp_all
  rw[if_neg h,if_neg h,YD s r]
  cases idx s r with
  |none=>rfl
  |some j=>grind
theorem Mq.ci{P:Pg}{m r:Ms}(h:Mq P m r)(s:List UInt8):(P.ci s=none/\r.cx s = -1)∨∃i:Int,P.ci s=some i/\r.cx s=i/\0<=i:=by
 have e:r.cx s=ixN s P.g.c 0:=by unfold Ms.cx;rw[h.cs,h.nc]
 rw[e,YD]
 unfold Pg.ci
 rw[SW]
 cases idx s P.g.c with
 |none=>simp_all
 |some j=>simp_all
theorem Mq.ai{P:Pg}{m r:Ms}(h:Mq P m r)(s:List UInt8):(P.ai s=none/\r.ax s = -1)∨∃i:Int,P.ai s=some i/\r.ax s=i/\0<=i:=by
 have e:r.ax s=ixN s (P.g.a.map Gy.s) 0:=by unfold Ms.ax;rw[h.ar,h.na]
 rw[e,YD]
 unfold Pg.ai
 rw[SW]
 cases idx s (P.g.a.map Gy.s) with
 |none=>simp_all
 |some j=>simp_all
theorem Mq.cell{P:Pg}{m r:Ms}(h:Mq P m r)(i:Int):r.cell i=m.cell i:=by unfold Ms.cell;rw[h.cs]
theorem Mq.arr{P:Pg}{m r:Ms}(h:Mq P m r)(i:Int):r.arr i=m.arr i:=by unfold Ms.arr;rw[h.ar]
theorem K5(m:Ms)(nm:List UInt8)(al k:Int)(h:m.on=true):(m.zfail nm al k).on=false:=by unfold Ms.zfail;rw[if_pos h];rfl
theorem UI{nm:List UInt8}{al:Int}{is:Zi}{m:Ms}(h:m.on=false):∀e:Ex,evZ nm al is e m=(0,m)
 | .nil=>rfl
 | .mk k n s a b=>by simp only[evZ];rw[if_pos h]
theorem xf{nm:List UInt8}{al:Int}{is:Zi}{ps:Zp}{m:Ms}(h:m.on=false):∀c:Cd,cdZ nm al is ps c m=(false,m)
 | .nil=>rfl
 | .mk k a b p q s=>by simp only[cdZ];rw[if_pos h]
def Ev.z(nm:List UInt8)(al:Int)(m:Ms):Ev Int->Int×Ms
 | .ok v=>(v,m)
 | .no k=>(0,m.zfail nm al k)
section
variable {f:Fn}{P:Pg}{m r:Ms}{vs:Vs}{is:Zi}{ps:Zp}{nm:List UInt8}{al:Int}
theorem Ow(hM:Mq P m r)(hv:∀s,VrS f P vs is ps s):∀e:Ex,exR e->D9 f e=true->evZ nm al is e r=(evF P m vs e).z nm al r
 | .nil,h,_=>h.elim
 | .mk k n s a b,h,ht=>by
  have hon:¬r.on=false:=by rw[hM.on];decide
  simp only[evZ,evF]
  rw[if_neg hon]
  by_cases h0:k=0
  .rw[if_pos h0,if_pos h0];rfl
  rw[if_neg h0,if_neg h0]
  by_cases h1:k=1
  .rw[if_pos h1,if_pos h1]
   have hk:AK f s≠2:=by
    simp only[D9]at ht
    rw[if_pos (by rw[h1];rfl)]at ht
    simpa using ht
   unfold vrZ vlF
   rcases lz f s with k0|k1|k2
   .obtain⟨g1,g2⟩:=(hv s).n k0
    rw[g1,g2]
    dsimp only
    rcases hM.ci s with⟨e1,e2⟩|⟨i,e1,e2,e3⟩
    .rw[e1,e2,if_neg (by decide)];rfl
    rw[e1,e2,if_pos e3]
    show (r.cell i,r)=(m.cell i,r)
    rw[hM.cell]
   .obtain⟨n,t,g1,g2⟩:=(hv s).i k1
    rw[g1,g2];rfl
   omega
  rw[if_neg h1,if_neg h1]
  by_cases h7:k=7
  .rw[if_pos h7,if_pos h7]
   have ha:exR a/\D9 f a=true:=by
    rcases h with h|h|h|h
    .omega
    .omega
    .refine⟨h.2,?_⟩
     simp only[D9]at ht
     rw[if_neg (by rw[h7];decide)]at ht
     exact(Bool.and_eq_true _ _▸ht).1
    omega
   rw[Ow hM hv a ha.1 ha.2]
   cases evF P m vs a with
   |ok v=>rfl
   |no j=>rfl
  rw[if_neg h7,if_neg h7]
  have hab:(k=2∨k=3∨k=4∨k=5∨k=6)/\exR a/\exR b:=by
   rcases h with h|h|h|h
   .omega
   .omega
   .omega
   exact h
  have hi:D9 f a=true/\D9 f b=true:=by
   simp only[D9]at ht
   rw[if_neg (by simpa using h1)]at ht
   exact Bool.and_eq_true_iff.1 ht
  have ia:=Ow hM hv a hab.2.1 hi.1
  have ib:=Ow hM hv b hab.2.2 hi.2
  cases he:evF P m vs a with
  |no j=>
   have ho:(r.zfail nm al j).on=false:=K5 _ _ _ _ hM.on
   have ea:evZ nm al is a r=(0,r.zfail nm al j):=by rw[ia,he];rfl
   rw[ea,UI ho,if_pos ho];rfl
  |ok u=>
  have ea:evZ nm al is a r=(u,r):=by rw[ia,he];rfl
  cases hb:evF P m vs b with
  |no j=>
   have ho:(r.zfail nm al j).on=false:=K5 _ _ _ _ hM.on
   have eb:evZ nm al is b r=(0,r.zfail nm al j):=by rw[ib,hb];rfl
   rw[ea,eb,if_pos ho];rfl
  |ok v=>
  have eb:evZ nm al is b r=(v,r):=by rw[ib,hb];rfl
  rw[ea,eb,if_neg hon]
  dsimp only
  unfold opZ arF
  rcases hab.1 with rfl|rfl|rfl|rfl|rfl
  .rfl
  .rfl
  .rfl
  .by_cases hz:v=0
   .subst hz;rfl
   simp[hz,Ev.z]
  by_cases hz:v=0
  .subst hz;rfl
  simp[hz,Ev.z]
def Ev.zb(nm:List UInt8)(al:Int)(m:Ms)(x:Bool×Ms):Ev Bool->Prop
 | .ok v=>x=(v,m)
 | .no k=>x.2=m.zfail nm al k
theorem Qr(hM:Mq P m r)(hv:∀s,VrS f P vs is ps s):∀c:Cd,cdR c->J2 f c=true->(cdF P m vs c).zb nm al r (cdZ nm al is ps c r)
 | .nil,h,_=>h.elim
 | .mk k a b p q s,h,ht=>by
  have hon:¬r.on=false:=by rw[hM.on];decide
  simp only[cdZ,cdF]
  rw[if_neg hon]
  by_cases h9:k=9
  .have hk:AK f s=2:=by
    simp only[J2]at ht
    rw[if_pos (by rw[h9];rfl)]at ht
    simpa using ht
   obtain⟨n,t,g1,g2,_⟩:=(hv s).p hk
   rw[if_pos h9,if_neg (by omega),if_neg (by omega),if_neg (by omega),if_pos h9]
   unfold GB pgZ
   rw[g1,g2];rfl
  have hc9:¬(k==9)=true:=by simpa using h9
  have hall:D9 f a=true/\D9 f b=true/\J2 f p=true/\J2 f q=true:=by
   simp only[J2]at ht
   rw[if_neg hc9]at ht
   simp only[Bool.and_eq_true]at ht
   exact⟨ht.1.1.1,ht.1.1.2,ht.1.2,ht.2⟩
  obtain⟨ia,ib,ip,iq⟩:=hall
  rw[if_neg h9]
  by_cases h8:k=8
  .have hp:cdR p:=by
    rcases h with h|h|h|h
    .omega
    .exact h.2
    .omega
    omega
   rw[if_pos h8,if_neg (by omega),if_neg (by omega),if_pos h8]
   have ih:=Qr hM hv p hp ip
   cases hc:cdF P m vs p with
   |ok x=>
    rw[hc]at ih
    have ih:cdZ nm al is ps p r=(x,r):=ih
    rw[ih];rfl
   |no j=>
   rw[hc]at ih
   have ih:(cdZ nm al is ps p r).2=r.zfail nm al j:=ih
   exact ih
  rw[if_neg h8]
  by_cases h6:k=6
  .have hpq:cdR p/\cdR q:=by
    rcases h with h|h|h|h
    .omega
    .omega
    .exact h.2
    omega
   rw[if_pos h6,if_pos h6]
   have ih:=Qr hM hv p hpq.1 ip
   cases hc:cdF P m vs p with
   |ok x=>
    rw[hc]at ih
    have ih:cdZ nm al is ps p r=(x,r):=ih
    rw[ih]
    cases x with
    |true=>exact Qr hM hv q hpq.2 iq
    |false=>rfl
   |no j=>
   rw[hc]at ih
   have ih:(cdZ nm al is ps p r).2=r.zfail nm al j:=ih
   have ho:(r.zfail nm al j).on=false:=K5 _ _ _ _ hM.on
   show (if _ then _ else _:Bool×Ms).2=_
   split
   .rw[ih,xf ho]
   exact ih
  rw[if_neg h6]
  by_cases h7:k=7
  .have hpq:cdR p/\cdR q:=by
    rcases h with h|h|h|h
    .omega
    .omega
    .exact h.2
    omega
   rw[if_neg h6,if_pos h7,if_pos h7]
   have ih:=Qr hM hv p hpq.1 ip
   cases hc:cdF P m vs p with
   |ok x=>
    rw[hc]at ih
    have ih:cdZ nm al is ps p r=(x,r):=ih
    rw[ih]
    cases x with
    |true=>rfl
    |false=>
    dsimp only
    rw[if_neg (by decide),if_pos hM.on]
    exact Qr hM hv q hpq.2 iq
   |no j=>
   rw[hc]at ih
   have ih:(cdZ nm al is ps p r).2=r.zfail nm al j:=ih
   have ho:(r.zfail nm al j).on=false:=K5 _ _ _ _ hM.on
   show (if _ then _ else _:Bool×Ms).2=_
   split
   .exact ih
   simp_all
  have hab:(k=0∨k=1∨k=2∨k=3∨k=4∨k=5)/\exR a/\exR b:=by
   rcases h with h|h|h|h
   .omega
   .omega
   .omega
   exact h
  rw[if_neg h7,if_neg h6,if_neg h7,if_neg h8,if_neg h9]
  have ja:=Ow (nm:=nm) (al:=al) hM hv a hab.2.1 ia
  have jb:=Ow (nm:=nm) (al:=al) hM hv b hab.2.2 ib
  cases he:evF P m vs a with
  |no j=>
   have ho:(r.zfail nm al j).on=false:=K5 _ _ _ _ hM.on
   have ea:evZ nm al is a r=(0,r.zfail nm al j):=by rw[ja,he];rfl
   rw[ea,UI ho];rfl
  |ok u=>
  have ea:evZ nm al is a r=(u,r):=by rw[ja,he];rfl
  cases hb:evF P m vs b with
  |no j=>
   have eb:evZ nm al is b r=(0,r.zfail nm al j):=by rw[jb,hb];rfl
   rw[ea,eb];rfl
  |ok v=>
  have eb:evZ nm al is b r=(v,r):=by rw[jb,hb];rfl
  rw[ea,eb]
  show _=_
  unfold cmZ cmF
  rcases hab.1 with rfl|rfl|rfl|rfl|rfl|rfl<;>rfl
end
open Go Go.Sy Go.RowKit
structure tyS(f:Fn)(s:Sm):Prop where
 k0:s.k=0->AK f s.x≠2/\exY f s.e
 k1:s.k=1->AK f s.x=2
 k2:s.k=2->AK f s.x=2/\AK f s.y=2
 k3:s.k=3->AK f s.x=2
 k4:s.k=4->AK f s.x≠2/\AK f s.y=2
 k5:s.k=5->AK f s.x=2/\exY f s.e
 k6:s.k=6->AK f s.x≠2/\exY f s.e
 k7:s.k=7->exY f s.e/\exY f s.f
 k8:s.k=8->(s.x=[]∨AK f s.x≠2)/\∀a∈s.ar,(a.p=true->AK f a.s=2)/\(a.p=false->exY f a.e)
 k9:s.k=9->exY f s.e
 kc:s.k=10∨s.k=11∨s.k=12->cdY f s.cd
def tyB(f:Fn):Nat->List Sm->Prop
 |0,_=>False
 |m+1,l=>∀s∈l,tyS f s/\tyB f m s.th/\tyB f m s.el
structure goodF(f:Fn):Prop where
 p:(f.ps.map Vr.s).Nodup
 l:(f.ls.map Vr.s).Nodup
 b:∃m,tyB f m f.body
def Ii(P:Pg):Prop:=∀f∈P.fs,goodF f
def poV(P:Pg)(a:Va):Prop:=a.p=true->a.s=[]∨(P.ci a.s).isSome=true
structure Sim(f:Fn)(q:Fa)(r:Rz):Prop where
 M:Mq q.P q.m r.m
 P:r.P=q.P
 rf:r.f=f
 nm:q.nm=f.name
 rt:q.ret=0
 l:0<=q.m.fuel
 u:q.m.fuel<=1000000000
 v:∀s,VrS f q.P q.vs r.is r.ps s
structure Pq(m r:Ms):Prop where
 cs:r.cs=m.cs
 ar:r.ar=m.ar
 e:(m.e=1/\r.e=2/\r.f=m.f/\r.al=m.al/\r.k=m.k/\m.v=0)∨(m.e=2/\r.e=3/\m.v=0/\m.f=[]/\m.al=0/\m.k=0)
structure Tq(q:Fa)(r:Rz):Prop where
 cs:r.m.cs=q.m.cs
 ar:r.m.ar=q.m.ar
 fu:r.m.fuel=q.m.fuel
 dp:r.m.deep=q.m.deep
 e:r.m.e=1
 v:r.m.v=q.ret
 P:q.P.g.c=q.m.cs.map Nb.s/\q.P.g.a.map Gy.s=q.m.ar.map Na.s
def Out(f:Fn)(o:Ro)(r:Rz):Prop:=(o.b=true/\Pq o.q.m r.m)∨(o.b=false/\o.t=true/\Tq o.q r)∨(o.b=false/\o.t=false/\Sim f o.q r)
theorem Pq.off{m r:Ms}(h:Pq m r):r.on=false:=by
 unfold Ms.on
 rcases h.e with h|h
 .rw[h.2.1];rfl
 rw[h.2.1];rfl
section
variable {f:Fn}{q:Fa}{r:Rz}
theorem EL(h:Sim f q r)(s:Sm)(k:Int):Out f (q.brk s k) { r with m:=r.m.zfail r.f.name s.no k }:=by
 refine .inl ⟨rfl,?_⟩
 rw[sD h.M.on]
 exact⟨h.M.cs,h.M.ar,.inl ⟨rfl,rfl,by show r.f.name=q.nm;rw[h.rf,h.nm],rfl,rfl,rfl⟩⟩
theorem Io(h:Sim f q r):Out f q.go r:=.inr (.inr ⟨rfl,rfl,h⟩)
theorem xj{vs:Vs}{is:Zi}{ps:Zp}{P:Pg}{v:Int}(hk:AK f x=1)(h:∀s,VrS f P vs is ps s):∀s,VrS f P (B5 vs x ⟨false,v,[]⟩) (B5 is x v) ps s:=by
 intro s
 have hs:=h s
 by_cases hx:(x==s)=true
 .have e:=eq_of_beq hx
  subst e
  refine⟨λh0=>by omega,λ_=>⟨v,[],?_,?_⟩,λh2=>by omega⟩
  .rw[Bx,if_pos hx]
  rw[Bx,if_pos hx]
 refine⟨λh0=>?_,λh1=>?_,λh2=>?_⟩
 .rw[Bx,Bx,if_neg hx,if_neg hx];exact hs.n h0
 .rw[Bx,Bx,if_neg hx,if_neg hx];exact hs.i h1
 rw[Bx,if_neg hx];exact hs.p h2
theorem YF{vs:Vs}{is:Zi}{ps:Zp}{P:Pg}{t:List UInt8}(hk:AK f x=2)(ht:t=[]∨(P.ci t).isSome=true)(h:∀s,VrS f P vs is ps s):∀s,VrS f P (B5 vs x ⟨true,0,t⟩) is (B5 ps x t) s:=by
 intro s
 have hs:=h s
 by_cases hx:(x==s)=true
 .have e:=eq_of_beq hx
  subst e
  refine⟨λh0=>by omega,λh1=>by omega,λ_=>⟨0,t,?_,?_,ht⟩⟩
  .rw[Bx,if_pos hx]
  rw[Bx,if_pos hx]
 refine⟨λh0=>?_,λh1=>?_,λh2=>?_⟩
 .rw[Bx,if_neg hx];exact hs.n h0
 .rw[Bx,if_neg hx];exact hs.i h1
 rw[Bx,Bx,if_neg hx,if_neg hx];exact hs.p h2
theorem A2f(m:Ms)(i v:Int):(m.set i v).cs.map Nb.s=m.cs.map Nb.s:=by
 show (m.cs.set i.toNat ⟨(m.cs.getD i.toNat ⟨[],0⟩).s,v⟩).map Nb.s=_
 rw[map_set]
 apply List.ext_getElem?
 intro k
 rw[List.getElem?_set]
 split
 .grind
 rfl
theorem A2g(m:Ms)(i j v:Int):(m.put i j v).ar.map Na.s=m.ar.map Na.s:=by
 show (m.ar.set i.toNat ⟨(m.ar.getD i.toNat ⟨[],[]⟩).s,(m.arr i).set j.toNat v⟩).map Na.s=_
 rw[map_set]
 apply List.ext_getElem?
 intro k
 rw[List.getElem?_set]
 split
 .grind
 rfl
theorem Mq.set{P:Pg}{m r:Ms}(h:Mq P m r)(i v:Int):Mq P (m.set i v) (r.set i v):=
 ⟨by show (r.cs.set _ ⟨(r.cs.getD _ _).s,_⟩)=(m.cs.set _ ⟨(m.cs.getD _ _).s,_⟩);rw[h.cs],h.ar,h.fu,h.dp,h.on,by rw[A2f];exact h.nc,h.na⟩
theorem Mq.put{P:Pg}{m r:Ms}(h:Mq P m r)(i j v:Int):Mq P (m.put i j v) (r.put i j v):=
 ⟨h.cs,by show (r.ar.set _ ⟨(r.ar.getD _ _).s,(r.arr _).set _ _⟩)=(m.ar.set _ ⟨(m.ar.getD _ _).s,(m.arr _).set _ _⟩);rw[h.arr,h.ar],h.fu,h.dp,h.on,h.nc,by rw[A2g];exact h.na⟩
theorem UJ(h:Sim f q r)(s:Sm)(v:Int)(hk:AK f s.x≠2):Out f (Fk q s v) (seZ r s.no s.x v):=by
 have hv:=h.v s.x
 unfold Fk seZ
 rw[if_neg (by rw[h.M.on];decide)]
 rcases lz f s.x with k0|k1|k2
 .obtain⟨g1,g2⟩:=hv.n k0
  rw[g1,g2]
  dsimp only
  rcases h.M.ci s.x with⟨e1,e2⟩|⟨i,e1,e2,e3⟩
  .rw[e1,e2,if_neg (by decide)]
   exact EL h s 4
  rw[e1,e2,if_pos e3]
  exact Io ⟨h.M.set i v,h.P,h.rf,h.nm,h.rt,h.l,h.u,h.v⟩
 .obtain⟨n,t,g1,g2⟩:=hv.i k1
  rw[g1,g2]
  exact Io ⟨h.M,h.P,h.rf,h.nm,h.rt,h.l,h.u,xj k1 h.v⟩
 omega
theorem YG(h:Sim f q r)(hk:AK f s=2):∃t,(GB q.vs s).s=t/\pgZ r.ps s=t/\(t=[]∨(q.P.ci t).isSome=true):=by
 obtain⟨n,t,g1,g2,g3⟩:=(h.v s).p hk
 refine⟨t,?_,?_,g3⟩
 .unfold GB;rw[g1];rfl
 unfold pgZ;rw[g2];rfl
theorem er(h:Sim f q r)(hk:AK f s=2)(al:Int):(∃i,GC q s= .ok i/\thZ r al s=(i,r.m)/\0<=i)∨∃k,GC q s= .no k/\thZ r al s=(-1,r.m.zfail r.f.name al k):=by
 obtain⟨t,g1,g2,g3⟩:=YG h hk
 have hT:thZ r al s=(if (t==[])=true then (-1,r.m.zfail r.f.name al 2) else if r.m.cx t<0 then (-1,r.m.zfail r.f.name al 2) else (r.m.cx t,r.m)):=by unfold thZ;rw[if_neg (by rw[h.M.on];decide),g2]
 have hF:GC q s=(if (t==[])=true then .no 2 else match q.P.ci t with|some i=>.ok i|none=>.no 4):=by unfold GC;rw[g1];rfl
 rw[hT,hF]
 by_cases ht:(t==[])=true
 .simp_all
 rw[if_neg ht,if_neg ht]
 rcases g3 with g3|g3
 .simp_all
 rcases h.M.ci t with⟨e1,e2⟩|⟨i,e1,e2,e3⟩
 .simp_all
 grind
theorem eu(h:Sim f q r)(s:Sm)(i al:Int):(∃k,FR q s i= .ok k/\idZ r al s.y i=((k,i),r.m)/\0<=k)∨∃k,FR q s i= .no k/\idZ r al s.y i=((-1,-1),r.m.zfail r.f.name al k):=by
 unfold FR idZ
 rw[if_neg (by rw[h.M.on];decide)]
 rcases h.M.ai s.y with⟨e1,e2⟩|⟨k,e1,e2,e3⟩
 .simp_all
 rw[e1,e2,if_neg (by omega),h.M.arr]
 dsimp only
 by_cases hi:i<0∨((q.m.arr k).length:Int)<=i
 .simp_all
 grind
theorem YH{nm:List UInt8}{al:Int}{is:Zi}{ps:Zp}{m:Ms}(h:m.on=false):∀l:List Ar,(agZ nm al is ps l m).2=m
 |[]=>rfl
 |a::l=>by
  simp only[agZ]
  split
  .exact YH h l
  rw[UI h];exact YH h l
theorem mE(h:Sim f q r)(al:Int):∀l:List Ar,(∀a∈l,(a.p=true->AK f a.s=2)/\(a.p=false->exY f a.e))->
  (∃va,Fj q.P q.m q.vs l= .ok va/\agZ r.f.name al r.is r.ps l r.m=(va,r.m)/\∀a∈va,poV q.P a)∨∃k,Fj q.P q.m q.vs l= .no k/\(agZ r.f.name al r.is r.ps l r.m).2=r.m.zfail r.f.name al k
 |[],_=>.inl ⟨[],rfl,rfl,λa ha=>by cases ha⟩
 |a::l,hl=>by
  obtain⟨h1,h2⟩:=hl a (List.mem_cons_self ..)
  have ih:=mE h al l λb hb=>hl b (List.mem_cons_of_mem _ hb)
  simp only[Fj,agZ]
  cases hp:a.p with
  |true=>
   obtain⟨t,g1,g2,g3⟩:=YG h (h1 hp)
   rw[if_pos rfl,if_pos rfl,g1,g2]
   rcases ih with⟨va,e1,e2,e3⟩|⟨k,e1,e2⟩
   .rw[e1,e2]
    refine .inl ⟨_,rfl,rfl,λb hb=>?_⟩
    rcases mem_cons.1 hb with rfl|hb
    .exact λ_=>g3
    exact e3 b hb
   simp_all
  |false=>
  rw[if_neg (by decide),if_neg (by decide)]
  have he:=Ow (nm:=r.f.name) (al:=al) h.M h.v a.e (h2 hp).1 (h2 hp).2
  cases hE:evF q.P q.m q.vs a.e with
  |no k=>
   rw[hE]at he
   have he:evZ r.f.name al r.is a.e r.m=(0,r.m.zfail r.f.name al k):=he
   rw[he]
   exact .inr ⟨k,rfl,YH (K5 _ _ _ _ h.M.on) l⟩
  |ok v=>
  rw[hE]at he
  have he:evZ r.f.name al r.is a.e r.m=(v,r.m):=he
  rw[he]
  rcases ih with⟨va,e1,e2,e3⟩|⟨k,e1,e2⟩
  .rw[e1,e2]
   refine .inl ⟨_,rfl,rfl,λb hb=>?_⟩
   rcases mem_cons.1 hb with rfl|hb
   .intro hh;cases hh
   exact e3 b hb
  simp_all
end
theorem YI:∀{l:List Vr},s∉l.map Vr.s->El s l=0
 |[],_=>rfl
 |v::l,h=>by
  simp only[map_cons,mem_cons,not_or]at h
  simp only[El]
  rw[if_neg (λhh=>h.1 (eq_of_beq hh).symm)]
  exact YI h.2
theorem cJ(s:List UInt8)(b:List Vr):∀a:List Vr,El s (a++b)=if El s a=0 then El s b else El s a
 |[]=>rfl
 |v::a=>by
  by_cases h:(v.s==s)=true
  .rw[show El s (v::a++b)=(if v.p=true then 2 else 1) from if_pos h,show El s (v::a)=(if v.p=true then 2 else 1) from if_pos h]
   cases v.p<;>rfl
  rw[show El s (v::a++b)=El s (a++b) from if_neg h,show El s (v::a)=El s a from if_neg h];exact cJ s b a
theorem ew(s:List UInt8):∀(ls:List Vr) (vs:Vs) (is:Zi) (ps:Zp),(ls.map Vr.s).Nodup->
  (El s ls=0->AH (vsL ls vs) s=AH vs s/\AH (isL ls is) s=AH is s)/\(El s ls=1->AH (vsL ls vs) s=some ⟨false,0,[]⟩/\AH (isL ls is) s=some 0)/\(El s ls=2->AH (vsL ls vs) s=some ⟨true,0,[]⟩/\AH (psL' ls ps) s=some [])
 |[],vs,is,ps,_=>⟨λ_=>⟨rfl,rfl⟩,λh=>(by cases h),λh=>(by cases h)⟩
 |v::l,vs,is,ps,hd=>by
  rw[map_cons,List.nodup_cons]at hd
  simp only[vsL,isL,psL',El]
  obtain⟨i0,i1,i2⟩:=ew s l (B5 vs v.s ⟨v.p,0,[]⟩) (if v.p=true then is else B5 is v.s 0) (if v.p=true then B5 ps v.s [] else ps) hd.2
  by_cases h:(v.s==s)=true
  .have e:=eq_of_beq h
   have k0:El s l=0:=YI (by rw[<- e];exact hd.1)
   obtain⟨j0,j1⟩:=i0 k0
   have j2:AH (psL' l (if v.p=true then B5 ps v.s [] else ps)) s=AH (if v.p=true then B5 ps v.s [] else ps) s:=by
    have gen:∀(l:List Vr) (ps:Zp),s∉l.map Vr.s->AH (psL' l ps) s=AH ps s:=by
     intro l
     induction l with
     |nil=>intro ps _;rfl
     |cons w l ih=>
     intro ps hn
     simp only[map_cons,mem_cons,not_or]at hn
     simp only[psL']
     rw[ih _ hn.2]
     split
     .rw[Bx,if_neg (λhh=>hn.1 (eq_of_beq hh).symm)]
     rfl
    exact gen l _ (by rw[<- e];exact hd.1)
   rw[if_pos h]
   cases hp:v.p with
   |true=>
    rw[hp]at j0 j2
    refine⟨λhh=>(by cases hh),λhh=>(by cases hh),λ_=>⟨?_,?_⟩⟩
    .rw[j0,Bx,if_pos h]
    rw[j2,if_pos rfl,Bx,if_pos h]
   |false=>
   rw[hp]at j0 j1
   refine⟨λhh=>(by cases hh),λ_=>⟨?_,?_⟩,λhh=>(by cases hh)⟩
   .rw[j0,Bx,if_pos h]
   rw[j1,if_neg (by decide),Bx,if_pos h]
  rw[if_neg h]
  refine⟨λk0=>?_,i1,i2⟩
  obtain⟨j0,j1⟩:=i0 k0
  refine⟨by rw[j0,Bx,if_neg h],?_⟩
  rw[j1]
  split
  .rfl
  rw[Bx,if_neg h]
theorem ey(s:List UInt8):∀(ls:List Vr) (va:List Va) (vs:Vs) (is:Zi) (ps:Zp),(ls.map Vr.s).Nodup->Dw ls va=true->
  (El s ls=0->AH (vsP ls va vs) s=AH vs s/\AH (isP ls va is) s=AH is s/\AH (psP' ls va ps) s=AH ps s)/\(El s ls=1->∃n,AH (vsP ls va vs) s=some ⟨false,n,[]⟩/\AH (isP ls va is) s=some n)/\(El s ls=2->∃a∈va,a.p=true/\AH (vsP ls va vs) s=some ⟨true,0,a.s⟩/\AH (psP' ls va ps) s=some a.s)
 |[],va,vs,is,ps,_,hf=>by
  cases va with
  |nil=>exact⟨λ_=>⟨rfl,rfl,rfl⟩,λh=>(by cases h),λh=>(by cases h)⟩
  |cons a r=>cases hf
 |v::l,[],vs,is,ps,_,hf=>by cases hf
 |v::l,a::r,vs,is,ps,hd,hf=>by
  rw[map_cons,List.nodup_cons]at hd
  simp only[Dw,Bool.and_eq_true]at hf
  have hva:v.p=a.p:=eq_of_beq hf.1
  simp only[vsP,isP,psP',El]
  obtain⟨i0,i1,i2⟩:=ey s l r (B5 vs v.s (if v.p=true then ⟨true,0,a.s⟩ else ⟨false,a.n,[]⟩)) (if v.p=true then is else B5 is v.s a.n) (if v.p=true then B5 ps v.s a.s else ps) hd.2 hf.2
  by_cases h:(v.s==s)=true
  .have e:=eq_of_beq h
   have k0:El s l=0:=YI (by rw[<- e];exact hd.1)
   obtain⟨j0,j1,j2⟩:=i0 k0
   rw[if_pos h]
   cases hp:v.p with
   |true=>
    rw[hp]at j0 j2
    refine⟨λhh=>(by cases hh),λhh=>(by cases hh),λ_=>⟨a,List.mem_cons_self ..,by rw[<- hva,hp],?_,?_⟩⟩
    .rw[j0,Bx,if_pos h];rfl
    rw[j2,if_pos rfl,Bx,if_pos h]
   |false=>
   rw[hp]at j0 j1
   refine⟨λhh=>(by cases hh),λ_=>⟨a.n,?_,?_⟩,λhh=>(by cases hh)⟩
   .rw[j0,Bx,if_pos h];rfl
   rw[j1,if_neg (by decide),Bx,if_pos h]
  rw[if_neg h]
  refine⟨λk0=>?_,i1,λk2=>?_⟩
  .obtain⟨j0,j1,j2⟩:=i0 k0
   refine⟨by rw[j0,Bx,if_neg h],?_,?_⟩
   .rw[j1]
    split
    .rfl
    rw[Bx,if_neg h]
   rw[j2]
   split
   .rw[Bx,if_neg h]
   rfl
  simp_all
theorem A6m{g:Fn}{P:Pg}{va:List Va}(hg:goodF g)(hf:Dw g.ps va=true)(hp:∀a∈va,poV P a)(s:List UInt8):VrS g P (vsP g.ps va (vsL g.ls [])) (isP g.ps va (isL g.ls [])) (psP' g.ps va (psL' g.ls [])) s:=by
 obtain⟨i0,i1,i2⟩:=ey s g.ps va (vsL g.ls []) (isL g.ls []) (psL' g.ls []) hg.p hf
 obtain⟨j0,j1,j2⟩:=ew s g.ls [] [] [] hg.l
 have hk:AK g s=if El s g.ps=0 then El s g.ls else El s g.ps:=cJ s g.ls g.ps
 rcases cF s g.ps with k|k|k
 .rw[if_pos k]at hk
  obtain⟨a0,a1,a2⟩:=i0 k
  refine⟨λh=>?_,λh=>?_,λh=>?_⟩
  .rw[hk]at h
   rw[a0,a1,(j0 h).1,(j0 h).2];exact⟨rfl,rfl⟩
  .simp_all
  grind
 .rw[if_neg (by omega),k]at hk
  refine⟨λh=>by omega,λ_=>?_,λh=>by omega⟩
  obtain⟨n,g1,g2⟩:=i1 k
  exact⟨n,[],g1,g2⟩
 rw[if_neg (by omega),k]at hk
 refine⟨λh=>by omega,λh=>by omega,λ_=>?_⟩
 obtain⟨a,ha,hap,g1,g2⟩:=i2 k
 exact⟨0,a.s,g1,g2,hp a ha hap⟩
open Go Go.Sy Go.RowKit
noncomputable abbrev Mn:ArgL (Pg×Sta×Unit):=Uj (acS cPg (acS cSta ac0)) rH
abbrev Zd(p:Pg×Sta×Unit):Prop:=p.1.g.c.length<=1000000/\p.1.g.a.length<=1000000/\(∀x∈p.1.g.a,1<=x.n/\x.n<=1048576)/\p.2.1.cs.length<=1000000/\p.2.1.ar.length<=1000000
attribute [local go_sem] ML.ch ML.ren Na.r Nb.r LL OI LM Di GM GL MX MW chL MU fcN lmH lmO DH Cj Ck G9 Ez nmX pgR Dh D3 D4 ED E9 E5 EE rnC stR CU E8 vrQ
attribute[local go_sem] iD xt in
theorem qP:Dj Tryz.prog 18 Mn.args Mn.mem Zd (λ_=>false) PT M_st (λ_=>mlO []):=by
 rintro ⟨p,s,_u⟩ w M I lab fz xs hc hA hl hx
 obtain⟨⟨pc,pa⟩,pf⟩:=p
 obtain⟨sc,sa⟩:=s
 obtain⟨h1,h2,h3,h4,h5⟩:=hc
 dsimp only at h1 h2 h3 h4 h5
 refine Bz Tryz.func18 rfl [] w M I lab fz false [] (M_st (⟨⟨pc,pa⟩,pf⟩,⟨sc,sa⟩,())) [] [] (Mn.args (⟨⟨pc,pa⟩,pf⟩,⟨sc,sa⟩,())) (PT (⟨⟨pc,pa⟩,pf⟩,⟨sc,sa⟩,())) xs hA hl hx ?_ (jN rfl) (Nat.zero_le _) rfl (by intro q hq;cases hq) ?_
 .intro v hv k hk
  rw[(acS cPg (acS cSta ac0)).n _ v hv]at hk;cases hk
 clear hx hl hA xs
 simp only[Tryz.f18]
 simp only[seval,go_sem]
 refine AC (Y:=Nat) (λi=>i<=pc.length)
  (λi=>⟨[(2,true,.one (.p 2 0 0)),(3,true,.one (.p 3 0 0)),(4,true,.one (.p 4 0 0)),(5,true,.one (.p 5 0 0)),(6,true,.one (.v (.int .i64 (i:Int))))],
   [(2,Gb pc pa pf),(3,KB sc sa),(4,.vec 0 Fi [[.v (.slice none 0 0),.v (.slice none 0 0)]]),(5,.vec 0 Fi [[.s 1000,.v (.slice none 0 0)]]),(1000,.vec 0 zNb ((stCs (pc.take i) sc).map Nb.c))]⟩)
  (λi=>pc.length-i) 0 (Nat.zero_le _) ?_ ?_
 .refine A2 [.nilr 5 0 0 1000 zNb] ?_;simp only[seval,go_sem,zNb,stCs,blC]
 rintro i hi
 refine AP [] [] _ _ _ ?_
 have w1:IntKind.i64.wrap ((i:Int)+1)=((i+1:Nat):Int):=by rw[wrap_i64 (by omega) (by omega)];rfl
 cases hx:pc[i]? with
 |none=>
  have g2:=List.getElem?_eq_none_iff.1 hx
  have g1:=Ai g2
  simp only[seval,go_sem,g1]
  rw[List.take_of_length_le g2]
  refine AC (Y:=Nat) (λj=>j<=pa.length)
   (λj=>⟨[(2,true,.one (.p 2 0 0)),(3,true,.one (.p 3 0 0)),(4,true,.one (.p 4 0 0)),(5,true,.one (.p 5 0 0)),(9,true,.one (.v (.int .i64 (j:Int))))],
    [(2,Gb pc pa pf),(3,KB sc sa),(4,.vec 0 Fi [[.v (.slice none 0 0),.v (.slice none 0 0)]]),(5,.vec 0 Fi [[.s 1000,.s 1001]]),(1000,.vec 0 zNb ((stCs pc sc).map Nb.c)),(1001,.vec 0 zNa ((stA (pa.take j) sa).map Na.c))]⟩)
   (λj=>pa.length-j) 0 (Nat.zero_le _) ?_ ?_
  .refine A2 [.nilr 5 0 1 1001 zNa] ?_;simp only[seval,go_sem,zNa,stA,blA]
  rintro j hj
  refine AP [] [] _ _ _ ?_
  have w2:IntKind.i64.wrap ((j:Int)+1)=((j+1:Nat):Int):=by rw[wrap_i64 (by omega) (by omega)];rfl
  cases hy:pa[j]? with
  |none=>
   have k2:=List.getElem?_eq_none_iff.1 hy
   have k1:=Ai k2
   simp only[seval,go_sem,k1]
   rw[List.take_of_length_le k2]
   refine A1 [.mv 1000 0,.mv 1001 1] ?_;simp only[seval,go_sem,bne,A3,E0,FF,SM,SN,zNb,zNa]
  |some y=>
  have hlt:=(List.getElem?_eq_some_iff.1 hy).1
  have k1:=Ah hlt
  have hjl:(j:Int)<(pa.length:Int):=by omega
  have hyn:=h3 y (List.mem_of_getElem? hy)
  have hgz:∀z,(pa.map Gy.r).getD j z=y.r:=by intro z;simp[List.getD,hy]
  obtain⟨ys,yn⟩:=y
  dsimp only at hyn
  have w3:IntKind.i64.wrap ((sa.length:Int)-1)=(sa.length:Int)-1:=wrap_i64 (by omega) (by omega)
  simp only[seval,go_sem,k1,hgz,Gy.r,w3]
  have hm1:yn.toNat<=1048576:=by omega
  have hm0:0<yn.toNat:=by omega
  obtain⟨Z,hZ⟩:∃Z,List.replicate yn.toNat (0:Int)=Z:=⟨_,rfl⟩
  have hZc:List.replicate yn.toNat [C.v (.int .i64 0)]=Z.map cI:=by rw[<- hZ,Vx]
  have hZl:Z.length=yn.toNat:=by rw[<- hZ];simp
  refine⟨⟨hjl,rfl⟩,⟨hjl,rfl⟩,⟨(by omega),(by omega),(by omega)⟩,Bn (by kernel_rfl),?_⟩
  refine AC (Y:=Nat) (λkk=>kk<=sa.length)
   (λkk=>⟨[(2,true,.one (.p 2 0 0)),(3,true,.one (.p 3 0 0)),(4,true,.one (.p 4 0 0)),(5,true,.one (.p 5 0 0)),(9,true,.one (.v (.int .i64 (j:Int)))),(10,true,.one (.p 10 0 0)),(11,true,.one (.v (.int .i64 ((kk:Int)-1))))],
    [(2,Gb pc pa pf),(3,KB sc sa),(4,.vec 0 Fi [[.v (.slice none 0 0),.v (.slice none 0 0)]]),(5,.vec 0 Fi [[.s 1000,.s 1001]]),(1000,.vec 0 zNb ((stCs pc sc).map Nb.c)),(1001,.vec 0 zNa ((stA (pa.take j) sa).map Na.c)),(10,.vec 0 gJ [[.v (.string (bs ys)),.s 1002]]),(1002,.vec 0 zI ((lkA ys Z (sa.drop kk)).map cI))]⟩)
   (λkk=>kk) sa.length (Nat.le_refl _) ?_ ?_
  .refine A2 [.mv 79 1002] ?_;simp only[seval,go_sem,lkA,List.drop_length,hZc,zI,E0,FF,MF,ZR]
  rintro kk hk
  refine AP [] [] _ _ _ ?_
  cases kk with
  |zero=>
   have e0:decide ((0:Int)<=((0:Nat):Int)-1)=false:=by decide
   simp only[seval,go_sem,e0,w2]
   generalize hL:lkA ys Z sa=L
   have hrs:BS [[C.v (Value.string (bs ys)),C.s 1002]]:=by
    exact AAL
   have hln:(stA (List.take j pa) sa).length=j:=by rw[W6,List.length_take];omega
   have ht:=rK (s:=sa) hy
   dsimp only at ht
   rw[hZ,hL]at ht
   have hge:((stA (pa.take j) sa).map Na.c++[[C.v (.string (bs ys)),C.s 1002]])[j]?=some [C.v (.string (bs ys)),C.s 1002]:=by
    rw[List.getElem?_append_right (by rw[length_map,hln];exact Nat.le_refl _),length_map,hln,Nat.sub_self];rfl
   have hst:∀r:List C,((stA (pa.take j) sa).map Na.c++[[C.v (.string (bs ys)),C.s 1002]]).set j r=(stA (pa.take j) sa).map Na.c++[r]:=by
    intro r
    rw[List.set_append_right _ _ (by rw[length_map,hln];exact Nat.le_refl _),length_map,hln,Nat.sub_self];rfl
   refine⟨⟨⟨rfl,.inl rfl⟩,(λq h=>by cases h;rfl),hrs,(by decide),(by rw[hln];omega),(by rw[hln];omega)⟩,j+1,hlt,(by omega),BU (t:=⟨[(2,true,.one (.p 2 0 0)),(3,true,.one (.p 3 0 0)),(4,true,.one (.p 4 0 0)),(5,true,.one (.p 5 0 0)),(9,true,.one (.v (.int .i64 ((j+1:Nat):Int))))],
    [(2,Gb pc pa pf),(3,KB sc sa),(4,.vec 0 Fi [[.v (.slice none 0 0),.v (.slice none 0 0)]]),(5,.vec 0 Fi [[.s 1000,.s 120]]),(1000,.vec 0 zNb ((stCs pc sc).map Nb.c)),(120,.vec 0 zNa ((stA (pa.take (j+1)) sa).map Na.c))]⟩) ?_ ?_⟩
   .refine A2 [.fold 120 j 1] ?_;simp only[seval,go_sem,hge,hst,ht,E0,FF,ZO,zI,List.flatMap_append,List.map_append]
   refine A2 [.mv 120 1001] ?_;simp only[seval,go_sem,E0,FF]
  |succ k=>
  have e1:((k+1:Nat):Int)-1=(k:Int):=by omega
  have e2:decide ((0:Int)<=(k:Int))=true:=by simp
  have w4:IntKind.i64.wrap ((k:Int)-1)=(k:Int)-1:=wrap_i64 (by omega) (by omega)
  have hkl:(k:Int)<(sa.length:Int):=by omega
  have hq0:sa[k]?=some (sa.getD k ⟨[],[]⟩):=by rw[List.getD,List.getElem?_eq_getElem hk];rfl
  generalize sa.getD k ⟨[],[]⟩=q at hq0
  have hz:=W1 hq0
  have hd:lkA ys Z (sa.drop k)=if (q.s==ys)=true then cpL Z q.l else lkA ys Z (sa.drop (k+1)):=by rw[BF hq0];rfl
  obtain⟨qs,ql⟩:=q
  dsimp only at hd
  cases hq:(qs==ys) with
  |true=>
   rw[hq,if_pos rfl]at hd
   have hcp:=XX Z ql
   simp only[length_map]at hcp
   simp only[seval,go_sem,e1,e2,w4,hz,hq,hgz,Gy.r,hZc]
   refine⟨hkl,Bn (by kernel_rfl),⟨hjl,rfl⟩,⟨(by omega),(by omega),(by omega)⟩,hkl,⟨(by omega),(λq h=>by cases h;rfl),fk ql⟩,Bn (by kernel_rfl),k,Nat.le_of_lt hk,Nat.lt_succ_self k,BU (t:=⟨[(2,true,.one (.p 2 0 0)),(3,true,.one (.p 3 0 0)),(4,true,.one (.p 4 0 0)),(5,true,.one (.p 5 0 0)),(9,true,.one (.v (.int .i64 (j:Int)))),(10,true,.one (.p 10 0 0)),(11,true,.one (.v (.int .i64 ((k:Int)-1))))],
    [(2,Gb pc pa pf),(3,KB sc sa),(4,.vec 0 Fi [[.v (.slice none 0 0),.v (.slice none 0 0)]]),(5,.vec 0 Fi [[.s 1000,.s 1001]]),(1000,.vec 0 zNb ((stCs pc sc).map Nb.c)),(1001,.vec 0 zNa ((stA (pa.take j) sa).map Na.c)),(10,.vec 0 gJ [[.v (.string (bs ys)),.s 105]]),(105,.vec 1 zI ((cpL Z ql).map cI))]⟩) ?_ ?_⟩
   .refine A2 [] ?_;simp only[seval,go_sem,hcp,zI,MF]
   refine A2 [.mv 105 1002] ?_;simp only[seval,go_sem,hd,zI,E0,FF,ZR,MF]
  |false=>
  rw[hq,if_neg (by decide)]at hd
  simp only[seval,go_sem,e1,e2,w4,hz,hq]
  refine⟨hkl,Bn (by kernel_rfl),k,Nat.le_of_lt hk,Nat.lt_succ_self k,?_⟩
  refine A2 [] ?_;simp only[seval,go_sem,hd,MF]
 |some x=>
 have hlt:=(List.getElem?_eq_some_iff.1 hx).1
 have g1:=Ah hlt
 have hil:(i:Int)<(pc.length:Int):=by omega
 have hs:(pc.map cSd).getD i Fq=cSd x:=by simp[List.getD,hx]
 have w2:IntKind.i64.wrap ((sc.length:Int)-1)=(sc.length:Int)-1:=wrap_i64 (by omega) (by omega)
 simp only[seval,go_sem,g1,hs,cSd,w2]
 refine⟨⟨hil,rfl⟩,?_⟩
 refine AC (Y:=Nat) (λkk=>kk<=sc.length)
  (λkk=>⟨[(2,true,.one (.p 2 0 0)),(3,true,.one (.p 3 0 0)),(4,true,.one (.p 4 0 0)),(5,true,.one (.p 5 0 0)),(6,true,.one (.v (.int .i64 (i:Int)))),(7,true,.one (.p 7 0 0)),(8,true,.one (.v (.int .i64 ((kk:Int)-1))))],
   [(2,Gb pc pa pf),(3,KB sc sa),(4,.vec 0 Fi [[.v (.slice none 0 0),.v (.slice none 0 0)]]),(5,.vec 0 Fi [[.s 1000,.v (.slice none 0 0)]]),(1000,.vec 0 zNb ((stCs (pc.take i) sc).map Nb.c)),(7,.vec 0 A03 [[.v (.string (bs x)),.v (.int .i64 (lkN x (sc.drop kk)))]])]⟩)
  (λkk=>kk) sc.length (Nat.le_refl _) ?_ ?_
 .refine A2 [] ?_;simp only[seval,go_sem,lkN,List.drop_length]
 rintro kk hk
 refine AP [] [] _ _ _ ?_
 cases kk with
 |zero=>
  have e0:decide ((0:Int)<=((0:Nat):Int)-1)=false:=by decide
  simp only[seval,go_sem,e0,w1]
  have hrs:BS [[C.v (Value.string (bs x)),C.v (Value.int IntKind.i64 (lkN x sc))]]:=by
   exact AAL
  have hln:(stCs (List.take i pc) sc).length=i:=by rw[ON,List.length_take];omega
  have ht:=kN (s:=sc) hx
  refine⟨⟨⟨rfl,.inl rfl⟩,(λq h=>by cases h;rfl),hrs,(by decide),(by rw[hln];omega),(by rw[hln];omega)⟩,i+1,hlt,(by omega),BU (t:=⟨[(2,true,.one (.p 2 0 0)),(3,true,.one (.p 3 0 0)),(4,true,.one (.p 4 0 0)),(5,true,.one (.p 5 0 0)),(6,true,.one (.v (.int .i64 ((i+1:Nat):Int))))],
   [(2,Gb pc pa pf),(3,KB sc sa),(4,.vec 0 Fi [[.v (.slice none 0 0),.v (.slice none 0 0)]]),(5,.vec 0 Fi [[.s 55,.v (.slice none 0 0)]]),(55,.vec 0 zNb ((stCs (pc.take (i+1)) sc).map Nb.c))]⟩) ?_ ?_⟩
  .exact AAS
  refine A2 [.mv 55 1000] ?_;simp only[seval,go_sem,E0]
 |succ k=>
 have e1:((k+1:Nat):Int)-1=(k:Int):=by omega
 have e2:decide ((0:Int)<=(k:Int))=true:=by simp
 have w3:IntKind.i64.wrap ((k:Int)-1)=(k:Int)-1:=wrap_i64 (by omega) (by omega)
 have hkl:(k:Int)<(sc.length:Int):=by omega
 have hy:sc[k]?=some (sc.getD k ⟨[],0⟩):=by rw[List.getD,List.getElem?_eq_getElem hk];rfl
 generalize sc.getD k ⟨[],0⟩=y at hy
 have hz:=aM hy
 have hd:lkN x (sc.drop k)=if (y.s==x)=true then y.n else lkN x (sc.drop (k+1)):=by rw[BF hy];rfl
 obtain⟨ys,yn⟩:=y
 dsimp only at hd
 cases hq:(ys==x) with
 |true=>
  rw[hq,if_pos rfl]at hd
  simp only[seval,go_sem,e1,e2,w3,hz,hq]
  refine⟨hkl,Bn (by kernel_rfl),hkl,?_⟩
  refine⟨k,Nat.le_of_lt hk,Nat.lt_succ_self k,?_⟩
  refine A2 [] ?_;simp only[seval,go_sem,hd]
 |false=>
 rw[hq,if_neg (by decide)]at hd
 simp only[seval,go_sem,e1,e2,w3,hz,hq]
 refine⟨hkl,Bn (by kernel_rfl),?_⟩
 refine⟨k,Nat.le_of_lt hk,Nat.lt_succ_self k,?_⟩
 refine A2 [] ?_;simp only[seval,go_sem,hd]
section
variable {X:Ctx}{w0:World}
noncomputable def Mo:Sy.Spec Tryz.prog X w0:=Dc 18 Tryz.call18 Mn Zd (λ_=>false) PT M_st (λ_=>mlO [])
 (λp _ _=>⟨rfl,rfl,rfl,aK [] _ _⟩) (λa _ h=>by cases h) (λa _ h=>by cases h) (λ_=>rfl) qP
theorem mF:(Mo (X:=X) (w0:=w0)).f=18:=rfl
theorem mG(t:Nat)(args:List SV)(H:Hp):(Mo (X:=X) (w0:=w0)).fn t args H=spL X (Mn.d H args) t H Zd (λ_=>false) PT M_st (λ_=>mlO []):=rfl
end
end Go.Proofs.YtapedeoheilnnaaGreat
