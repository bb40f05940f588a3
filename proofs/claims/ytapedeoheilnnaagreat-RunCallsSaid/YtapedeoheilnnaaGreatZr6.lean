/- What a run of the document's machine keeps, plain. No conditions but those in each statement. -/
import Derived.Test.YtapedeoheilnnaaGreatRm8
import Derived.Test.YtapedeoheilnnaaGreatZr4
import Derived.Test.YtapedeoheilnnaaGreatRst
import Derived.Test.YtapedeoheilnnaaGreatRs2
set_option linter.all false
namespace Go.Proofs.YtapedeoheilnnaaGreat
open Go Go.Sy Go.RowKit
variable{st:Sm->Rz->Rz}{q:Rz}
def Fz(m:Ms):Prop:=m.e=3∨0<=m.fuel
theorem Fz.on{m:Ms}(h:Fz m)(ho:m.on=true):0<=m.fuel:=by
 rcases h with h|h
 .have h2:m.e=0:=eq_of_beq (show (m.e==0)=true from ho)
  omega
 exact h
structure Kr(m r:Ms):Prop where
 c:r.cs.length=m.cs.length
 a:r.ar.map naL=m.ar.map naL
 k:Fz r
 u:r.fuel<=m.fuel
structure Kf(q r:Rz):Prop where
 P:r.P=q.P
 f:r.f=q.f
 m:Kr q.m r.m
theorem Kr.tr{m r t:Ms}(h:Kr m r)(k:Kr r t):Kr m t:=⟨k.c.trans h.c,k.a.trans h.a,k.k,Int.le_trans k.u h.u⟩
theorem Kf.tr{r t:Rz}(h:Kf q r)(k:Kf r t):Kf q t:=⟨k.P.trans h.P,k.f.trans h.f,h.m.tr k.m⟩
theorem Kr.refl{m:Ms}(h:Fz m):Kr m m:=⟨rfl,rfl,h,Int.le_refl _⟩
theorem Kf.refl(h:Fz q.m):Kf q q:=⟨rfl,rfl,Kr.refl h⟩
theorem Kz.kr{m r:Ms}(h:Kz m r)(h0:0<=m.fuel):Kr m r:=⟨by rw[h.c],by rw[h.a],.inr (by rw[h.f];exact h0),by rw[h.f];exact Int.le_refl _⟩
theorem WV(m:Ms)(h:m.on=true)(h0:0<=m.fuel)(h1:m.fuel<=1000000000):Kr m m.zspd/\(m.zspd.on=true->1<=m.fuel/\m.zspd.fuel=m.fuel-1):=by
 have hw:w64i (m.fuel-1)=m.fuel-1:=by unfold w64i;rw[wrap_i64 (by omega) (by omega)]
 have hf:m.zspd.fuel=m.fuel-1:=hw
 by_cases h3:m.fuel<1
 .have he:m.zspd.e=3:=if_pos ⟨h,h3⟩
  exact⟨⟨rfl,rfl,.inl he,by omega⟩,λh2=>by
   unfold Ms.on at h2
   rw[he]at h2;exact absurd h2 (by decide)⟩
 exact⟨⟨rfl,rfl,.inr (by omega),by omega⟩,λ_=>⟨by omega,hf⟩⟩
theorem ZY(q:Rz)(al:Int)(s:List UInt8)(v:Int)(h0:Fz q.m):Kf q (seZ q al s v):=by
 unfold seZ
 split
 .exact Kf.refl h0
 split
 .exact⟨rfl,rfl,Kr.refl h0⟩
 split
 .refine⟨rfl,rfl,⟨?_,rfl,h0,Int.le_refl _⟩⟩
  show (q.m.cs.set _ _).length=_
  rw[List.length_set]
 rename_i ho _ _ _
 have ho:q.m.on=true:=by simpa using ho
 exact⟨rfl,rfl,(L6 _ _ _ _).kr (h0.on ho)⟩
theorem ZZ(q:Rz)(al:Int)(s:List UInt8):Kz q.m (thZ q al s).2:=by
 unfold thZ
 exact ABT
theorem Za(q:Rz)(al:Int)(s:List UInt8)(i:Int):Kz q.m (idZ q al s i).2:=by
 unfold idZ
 exact ABT
theorem iL(nm:List UInt8)(al:Int)(is:Zi)(ps:Zp):∀(l:List Ar) (m:Ms),Kz m (agZ nm al is ps l m).2
 |[],m=>Kz.refl m
 |a::l,m=>by
  simp only[agZ]
  split
  .exact iL nm al is ps l m
  exact(Ho nm al is a.e m).tr (iL nm al is ps l _)
theorem cE(nm:List UInt8)(al:Int)(is:Zi)(ps:Zp):∀(l:List Ar) (m:Ms),(agZ nm al is ps l m).1.length=l.length
 |[],m=>rfl
 |a::l,m=>by
  simp only[agZ]
  split
  .simp only[List.length_cons,cE nm al is ps l m]
  simp only[List.length_cons,cE nm al is ps l _]
def KrS(st:Sm->Rz->Rz):Prop:=∀s q,q.m.on=true->0<=q.m.fuel->q.m.fuel<=1000000000->Kf q (st s q)
theorem UG(h:KrS st):∀(l:List Sm) (q:Rz),Fz q.m->q.m.fuel<=1000000000->Kf q (blZ st l q)
 |[],q,h0,_=>Kf.refl h0
 |s::l,q,h0,h1=>by
  simp only[blZ]
  split
  .rename_i ho
   have k:=h s q ho (h0.on ho) h1
   exact k.tr (UG h l _ k.m.k (by have:=k.m.u;omega))
  exact Kf.refl h0
theorem sE(h:KrS st)(P:Pg)(g:Fn)(a:List Va)(m:Ms)(h0:Fz m)(h1:m.fuel<=1000000000):Kr m (enZ st P g a m).2:=by
 unfold enZ
 split
 .exact Kr.refl h0
 split
 .exact⟨rfl,rfl,.inl rfl,Int.le_refl _⟩
 have k:=(UG h g.body ⟨P,{ m with deep:=w64i (m.deep+1) },g,isP g.ps a (isL g.ls []),psP' g.ps a (psL' g.ls [])⟩ h0 h1).m
 dsimp only
 split
 .rename_i he
  have he:=eq_of_beq he
  refine⟨k.c,k.a,.inr ?_,k.u⟩
  rcases k.k with h|h
  .omega
  exact h
 exact⟨k.c,k.a,k.k,k.u⟩
theorem A6h(h:KrS st)(s:Sm)(q:Rz)(h0:0<=q.m.fuel)(h1:q.m.fuel<=1000000000):Kf q (caZ st s q):=by
 have ka:=iL q.f.name s.no q.is q.ps s.ar q.m
 have kr:=ka.kr h0
 have hf:∀nm al k,Kr q.m ((agZ q.f.name s.no q.is q.ps s.ar q.m).2.zfail nm al k):=λnm al k=>(ka.tr (L6 _ _ _ _)).kr h0
 unfold caZ
 dsimp only
 split
 .exact⟨rfl,rfl,kr⟩
 split
 .exact⟨rfl,rfl,hf _ _ _⟩
 rename_i g _
 split
 .exact⟨rfl,rfl,hf _ _ _⟩
 have ke:=sE h q.P g (agZ q.f.name s.no q.is q.ps s.ar q.m).1 _ kr.k (by rw[ka.f];exact h1)
 have k2:=kr.tr ke
 split
 .exact⟨rfl,rfl,k2⟩
 exact Kf.tr (r:={ q with m:=(enZ st q.P g (agZ q.f.name s.no q.is q.ps s.ar q.m).1 (agZ q.f.name s.no q.is q.ps s.ar q.m).2).2 }) ⟨rfl,rfl,k2⟩ (ZY _ _ _ _ k2.k)
theorem sF{bl:Rz->Rz}{s:Sm}(h:∀q,Fz q.m->q.m.fuel<=1000000000->Kf q (bl q)):∀(k:Nat) (q:Rz),q.m.on=true->0<=q.m.fuel->q.m.fuel<=1000000000->Kf q (lpZ bl s k q)
 |0,q,_,h0,_=>Kf.refl (.inr h0)
 |k+1,q,ho,h0,h1=>by
  obtain⟨k1,k2⟩:=WV q.m ho h0 h1
  simp only[lpZ]
  split
  .exact⟨rfl,rfl,k1⟩
  rename_i hn
  have hn:q.m.zspd.on=true:=by simpa using hn
  obtain⟨k3,k4⟩:=k2 hn
  have kc:=(NF q.f.name s.no q.is q.ps s.cd q.m.zspd).kr (by omega)
  have k5:Kf q { q with m:=(cdZ q.f.name s.no q.is q.ps s.cd q.m.zspd).2 }:=⟨rfl,rfl,k1.tr kc⟩
  split
  .exact k5
  split
  .exact k5
  have kb:=h { q with m:=(cdZ q.f.name s.no q.is q.ps s.cd q.m.zspd).2 } kc.k (by have:=k5.m.u;omega)
  split
  .exact k5.tr kb
  rename_i hb
  have hb:=eq_true_of_ne_false hb
  have k6:=k5.tr kb
  exact k6.tr (sF h k _ hb (k6.m.k.on hb) (by have:=k6.m.u;omega))
theorem F1{c:Prop}[Decidable c]{a b:Rz}(h1:Kf q a)(h2:Kf q b):Kf q (if c then a else b):=by grind
theorem qG(m:Ms)(i j v:Int)(h:Fz m):Kr m (m.put i j v):=⟨rfl,de m i j v,h,Int.le_refl _⟩
theorem qH(m:Ms)(i v:Int)(h:Fz m):Kr m (m.set i v):=⟨by show (m.cs.set _ _).length=_;rw[List.length_set],rfl,h,Int.le_refl _⟩
theorem A6i(h:KrS st)(s:Sm)(q:Rz)(ho:q.m.on=true)(h0:0<=q.m.fuel)(h1:q.m.fuel<=1000000000):Kf q (smZ st s q):=by
 have hz:Fz q.m:=.inr h0
 have hm:∀{m:Ms},Kr q.m m->Kf q { q with m:=m }:=λk=>⟨rfl,rfl,k⟩
 have hq:∀{m:Ms} {r:Rz},Kr q.m m->Kf { q with m:=m } r->Kf q r:=λk k2=>(hm k).tr k2
 have ke:∀e,Kz q.m (evZ q.f.name s.no q.is e q.m).2:=λe=>Ho _ _ _ _ _
 unfold smZ
 dsimp only
 refine F1 ?_ (F1 ?_ (F1 ?_ (F1 ?_ (F1 ?_ (F1 ?_ (F1 ?_ (F1 ?_ (F1 ?_ (F1 ?_ (F1 ?_ (F1 ?_ ?_)))))))))))
 .have k:=(ke s.e).kr h0
  exact hq k (ZY _ _ _ _ k.k)
 .exact F1 (hm ((L6 _ _ _ _).kr h0)) ⟨rfl,rfl,Kr.refl hz⟩
 .exact⟨rfl,rfl,Kr.refl hz⟩
 .exact⟨rfl,rfl,Kr.refl hz⟩
 .have k:=(ZZ q s.no s.y).kr h0
  exact F1 (hq k (ZY _ _ _ _ k.k)) (hm k)
 .have k:=(ke s.e).tr (ZZ { q with m:=(evZ q.f.name s.no q.is s.e q.m).2 } s.no s.x)
  have k:=k.kr h0
  exact F1 (hm (k.tr (qH _ _ _ k.k))) (hm k)
 .have k:=(ke s.e).tr (Za { q with m:=(evZ q.f.name s.no q.is s.e q.m).2 } s.no s.y (evZ q.f.name s.no q.is s.e q.m).1)
  have k:=k.kr h0
  exact F1 (hq k (ZY _ _ _ _ k.k)) (hm k)
 .have k:=((ke s.e).tr (Ho q.f.name s.no q.is s.f _)).tr (Za { q with m:=(evZ q.f.name s.no q.is s.f (evZ q.f.name s.no q.is s.e q.m).2).2 } s.no s.y (evZ q.f.name s.no q.is s.e q.m).1)
  have k:=k.kr h0
  exact F1 (hm (k.tr (qG _ _ _ _ k.k))) (hm k)
 .exact A6h h s q h0 h1
 .have k:=(ke s.e).kr h0
  exact F1 (hm ⟨k.c,k.a,.inr (by show 0<=(evZ q.f.name s.no q.is s.e q.m).2.fuel;rw[(ke s.e).f];exact h0),k.u⟩) (hm k)
 .have kc:=(NF q.f.name s.no q.is q.ps s.cd q.m).kr h0
  have hb:∀l,Kf q (blZ st l { q with m:=(cdZ q.f.name s.no q.is q.ps s.cd q.m).2 }):=λl=>hq kc (UG h l _ kc.k (by have:=kc.u;show (cdZ q.f.name s.no q.is q.ps s.cd q.m).2.fuel<=_;omega))
  exact F1 (hm kc) (F1 (hb _) (hb _))
 .have kc:=NF q.f.name s.no q.is q.ps s.cd q.m
  exact F1 (hm (kc.kr h0)) (hm ((kc.tr (L6 _ _ _ _)).kr h0))
 exact Kf.refl hz
theorem UH:∀n,KrS (stZ n)
 |0=>λs q _ h0 _=>Kf.refl (.inr h0)
 |n+1=>λs q ho h0 h1=>by
  simp only[stZ]
  split
  .exact sF (λq h2 h3=>UG (UH n) s.th q h2 h3) (n+1) q ho h0 h1
  obtain⟨k1,k2⟩:=WV q.m ho h0 h1
  split
  .exact⟨rfl,rfl,k1⟩
  rename_i hn
  have hn:q.m.zspd.on=true:=by simpa using hn
  obtain⟨k3,k4⟩:=k2 hn
  exact(⟨rfl,rfl,k1⟩:Kf q { q with m:=q.m.zspd }).tr (A6i (UH n) s _ hn (by show 0<=q.m.zspd.fuel;omega) (by show q.m.zspd.fuel<=_;omega))
structure okZ(N n:Nat)(P:Pg)(m:Ms):Prop where
 p:okPg N P
 r:∀f∈P.fs,∃k,bkR k f.body
 c:m.cs.length<=1000000
 a:m.ar.length<=1000000
 l:∀a∈m.ar,a.l.length<=1000000000
 k:Fz m
 u:m.fuel<n
theorem A6j{m r:List Na}(h:r.map naL=m.map naL)(hm:∀a∈m,a.l.length<=1000000000):∀a∈r,a.l.length<=1000000000:=λa ha=>by
 have h1:naL a∈r.map naL:=List.mem_map_of_mem ha
 rw[h]at h1
 obtain⟨b,hb,e⟩:=List.mem_map.1 h1
 have:=hm b hb
 show naL a<=_
 rw[<- e];exact this
theorem okZ.kr{N n n':Nat}{P:Pg}{m r:Ms}(h:okZ N n P m)(k:Kr m r)(hu:r.fuel<n'):okZ N n' P r:=
 ⟨h.p,h.r,by rw[k.c];exact h.c,by have:=congrArg List.length k.a;rw[List.length_map,List.length_map]at this;rw[this];exact h.a,A6j k.a h.l,k.k,hu⟩
theorem okZ.kz{N n:Nat}{P:Pg}{m r:Ms}(h:okZ N n P m)(k:Kz m r):r.cs.length<=1000000/\r.ar.length<=1000000/\∀a∈r.ar,a.l.length<=1000000000:=⟨by rw[k.c];exact h.c,by rw[k.a];exact h.a,by rw[k.a];exact h.l⟩
def exY(f:Fn)(e:Ex):Prop:=exR e/\D9 f e=true
def cdY(f:Fn)(c:Cd):Prop:=cdR c/\J2 f c=true
structure VrS(f:Fn)(P:Pg)(vs:Vs)(is:Zi)(ps:Zp)(s:List UInt8):Prop where
 n:AK f s=0->AH vs s=none/\AH is s=none
 i:AK f s=1->∃n t,AH vs s=some ⟨false,n,t⟩/\AH is s=some n
 p:AK f s=2->∃n t,AH vs s=some ⟨true,n,t⟩/\AH ps s=some t/\(t=[]∨(P.ci t).isSome=true)
theorem cF(s:List UInt8):∀l,El s l=0∨El s l=1∨El s l=2
 |[]=>.inl rfl
 |v::l=>by
  simp only[El]
  split
  .omega
  exact cF s l
theorem lz(f:Fn)(s:List UInt8):AK f s=0∨AK f s=1∨AK f s=2:=cF s _
structure Mq(P:Pg)(m r:Ms):Prop where
 cs:r.cs=m.cs
 ar:r.ar=m.ar
 fu:r.fuel=m.fuel
 dp:r.deep=m.deep
 on:r.on=true
 nc:m.cs.map Nb.s=P.g.c
 na:m.ar.map Na.s=P.g.a.map Gy.s
theorem YD(s:List UInt8):∀(l:List (List UInt8)) (i:Int),ixN s l i=match idx s l with
  |some j=>i+(j:Int)
  |none => -1
 |[],i=>rfl
 |x::r,i=>by
  simp only[ixN,idx]
  by_cases h:(x==s)=true
  .simp_all
  rw[if_neg h,if_neg h,YD s r]
  cases idx s r with
  |none=>rfl
  |some j=>grind
theorem Mq.ci{P:Pg}{m r:Ms}(h:Mq P m r)(s:List UInt8):(P.ci s=none/\r.cx s = -1)∨∃i:Int,P.ci s=some i/\r.cx s=i/\0<=i:=by
 have e:r.cx s=ixN s P.g.c 0:=by unfold Ms.cx;rw[h.cs,h.nc]
 rw[e,YD]
 unfold Pg.ci
 rw[SW]
 cases idx s P.g.c with
 |none=>simp_all
 |some j=>simp_all
theorem Mq.ai{P:Pg}{m r:Ms}(h:Mq P m r)(s:List UInt8):(P.ai s=none/\r.ax s = -1)∨∃i:Int,P.ai s=some i/\r.ax s=i/\0<=i:=by
 have e:r.ax s=ixN s (P.g.a.map Gy.s) 0:=by unfold Ms.ax;rw[h.ar,h.na]
 rw[e,YD]
 unfold Pg.ai
 rw[SW]
 cases idx s (P.g.a.map Gy.s) with
 |none=>simp_all
 |some j=>simp_all
theorem Mq.cell{P:Pg}{m r:Ms}(h:Mq P m r)(i:Int):r.cell i=m.cell i:=by unfold Ms.cell;rw[h.cs]
theorem Mq.arr{P:Pg}{m r:Ms}(h:Mq P m r)(i:Int):r.arr i=m.arr i:=by unfold Ms.arr;rw[h.ar]
theorem K5(m:Ms)(nm:List UInt8)(al k:Int)(h:m.on=true):(m.zfail nm al k).on=false:=by unfold Ms.zfail;rw[if_pos h];rfl
theorem UI{nm:List UInt8}{al:Int}{is:Zi}{m:Ms}(h:m.on=false):∀e:Ex,evZ nm al is e m=(0,m)
 | .nil=>rfl
 | .mk k n s a b=>by simp only[evZ];rw[if_pos h]
theorem xf{nm:List UInt8}{al:Int}{is:Zi}{ps:Zp}{m:Ms}(h:m.on=false):∀c:Cd,cdZ nm al is ps c m=(false,m)
 | .nil=>rfl
 | .mk k a b p q s=>by simp only[cdZ];rw[if_pos h]
def Ev.z(nm:List UInt8)(al:Int)(m:Ms):Ev Int->Int×Ms
 | .ok v=>(v,m)
 | .no k=>(0,m.zfail nm al k)
section
variable {f:Fn}{P:Pg}{m r:Ms}{vs:Vs}{is:Zi}{ps:Zp}{nm:List UInt8}{al:Int}
theorem Ow(hM:Mq P m r)(hv:∀s,VrS f P vs is ps s):∀e:Ex,exR e->D9 f e=true->evZ nm al is e r=(evF P m vs e).z nm al r
 | .nil,h,_=>h.elim
 | .mk k n s a b,h,ht=>by
  have hon:¬r.on=false:=by rw[hM.on];decide
  simp only[evZ,evF]
  rw[if_neg hon]
  by_cases h0:k=0
  .rw[if_pos h0,if_pos h0];rfl
  rw[if_neg h0,if_neg h0]
  by_cases h1:k=1
  .rw[if_pos h1,if_pos h1]
   have hk:AK f s≠2:=by
    simp only[D9]at ht
    rw[if_pos (by rw[h1];rfl)]at ht
    simpa using ht
   unfold vrZ vlF
   rcases lz f s with k0|k1|k2
   .obtain⟨g1,g2⟩:=(hv s).n k0
    rw[g1,g2]
    dsimp only
    rcases hM.ci s with⟨e1,e2⟩|⟨i,e1,e2,e3⟩
    .rw[e1,e2,if_neg (by decide)];rfl
    rw[e1,e2,if_pos e3]
    show (r.cell i,r)=(m.cell i,r)
    rw[hM.cell]
   .obtain⟨n,t,g1,g2⟩:=(hv s).i k1
    rw[g1,g2];rfl
   omega
  rw[if_neg h1,if_neg h1]
  by_cases h7:k=7
  .rw[if_pos h7,if_pos h7]
   have ha:exR a/\D9 f a=true:=by
    rcases h with h|h|h|h
    .omega
    .omega
    .refine⟨h.2,?_⟩
     simp only[D9]at ht
     rw[if_neg (by rw[h7];decide)]at ht
     exact(Bool.and_eq_true _ _▸ht).1
    omega
   rw[Ow hM hv a ha.1 ha.2]
   cases evF P m vs a with
   |ok v=>rfl
   |no j=>rfl
  rw[if_neg h7,if_neg h7]
  have hab:(k=2∨k=3∨k=4∨k=5∨k=6)/\exR a/\exR b:=by
   rcases h with h|h|h|h
   .omega
   .omega
   .omega
   exact h
  have hi:D9 f a=true/\D9 f b=true:=by
   simp only[D9]at ht
   rw[if_neg (by simpa using h1)]at ht
   exact Bool.and_eq_true_iff.1 ht
  have ia:=Ow hM hv a hab.2.1 hi.1
  have ib:=Ow hM hv b hab.2.2 hi.2
  cases he:evF P m vs a with
  |no j=>
   have ho:(r.zfail nm al j).on=false:=K5 _ _ _ _ hM.on
   have ea:evZ nm al is a r=(0,r.zfail nm al j):=by rw[ia,he];rfl
   rw[ea,UI ho,if_pos ho];rfl
  |ok u=>
  have ea:evZ nm al is a r=(u,r):=by rw[ia,he];rfl
  cases hb:evF P m vs b with
  |no j=>
   have ho:(r.zfail nm al j).on=false:=K5 _ _ _ _ hM.on
   have eb:evZ nm al is b r=(0,r.zfail nm al j):=by rw[ib,hb];rfl
   rw[ea,eb,if_pos ho];rfl
  |ok v=>
  have eb:evZ nm al is b r=(v,r):=by rw[ib,hb];rfl
  rw[ea,eb,if_neg hon]
  dsimp only
  unfold opZ arF
  rcases hab.1 with rfl|rfl|rfl|rfl|rfl
  .rfl
  .rfl
  .rfl
  .by_cases hz:v=0
   .subst hz;rfl
   simp[hz,Ev.z]
  by_cases hz:v=0
  .subst hz;rfl
  simp[hz,Ev.z]
def Ev.zb(nm:List UInt8)(al:Int)(m:Ms)(x:Bool×Ms):Ev Bool->Prop
 | .ok v=>x=(v,m)
 | .no k=>x.2=m.zfail nm al k
theorem Qr(hM:Mq P m r)(hv:∀s,VrS f P vs is ps s):∀c:Cd,cdR c->J2 f c=true->(cdF P m vs c).zb nm al r (cdZ nm al is ps c r)
 | .nil,h,_=>h.elim
 | .mk k a b p q s,h,ht=>by
  have hon:¬r.on=false:=by rw[hM.on];decide
  simp only[cdZ,cdF]
  rw[if_neg hon]
  by_cases h9:k=9
  .have hk:AK f s=2:=by
    simp only[J2]at ht
    rw[if_pos (by rw[h9];rfl)]at ht
    simpa using ht
   obtain⟨n,t,g1,g2,_⟩:=(hv s).p hk
   rw[if_pos h9,if_neg (by omega),if_neg (by omega),if_neg (by omega),if_pos h9]
   unfold GB pgZ
   rw[g1,g2];rfl
  have hc9:¬(k==9)=true:=by simpa using h9
  have hall:D9 f a=true/\D9 f b=true/\J2 f p=true/\J2 f q=true:=by
   simp only[J2]at ht
   rw[if_neg hc9]at ht
   simp only[Bool.and_eq_true]at ht
   exact⟨ht.1.1.1,ht.1.1.2,ht.1.2,ht.2⟩
  obtain⟨ia,ib,ip,iq⟩:=hall
  rw[if_neg h9]
  by_cases h8:k=8
  .have hp:cdR p:=by
    rcases h with h|h|h|h
    .omega
    .exact h.2
    .omega
    omega
   rw[if_pos h8,if_neg (by omega),if_neg (by omega),if_pos h8]
   have ih:=Qr hM hv p hp ip
   cases hc:cdF P m vs p with
   |ok x=>
    rw[hc]at ih
    have ih:cdZ nm al is ps p r=(x,r):=ih
    rw[ih];rfl
   |no j=>
   rw[hc]at ih
   have ih:(cdZ nm al is ps p r).2=r.zfail nm al j:=ih
   exact ih
  rw[if_neg h8]
  by_cases h6:k=6
  .have hpq:cdR p/\cdR q:=by
    rcases h with h|h|h|h
    .omega
    .omega
    .exact h.2
    omega
   rw[if_pos h6,if_pos h6]
   have ih:=Qr hM hv p hpq.1 ip
   cases hc:cdF P m vs p with
   |ok x=>
    rw[hc]at ih
    have ih:cdZ nm al is ps p r=(x,r):=ih
    rw[ih]
    cases x with
    |true=>exact Qr hM hv q hpq.2 iq
    |false=>rfl
   |no j=>
   rw[hc]at ih
   have ih:(cdZ nm al is ps p r).2=r.zfail nm al j:=ih
   have ho:(r.zfail nm al j).on=false:=K5 _ _ _ _ hM.on
   show (if _ then _ else _:Bool×Ms).2=_
   split
   .rw[ih,xf ho]
   exact ih
  rw[if_neg h6]
  by_cases h7:k=7
  .have hpq:cdR p/\cdR q:=by
    rcases h with h|h|h|h
    .omega
    .omega
    .exact h.2
    omega
   rw[if_neg h6,if_pos h7,if_pos h7]
   have ih:=Qr hM hv p hpq.1 ip
   cases hc:cdF P m vs p with
   |ok x=>
    rw[hc]at ih
    have ih:cdZ nm al is ps p r=(x,r):=ih
    rw[ih]
    cases x with
    |true=>rfl
    |false=>
    dsimp only
    rw[if_neg (by decide),if_pos hM.on]
    exact Qr hM hv q hpq.2 iq
   |no j=>
   rw[hc]at ih
   have ih:(cdZ nm al is ps p r).2=r.zfail nm al j:=ih
   have ho:(r.zfail nm al j).on=false:=K5 _ _ _ _ hM.on
   show (if _ then _ else _:Bool×Ms).2=_
   split
   .exact ih
   simp_all
  have hab:(k=0∨k=1∨k=2∨k=3∨k=4∨k=5)/\exR a/\exR b:=by
   rcases h with h|h|h|h
   .omega
   .omega
   .omega
   exact h
  rw[if_neg h7,if_neg h6,if_neg h7,if_neg h8,if_neg h9]
  have ja:=Ow (nm:=nm) (al:=al) hM hv a hab.2.1 ia
  have jb:=Ow (nm:=nm) (al:=al) hM hv b hab.2.2 ib
  cases he:evF P m vs a with
  |no j=>
   have ho:(r.zfail nm al j).on=false:=K5 _ _ _ _ hM.on
   have ea:evZ nm al is a r=(0,r.zfail nm al j):=by rw[ja,he];rfl
   rw[ea,UI ho];rfl
  |ok u=>
  have ea:evZ nm al is a r=(u,r):=by rw[ja,he];rfl
  cases hb:evF P m vs b with
  |no j=>
   have eb:evZ nm al is b r=(0,r.zfail nm al j):=by rw[jb,hb];rfl
   rw[ea,eb];rfl
  |ok v=>
  have eb:evZ nm al is b r=(v,r):=by rw[jb,hb];rfl
  rw[ea,eb]
  show _=_
  unfold cmZ cmF
  rcases hab.1 with rfl|rfl|rfl|rfl|rfl|rfl<;>rfl
end
end Go.Proofs.YtapedeoheilnnaaGreat
