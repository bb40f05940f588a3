/- More fuel: a run that ends with some ends so with more, plain. No conditions but those in each statement. -/
import Derived.Test.YtjnnmindcbgjhaaSy38
import Derived.Test.YtjnnmindcbgjhaaPs
set_option linter.unusedVariables false
set_option linter.unusedSimpArgs false
namespace Go.Proofs.Ytjnnmindcbgjhaa
open Go Go.Sy Go.RowKit
def Ms.pl (m:Ms) (d:Int):Ms:={ m with fuel:=m.fuel+d }
def Fa.pl (q:Fa) (d:Int):Fa:={ q with m:=q.m.pl d }
def Ro.pl (r:Ro) (d:Int):Ro:=⟨r.b,r.t,r.q.pl d⟩
def Ro.ex (r:Ro):Prop:=r.b=true∧r.q.m.e=2
section
variable (d:Int)
theorem Ts (P:Pg) (m:Ms) (vs:Vs):∀e,evF P (m.pl d) vs e=evF P m vs e
 | .nil=>rfl
 | .mk k n s a b=>by simp only[evF,Ts P m vs a,Ts P m vs b];rfl
theorem Wb (P:Pg) (m:Ms) (vs:Vs):∀c,cdF P (m.pl d) vs c=cdF P m vs c
 | .nil=>rfl
 | .mk k a b p q s=>by simp only[cdF,Ts,Wb P m vs p,Wb P m vs q]
theorem eD (P:Pg) (m:Ms) (vs:Vs):∀l,Du P (m.pl d) vs l=Du P m vs l
 |[]=>rfl
 |a::l=>by simp only[Du,Ts,eD P m vs l]
theorem eE (q:Fa) (s:Sm) (v:Int):DZ (q.pl d) s v=(DZ q s v).pl d:=by
 unfold DZ
 show (match B4 q.vs s.x with|some _=>_|none=>_)=_
 cases B4 q.vs s.x with
 |some _=>rfl
 |none=>
  show (match q.P.ci s.x with|some _=>_|none=>_)=Ro.pl (match q.P.ci s.x with|some _=>_|none=>_) d
  cases q.P.ci s.x<;>rfl
theorem eF (q:Fa) (n:List UInt8):Ea (q.pl d) n=Ea q n:=rfl
theorem eG (q:Fa) (s:Sm) (i:Int):Da (q.pl d) s i=Da q s i:=rfl
end
structure Fu (q:Fa) (r:Ro):Prop where
 l:0≤r.q.m.fuel
 u:r.q.m.fuel≤q.m.fuel
theorem Fu.of {q q':Fa} {b t:Bool} (h:0≤q.m.fuel) (e:q'.m.fuel=q.m.fuel):Fu q ⟨b,t,q'⟩:=⟨by show 0≤q'.m.fuel;omega,by show q'.m.fuel≤_;omega⟩
theorem Fu.tr {q q':Fa} {r:Ro} (h:q'.m.fuel≤q.m.fuel) (k:Fu q' r):Fu q r:=⟨k.l,by have:=k.u;omega⟩
theorem eH {q:Fa} {s:Sm} {v:Int} (h:0≤q.m.fuel):Fu q (DZ q s v):=by
 unfold DZ
 split
 ·exact Fu.of h rfl
 ·split
  ·exact Fu.of h rfl
  ·exact Fu.of h rfl
def Pl (d:Int) (q:Fa) (st st':Ro):Prop:=Fu q st∧(st.ex∨st'=st.pl d)
def PlS (d n:Int) (st st':Sm→Fa→Ro):Prop:=∀s q,0≤q.m.fuel→q.m.fuel≤n→Pl d q (st s q) (st' s (q.pl d))
theorem Tt {d n:Int} {st st':Sm→Fa→Ro} (h:PlS d n st st'):∀(l:List Sm) (q:Fa),0≤q.m.fuel→q.m.fuel≤n→Pl d q (blF st l q) (blF st' l (q.pl d))
 |[],q,h0,_=>⟨Fu.of h0 rfl,.inr rfl⟩
 |s::l,q,h0,h1=>by
  obtain⟨f,k⟩:=h s q h0 h1
  simp only[blF]
  by_cases hb:(st s q).b=true∨(st s q).t=true
  ·rw[if_pos hb]
   refine⟨f,?_⟩
   rcases k with k|k
   ·exact .inl k
   ·right;rw[k,if_pos (show ((st s q).pl d).b=true∨((st s q).pl d).t=true from hb)]
  ·rw[if_neg hb]
   obtain⟨f2,k2⟩:=Tt h l (st s q).q f.l (by have:=f.u;omega)
   refine⟨Fu.tr f.u f2,?_⟩
   rcases k with k|k
   ·exact absurd (.inl k.1) hb
   ·rcases k2 with k2|k2
    ·exact .inl k2
    ·right;rw[k,if_neg (show ¬(((st s q).pl d).b=true∨((st s q).pl d).t=true) from hb)];exact k2
theorem b4 {m:Ms} {n:Int} (h1:m.out=false) (h2:m.fuel≤n) (hn:n≤1000000000):m.spd.fuel=m.fuel-1∧1≤m.fuel:=by
 have:¬m.fuel<1:=of_decide_eq_false h1
 refine⟨?_,by omega⟩
 show w64i (m.fuel-1)=_
 unfold w64i;rw[wrap_i64 (by omega) (by omega)]
theorem eI {m:Ms} {n d:Int} (h1:m.out=false) (h2:m.fuel≤n) (hd:0≤d) (hn:n+d≤1000000000):(m.pl d).out=false∧(m.pl d).spd=m.spd.pl d:=by
 obtain⟨a,b⟩:=b4 h1 h2 (by omega)
 refine⟨decide_eq_false (by show ¬m.fuel+d<1;omega),?_⟩
 have e:w64i (m.fuel+d-1)=w64i (m.fuel-1)+d:=by
  have a':w64i (m.fuel-1)=m.fuel-1:=a
  rw[a'];unfold w64i;rw[wrap_i64 (by omega) (by omega)];omega
 show ({ m.pl d with fuel:=w64i (m.fuel+d-1) }:Ms)=_
 rw[e];rfl
theorem ky {d n:Int} {bl bl':Fa→Ro} {s:Sm} (hd:0≤d) (hn:n+1+d≤1000000000) (h:∀q,0≤q.m.fuel→q.m.fuel≤n→Pl d q (bl q) (bl' (q.pl d))) :
  ∀(k k':Nat) (q:Fa),0≤q.m.fuel→q.m.fuel≤n+1→q.m.fuel≤(k:Int)→q.m.fuel+d≤(k':Int)→Pl d q (lpF bl s k q) (lpF bl' s k' (q.pl d))
 |0,k',q,h0,_,_,_=>⟨Fu.of h0 rfl,.inl ⟨rfl,rfl⟩⟩
 |k+1,k',q,h0,hu,h1,h2=>by
  simp only[lpF]
  cases ho:q.m.out with
  |true=>exact⟨Fu.of h0 rfl,.inl ⟨rfl,rfl⟩⟩
  |false=>
   obtain⟨a,b⟩:=b4 ho hu (by omega)
   obtain⟨c,e⟩:=eI ho hu hd (by omega)
   obtain⟨j,rfl⟩:∃j,k'=j+1:=⟨k'-1,by omega⟩
   simp only[lpF,jB,if_false]
   have co:(q.pl d).m.out=false:=c
   have ce:(q.pl d).m.spd=q.m.spd.pl d:=e
   rw[co,ce]
   simp only[jB,if_false]
   rw[show cdF (q.pl d).P (q.m.spd.pl d) (q.pl d).vs s.cd=cdF q.P q.m.spd q.vs s.cd from Wb d _ _ _ _]
   cases cdF q.P q.m.spd q.vs s.cd with
   |no j=>exact⟨⟨by show 0≤q.m.spd.fuel;omega,by show q.m.spd.fuel≤_;omega⟩,.inr rfl⟩
   |ok x=>
    cases x with
    |false=>exact⟨⟨by show 0≤q.m.spd.fuel;omega,by show q.m.spd.fuel≤_;omega⟩,.inr rfl⟩
    |true=>
     obtain⟨f,kk⟩:=h { q with m:=q.m.spd } (by show 0≤q.m.spd.fuel;omega) (by show q.m.spd.fuel≤n;omega)
     have fu:(bl { q with m:=q.m.spd }).q.m.fuel≤q.m.spd.fuel:=f.u
     show Pl d q (if _ then _ else _) (if _ then _ else _)
     by_cases hb:(bl { q with m:=q.m.spd }).b=true∨(bl { q with m:=q.m.spd }).t=true
     ·rw[if_pos hb]
      refine⟨⟨f.l,by omega⟩,?_⟩
      rcases kk with kk|kk
      ·exact .inl kk
      ·right
       have kk':bl' { q.pl d with m:=q.m.spd.pl d }=(bl { q with m:=q.m.spd }).pl d:=kk
       rw[kk',if_pos (show ((bl { q with m:=q.m.spd }).pl d).b=true∨((bl { q with m:=q.m.spd }).pl d).t=true from hb)]
     ·rw[if_neg hb]
      obtain⟨f2,k2⟩:=ky hd hn h k j (bl { q with m:=q.m.spd }).q f.l (by omega) (by omega) (by omega)
      refine⟨Fu.tr (by omega) f2,?_⟩
      rcases kk with kk|kk
      ·exact absurd (.inl kk.1) hb
      ·rcases k2 with k2|k2
       ·exact .inl k2
       ·right
        have kk':bl' { q.pl d with m:=q.m.spd.pl d }=(bl { q with m:=q.m.spd }).pl d:=kk
        rw[kk',if_neg (show ¬(((bl { q with m:=q.m.spd }).pl d).b=true∨((bl { q with m:=q.m.spd }).pl d).t=true) from hb)]
        exact k2
theorem eJ {d n:Int} {st st':Sm→Fa→Ro} (h:PlS d n st st') (P:Pg) (g:Fn) (a:List Va) (m:Ms) (h0:0≤m.fuel) (h1:m.fuel≤n) :
  0≤(EG st P g a m).2.2.fuel∧(EG st P g a m).2.2.fuel≤m.fuel∧(((EG st P g a m).1=true∧(EG st P g a m).2.2.e=2)∨EG st' P g a (m.pl d)=((EG st P g a m).1,(EG st P g a m).2.1,(EG st P g a m).2.2.pl d)):=by
 obtain⟨f,k⟩:=Tt h g.body ⟨g.name,0,P,{ m with deep:=w64i (m.deep+1) },vsP g.ps a (vsL g.ls [])⟩ h0 h1
 have e1:EG st P g a m=if 200≤m.deep then (true,0,m.exh) else if (blF st g.body ⟨g.name,0,P,{ m with deep:=w64i (m.deep+1) },vsP g.ps a (vsL g.ls [])⟩).b=true then (true,0,(blF st g.body ⟨g.name,0,P,{ m with deep:=w64i (m.deep+1) },vsP g.ps a (vsL g.ls [])⟩).q.m) else (false,(blF st g.body ⟨g.name,0,P,{ m with deep:=w64i (m.deep+1) },vsP g.ps a (vsL g.ls [])⟩).q.ret,{ (blF st g.body ⟨g.name,0,P,{ m with deep:=w64i (m.deep+1) },vsP g.ps a (vsL g.ls [])⟩).q.m with deep:=w64i ((blF st g.body ⟨g.name,0,P,{ m with deep:=w64i (m.deep+1) },vsP g.ps a (vsL g.ls [])⟩).q.m.deep-1) }):=rfl
 have e2:EG st' P g a (m.pl d)=if 200≤m.deep then (true,0,(m.pl d).exh) else if (blF st' g.body (Fa.pl ⟨g.name,0,P,{ m with deep:=w64i (m.deep+1) },vsP g.ps a (vsL g.ls [])⟩ d)).b=true then (true,0,(blF st' g.body (Fa.pl ⟨g.name,0,P,{ m with deep:=w64i (m.deep+1) },vsP g.ps a (vsL g.ls [])⟩ d)).q.m) else (false,(blF st' g.body (Fa.pl ⟨g.name,0,P,{ m with deep:=w64i (m.deep+1) },vsP g.ps a (vsL g.ls [])⟩ d)).q.ret,{ (blF st' g.body (Fa.pl ⟨g.name,0,P,{ m with deep:=w64i (m.deep+1) },vsP g.ps a (vsL g.ls [])⟩ d)).q.m with deep:=w64i ((blF st' g.body (Fa.pl ⟨g.name,0,P,{ m with deep:=w64i (m.deep+1) },vsP g.ps a (vsL g.ls [])⟩ d)).q.m.deep-1) }):=rfl
 rw[e1,e2]
 clear e1 e2
 have fu:=f.u
 have fl:=f.l
 generalize blF st' g.body (Fa.pl ⟨g.name,0,P,{ m with deep:=w64i (m.deep+1) },vsP g.ps a (vsL g.ls [])⟩ d)=G2 at*
 generalize blF st g.body ⟨g.name,0,P,{ m with deep:=w64i (m.deep+1) },vsP g.ps a (vsL g.ls [])⟩=G1 at*
 by_cases hd:200≤m.deep
 ·rw[if_pos hd,if_pos hd]
  exact⟨h0,Int.le_refl _,.inl ⟨rfl,rfl⟩⟩
 ·rw[if_neg hd,if_neg hd]
  by_cases hb:G1.b=true
  ·rw[if_pos hb]
   refine⟨fl,fu,?_⟩
   rcases k with k|k
   ·exact .inl ⟨rfl,k.2⟩
   ·right
    subst k
    rw[if_pos (show (G1.pl d).b=true from hb)];rfl
  ·rw[if_neg hb]
   refine⟨fl,fu,?_⟩
   rcases k with k|k
   ·exact absurd k.1 hb
   ·right
    subst k
    rw[if_neg (show ¬(G1.pl d).b=true from hb)];rfl
theorem wH {d n:Int} {st st':Sm→Fa→Ro} (h:PlS d n st st') (s:Sm) (q:Fa) (h0:0≤q.m.fuel) (h1:q.m.fuel≤n):Pl d q (Ek st s q) (Ek st' s (q.pl d)):=by
 unfold Ek
 rw[show Du (q.pl d).P (q.pl d).m (q.pl d).vs s.ar=Du q.P q.m q.vs s.ar from eD d _ _ _ _]
 cases Du q.P q.m q.vs s.ar with
 |no j=>exact⟨Fu.of h0 rfl,.inr rfl⟩
 |ok a=>
  show Pl d q (match q.P.fi s.y with|none=>_|some i=>_) (match q.P.fi s.y with|none=>_|some i=>_)
  cases q.P.fi s.y with
  |none=>exact⟨Fu.of h0 rfl,.inr rfl⟩
  |some i=>
   show Pl d q (if _ then _ else _) (if _ then _ else _)
   by_cases hf:FS (q.P.fs.getD i.toNat ⟨[],[],[],[]⟩).ps a=false
   ·rw[if_pos hf,if_pos (show FS ((q.pl d).P.fs.getD i.toNat ⟨[],[],[],[]⟩).ps a=false from hf)]
    exact⟨Fu.of h0 rfl,.inr rfl⟩
   ·rw[if_neg hf,if_neg (show ¬FS ((q.pl d).P.fs.getD i.toNat ⟨[],[],[],[]⟩).ps a=false from hf)]
    obtain⟨f0,f1,k⟩:=eJ h q.P (q.P.fs.getD i.toNat ⟨[],[],[],[]⟩) a q.m h0 h1
    show Pl d q (Q7 s q (EG st q.P (q.P.fs.getD i.toNat ⟨[],[],[],[]⟩) a q.m)) (Q7 s (q.pl d) (EG st' q.P (q.P.fs.getD i.toNat ⟨[],[],[],[]⟩) a (q.m.pl d)))
    generalize EG st' q.P (q.P.fs.getD i.toNat ⟨[],[],[],[]⟩) a (q.m.pl d)=r' at*
    generalize EG st q.P (q.P.fs.getD i.toNat ⟨[],[],[],[]⟩) a q.m=r at*
    obtain⟨rb,rv,rm⟩:=r
    cases rb with
    |true=>
     refine⟨⟨f0,f1⟩,?_⟩
     rcases k with k|k
     ·exact .inl ⟨rfl,k.2⟩
     ·right;subst k;rfl
    |false=>
     rcases k with k|k
     ·cases k.1
     ·subst k
      show Pl d q (if (s.x==[])=true then Fa.go { q with m:=rm } else DZ { q with m:=rm } s rv) (if (s.x==[])=true then Fa.go { q.pl d with m:=rm.pl d } else DZ { q.pl d with m:=rm.pl d } s rv)
      by_cases hx:(s.x==[])=true
      ·rw[if_pos hx,if_pos hx]
       exact⟨⟨f0,f1⟩,.inr rfl⟩
      ·rw[if_neg hx,if_neg hx]
       have hq:({ q with m:=rm }:Fa).m.fuel≤q.m.fuel:=f1
       exact⟨Fu.tr hq (eH f0),.inr (eE d { q with m:=rm } s rv)⟩
theorem HZ {d:Int} {q:Fa} {c:Prop} [Decidable c] {a b a' b':Ro} (h1:Pl d q a a') (h2:Pl d q b b'):Pl d q (if c then a else b) (if c then a' else b'):=by
 by_cases h:c
 ·rw[if_pos h,if_pos h];exact h1
 ·rw[if_neg h,if_neg h];exact h2
theorem A1c {d n:Int} {st st':Sm→Fa→Ro} (h:PlS d n st st') (s:Sm) (q:Fa) (h0:0≤q.m.fuel) (h1:q.m.fuel≤n):Pl d q (smF st s q) (smF st' s (q.pl d)):=by
 have ev:∀e,evF (q.pl d).P (q.pl d).m (q.pl d).vs e=evF q.P q.m q.vs e:=fun e=>Ts d _ _ _ e
 have cd:∀c,cdF (q.pl d).P (q.pl d).m (q.pl d).vs c=cdF q.P q.m q.vs c:=fun c=>Wb d _ _ _ c
 have fl:∀{q':Fa} {b t:Bool},q'.m.fuel=q.m.fuel→Pl d q ⟨b,t,q'⟩ (Ro.pl ⟨b,t,q'⟩ d):=fun e=>⟨Fu.of h0 e,.inr rfl⟩
 have asq:∀v,Pl d q (DZ q s v) (DZ (q.pl d) s v):=fun v=>⟨eH h0,.inr (eE d q s v)⟩
 unfold smF
 refine HZ ?_ (HZ ?_ (HZ ?_ (HZ ?_ (HZ ?_ (HZ ?_ (HZ ?_ (HZ ?_ (HZ ?_ (HZ ?_ (HZ ?_ (HZ ?_ ?_)))))))))))
 ·rw[ev]
  cases evF q.P q.m q.vs s.e with
  |no j=>exact fl rfl
  |ok v=>exact asq v
 ·show Pl d q (match q.P.ci s.y with|none=>_|some _=>_) (match q.P.ci s.y with|none=>_|some _=>_)
  cases q.P.ci s.y with
  |none=>exact fl rfl
  |some _=>exact fl rfl
 ·exact fl rfl
 ·exact fl rfl
 ·rw[eF]
  cases Ea q s.y with
  |no j=>exact fl rfl
  |ok i=>exact asq _
 ·rw[ev]
  cases evF q.P q.m q.vs s.e with
  |no j=>exact fl rfl
  |ok v=>
   show Pl d q (match Ea q s.x with| .no j=>_| .ok i=>_) (match Ea (q.pl d) s.x with| .no j=>_| .ok i=>_)
   rw[eF]
   cases Ea q s.x with
   |no j=>exact fl rfl
   |ok i=>exact fl rfl
 ·rw[ev]
  cases evF q.P q.m q.vs s.e with
  |no j=>exact fl rfl
  |ok i=>
   show Pl d q (match Da q s i with| .no j=>_| .ok k=>_) (match Da (q.pl d) s i with| .no j=>_| .ok k=>_)
   rw[eG]
   cases Da q s i with
   |no j=>exact fl rfl
   |ok k=>exact asq _
 ·rw[ev]
  cases evF q.P q.m q.vs s.e with
  |no j=>exact fl rfl
  |ok i=>
   show Pl d q (match evF q.P q.m q.vs s.f with| .no j=>_| .ok v=>_) (match evF (q.pl d).P (q.pl d).m (q.pl d).vs s.f with| .no j=>_| .ok v=>_)
   rw[ev]
   cases evF q.P q.m q.vs s.f with
   |no j=>exact fl rfl
   |ok v=>
    show Pl d q (match Da q s i with| .no j=>_| .ok k=>_) (match Da (q.pl d) s i with| .no j=>_| .ok k=>_)
    rw[eG]
    cases Da q s i with
    |no j=>exact fl rfl
    |ok k=>exact fl rfl
 ·exact wH h s q h0 h1
 ·rw[ev]
  cases evF q.P q.m q.vs s.e with
  |no j=>exact fl rfl
  |ok v=>exact fl rfl
 ·rw[cd]
  cases cdF q.P q.m q.vs s.cd with
  |no j=>exact fl rfl
  |ok x=>cases x with
   |true=>exact Tt h s.th q h0 h1
   |false=>exact Tt h s.el q h0 h1
 ·rw[cd]
  cases cdF q.P q.m q.vs s.cd with
  |no j=>exact fl rfl
  |ok x=>cases x with
   |true=>exact fl rfl
   |false=>exact fl rfl
 ·exact fl rfl
theorem kz {d:Int} (hd:0≤d):∀(n n':Nat),(n:Int)+d≤(n':Int)→(n:Int)+d≤1000000000→PlS d n (stF n) (stF n')
 |0,n',_,_=>fun s q h0 h1=>⟨Fu.of h0 rfl,.inl ⟨rfl,rfl⟩⟩
 |n+1,n',hn,hm=>by
  intro s q h0 h1
  obtain⟨j,rfl⟩:∃j,n'=j+1:=⟨n'-1,by omega⟩
  have ih:=kz hd n j (by omega) (by omega)
  simp only[stF]
  by_cases hk:s.k=11
  ·rw[if_pos hk,if_pos hk]
   exact ky hd (n:=n) (by omega) (fun q a b=>Tt ih s.th q a b) (n+1) (j+1) q h0 (by omega) (by omega) (by omega)
  ·rw[if_neg hk,if_neg hk]
   cases ho:q.m.out with
   |true=>exact⟨Fu.of h0 rfl,.inl ⟨rfl,rfl⟩⟩
   |false=>
    obtain⟨a,b⟩:=b4 ho h1 (by omega)
    obtain⟨c,e⟩:=eI ho h1 hd hm
    have co:(q.pl d).m.out=false:=c
    have ce:(q.pl d).m.spd=q.m.spd.pl d:=e
    rw[co,ce]
    simp only[jB,if_false]
    obtain⟨f,k⟩:=A1c ih s { q with m:=q.m.spd } (by show 0≤q.m.spd.fuel;omega) (by show q.m.spd.fuel≤n;omega)
    exact⟨Fu.tr (by show q.m.spd.fuel≤_;omega) f,k⟩
end Go.Proofs.Ytjnnmindcbgjhaa
namespace Go.Proofs.Ytjnnmindcbgjhaa
open Go Go.Sy Go.RowKit
theorem A1d (d:Int) (r:Bool×Int×Ms):rnZ (r.1,r.2.1,r.2.2.pl d)=(rnZ r).pl d:=by
 obtain⟨b,x,m⟩:=r
 cases b with
 |false=>rfl
 |true=>
  show (if (m.e==0)=true then (m.pl d).exh else m.pl d)=Ms.pl (if (m.e==0)=true then m.exh else m) d
  split<;>rfl
theorem A1e {n n':Nat} {d:Int} {P:Pg} {f:List UInt8} {va:List Va} {m:Ms} (hd:0≤d) (hn:(n:Int)+d≤(n':Int)) (hm:(n:Int)+d≤1000000000) (h0:0≤m.fuel) (h1:m.fuel≤n) :
  (rnZ (rnA n P f va m)).e=2∨rnZ (rnA n' P f va (m.pl d))=(rnZ (rnA n P f va m)).pl d:=by
 unfold rnA
 cases hf:P.fi f with
 |none=>
  dsimp only
  exact .inr rfl
 |some i=>
  dsimp only
  by_cases c1:FS (P.fs.getD i.toNat ⟨[],[],[],[]⟩).ps va=false
  ·rw[if_pos c1,if_pos c1];exact .inr rfl
  rw[if_neg c1,if_neg c1]
  by_cases c2:poB P va=false
  ·rw[if_pos c2,if_pos c2];exact .inr rfl
  rw[if_neg c2,if_neg c2]
  have k:=eJ (kz hd n n' hn hm) P (P.fs.getD i.toNat ⟨[],[],[],[]⟩) va m h0 h1
  rcases k.2.2 with⟨k1,k2⟩|k3
  ·left
   unfold rnZ Py
   rw[if_pos k1,if_neg (by rw[k2];decide)];exact k2
  ·right
   rw[k3]
   exact A1d d _
def clA (P:Pg) (f:List UInt8) (va:List Va) (s:Sta) (fuel:Int):Ms:=clF (fuel.toNat+1) P f va s fuel
theorem A1f {P:Pg} {f:List UInt8} {va:List Va} {s:Sta} {a b:Int} (h0:0≤a) (h1:a≤b) (h2:b≤1000000) :
  (clA P f va s a).e=2∨clA P f va s b=(clA P f va s a).pl (b-a):=by
 unfold clA clF
 by_cases h:1≤a
 ·rw[if_pos h,if_pos (by omega)]
  have e1:mn a 1048576=a:=by unfold mn;split<;>omega
  have e2:mn b 1048576=b:=by unfold mn;split<;>omega
  have k:=A1e (n:=a.toNat+1) (n':=b.toNat+1) (d:=b-a) (P:=P) (f:=f) (va:=va) (m:=ms0 P s a) (by omega) (by omega) (by omega) (by show 0≤mn a 1048576;omega) (by show mn a 1048576≤_;omega)
  have e3:(ms0 P s a).pl (b-a)=ms0 P s b:=by
   show (⟨mn a 1048576+(b-a),_,_,_,_,_,_,_,_⟩:Ms)=⟨mn b 1048576,_,_,_,_,_,_,_,_⟩
   rw[e1,e2,show a+(b-a)=b by omega];rfl
  rw[e3]at k
  exact k
 ·rw[if_neg h];exact .inl rfl
theorem A1g {n:Nat} {P:Pg} {f:List UInt8} {va:List Va} {s:Sta} {a:Int} (h2:a≤1000000):(clF n P f va s a).cs.length=(stCs P.g.c s.cs).length∧(clF n P f va s a).ar.map naL=(stA P.g.a s.ar).map naL:=by
 unfold clF
 split
 ·rename_i h
  have e1:mn a 1048576=a:=by unfold mn;split<;>omega
  have key:(rnA n P f va (ms0 P s a)).2.2.cs.length=(stCs P.g.c s.cs).length∧(rnA n P f va (ms0 P s a)).2.2.ar.map naL=(stA P.g.a s.ar).map naL:=by
   unfold rnA
   cases P.fi f with
   |none=>exact⟨rfl,rfl⟩
   |some i=>
    dsimp only
    split
    ·exact⟨rfl,rfl⟩
    split
    ·exact⟨rfl,rfl⟩
    ·have k:=XE (Ri n) ⟨[],0,P,ms0 P s a,[]⟩ (P.fs.getD i.toNat ⟨[],[],[],[]⟩) va (by show 0≤mn a 1048576;omega) (by show mn a 1048576≤_;omega)
     exact⟨k.c,k.a⟩
  unfold rnZ Py
  split
  ·split
   ·exact key
   ·exact key
  ·exact key
 ·exact⟨rfl,rfl⟩
abbrev Q2 (N:Nat) (p:Pg) (f:List UInt8) (va:List Va) (s:Sta) (fuel:Int):Prop:=fuel<999999999∧okR N (fuel.toNat+1) p va s fuel
abbrev SZ (N:Nat) (p:Pg) (f:List UInt8) (va:List Va) (s:Sta) (fuel:Int):SV:=.agg (ouC (clA p f va s fuel))
noncomputable abbrev XQ:ArgC ((Pg)×(List UInt8)×(List Va)×(Sta)×(Int)×Unit):=(acS (cPg) (acS (cStr) (acS (OC) (acS (cSta) (acS (cInt .i64) ac0)))))
abbrev XR (N:Nat):Prop:=Cc Try.prog 17 XQ (fun p:(Pg)×(List UInt8)×(List Va)×(Sta)×(Int)×Unit=>Q2 N p.1 p.2.1 p.2.2.1 p.2.2.2.1 p.2.2.2.2.1) (fun p:(Pg)×(List UInt8)×(List Va)×(Sta)×(Int)×Unit=>SZ N p.1 p.2.1 p.2.2.1 p.2.2.2.1 p.2.2.2.2.1)
theorem iT (N:Nat):∀p:(Pg)×(List UInt8)×(List Va)×(Sta)×(Int)×Unit,((fun p:(Pg)×(List UInt8)×(List Va)×(Sta)×(Int)×Unit=>SZ N p.1 p.2.1 p.2.2.1 p.2.2.2.1 p.2.2.2.2.1) p).names=[]:=by intro p;rfl
noncomputable def XS {X:Ctx} {w0:World} (N:Nat) (h:XR N):Sy.Spec Try.prog X w0:=DD 17 Try.call17 XQ (fun p:(Pg)×(List UInt8)×(List Va)×(Sta)×(Int)×Unit=>Q2 N p.1 p.2.1 p.2.2.1 p.2.2.2.1 p.2.2.2.2.1) (fun p:(Pg)×(List UInt8)×(List Va)×(Sta)×(Int)×Unit=>SZ N p.1 p.2.1 p.2.2.1 p.2.2.2.1 p.2.2.2.2.1) (iT N) h
theorem pU (N:Nat):XR N:=by
 rintro ⟨p,f,va,s,fuel,_u⟩ w fz xs hc hfz hl hx
 exact dt N (fuel.toNat+1) ⟨p,f,va,s,fuel,_u⟩ w fz xs hc.2 hfz hl hx
end Go.Proofs.Ytjnnmindcbgjhaa
