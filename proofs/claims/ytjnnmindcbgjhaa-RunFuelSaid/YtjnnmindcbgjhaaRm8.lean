/- What a run keeps, plain. No conditions but those in each statement. -/
import Derived.Test.YtjnnmindcbgjhaaSy38
import Derived.Test.YtjnnmindcbgjhaaRm6
import Derived.Test.YtjnnmindcbgjhaaRm7
set_option linter.unusedVariables false
set_option linter.unusedSimpArgs false
open List (length_map)
namespace Go.Proofs.Ytjnnmindcbgjhaa
open Go Go.Sy Go.RowKit
def naL (x:Na):Nat:=x.l.length
structure Kq (q r:Fa):Prop where
 P:r.P=q.P
 c:r.m.cs.length=q.m.cs.length
 a:r.m.ar.map naL=q.m.ar.map naL
 l:0≤r.m.fuel
 u:r.m.fuel≤q.m.fuel
theorem Kq.tr {q r t:Fa} (h:Kq q r) (k:Kq r t):Kq q t:=⟨k.P.trans h.P,k.c.trans h.c,k.a.trans h.a,k.l,by have:=k.u;have:=h.u;omega⟩
theorem Kq.of {q r:Fa} (h:0≤q.m.fuel) (h1:r.P=q.P) (h2:r.m.cs=q.m.cs) (h3:r.m.ar=q.m.ar) (h4:r.m.fuel=q.m.fuel):Kq q r:=⟨h1,by rw[h2],by rw[h3],by omega,by omega⟩
theorem oT (m:Ms) (i j:Int) (v:Int):(m.put i j v).ar.map naL=m.ar.map naL:=by
 show (m.ar.set i.toNat ⟨(m.ar.getD i.toNat ⟨[],[]⟩).s,(m.arr i).set j.toNat v⟩).map naL=_
 rw[List.map_set]
 show (m.ar.map naL).set i.toNat ((m.arr i).set j.toNat v).length=_
 rw[List.length_set]
 apply List.ext_getElem?
 intro k
 rw[List.getElem?_set]
 split
 ·rename_i hk
  subst hk
  split
  ·rename_i hl
   rw[length_map]at hl
   rw[List.getElem?_map,List.getElem?_eq_getElem hl]
   simp[Ms.arr,naL,List.getD,hl]
  ·rename_i hl
   rw[List.getElem?_eq_none (Nat.le_of_not_lt hl)]
 ·rfl
theorem TY {q:Fa} {s:Sm} {v:Int} (h:0≤q.m.fuel):Kq q (DZ q s v).q:=by
 unfold DZ
 split
 ·exact Kq.of h rfl rfl rfl rfl
 ·split
  ·exact⟨rfl,by show (q.m.cs.set _ _).length=_;rw[List.length_set],rfl,h,Int.le_refl _⟩
  ·exact Kq.of h rfl rfl rfl rfl
def KqS (st:Sm→Fa→Ro):Prop:=∀s q,0≤q.m.fuel→q.m.fuel≤1000000000→Kq q (st s q).q
theorem Pq {st:Sm→Fa→Ro} (h:KqS st):∀(l:List Sm) (q:Fa),0≤q.m.fuel→q.m.fuel≤1000000000→Kq q (blF st l q).q
 |[],q,h0,_=>Kq.of h0 rfl rfl rfl rfl
 |s::l,q,h0,h1=>by
  have k:=h s q h0 h1
  simp only[blF]
  split
  ·exact k
  ·exact k.tr (Pq h l _ k.l (by have:=k.u;omega))
theorem gr {m:Ms} (h1:m.out=false) (h0:0≤m.fuel) (h2:m.fuel≤1000000000):m.spd.fuel=m.fuel-1∧1≤m.fuel:=by
 have:¬m.fuel<1:=of_decide_eq_false h1
 refine⟨?_,by omega⟩
 show w64i (m.fuel-1)=_
 unfold w64i;rw[wrap_i64 (by omega) (by omega)]
theorem TZ {q:Fa} (h1:q.m.out=false) (h0:0≤q.m.fuel) (h2:q.m.fuel≤1000000000):Kq q { q with m:=q.m.spd }:=by
 obtain⟨a,b⟩:=gr h1 h0 h2
 exact⟨rfl,rfl,rfl,by show 0≤q.m.spd.fuel;omega,by show q.m.spd.fuel≤_;omega⟩
theorem km {bl:Fa→Ro} {s:Sm} (h:∀q,0≤q.m.fuel→q.m.fuel≤1000000000→Kq q (bl q).q):∀(k:Nat) (q:Fa),0≤q.m.fuel→q.m.fuel≤1000000000→Kq q (lpF bl s k q).q
 |0,q,h0,_=>Kq.of h0 rfl rfl rfl rfl
 |k+1,q,h0,h1=>by
  simp only[lpF]
  cases ho:q.m.out with
  |true=>exact Kq.of h0 rfl rfl rfl rfl
  |false=>
   have ks:=TZ ho h0 h1
   simp only[jB,if_false]
   cases cdF q.P q.m.spd q.vs s.cd with
   |no j=>exact ks.tr (Kq.of ks.l rfl rfl rfl rfl)
   |ok x=>cases x with
    |false=>exact ks
    |true=>
     have kb:=h { q with m:=q.m.spd } ks.l (by have:=ks.u;omega)
     show Kq q (if _ then _ else _:Ro).q
     split
     ·exact ks.tr kb
     ·exact(ks.tr kb).tr (km h k _ kb.l (by have:=kb.u;have:=ks.u;omega))
theorem XE {st:Sm→Fa→Ro} (h:KqS st) (q:Fa) (g:Fn) (a:List Va) (h0:0≤q.m.fuel) (h1:q.m.fuel≤1000000000):Kq q { q with m:=(EG st q.P g a q.m).2.2 }:=by
 unfold EG
 split
 ·exact Kq.of h0 rfl rfl rfl rfl
 ·have k:=Pq h g.body ⟨g.name,0,q.P,{ q.m with deep:=w64i (q.m.deep+1) },vsP g.ps a (vsL g.ls [])⟩ h0 h1
  show Kq q { q with m:=(if _ then _ else _:Bool×Int×Ms).2.2 }
  split
  ·exact⟨rfl,k.c,k.a,k.l,k.u⟩
  ·exact⟨rfl,k.c,k.a,k.l,k.u⟩
theorem vJ {st:Sm→Fa→Ro} (h:KqS st) (s:Sm) (q:Fa) (h0:0≤q.m.fuel) (h1:q.m.fuel≤1000000000):Kq q (Ek st s q).q:=by
 unfold Ek
 split
 ·exact Kq.of h0 rfl rfl rfl rfl
 ·split
  ·exact Kq.of h0 rfl rfl rfl rfl
  ·dsimp only
   split
   ·exact Kq.of h0 rfl rfl rfl rfl
   ·rename_i a _ _ i _ _
    have k:=XE h q (q.P.fs.getD i.toNat ⟨[],[],[],[]⟩) a h0 h1
    unfold Q7
    split
    ·exact k
    ·split
     ·exact k
     ·exact k.tr (TY k.l)
theorem HY {c:Prop} [Decidable c] {a b:Ro} {q:Fa} (h1:Kq q a.q) (h2:Kq q b.q):Kq q (if c then a else b).q:=by
 by_cases h:c
 ·rw[if_pos h];exact h1
 ·rw[if_neg h];exact h2
theorem A16 {st:Sm→Fa→Ro} (h:KqS st) (s:Sm) (q:Fa) (h0:0≤q.m.fuel) (h1:q.m.fuel≤1000000000):Kq q (smF st s q).q:=by
 have r:∀{t:Fa},t.P=q.P→t.m.cs=q.m.cs→t.m.ar=q.m.ar→t.m.fuel=q.m.fuel→Kq q t:=fun a b c d=>Kq.of h0 a b c d
 unfold smF
 refine HY ?_ (HY ?_ (HY ?_ (HY ?_ (HY ?_ (HY ?_ (HY ?_ (HY ?_ (HY ?_ (HY ?_ (HY ?_ (HY ?_ ?_)))))))))))
 ·cases evF q.P q.m q.vs s.e with
  |no j=>exact r rfl rfl rfl rfl
  |ok v=>exact TY h0
 ·cases q.P.ci s.y with
  |none=>exact r rfl rfl rfl rfl
  |some i=>exact r rfl rfl rfl rfl
 ·exact r rfl rfl rfl rfl
 ·exact r rfl rfl rfl rfl
 ·cases Ea q s.y with
  |no j=>exact r rfl rfl rfl rfl
  |ok i=>exact TY h0
 ·cases evF q.P q.m q.vs s.e with
  |no j=>exact r rfl rfl rfl rfl
  |ok v=>
   show Kq q (match Ea q s.x with| .no j=>q.brk s j| .ok i=>Fa.go { q with m:=q.m.set i v }).q
   cases Ea q s.x with
   |no j=>exact r rfl rfl rfl rfl
   |ok i=>exact⟨rfl,by show (q.m.cs.set _ _).length=_;rw[List.length_set],rfl,h0,Int.le_refl _⟩
 ·cases evF q.P q.m q.vs s.e with
  |no j=>exact r rfl rfl rfl rfl
  |ok i=>
   show Kq q (match Da q s i with| .no j=>q.brk s j| .ok k=>DZ q s ((q.m.arr k).getD i.toNat 0)).q
   cases Da q s i with
   |no j=>exact r rfl rfl rfl rfl
   |ok k=>exact TY h0
 ·cases evF q.P q.m q.vs s.e with
  |no j=>exact r rfl rfl rfl rfl
  |ok i=>
   show Kq q (match evF q.P q.m q.vs s.f with| .no j=>q.brk s j| .ok v=>match Da q s i with| .no j=>q.brk s j| .ok k=>Fa.go { q with m:=q.m.put k i v }).q
   cases evF q.P q.m q.vs s.f with
   |no j=>exact r rfl rfl rfl rfl
   |ok v=>
    show Kq q (match Da q s i with| .no j=>q.brk s j| .ok k=>Fa.go { q with m:=q.m.put k i v }).q
    cases Da q s i with
    |no j=>exact r rfl rfl rfl rfl
    |ok k=>exact⟨rfl,rfl,oT _ _ _ _,h0,Int.le_refl _⟩
 ·exact vJ h s q h0 h1
 ·cases evF q.P q.m q.vs s.e with
  |no j=>exact r rfl rfl rfl rfl
  |ok v=>exact r rfl rfl rfl rfl
 ·cases cdF q.P q.m q.vs s.cd with
  |no j=>exact r rfl rfl rfl rfl
  |ok x=>cases x with
   |true=>exact Pq h s.th q h0 h1
   |false=>exact Pq h s.el q h0 h1
 ·cases cdF q.P q.m q.vs s.cd with
  |no j=>exact r rfl rfl rfl rfl
  |ok x=>cases x with
   |true=>exact r rfl rfl rfl rfl
   |false=>exact r rfl rfl rfl rfl
 ·exact r rfl rfl rfl rfl
theorem Ri:∀n,KqS (stF n)
 |0=>fun s q h0 _=>Kq.of h0 rfl rfl rfl rfl
 |n+1=>fun s q h0 h1=>by
  have ih:=Ri n
  simp only[stF]
  split
  ·exact km (fun q a b=>Pq ih s.th q a b) (n+1) q h0 h1
  ·cases ho:q.m.out with
   |true=>exact Kq.of h0 rfl rfl rfl rfl
   |false=>
    have ks:=TZ ho h0 h1
    simp only[jB,if_false]
    exact ks.tr (A16 ih s { q with m:=q.m.spd } ks.l (by have:=ks.u;omega))
structure okPg (N:Nat) (P:Pg):Prop where
 l:P.fs.length≤1000000
 f:∀f∈P.fs,okF f∧∃m,okB N m f.body
structure okMs (N:Nat) (n:Int) (q:Fa):Prop where
 p:okPg N q.P
 c:okC q.P q.m
 a:∀x∈q.m.ar,x.l.length≤1000000000
 l:0≤q.m.fuel
 u:q.m.fuel<n
theorem okMs.kq {N:Nat} {n k:Int} {q r:Fa} (h:okMs N n q) (e:Kq q r) (hu:r.m.fuel<k):okMs N k r:=by
 refine⟨by rw[e.P];exact h.p,⟨by rw[e.c,e.P];exact h.c.c,?_,by rw[e.P];exact h.c.n,by rw[e.P];exact h.c.k⟩,fun x hx=>?_,e.l,hu⟩
 ·have:=congrArg List.length e.a
  rw[length_map,length_map]at this
  rw[this,e.P];exact h.c.a
 ·have h1:naL x∈r.m.ar.map naL:=List.mem_map.2 ⟨x,hx,rfl⟩
  rw[e.a]at h1
  obtain⟨y,hy,h2⟩:=List.mem_map.1 h1
  have:=h.a y hy
  show naL x≤_
  rw[← h2];exact this
end Go.Proofs.Ytjnnmindcbgjhaa
namespace Go.Proofs.Ytjnnmindcbgjhaa
open Go Go.Sy Go.RowKit
theorem A17 {l:List Sm} {i:Nat} {x:Sm} (h:l[i]?=some x) (z:List D):(l.map Sm.r).getD i z=x.r:=by simp[List.getD,h]
structure okT (N:Nat) (s:Sm):Prop where
 k:OkS N s
 t:∃m,okB N m s.th
 e:∃m,okB N m s.el
theorem A18 {N m:Nat} {l:List Sm} {s:Sm} (h:okB N m l) (hs:s∈l):okT N s:=by
 cases m with
 |zero=>exact h.elim
 |succ m=>obtain⟨a,b,c⟩:=h.2 s hs;exact⟨a,⟨m,b⟩,⟨m,c⟩⟩
theorem oU {N m:Nat} {l:List Sm} (h:okB N m l):l.length≤5000:=by
 cases m with
 |zero=>exact h.elim
 |succ m=>exact h.1
abbrev LK (N:Nat) (n:Nat) (q:Fa) (s:Sm):Prop:=okT N s∧okMs N n q∧n≤1000000000
abbrev Eg (N:Nat) (n:Nat) (q:Fa) (s:Sm):Bool:=(stF n s q).b
abbrev D0 (N:Nat) (n:Nat) (q:Fa) (s:Sm):Fa:=(stF n s q).q
abbrev Dn (N:Nat) (n:Nat) (q:Fa) (s:Sm):Fa:=(stF n s q).q
abbrev FB (N:Nat) (n:Nat) (q:Fa) (s:Sm):SV:=.one (.v (.bool (stF n s q).t))
theorem gu:∀b,∀v∈ArgC.e (acS (cSp) ac0) b,v.tupB=false:=by rintro ⟨x0,_⟩ v hv;simp only[HU,HT,List.mem_cons,List.not_mem_nil,or_false]at hv;subst hv<;>first|rfl|exact Ik _|exact Il _
noncomputable abbrev GP:ArgL (Fa×(Sm)×Unit):=amFr (acS (cSp) ac0) gu
abbrev LL (N:Nat) (n:Nat):Prop:=E8 Try.prog 85 (GP).args (GP).mem (fun p:(Fa×(Sm)×Unit)=>LK N n p.1 p.2.1) (fun p:(Fa×(Sm)×Unit)=>Eg N n p.1 p.2.1) (fun p:(Fa×(Sm)×Unit)=>FB N n p.1 p.2.1) (fun p:(Fa×(Sm)×Unit)=>Fa.memO (D0 N n p.1 p.2.1)) (fun p:(Fa×(Sm)×Unit)=>mlO (Fa.pan (Dn N n p.1 p.2.1)))
theorem gv (N:Nat) (n:Nat):∀p,(fun p:(Fa×(Sm)×Unit)=>LK N n p.1 p.2.1) p→(fun p:(Fa×(Sm)×Unit)=>Eg N n p.1 p.2.1) p=false→Dq ((GP).mem p).length ((fun p:(Fa×(Sm)×Unit)=>Fa.memO (D0 N n p.1 p.2.1)) p)=true∧kdL ((GP).mem p) ((fun p:(Fa×(Sm)×Unit)=>Fa.memO (D0 N n p.1 p.2.1)) p)=true∧EZ ((fun p:(Fa×(Sm)×Unit)=>Fa.memO (D0 N n p.1 p.2.1)) p) ((fun p:(Fa×(Sm)×Unit)=>FB N n p.1 p.2.1) p)∧∀q,some q∈(fun p:(Fa×(Sm)×Unit)=>Fa.memO (D0 N n p.1 p.2.1)) p→DO ((fun p:(Fa×(Sm)×Unit)=>Fa.memO (D0 N n p.1 p.2.1)) p).length q:=fun p _ _=>have h:=Db p.1 (D0 N n p.1 p.2.1);⟨h.1,h.2.1,rfl,h.2.2⟩
theorem gx (N:Nat) (n:Nat):∀p,(fun p:(Fa×(Sm)×Unit)=>LK N n p.1 p.2.1) p→(fun p:(Fa×(Sm)×Unit)=>Eg N n p.1 p.2.1) p=true→((fun p:(Fa×(Sm)×Unit)=>mlO (Fa.pan (Dn N n p.1 p.2.1))) p).length=((GP).mem p).length∧kdL ((GP).mem p) ((fun p:(Fa×(Sm)×Unit)=>mlO (Fa.pan (Dn N n p.1 p.2.1))) p)=true∧∀q,some q∈(fun p:(Fa×(Sm)×Unit)=>mlO (Fa.pan (Dn N n p.1 p.2.1))) p→DO ((fun p:(Fa×(Sm)×Unit)=>mlO (Fa.pan (Dn N n p.1 p.2.1))) p).length q:=fun p _ _=>IQ p.1 (Dn N n p.1 p.2.1)
theorem gy (N:Nat) (n:Nat):∀p,(fun p:(Fa×(Sm)×Unit)=>LK N n p.1 p.2.1) p→(fun p:(Fa×(Sm)×Unit)=>Eg N n p.1 p.2.1) p=true→Dq ((GP).mem p).length ((fun p:(Fa×(Sm)×Unit)=>Fa.memO (D0 N n p.1 p.2.1)) p)=true∧EZ ((fun p:(Fa×(Sm)×Unit)=>Fa.memO (D0 N n p.1 p.2.1)) p) ((fun p:(Fa×(Sm)×Unit)=>FB N n p.1 p.2.1) p):=fun p _ _=>⟨(Db p.1 (D0 N n p.1 p.2.1)).1,rfl⟩
noncomputable def Ps {X:Ctx} {w0:World} (N:Nat) (n:Nat) (h:LL N n):Sy.Spec Try.prog X w0:=Dj 85 Try.call85 (GP) (fun p:(Fa×(Sm)×Unit)=>LK N n p.1 p.2.1) (fun p:(Fa×(Sm)×Unit)=>Eg N n p.1 p.2.1) (fun p:(Fa×(Sm)×Unit)=>FB N n p.1 p.2.1) (fun p:(Fa×(Sm)×Unit)=>Fa.memO (D0 N n p.1 p.2.1)) (fun p:(Fa×(Sm)×Unit)=>mlO (Fa.pan (Dn N n p.1 p.2.1))) (gv N n) (gx N n) (gy N n) (fun _=>rfl) h
theorem NA {X:Ctx} {w0:World} (N:Nat) (n:Nat) (h:LL N n):(Ps (X:=X) (w0:=w0) N n h).f=85:=rfl
theorem NB {X:Ctx} {w0:World} (N:Nat) (n:Nat) (h:LL N n) (t:Nat) (args:List SV) (H:Hp):(Ps (X:=X) (w0:=w0) N n h).fn t args H=spL X ((GP).d H args) t H (fun p:(Fa×(Sm)×Unit)=>LK N n p.1 p.2.1) (fun p:(Fa×(Sm)×Unit)=>Eg N n p.1 p.2.1) (fun p:(Fa×(Sm)×Unit)=>FB N n p.1 p.2.1) (fun p:(Fa×(Sm)×Unit)=>Fa.memO (D0 N n p.1 p.2.1)) (fun p:(Fa×(Sm)×Unit)=>mlO (Fa.pan (Dn N n p.1 p.2.1))):=rfl
abbrev K5 (N:Nat) (n:Nat) (q:Fa) (l:List Sm):Prop:=(∃m,okB N m l)∧okMs N n q∧n≤1000000000
abbrev Aj (N:Nat) (n:Nat) (q:Fa) (l:List Sm):Bool:=(blF (stF n) l q).b
abbrev AV (N:Nat) (n:Nat) (q:Fa) (l:List Sm):Fa:=(blF (stF n) l q).q
abbrev Aa (N:Nat) (n:Nat) (q:Fa) (l:List Sm):Fa:=(blF (stF n) l q).q
abbrev Az (N:Nat) (n:Nat) (q:Fa) (l:List Sm):SV:=.one (.v (.bool (blF (stF n) l q).t))
theorem dQ:∀b,∀v∈ArgC.e (acS (cSs) ac0) b,v.tupB=false:=by rintro ⟨x0,_⟩ v hv;simp only[HU,HT,List.mem_cons,List.not_mem_nil,or_false]at hv;subst hv<;>first|rfl|exact Ik _|exact Il _
noncomputable abbrev FU:ArgL (Fa×(List Sm)×Unit):=amFr (acS (cSs) ac0) dQ
abbrev IV (N:Nat) (n:Nat):Prop:=E8 Try.prog 72 (FU).args (FU).mem (fun p:(Fa×(List Sm)×Unit)=>K5 N n p.1 p.2.1) (fun p:(Fa×(List Sm)×Unit)=>Aj N n p.1 p.2.1) (fun p:(Fa×(List Sm)×Unit)=>Az N n p.1 p.2.1) (fun p:(Fa×(List Sm)×Unit)=>Fa.memO (AV N n p.1 p.2.1)) (fun p:(Fa×(List Sm)×Unit)=>mlO (Fa.pan (Aa N n p.1 p.2.1)))
theorem dR (N:Nat) (n:Nat):∀p,(fun p:(Fa×(List Sm)×Unit)=>K5 N n p.1 p.2.1) p→(fun p:(Fa×(List Sm)×Unit)=>Aj N n p.1 p.2.1) p=false→Dq ((FU).mem p).length ((fun p:(Fa×(List Sm)×Unit)=>Fa.memO (AV N n p.1 p.2.1)) p)=true∧kdL ((FU).mem p) ((fun p:(Fa×(List Sm)×Unit)=>Fa.memO (AV N n p.1 p.2.1)) p)=true∧EZ ((fun p:(Fa×(List Sm)×Unit)=>Fa.memO (AV N n p.1 p.2.1)) p) ((fun p:(Fa×(List Sm)×Unit)=>Az N n p.1 p.2.1) p)∧∀q,some q∈(fun p:(Fa×(List Sm)×Unit)=>Fa.memO (AV N n p.1 p.2.1)) p→DO ((fun p:(Fa×(List Sm)×Unit)=>Fa.memO (AV N n p.1 p.2.1)) p).length q:=fun p _ _=>have h:=Db p.1 (AV N n p.1 p.2.1);⟨h.1,h.2.1,rfl,h.2.2⟩
theorem dT (N:Nat) (n:Nat):∀p,(fun p:(Fa×(List Sm)×Unit)=>K5 N n p.1 p.2.1) p→(fun p:(Fa×(List Sm)×Unit)=>Aj N n p.1 p.2.1) p=true→((fun p:(Fa×(List Sm)×Unit)=>mlO (Fa.pan (Aa N n p.1 p.2.1))) p).length=((FU).mem p).length∧kdL ((FU).mem p) ((fun p:(Fa×(List Sm)×Unit)=>mlO (Fa.pan (Aa N n p.1 p.2.1))) p)=true∧∀q,some q∈(fun p:(Fa×(List Sm)×Unit)=>mlO (Fa.pan (Aa N n p.1 p.2.1))) p→DO ((fun p:(Fa×(List Sm)×Unit)=>mlO (Fa.pan (Aa N n p.1 p.2.1))) p).length q:=fun p _ _=>IQ p.1 (Aa N n p.1 p.2.1)
theorem dU (N:Nat) (n:Nat):∀p,(fun p:(Fa×(List Sm)×Unit)=>K5 N n p.1 p.2.1) p→(fun p:(Fa×(List Sm)×Unit)=>Aj N n p.1 p.2.1) p=true→Dq ((FU).mem p).length ((fun p:(Fa×(List Sm)×Unit)=>Fa.memO (AV N n p.1 p.2.1)) p)=true∧EZ ((fun p:(Fa×(List Sm)×Unit)=>Fa.memO (AV N n p.1 p.2.1)) p) ((fun p:(Fa×(List Sm)×Unit)=>Az N n p.1 p.2.1) p):=fun p _ _=>⟨(Db p.1 (AV N n p.1 p.2.1)).1,rfl⟩
noncomputable def Gz {X:Ctx} {w0:World} (N:Nat) (n:Nat) (h:IV N n):Sy.Spec Try.prog X w0:=Dj 72 Try.call72 (FU) (fun p:(Fa×(List Sm)×Unit)=>K5 N n p.1 p.2.1) (fun p:(Fa×(List Sm)×Unit)=>Aj N n p.1 p.2.1) (fun p:(Fa×(List Sm)×Unit)=>Az N n p.1 p.2.1) (fun p:(Fa×(List Sm)×Unit)=>Fa.memO (AV N n p.1 p.2.1)) (fun p:(Fa×(List Sm)×Unit)=>mlO (Fa.pan (Aa N n p.1 p.2.1))) (dR N n) (dT N n) (dU N n) (fun _=>rfl) h
theorem Bm {X:Ctx} {w0:World} (N:Nat) (n:Nat) (h:IV N n):(Gz (X:=X) (w0:=w0) N n h).f=72:=rfl
theorem Bn {X:Ctx} {w0:World} (N:Nat) (n:Nat) (h:IV N n) (t:Nat) (args:List SV) (H:Hp):(Gz (X:=X) (w0:=w0) N n h).fn t args H=spL X ((FU).d H args) t H (fun p:(Fa×(List Sm)×Unit)=>K5 N n p.1 p.2.1) (fun p:(Fa×(List Sm)×Unit)=>Aj N n p.1 p.2.1) (fun p:(Fa×(List Sm)×Unit)=>Az N n p.1 p.2.1) (fun p:(Fa×(List Sm)×Unit)=>Fa.memO (AV N n p.1 p.2.1)) (fun p:(Fa×(List Sm)×Unit)=>mlO (Fa.pan (Aa N n p.1 p.2.1))):=rfl
attribute [local go_sem] Fa.mem Fa.memO Fa.pan ML.ch ML.ren Ms.brk Ms.exh Ms.spd Sm.ar Sm.cd Sm.e Sm.el Sm.f Sm.k Sm.no Sm.th Sm.x Sm.y G6 G5 G7 Dl BJ BP BQ BE BN BO KV KU Cy Cx chL IB EL EK GB fcN Im frC IC G4 lmH lmO Fj HF HG mcC ID HE mcW E9 DQ DR Fk nmX AB AA Eb Ej Ds Dt Fo Fm FJ FI EO F8 rnC H7 AK D8 Dr DP CR EY vrQ IE Io FM
set_option maxRecDepth 20000 in set_option maxHeartbeats 32000000 in
theorem Pt (N:Nat) (n:Nat) (hu:LL N n):IV N n:=by
 rintro ⟨q,l,_u⟩ w M I lab fz xs hc hA hl hx
 refine Cb Try.func72 rfl (Fa.mem q) w M I lab fz (Aj N n q l) (Fa.pan (Aa N n q l)) (Fa.memO (AV N n q l)) [(Ps N n hu)] [] ((FU).args ⟨q,l,_u⟩) (Az N n q l) xs hA hl hx (Gm _ _ _ _) (jN rfl) (Nat.le_refl _) rfl (IR _) ?_
 clear hx hl hA xs
 simp only[Try.f72]
 obtain⟨⟨m,hl⟩,hM,hn⟩:=hc
 dsimp only at hl hM hn
 have hlen:=oU hl
 obtain⟨G,hG⟩:∃G,blF (stF n) l q=G:=⟨_,rfl⟩
 simp only[↓eB,seval,go_sem,xt,↓A1,Be,Bf,Bg,Bh,Va.c,Option.isSome_some,Option.isSome_none,Ev.b,Ev.vl,evA,evW,va0,NA,NB,FB,Eg,D0,Dn,Aj,AV,Aa,hG]
 refine Ab (Y:=Nat×Fa) (fun z=>z.1≤l.length∧okMs N n z.2∧blF (stF n) (l.drop z.1) z.2=G)
  (fun z=>⟨[(0,true,.one (.p 0 0 0)),(1,true,.one (.d (.sl zSm (l.map Sm.r)))),(6,true,.one (.d (.sl zSm (l.map Sm.r)))),(7,true,.one (.v (.int .i64 (l.length:Int)))),(8,true,.one (.v (.int .i64 (z.1:Int))))],[(0,.vec 0 zFr [frC z.2]),(1,.vec 0 zMc [mcC z.2.P z.2.m]),(2,.mp true (vsC z.2.vs))]⟩)
  (fun z=>l.length-z.1) (0,q) ⟨Nat.zero_le _,hM,hG⟩ ?_ ?_
 ·refine A4 [] ?_;simp only[↓eB,seval,go_sem,xt,↓A1]
 ·rintro ⟨i,r⟩ ⟨hi,hr,hJ⟩
  dsimp only at hi hr hJ
  refine Au [Ps N n hu] [] _ _ _ ?_
  have w1:IntKind.i64.wrap ((i:Int)+1)=((i+1:Nat):Int):=by rw[wrap_i64 (by omega) (by omega)];rfl
  cases hx:l[i]? with
  |none=>
   have h2:=List.getElem?_eq_none_iff.1 hx
   have h1:=BG h2
   rw[List.drop_eq_nil_of_le h2]at hJ
   have hJ':r.go=G:=hJ
   subst hJ'
   simp only[↓eB,seval,go_sem,xt,↓A1,Be,Bf,Bg,Bh,Va.c,Option.isSome_some,Option.isSome_none,Ev.b,Ev.vl,evA,evW,va0,NA,NB,FB,Eg,D0,Dn,Aj,AV,Aa,h1,hG]
   try simp only[A2,A3]
   repeat' first|exact ck|with_reducible apply And.intro|intro _
   all_goals first|exact trivial|(rename_i h;first|exact oI h|exact nah h)|(rename_i _ h _ g;exact sL h g)|decide|omega|(refine A0 [] ?_;simp only[↓eB,seval,go_sem,bne,Az,Aj,AV,Aa,A6,xt,↓A1,Ev.b,Ev.vl,evA,evW,va0,hG,Fa.go])
  |some s=>
   have hlt:=(List.getElem?_eq_some_iff.1 hx).1
   have h1:=BF hlt
   have h2:=A17 hx
   have hT:=A18 hl (List.mem_of_getElem? hx)
   have hk:=Ri n s r hr.l (by have:=hr.u;omega)
   rw[CA hx]at hJ
   simp only[blF]at hJ
   obtain⟨T,hT2⟩:∃T,stF n s r=T:=⟨_,rfl⟩
   rw[hT2]at hJ hk
   obtain⟨k0,x0,y0,e0,f0,cd0,ar0,th0,el0,no0⟩:=s
   obtain⟨b,t,r'⟩:=T
   cases b with
   |true=>
    have hJ':(⟨true,t,r'⟩:Ro)=G:=by simpa using hJ
    subst hJ'
    simp only[↓eB,seval,go_sem,xt,↓A1,Be,Bf,Bg,Bh,Va.c,Option.isSome_some,Option.isSome_none,Ev.b,Ev.vl,evA,evW,va0,NA,NB,FB,Eg,D0,Dn,Aj,AV,Aa,h1,h2,hG,hT2]
    try simp only[A2,A3]
    repeat' first|exact ck|with_reducible apply And.intro|intro _
    all_goals first|exact⟨hT,hr,hn⟩|(rename_i h;first|exact oI h|exact nah h)|(rename_i _ h _ g;exact sL h g)|decide|omega|(refine A0 [] ?_;simp only[↓eB,seval,go_sem,bne,Az,Aj,AV,Aa,A6,xt,↓A1,Ev.b,Ev.vl,evA,evW,va0,hG,hT2])
   |false=>
   cases t with
   |true=>
    have hJ':(⟨false,true,r'⟩:Ro)=G:=by simpa using hJ
    subst hJ'
    simp only[↓eB,seval,go_sem,xt,↓A1,Be,Bf,Bg,Bh,Va.c,Option.isSome_some,Option.isSome_none,Ev.b,Ev.vl,evA,evW,va0,NA,NB,FB,Eg,D0,Dn,Aj,AV,Aa,h1,h2,hG,hT2]
    try simp only[A2,A3]
    repeat' first|exact ck|with_reducible apply And.intro|intro _
    all_goals first|exact⟨hT,hr,hn⟩|(rename_i h;first|exact oI h|exact nah h)|(rename_i _ h _ g;exact sL h g)|decide|omega|(refine A0 [] ?_;simp only[↓eB,seval,go_sem,bne,Az,Aj,AV,Aa,A6,xt,↓A1,Ev.b,Ev.vl,evA,evW,va0,hG,hT2])
   |false=>
    have hJ':blF (stF n) (l.drop (i+1)) r'=G:=by simpa using hJ
    simp only[↓eB,seval,go_sem,xt,↓A1,Be,Bf,Bg,Bh,Va.c,Option.isSome_some,Option.isSome_none,Ev.b,Ev.vl,evA,evW,va0,NA,NB,FB,Eg,D0,Dn,Aj,AV,Aa,h1,h2,hG,hT2,w1]
    try simp only[A2,A3]
    repeat' first|exact ck|with_reducible apply And.intro|intro _
    all_goals try first|exact⟨hT,hr,hn⟩|(rename_i h;first|exact oI h|exact nah h)|(rename_i _ h _ g;exact sL h g)|decide|omega
    refine⟨(i+1,r'),⟨hlt,hr.kq hk (by have h9:r'.m.fuel≤r.m.fuel:=hk.u;have:=hr.u;show r'.m.fuel<_;omega),hJ'⟩,by dsimp only;omega,A4 [] ?_⟩
    simp only[↓eB,seval,go_sem,xt,↓A1]
end Go.Proofs.Ytjnnmindcbgjhaa
