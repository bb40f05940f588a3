/- What a run keeps, plain. No conditions but those in each statement. -/
import Derived.Test.YtjnnmindcbgjhaaSy38
import Derived.Test.YtjnnmindcbgjhaaRm6
import Derived.Test.YtjnnmindcbgjhaaRm7
set_option linter.unusedVariables false
set_option linter.unusedSimpArgs false
open List (length_map)
namespace Go.Proofs.Ytjnnmindcbgjhaa
open Go Go.Sy Go.RowKit
def naL (x:Na):Nat:=x.l.length
structure Kq (q r:Fa):Prop where
 P:r.P=q.P
 c:r.m.cs.length=q.m.cs.length
 a:r.m.ar.map naL=q.m.ar.map naL
 l:0≤r.m.fuel
 u:r.m.fuel≤q.m.fuel
theorem Kq.tr {q r t:Fa} (h:Kq q r) (k:Kq r t):Kq q t:=⟨k.P.trans h.P,k.c.trans h.c,k.a.trans h.a,k.l,by have:=k.u;have:=h.u;omega⟩
theorem Kq.of {q r:Fa} (h:0≤q.m.fuel) (h1:r.P=q.P) (h2:r.m.cs=q.m.cs) (h3:r.m.ar=q.m.ar) (h4:r.m.fuel=q.m.fuel):Kq q r:=⟨h1,by rw[h2],by rw[h3],by omega,by omega⟩
theorem lb (m:Ms) (i j:Int) (v:Int):(m.put i j v).ar.map naL=m.ar.map naL:=by
 show (m.ar.set i.toNat ⟨(m.ar.getD i.toNat ⟨[],[]⟩).s,(m.arr i).set j.toNat v⟩).map naL=_
 rw[List.map_set]
 show (m.ar.map naL).set i.toNat ((m.arr i).set j.toNat v).length=_
 rw[List.length_set]
 apply List.ext_getElem?
 intro k
 rw[List.getElem?_set]
 split
 ·rename_i hk
  subst hk
  split
  ·rename_i hl
   rw[length_map]at hl
   rw[List.getElem?_map,List.getElem?_eq_getElem hl]
   simp[Ms.arr,naL,List.getD,hl]
  ·rename_i hl
   rw[List.getElem?_eq_none (Nat.le_of_not_lt hl)]
 ·rfl
theorem SN {q:Fa} {s:Sm} {v:Int} (h:0≤q.m.fuel):Kq q (F2 q s v).q:=by
 unfold F2
 split
 ·exact Kq.of h rfl rfl rfl rfl
 ·split
  ·exact⟨rfl,by show (q.m.cs.set _ _).length=_;rw[List.length_set],rfl,h,Int.le_refl _⟩
  ·exact Kq.of h rfl rfl rfl rfl
def KqS (st:Sm→Fa→Ro):Prop:=∀s q,0≤q.m.fuel→q.m.fuel≤1000000000→Kq q (st s q).q
theorem P2 {st:Sm→Fa→Ro} (h:KqS st):∀(l:List Sm) (q:Fa),0≤q.m.fuel→q.m.fuel≤1000000000→Kq q (blF st l q).q
 |[],q,h0,_=>Kq.of h0 rfl rfl rfl rfl
 |s::l,q,h0,h1=>by
  have k:=h s q h0 h1
  simp only[blF]
  split
  ·exact k
  ·exact k.tr (P2 h l _ k.l (by have:=k.u;omega))
theorem eV {m:Ms} (h1:m.out=false) (h0:0≤m.fuel) (h2:m.fuel≤1000000000):m.spd.fuel=m.fuel-1∧1≤m.fuel:=by
 have:¬m.fuel<1:=of_decide_eq_false h1
 refine⟨?_,by omega⟩
 show w64i (m.fuel-1)=_
 unfold w64i;rw[wrap_i64 (by omega) (by omega)]
theorem SO {q:Fa} (h1:q.m.out=false) (h0:0≤q.m.fuel) (h2:q.m.fuel≤1000000000):Kq q { q with m:=q.m.spd }:=by
 obtain⟨a,b⟩:=eV h1 h0 h2
 exact⟨rfl,rfl,rfl,by show 0≤q.m.spd.fuel;omega,by show q.m.spd.fuel≤_;omega⟩
theorem ij {bl:Fa→Ro} {s:Sm} (h:∀q,0≤q.m.fuel→q.m.fuel≤1000000000→Kq q (bl q).q):∀(k:Nat) (q:Fa),0≤q.m.fuel→q.m.fuel≤1000000000→Kq q (lpF bl s k q).q
 |0,q,h0,_=>Kq.of h0 rfl rfl rfl rfl
 |k+1,q,h0,h1=>by
  simp only[lpF]
  cases ho:q.m.out with
  |true=>exact Kq.of h0 rfl rfl rfl rfl
  |false=>
   have ks:=SO ho h0 h1
   simp only[jB,if_false]
   cases cdF q.P q.m.spd q.vs s.cd with
   |no j=>exact ks.tr (Kq.of ks.l rfl rfl rfl rfl)
   |ok x=>cases x with
    |false=>exact ks
    |true=>
     have kb:=h { q with m:=q.m.spd } ks.l (by have:=ks.u;omega)
     show Kq q (if _ then _ else _:Ro).q
     split
     ·exact ks.tr kb
     ·exact(ks.tr kb).tr (ij h k _ kb.l (by have:=kb.u;have:=ks.u;omega))
theorem bZ {st:Sm→Fa→Ro} (h:KqS st) (q:Fa) (g:Fn) (a:List Va) (h0:0≤q.m.fuel) (h1:q.m.fuel≤1000000000):Kq q { q with m:=(Io st q.P g a q.m).2.2 }:=by
 unfold Io
 split
 ·exact Kq.of h0 rfl rfl rfl rfl
 ·have k:=P2 h g.body ⟨g.name,0,q.P,{ q.m with deep:=w64i (q.m.deep+1) },vsP g.ps a (vsL g.ls [])⟩ h0 h1
  show Kq q { q with m:=(if _ then _ else _:Bool×Int×Ms).2.2 }
  split
  ·exact⟨rfl,k.c,k.a,k.l,k.u⟩
  ·exact⟨rfl,k.c,k.a,k.l,k.u⟩
theorem sx {st:Sm→Fa→Ro} (h:KqS st) (s:Sm) (q:Fa) (h0:0≤q.m.fuel) (h1:q.m.fuel≤1000000000):Kq q (FE st s q).q:=by
 unfold FE
 split
 ·exact Kq.of h0 rfl rfl rfl rfl
 ·split
  ·exact Kq.of h0 rfl rfl rfl rfl
  ·dsimp only
   split
   ·exact Kq.of h0 rfl rfl rfl rfl
   ·rename_i a _ _ i _ _
    have k:=bZ h q (q.P.fs.getD i.toNat ⟨[],[],[],[]⟩) a h0 h1
    unfold RW
    split
    ·exact k
    ·split
     ·exact k
     ·exact k.tr (SN k.l)
theorem H8 {c:Prop} [Decidable c] {a b:Ro} {q:Fa} (h1:Kq q a.q) (h2:Kq q b.q):Kq q (if c then a else b).q:=by
 by_cases h:c
 ·rw[if_pos h];exact h1
 ·rw[if_neg h];exact h2
theorem yx {st:Sm→Fa→Ro} (h:KqS st) (s:Sm) (q:Fa) (h0:0≤q.m.fuel) (h1:q.m.fuel≤1000000000):Kq q (smF st s q).q:=by
 have r:∀{t:Fa},t.P=q.P→t.m.cs=q.m.cs→t.m.ar=q.m.ar→t.m.fuel=q.m.fuel→Kq q t:=fun a b c d=>Kq.of h0 a b c d
 unfold smF
 refine H8 ?_ (H8 ?_ (H8 ?_ (H8 ?_ (H8 ?_ (H8 ?_ (H8 ?_ (H8 ?_ (H8 ?_ (H8 ?_ (H8 ?_ (H8 ?_ ?_)))))))))))
 ·cases evF q.P q.m q.vs s.e with
  |no j=>exact r rfl rfl rfl rfl
  |ok v=>exact SN h0
 ·cases q.P.ci s.y with
  |none=>exact r rfl rfl rfl rfl
  |some i=>exact r rfl rfl rfl rfl
 ·exact r rfl rfl rfl rfl
 ·exact r rfl rfl rfl rfl
 ·cases Fc q s.y with
  |no j=>exact r rfl rfl rfl rfl
  |ok i=>exact SN h0
 ·cases evF q.P q.m q.vs s.e with
  |no j=>exact r rfl rfl rfl rfl
  |ok v=>
   show Kq q (match Fc q s.x with| .no j=>q.brk s j| .ok i=>Fa.go { q with m:=q.m.set i v }).q
   cases Fc q s.x with
   |no j=>exact r rfl rfl rfl rfl
   |ok i=>exact⟨rfl,by show (q.m.cs.set _ _).length=_;rw[List.length_set],rfl,h0,Int.le_refl _⟩
 ·cases evF q.P q.m q.vs s.e with
  |no j=>exact r rfl rfl rfl rfl
  |ok i=>
   show Kq q (match Ef q s i with| .no j=>q.brk s j| .ok k=>F2 q s ((q.m.arr k).getD i.toNat 0)).q
   cases Ef q s i with
   |no j=>exact r rfl rfl rfl rfl
   |ok k=>exact SN h0
 ·cases evF q.P q.m q.vs s.e with
  |no j=>exact r rfl rfl rfl rfl
  |ok i=>
   show Kq q (match evF q.P q.m q.vs s.f with| .no j=>q.brk s j| .ok v=>match Ef q s i with| .no j=>q.brk s j| .ok k=>Fa.go { q with m:=q.m.put k i v }).q
   cases evF q.P q.m q.vs s.f with
   |no j=>exact r rfl rfl rfl rfl
   |ok v=>
    show Kq q (match Ef q s i with| .no j=>q.brk s j| .ok k=>Fa.go { q with m:=q.m.put k i v }).q
    cases Ef q s i with
    |no j=>exact r rfl rfl rfl rfl
    |ok k=>exact⟨rfl,rfl,lb _ _ _ _,h0,Int.le_refl _⟩
 ·exact sx h s q h0 h1
 ·cases evF q.P q.m q.vs s.e with
  |no j=>exact r rfl rfl rfl rfl
  |ok v=>exact r rfl rfl rfl rfl
 ·cases cdF q.P q.m q.vs s.cd with
  |no j=>exact r rfl rfl rfl rfl
  |ok x=>cases x with
   |true=>exact P2 h s.th q h0 h1
   |false=>exact P2 h s.el q h0 h1
 ·cases cdF q.P q.m q.vs s.cd with
  |no j=>exact r rfl rfl rfl rfl
  |ok x=>cases x with
   |true=>exact r rfl rfl rfl rfl
   |false=>exact r rfl rfl rfl rfl
 ·exact r rfl rfl rfl rfl
theorem SP:∀n,KqS (stF n)
 |0=>fun s q h0 _=>Kq.of h0 rfl rfl rfl rfl
 |n+1=>fun s q h0 h1=>by
  have ih:=SP n
  simp only[stF]
  split
  ·exact ij (fun q a b=>P2 ih s.th q a b) (n+1) q h0 h1
  ·cases ho:q.m.out with
   |true=>exact Kq.of h0 rfl rfl rfl rfl
   |false=>
    have ks:=SO ho h0 h1
    simp only[jB,if_false]
    exact ks.tr (yx ih s { q with m:=q.m.spd } ks.l (by have:=ks.u;omega))
structure okPg (N:Nat) (P:Pg):Prop where
 l:P.fs.length≤1000000
 f:∀f∈P.fs,okF f∧∃m,okB N m f.body
structure okMs (N:Nat) (n:Int) (q:Fa):Prop where
 p:okPg N q.P
 c:okC q.P q.m
 a:∀x∈q.m.ar,x.l.length≤1000000000
 l:0≤q.m.fuel
 u:q.m.fuel<n
theorem okMs.kq {N:Nat} {n k:Int} {q r:Fa} (h:okMs N n q) (e:Kq q r) (hu:r.m.fuel<k):okMs N k r:=by
 refine⟨by rw[e.P];exact h.p,⟨by rw[e.c,e.P];exact h.c.c,?_,by rw[e.P];exact h.c.n,by rw[e.P];exact h.c.k⟩,fun x hx=>?_,e.l,hu⟩
 ·have:=congrArg List.length e.a
  rw[length_map,length_map]at this
  rw[this,e.P];exact h.c.a
 ·have h1:naL x∈r.m.ar.map naL:=List.mem_map.2 ⟨x,hx,rfl⟩
  rw[e.a]at h1
  obtain⟨y,hy,h2⟩:=List.mem_map.1 h1
  have:=h.a y hy
  show naL x≤_
  rw[← h2];exact this
end Go.Proofs.Ytjnnmindcbgjhaa
namespace Go.Proofs.Ytjnnmindcbgjhaa
open Go Go.Sy Go.RowKit
theorem yz {l:List Sm} {i:Nat} {x:Sm} (h:l[i]?=some x) (z:List D):(l.map Sm.r).getD i z=x.r:=by simp[List.getD,h]
structure okT (N:Nat) (s:Sm):Prop where
 k:OkS N s
 t:∃m,okB N m s.th
 e:∃m,okB N m s.el
theorem z7 {N m:Nat} {l:List Sm} {s:Sm} (h:okB N m l) (hs:s∈l):okT N s:=by
 cases m with
 |zero=>exact h.elim
 |succ m=>obtain⟨a,b,c⟩:=h.2 s hs;exact⟨a,⟨m,b⟩,⟨m,c⟩⟩
theorem lc {N m:Nat} {l:List Sm} (h:okB N m l):l.length≤5000:=by
 cases m with
 |zero=>exact h.elim
 |succ m=>exact h.1
abbrev Kj (N:Nat) (n:Nat) (q:Fa) (s:Sm):Prop:=okT N s∧okMs N n q∧n≤1000000000
abbrev ER (N:Nat) (n:Nat) (q:Fa) (s:Sm):Bool:=(stF n s q).b
abbrev Cy (N:Nat) (n:Nat) (q:Fa) (s:Sm):Fa:=(stF n s q).q
abbrev Dg (N:Nat) (n:Nat) (q:Fa) (s:Sm):Fa:=(stF n s q).q
abbrev Ey (N:Nat) (n:Nat) (q:Fa) (s:Sm):SV:=.one (.v (.bool (stF n s q).t))
theorem eW:∀b,∀v∈ArgC.e (acS (cSp) ac0) b,v.tupB=false:=by rintro ⟨x0,_⟩ v hv;simp only[Ho,Hn,List.mem_cons,List.not_mem_nil,or_false]at hv;subst hv<;>first|rfl|exact ID _|exact IE _
noncomputable abbrev G8:ArgL (Fa×(Sm)×Unit):=amFr (acS (cSp) ac0) eW
abbrev Kk (N:Nat) (n:Nat):Prop:=EB Try.prog 85 (G8).args (G8).mem (fun p:(Fa×(Sm)×Unit)=>Kj N n p.1 p.2.1) (fun p:(Fa×(Sm)×Unit)=>ER N n p.1 p.2.1) (fun p:(Fa×(Sm)×Unit)=>Ey N n p.1 p.2.1) (fun p:(Fa×(Sm)×Unit)=>Fa.memO (Cy N n p.1 p.2.1)) (fun p:(Fa×(Sm)×Unit)=>mlO (Fa.pan (Dg N n p.1 p.2.1)))
theorem eX (N:Nat) (n:Nat):∀p,(fun p:(Fa×(Sm)×Unit)=>Kj N n p.1 p.2.1) p→(fun p:(Fa×(Sm)×Unit)=>ER N n p.1 p.2.1) p=false→Di ((G8).mem p).length ((fun p:(Fa×(Sm)×Unit)=>Fa.memO (Cy N n p.1 p.2.1)) p)=true∧kdL ((G8).mem p) ((fun p:(Fa×(Sm)×Unit)=>Fa.memO (Cy N n p.1 p.2.1)) p)=true∧EM ((fun p:(Fa×(Sm)×Unit)=>Fa.memO (Cy N n p.1 p.2.1)) p) ((fun p:(Fa×(Sm)×Unit)=>Ey N n p.1 p.2.1) p)∧∀q,some q∈(fun p:(Fa×(Sm)×Unit)=>Fa.memO (Cy N n p.1 p.2.1)) p→DS ((fun p:(Fa×(Sm)×Unit)=>Fa.memO (Cy N n p.1 p.2.1)) p).length q:=fun p _ _=>have h:=DU p.1 (Cy N n p.1 p.2.1);⟨h.1,h.2.1,rfl,h.2.2⟩
theorem eY (N:Nat) (n:Nat):∀p,(fun p:(Fa×(Sm)×Unit)=>Kj N n p.1 p.2.1) p→(fun p:(Fa×(Sm)×Unit)=>ER N n p.1 p.2.1) p=true→((fun p:(Fa×(Sm)×Unit)=>mlO (Fa.pan (Dg N n p.1 p.2.1))) p).length=((G8).mem p).length∧kdL ((G8).mem p) ((fun p:(Fa×(Sm)×Unit)=>mlO (Fa.pan (Dg N n p.1 p.2.1))) p)=true∧∀q,some q∈(fun p:(Fa×(Sm)×Unit)=>mlO (Fa.pan (Dg N n p.1 p.2.1))) p→DS ((fun p:(Fa×(Sm)×Unit)=>mlO (Fa.pan (Dg N n p.1 p.2.1))) p).length q:=fun p _ _=>Hx p.1 (Dg N n p.1 p.2.1)
theorem eZ (N:Nat) (n:Nat):∀p,(fun p:(Fa×(Sm)×Unit)=>Kj N n p.1 p.2.1) p→(fun p:(Fa×(Sm)×Unit)=>ER N n p.1 p.2.1) p=true→Di ((G8).mem p).length ((fun p:(Fa×(Sm)×Unit)=>Fa.memO (Cy N n p.1 p.2.1)) p)=true∧EM ((fun p:(Fa×(Sm)×Unit)=>Fa.memO (Cy N n p.1 p.2.1)) p) ((fun p:(Fa×(Sm)×Unit)=>Ey N n p.1 p.2.1) p):=fun p _ _=>⟨(DU p.1 (Cy N n p.1 p.2.1)).1,rfl⟩
noncomputable def P3 {X:Ctx} {w0:World} (N:Nat) (n:Nat) (h:Kk N n):Sy.Spec Try.prog X w0:=Dt 85 Try.call85 (G8) (fun p:(Fa×(Sm)×Unit)=>Kj N n p.1 p.2.1) (fun p:(Fa×(Sm)×Unit)=>ER N n p.1 p.2.1) (fun p:(Fa×(Sm)×Unit)=>Ey N n p.1 p.2.1) (fun p:(Fa×(Sm)×Unit)=>Fa.memO (Cy N n p.1 p.2.1)) (fun p:(Fa×(Sm)×Unit)=>mlO (Fa.pan (Dg N n p.1 p.2.1))) (eX N n) (eY N n) (eZ N n) (fun _=>rfl) h
theorem MY {X:Ctx} {w0:World} (N:Nat) (n:Nat) (h:Kk N n):(P3 (X:=X) (w0:=w0) N n h).f=85:=rfl
theorem MZ {X:Ctx} {w0:World} (N:Nat) (n:Nat) (h:Kk N n) (t:Nat) (args:List SV) (H:Hp):(P3 (X:=X) (w0:=w0) N n h).fn t args H=spL X ((G8).d H args) t H (fun p:(Fa×(Sm)×Unit)=>Kj N n p.1 p.2.1) (fun p:(Fa×(Sm)×Unit)=>ER N n p.1 p.2.1) (fun p:(Fa×(Sm)×Unit)=>Ey N n p.1 p.2.1) (fun p:(Fa×(Sm)×Unit)=>Fa.memO (Cy N n p.1 p.2.1)) (fun p:(Fa×(Sm)×Unit)=>mlO (Fa.pan (Dg N n p.1 p.2.1))):=rfl
abbrev Jd (N:Nat) (n:Nat) (q:Fa) (l:List Sm):Prop:=(∃m,okB N m l)∧okMs N n q∧n≤1000000000
abbrev Ah (N:Nat) (n:Nat) (q:Fa) (l:List Sm):Bool:=(blF (stF n) l q).b
abbrev AS (N:Nat) (n:Nat) (q:Fa) (l:List Sm):Fa:=(blF (stF n) l q).q
abbrev AY (N:Nat) (n:Nat) (q:Fa) (l:List Sm):Fa:=(blF (stF n) l q).q
abbrev Au (N:Nat) (n:Nat) (q:Fa) (l:List Sm):SV:=.one (.v (.bool (blF (stF n) l q).t))
theorem ba:∀b,∀v∈ArgC.e (acS (cSs) ac0) b,v.tupB=false:=by rintro ⟨x0,_⟩ v hv;simp only[Ho,Hn,List.mem_cons,List.not_mem_nil,or_false]at hv;subst hv<;>first|rfl|exact ID _|exact IE _
noncomputable abbrev FF:ArgL (Fa×(List Sm)×Unit):=amFr (acS (cSs) ac0) ba
abbrev I4 (N:Nat) (n:Nat):Prop:=EB Try.prog 72 (FF).args (FF).mem (fun p:(Fa×(List Sm)×Unit)=>Jd N n p.1 p.2.1) (fun p:(Fa×(List Sm)×Unit)=>Ah N n p.1 p.2.1) (fun p:(Fa×(List Sm)×Unit)=>Au N n p.1 p.2.1) (fun p:(Fa×(List Sm)×Unit)=>Fa.memO (AS N n p.1 p.2.1)) (fun p:(Fa×(List Sm)×Unit)=>mlO (Fa.pan (AY N n p.1 p.2.1)))
theorem bb (N:Nat) (n:Nat):∀p,(fun p:(Fa×(List Sm)×Unit)=>Jd N n p.1 p.2.1) p→(fun p:(Fa×(List Sm)×Unit)=>Ah N n p.1 p.2.1) p=false→Di ((FF).mem p).length ((fun p:(Fa×(List Sm)×Unit)=>Fa.memO (AS N n p.1 p.2.1)) p)=true∧kdL ((FF).mem p) ((fun p:(Fa×(List Sm)×Unit)=>Fa.memO (AS N n p.1 p.2.1)) p)=true∧EM ((fun p:(Fa×(List Sm)×Unit)=>Fa.memO (AS N n p.1 p.2.1)) p) ((fun p:(Fa×(List Sm)×Unit)=>Au N n p.1 p.2.1) p)∧∀q,some q∈(fun p:(Fa×(List Sm)×Unit)=>Fa.memO (AS N n p.1 p.2.1)) p→DS ((fun p:(Fa×(List Sm)×Unit)=>Fa.memO (AS N n p.1 p.2.1)) p).length q:=fun p _ _=>have h:=DU p.1 (AS N n p.1 p.2.1);⟨h.1,h.2.1,rfl,h.2.2⟩
theorem bc (N:Nat) (n:Nat):∀p,(fun p:(Fa×(List Sm)×Unit)=>Jd N n p.1 p.2.1) p→(fun p:(Fa×(List Sm)×Unit)=>Ah N n p.1 p.2.1) p=true→((fun p:(Fa×(List Sm)×Unit)=>mlO (Fa.pan (AY N n p.1 p.2.1))) p).length=((FF).mem p).length∧kdL ((FF).mem p) ((fun p:(Fa×(List Sm)×Unit)=>mlO (Fa.pan (AY N n p.1 p.2.1))) p)=true∧∀q,some q∈(fun p:(Fa×(List Sm)×Unit)=>mlO (Fa.pan (AY N n p.1 p.2.1))) p→DS ((fun p:(Fa×(List Sm)×Unit)=>mlO (Fa.pan (AY N n p.1 p.2.1))) p).length q:=fun p _ _=>Hx p.1 (AY N n p.1 p.2.1)
theorem be (N:Nat) (n:Nat):∀p,(fun p:(Fa×(List Sm)×Unit)=>Jd N n p.1 p.2.1) p→(fun p:(Fa×(List Sm)×Unit)=>Ah N n p.1 p.2.1) p=true→Di ((FF).mem p).length ((fun p:(Fa×(List Sm)×Unit)=>Fa.memO (AS N n p.1 p.2.1)) p)=true∧EM ((fun p:(Fa×(List Sm)×Unit)=>Fa.memO (AS N n p.1 p.2.1)) p) ((fun p:(Fa×(List Sm)×Unit)=>Au N n p.1 p.2.1) p):=fun p _ _=>⟨(DU p.1 (AS N n p.1 p.2.1)).1,rfl⟩
noncomputable def GY {X:Ctx} {w0:World} (N:Nat) (n:Nat) (h:I4 N n):Sy.Spec Try.prog X w0:=Dt 72 Try.call72 (FF) (fun p:(Fa×(List Sm)×Unit)=>Jd N n p.1 p.2.1) (fun p:(Fa×(List Sm)×Unit)=>Ah N n p.1 p.2.1) (fun p:(Fa×(List Sm)×Unit)=>Au N n p.1 p.2.1) (fun p:(Fa×(List Sm)×Unit)=>Fa.memO (AS N n p.1 p.2.1)) (fun p:(Fa×(List Sm)×Unit)=>mlO (Fa.pan (AY N n p.1 p.2.1))) (bb N n) (bc N n) (be N n) (fun _=>rfl) h
theorem Bl {X:Ctx} {w0:World} (N:Nat) (n:Nat) (h:I4 N n):(GY (X:=X) (w0:=w0) N n h).f=72:=rfl
theorem Bm {X:Ctx} {w0:World} (N:Nat) (n:Nat) (h:I4 N n) (t:Nat) (args:List SV) (H:Hp):(GY (X:=X) (w0:=w0) N n h).fn t args H=spL X ((FF).d H args) t H (fun p:(Fa×(List Sm)×Unit)=>Jd N n p.1 p.2.1) (fun p:(Fa×(List Sm)×Unit)=>Ah N n p.1 p.2.1) (fun p:(Fa×(List Sm)×Unit)=>Au N n p.1 p.2.1) (fun p:(Fa×(List Sm)×Unit)=>Fa.memO (AS N n p.1 p.2.1)) (fun p:(Fa×(List Sm)×Unit)=>mlO (Fa.pan (AY N n p.1 p.2.1))):=rfl
attribute [local go_sem] Fa.mem Fa.memO Fa.pan ML.ch ML.ren Ms.brk Ms.exh Ms.spd Sm.ar Sm.cd Sm.e Sm.el Sm.f Sm.k Sm.no Sm.th Sm.x Sm.y Fo Fm Fp EA BG BO BP BD BM BN K1 K0 Cw Cv chL Hf E5 E4 Fu fcN IF frC Hg Fl lmH lmO FO Gj Gk mcC Hh Gg mcW EZ Dl Dm FP nmX AB AA Ds EY Dj Dk FS FR F9 F8 EX Fb rnC Gc AK DW EC Db CT Ee vrQ Hi IG FB
set_option maxRecDepth 20000 in set_option maxHeartbeats 32000000 in
theorem P4 (N:Nat) (n:Nat) (hu:Kk N n):I4 N n:=by
 rintro ⟨q,l,_u⟩ w M I lab fz xs hc hA hl hx
 refine Cj Try.func72 rfl (Fa.mem q) w M I lab fz (Ah N n q l) (Fa.pan (AY N n q l)) (Fa.memO (AS N n q l)) [(P3 N n hu)] [] ((FF).args ⟨q,l,_u⟩) (Au N n q l) xs hA hl hx (GM _ _ _ _) (jN rfl) (Nat.le_refl _) rfl (Hy _) ?_
 clear hx hl hA xs
 simp only[Try.f72]
 obtain⟨⟨m,hl⟩,hM,hn⟩:=hc
 dsimp only at hl hM hn
 have hlen:=lc hl
 obtain⟨G,hG⟩:∃G,blF (stF n) l q=G:=⟨_,rfl⟩
 simp only[↓eB,seval,go_sem,xt,↓A1,Be,Bf,Bg,Bh,Va.c,Option.isSome_some,Option.isSome_none,Ev.b,Ev.vl,evA,evW,va0,MY,MZ,Ey,ER,Cy,Dg,Ah,AS,AY,hG]
 refine Ac (Y:=Nat×Fa) (fun z=>z.1≤l.length∧okMs N n z.2∧blF (stF n) (l.drop z.1) z.2=G)
  (fun z=>⟨[(0,true,.one (.p 0 0 0)),(1,true,.one (.d (.sl zSm (l.map Sm.r)))),(6,true,.one (.d (.sl zSm (l.map Sm.r)))),(7,true,.one (.v (.int .i64 (l.length:Int)))),(8,true,.one (.v (.int .i64 (z.1:Int))))],[(0,.vec 0 zFr [frC z.2]),(1,.vec 0 zMc [mcC z.2.P z.2.m]),(2,.mp true (vsC z.2.vs))]⟩)
  (fun z=>l.length-z.1) (0,q) ⟨Nat.zero_le _,hM,hG⟩ ?_ ?_
 ·refine A2 [] ?_;simp only[↓eB,seval,go_sem,xt,↓A1]
 ·rintro ⟨i,r⟩ ⟨hi,hr,hJ⟩
  dsimp only at hi hr hJ
  refine Aq [P3 N n hu] [] _ _ _ ?_
  have w1:IntKind.i64.wrap ((i:Int)+1)=((i+1:Nat):Int):=by rw[wrap_i64 (by omega) (by omega)];rfl
  cases hx:l[i]? with
  |none=>
   have h2:=List.getElem?_eq_none_iff.1 hx
   have h1:=BA h2
   rw[List.drop_eq_nil_of_le h2]at hJ
   have hJ':r.go=G:=hJ
   subst hJ'
   simp only[↓eB,seval,go_sem,xt,↓A1,Be,Bf,Bg,Bh,Va.c,Option.isSome_some,Option.isSome_none,Ev.b,Ev.vl,evA,evW,va0,MY,MZ,Ey,ER,Cy,Dg,Ah,AS,AY,h1,hG]
   try simp only[A3,A4]
   repeat' first|exact ck|with_reducible apply And.intro|intro _
   all_goals first|exact trivial|(rename_i h;first|exact oI h|exact nah h)|(rename_i _ h _ g;exact sL h g)|decide|omega|(refine A0 [] ?_;simp only[↓eB,seval,go_sem,bne,Au,Ah,AS,AY,A6,xt,↓A1,Ev.b,Ev.vl,evA,evW,va0,hG,Fa.go])
  |some s=>
   have hlt:=(List.getElem?_eq_some_iff.1 hx).1
   have h1:=B9 hlt
   have h2:=yz hx
   have hT:=z7 hl (List.mem_of_getElem? hx)
   have hk:=SP n s r hr.l (by have:=hr.u;omega)
   rw[Bn hx]at hJ
   simp only[blF]at hJ
   obtain⟨T,hT2⟩:∃T,stF n s r=T:=⟨_,rfl⟩
   rw[hT2]at hJ hk
   obtain⟨k0,x0,y0,e0,f0,cd0,ar0,th0,el0,no0⟩:=s
   obtain⟨b,t,r'⟩:=T
   cases b with
   |true=>
    have hJ':(⟨true,t,r'⟩:Ro)=G:=by simpa using hJ
    subst hJ'
    simp only[↓eB,seval,go_sem,xt,↓A1,Be,Bf,Bg,Bh,Va.c,Option.isSome_some,Option.isSome_none,Ev.b,Ev.vl,evA,evW,va0,MY,MZ,Ey,ER,Cy,Dg,Ah,AS,AY,h1,h2,hG,hT2]
    try simp only[A3,A4]
    repeat' first|exact ck|with_reducible apply And.intro|intro _
    all_goals first|exact⟨hT,hr,hn⟩|(rename_i h;first|exact oI h|exact nah h)|(rename_i _ h _ g;exact sL h g)|decide|omega|(refine A0 [] ?_;simp only[↓eB,seval,go_sem,bne,Au,Ah,AS,AY,A6,xt,↓A1,Ev.b,Ev.vl,evA,evW,va0,hG,hT2])
   |false=>
   cases t with
   |true=>
    have hJ':(⟨false,true,r'⟩:Ro)=G:=by simpa using hJ
    subst hJ'
    simp only[↓eB,seval,go_sem,xt,↓A1,Be,Bf,Bg,Bh,Va.c,Option.isSome_some,Option.isSome_none,Ev.b,Ev.vl,evA,evW,va0,MY,MZ,Ey,ER,Cy,Dg,Ah,AS,AY,h1,h2,hG,hT2]
    try simp only[A3,A4]
    repeat' first|exact ck|with_reducible apply And.intro|intro _
    all_goals first|exact⟨hT,hr,hn⟩|(rename_i h;first|exact oI h|exact nah h)|(rename_i _ h _ g;exact sL h g)|decide|omega|(refine A0 [] ?_;simp only[↓eB,seval,go_sem,bne,Au,Ah,AS,AY,A6,xt,↓A1,Ev.b,Ev.vl,evA,evW,va0,hG,hT2])
   |false=>
    have hJ':blF (stF n) (l.drop (i+1)) r'=G:=by simpa using hJ
    simp only[↓eB,seval,go_sem,xt,↓A1,Be,Bf,Bg,Bh,Va.c,Option.isSome_some,Option.isSome_none,Ev.b,Ev.vl,evA,evW,va0,MY,MZ,Ey,ER,Cy,Dg,Ah,AS,AY,h1,h2,hG,hT2,w1]
    try simp only[A3,A4]
    repeat' first|exact ck|with_reducible apply And.intro|intro _
    all_goals try first|exact⟨hT,hr,hn⟩|(rename_i h;first|exact oI h|exact nah h)|(rename_i _ h _ g;exact sL h g)|decide|omega
    refine⟨(i+1,r'),⟨hlt,hr.kq hk (by have h9:r'.m.fuel≤r.m.fuel:=hk.u;have:=hr.u;show r'.m.fuel<_;omega),hJ'⟩,by dsimp only;omega,A2 [] ?_⟩
    simp only[↓eB,seval,go_sem,xt,↓A1]
end Go.Proofs.Ytjnnmindcbgjhaa
