/- What a run keeps, plain. No conditions but those in each statement. -/
import Derived.Test.YtjnnmindcbgjhaaSy38
import Derived.Test.YtjnnmindcbgjhaaRm6
import Derived.Test.YtjnnmindcbgjhaaRm7
set_option linter.unusedVariables false
set_option linter.unusedSimpArgs false
open List (length_map)
namespace Go.Proofs.Ytjnnmindcbgjhaa
open Go Go.Sy Go.RowKit
def naL (x:Na):Nat:=x.l.length
structure Kq (q r:Fa):Prop where
 P:r.P=q.P
 c:r.m.cs.length=q.m.cs.length
 a:r.m.ar.map naL=q.m.ar.map naL
 l:0≤r.m.fuel
 u:r.m.fuel≤q.m.fuel
theorem Kq.tr {q r t:Fa} (h:Kq q r) (k:Kq r t):Kq q t:=⟨k.P.trans h.P,k.c.trans h.c,k.a.trans h.a,k.l,by have:=k.u;have:=h.u;omega⟩
theorem Kq.of {q r:Fa} (h:0≤q.m.fuel) (h1:r.P=q.P) (h2:r.m.cs=q.m.cs) (h3:r.m.ar=q.m.ar) (h4:r.m.fuel=q.m.fuel):Kq q r:=⟨h1,by rw[h2],by rw[h3],by omega,by omega⟩
theorem nQ (m:Ms) (i j:Int) (v:Int):(m.put i j v).ar.map naL=m.ar.map naL:=by
 show (m.ar.set i.toNat ⟨(m.ar.getD i.toNat ⟨[],[]⟩).s,(m.arr i).set j.toNat v⟩).map naL=_
 rw[List.map_set]
 show (m.ar.map naL).set i.toNat ((m.arr i).set j.toNat v).length=_
 rw[List.length_set]
 apply List.ext_getElem?
 intro k
 rw[List.getElem?_set]
 split
 ·rename_i hk
  subst hk
  split
  ·rename_i hl
   rw[length_map]at hl
   rw[List.getElem?_map,List.getElem?_eq_getElem hl]
   simp[Ms.arr,naL,List.getD,hl]
  ·rename_i hl
   rw[List.getElem?_eq_none (Nat.le_of_not_lt hl)]
 ·rfl
theorem Tc {q:Fa} {s:Sm} {v:Int} (h:0≤q.m.fuel):Kq q (FE q s v).q:=by
 unfold FE
 split
 ·exact Kq.of h rfl rfl rfl rfl
 ·split
  ·exact⟨rfl,by show (q.m.cs.set _ _).length=_;rw[List.length_set],rfl,h,Int.le_refl _⟩
  ·exact Kq.of h rfl rfl rfl rfl
def KqS (st:Sm→Fa→Ro):Prop:=∀s q,0≤q.m.fuel→q.m.fuel≤1000000000→Kq q (st s q).q
theorem Py {st:Sm→Fa→Ro} (h:KqS st):∀(l:List Sm) (q:Fa),0≤q.m.fuel→q.m.fuel≤1000000000→Kq q (blF st l q).q
 |[],q,h0,_=>Kq.of h0 rfl rfl rfl rfl
 |s::l,q,h0,h1=>by
  have k:=h s q h0 h1
  simp only[blF]
  split
  ·exact k
  ·exact k.tr (Py h l _ k.l (by have:=k.u;omega))
theorem gL {m:Ms} (h1:m.out=false) (h0:0≤m.fuel) (h2:m.fuel≤1000000000):m.spd.fuel=m.fuel-1∧1≤m.fuel:=by
 have:¬m.fuel<1:=of_decide_eq_false h1
 refine⟨?_,by omega⟩
 show w64i (m.fuel-1)=_
 unfold w64i;rw[wrap_i64 (by omega) (by omega)]
theorem Td {q:Fa} (h1:q.m.out=false) (h0:0≤q.m.fuel) (h2:q.m.fuel≤1000000000):Kq q { q with m:=q.m.spd }:=by
 obtain⟨a,b⟩:=gL h1 h0 h2
 exact⟨rfl,rfl,rfl,by show 0≤q.m.spd.fuel;omega,by show q.m.spd.fuel≤_;omega⟩
theorem jx {bl:Fa→Ro} {s:Sm} (h:∀q,0≤q.m.fuel→q.m.fuel≤1000000000→Kq q (bl q).q):∀(k:Nat) (q:Fa),0≤q.m.fuel→q.m.fuel≤1000000000→Kq q (lpF bl s k q).q
 |0,q,h0,_=>Kq.of h0 rfl rfl rfl rfl
 |k+1,q,h0,h1=>by
  simp only[lpF]
  cases ho:q.m.out with
  |true=>exact Kq.of h0 rfl rfl rfl rfl
  |false=>
   have ks:=Td ho h0 h1
   simp only[jB,if_false]
   cases cdF q.P q.m.spd q.vs s.cd with
   |no j=>exact ks.tr (Kq.of ks.l rfl rfl rfl rfl)
   |ok x=>cases x with
    |false=>exact ks
    |true=>
     have kb:=h { q with m:=q.m.spd } ks.l (by have:=ks.u;omega)
     show Kq q (if _ then _ else _:Ro).q
     split
     ·exact ks.tr kb
     ·exact(ks.tr kb).tr (jx h k _ kb.l (by have:=kb.u;have:=ks.u;omega))
theorem dA {st:Sm→Fa→Ro} (h:KqS st) (q:Fa) (g:Fn) (a:List Va) (h0:0≤q.m.fuel) (h1:q.m.fuel≤1000000000):Kq q { q with m:=(JL st q.P g a q.m).2.2 }:=by
 unfold JL
 split
 ·exact Kq.of h0 rfl rfl rfl rfl
 ·have k:=Py h g.body ⟨g.name,0,q.P,{ q.m with deep:=w64i (q.m.deep+1) },vsP g.ps a (vsL g.ls [])⟩ h0 h1
  show Kq q { q with m:=(if _ then _ else _:Bool×Int×Ms).2.2 }
  split
  ·exact⟨rfl,k.c,k.a,k.l,k.u⟩
  ·exact⟨rfl,k.c,k.a,k.l,k.u⟩
theorem uO {st:Sm→Fa→Ro} (h:KqS st) (s:Sm) (q:Fa) (h0:0≤q.m.fuel) (h1:q.m.fuel≤1000000000):Kq q (FT st s q).q:=by
 unfold FT
 split
 ·exact Kq.of h0 rfl rfl rfl rfl
 ·split
  ·exact Kq.of h0 rfl rfl rfl rfl
  ·dsimp only
   split
   ·exact Kq.of h0 rfl rfl rfl rfl
   ·rename_i a _ _ i _ _
    have k:=dA h q (q.P.fs.getD i.toNat ⟨[],[],[],[]⟩) a h0 h1
    unfold Se
    split
    ·exact k
    ·split
     ·exact k
     ·exact k.tr (Tc k.l)
theorem Ha {c:Prop} [Decidable c] {a b:Ro} {q:Fa} (h1:Kq q a.q) (h2:Kq q b.q):Kq q (if c then a else b).q:=by
 by_cases h:c
 ·rw[if_pos h];exact h1
 ·rw[if_neg h];exact h2
theorem A0q {st:Sm→Fa→Ro} (h:KqS st) (s:Sm) (q:Fa) (h0:0≤q.m.fuel) (h1:q.m.fuel≤1000000000):Kq q (smF st s q).q:=by
 have r:∀{t:Fa},t.P=q.P→t.m.cs=q.m.cs→t.m.ar=q.m.ar→t.m.fuel=q.m.fuel→Kq q t:=fun a b c d=>Kq.of h0 a b c d
 unfold smF
 refine Ha ?_ (Ha ?_ (Ha ?_ (Ha ?_ (Ha ?_ (Ha ?_ (Ha ?_ (Ha ?_ (Ha ?_ (Ha ?_ (Ha ?_ (Ha ?_ ?_)))))))))))
 ·cases evF q.P q.m q.vs s.e with
  |no j=>exact r rfl rfl rfl rfl
  |ok v=>exact Tc h0
 ·cases q.P.ci s.y with
  |none=>exact r rfl rfl rfl rfl
  |some i=>exact r rfl rfl rfl rfl
 ·exact r rfl rfl rfl rfl
 ·exact r rfl rfl rfl rfl
 ·cases Fv q s.y with
  |no j=>exact r rfl rfl rfl rfl
  |ok i=>exact Tc h0
 ·cases evF q.P q.m q.vs s.e with
  |no j=>exact r rfl rfl rfl rfl
  |ok v=>
   show Kq q (match Fv q s.x with| .no j=>q.brk s j| .ok i=>Fa.go { q with m:=q.m.set i v }).q
   cases Fv q s.x with
   |no j=>exact r rfl rfl rfl rfl
   |ok i=>exact⟨rfl,by show (q.m.cs.set _ _).length=_;rw[List.length_set],rfl,h0,Int.le_refl _⟩
 ·cases evF q.P q.m q.vs s.e with
  |no j=>exact r rfl rfl rfl rfl
  |ok i=>
   show Kq q (match Et q s i with| .no j=>q.brk s j| .ok k=>FE q s ((q.m.arr k).getD i.toNat 0)).q
   cases Et q s i with
   |no j=>exact r rfl rfl rfl rfl
   |ok k=>exact Tc h0
 ·cases evF q.P q.m q.vs s.e with
  |no j=>exact r rfl rfl rfl rfl
  |ok i=>
   show Kq q (match evF q.P q.m q.vs s.f with| .no j=>q.brk s j| .ok v=>match Et q s i with| .no j=>q.brk s j| .ok k=>Fa.go { q with m:=q.m.put k i v }).q
   cases evF q.P q.m q.vs s.f with
   |no j=>exact r rfl rfl rfl rfl
   |ok v=>
    show Kq q (match Et q s i with| .no j=>q.brk s j| .ok k=>Fa.go { q with m:=q.m.put k i v }).q
    cases Et q s i with
    |no j=>exact r rfl rfl rfl rfl
    |ok k=>exact⟨rfl,rfl,nQ _ _ _ _,h0,Int.le_refl _⟩
 ·exact uO h s q h0 h1
 ·cases evF q.P q.m q.vs s.e with
  |no j=>exact r rfl rfl rfl rfl
  |ok v=>exact r rfl rfl rfl rfl
 ·cases cdF q.P q.m q.vs s.cd with
  |no j=>exact r rfl rfl rfl rfl
  |ok x=>cases x with
   |true=>exact Py h s.th q h0 h1
   |false=>exact Py h s.el q h0 h1
 ·cases cdF q.P q.m q.vs s.cd with
  |no j=>exact r rfl rfl rfl rfl
  |ok x=>cases x with
   |true=>exact r rfl rfl rfl rfl
   |false=>exact r rfl rfl rfl rfl
 ·exact r rfl rfl rfl rfl
theorem Te:∀n,KqS (stF n)
 |0=>fun s q h0 _=>Kq.of h0 rfl rfl rfl rfl
 |n+1=>fun s q h0 h1=>by
  have ih:=Te n
  simp only[stF]
  split
  ·exact jx (fun q a b=>Py ih s.th q a b) (n+1) q h0 h1
  ·cases ho:q.m.out with
   |true=>exact Kq.of h0 rfl rfl rfl rfl
   |false=>
    have ks:=Td ho h0 h1
    simp only[jB,if_false]
    exact ks.tr (A0q ih s { q with m:=q.m.spd } ks.l (by have:=ks.u;omega))
structure okPg (N:Nat) (P:Pg):Prop where
 l:P.fs.length≤1000000
 f:∀f∈P.fs,okF f∧∃m,okB N m f.body
structure okMs (N:Nat) (n:Int) (q:Fa):Prop where
 p:okPg N q.P
 c:okC q.P q.m
 a:∀x∈q.m.ar,x.l.length≤1000000000
 l:0≤q.m.fuel
 u:q.m.fuel<n
theorem okMs.kq {N:Nat} {n k:Int} {q r:Fa} (h:okMs N n q) (e:Kq q r) (hu:r.m.fuel<k):okMs N k r:=by
 refine⟨by rw[e.P];exact h.p,⟨by rw[e.c,e.P];exact h.c.c,?_,by rw[e.P];exact h.c.n,by rw[e.P];exact h.c.k⟩,fun x hx=>?_,e.l,hu⟩
 ·have:=congrArg List.length e.a
  rw[length_map,length_map]at this
  rw[this,e.P];exact h.c.a
 ·have h1:naL x∈r.m.ar.map naL:=List.mem_map.2 ⟨x,hx,rfl⟩
  rw[e.a]at h1
  obtain⟨y,hy,h2⟩:=List.mem_map.1 h1
  have:=h.a y hy
  show naL x≤_
  rw[← h2];exact this
end Go.Proofs.Ytjnnmindcbgjhaa
namespace Go.Proofs.Ytjnnmindcbgjhaa
open Go Go.Sy Go.RowKit
theorem A0r {l:List Sm} {i:Nat} {x:Sm} (h:l[i]?=some x) (z:List D):(l.map Sm.r).getD i z=x.r:=by simp[List.getD,h]
structure okT (N:Nat) (s:Sm):Prop where
 k:OkS N s
 t:∃m,okB N m s.th
 e:∃m,okB N m s.el
theorem A0s {N m:Nat} {l:List Sm} {s:Sm} (h:okB N m l) (hs:s∈l):okT N s:=by
 cases m with
 |zero=>exact h.elim
 |succ m=>obtain⟨a,b,c⟩:=h.2 s hs;exact⟨a,⟨m,b⟩,⟨m,c⟩⟩
theorem nR {N m:Nat} {l:List Sm} (h:okB N m l):l.length≤5000:=by
 cases m with
 |zero=>exact h.elim
 |succ m=>exact h.1
abbrev LO (N:Nat) (n:Nat) (q:Fa) (s:Sm):Prop:=okT N s∧okMs N n q∧n≤1000000000
abbrev Ec (N:Nat) (n:Nat) (q:Fa) (s:Sm):Bool:=(stF n s q).b
abbrev D0 (N:Nat) (n:Nat) (q:Fa) (s:Sm):Fa:=(stF n s q).q
abbrev Dp (N:Nat) (n:Nat) (q:Fa) (s:Sm):Fa:=(stF n s q).q
abbrev FA (N:Nat) (n:Nat) (q:Fa) (s:Sm):SV:=.one (.v (.bool (stF n s q).t))
theorem gM:∀b,∀v∈ArgC.e (acS (cSp) ac0) b,v.tupB=false:=by rintro ⟨x0,_⟩ v hv;simp only[HU,HT,List.mem_cons,List.not_mem_nil,or_false]at hv;subst hv<;>first|rfl|exact Ik _|exact Il _
noncomputable abbrev GQ:ArgL (Fa×(Sm)×Unit):=amFr (acS (cSp) ac0) gM
abbrev LP (N:Nat) (n:Nat):Prop:=E8 Try.prog 85 (GQ).args (GQ).mem (fun p:(Fa×(Sm)×Unit)=>LO N n p.1 p.2.1) (fun p:(Fa×(Sm)×Unit)=>Ec N n p.1 p.2.1) (fun p:(Fa×(Sm)×Unit)=>FA N n p.1 p.2.1) (fun p:(Fa×(Sm)×Unit)=>Fa.memO (D0 N n p.1 p.2.1)) (fun p:(Fa×(Sm)×Unit)=>mlO (Fa.pan (Dp N n p.1 p.2.1)))
theorem gN (N:Nat) (n:Nat):∀p,(fun p:(Fa×(Sm)×Unit)=>LO N n p.1 p.2.1) p→(fun p:(Fa×(Sm)×Unit)=>Ec N n p.1 p.2.1) p=false→Dr ((GQ).mem p).length ((fun p:(Fa×(Sm)×Unit)=>Fa.memO (D0 N n p.1 p.2.1)) p)=true∧kdL ((GQ).mem p) ((fun p:(Fa×(Sm)×Unit)=>Fa.memO (D0 N n p.1 p.2.1)) p)=true∧EX ((fun p:(Fa×(Sm)×Unit)=>Fa.memO (D0 N n p.1 p.2.1)) p) ((fun p:(Fa×(Sm)×Unit)=>FA N n p.1 p.2.1) p)∧∀q,some q∈(fun p:(Fa×(Sm)×Unit)=>Fa.memO (D0 N n p.1 p.2.1)) p→DO ((fun p:(Fa×(Sm)×Unit)=>Fa.memO (D0 N n p.1 p.2.1)) p).length q:=fun p _ _=>have h:=DZ p.1 (D0 N n p.1 p.2.1);⟨h.1,h.2.1,rfl,h.2.2⟩
theorem gO (N:Nat) (n:Nat):∀p,(fun p:(Fa×(Sm)×Unit)=>LO N n p.1 p.2.1) p→(fun p:(Fa×(Sm)×Unit)=>Ec N n p.1 p.2.1) p=true→((fun p:(Fa×(Sm)×Unit)=>mlO (Fa.pan (Dp N n p.1 p.2.1))) p).length=((GQ).mem p).length∧kdL ((GQ).mem p) ((fun p:(Fa×(Sm)×Unit)=>mlO (Fa.pan (Dp N n p.1 p.2.1))) p)=true∧∀q,some q∈(fun p:(Fa×(Sm)×Unit)=>mlO (Fa.pan (Dp N n p.1 p.2.1))) p→DO ((fun p:(Fa×(Sm)×Unit)=>mlO (Fa.pan (Dp N n p.1 p.2.1))) p).length q:=fun p _ _=>IV p.1 (Dp N n p.1 p.2.1)
theorem gP (N:Nat) (n:Nat):∀p,(fun p:(Fa×(Sm)×Unit)=>LO N n p.1 p.2.1) p→(fun p:(Fa×(Sm)×Unit)=>Ec N n p.1 p.2.1) p=true→Dr ((GQ).mem p).length ((fun p:(Fa×(Sm)×Unit)=>Fa.memO (D0 N n p.1 p.2.1)) p)=true∧EX ((fun p:(Fa×(Sm)×Unit)=>Fa.memO (D0 N n p.1 p.2.1)) p) ((fun p:(Fa×(Sm)×Unit)=>FA N n p.1 p.2.1) p):=fun p _ _=>⟨(DZ p.1 (D0 N n p.1 p.2.1)).1,rfl⟩
noncomputable def Pz {X:Ctx} {w0:World} (N:Nat) (n:Nat) (h:LP N n):Sy.Spec Try.prog X w0:=Dj 85 Try.call85 (GQ) (fun p:(Fa×(Sm)×Unit)=>LO N n p.1 p.2.1) (fun p:(Fa×(Sm)×Unit)=>Ec N n p.1 p.2.1) (fun p:(Fa×(Sm)×Unit)=>FA N n p.1 p.2.1) (fun p:(Fa×(Sm)×Unit)=>Fa.memO (D0 N n p.1 p.2.1)) (fun p:(Fa×(Sm)×Unit)=>mlO (Fa.pan (Dp N n p.1 p.2.1))) (gN N n) (gO N n) (gP N n) (fun _=>rfl) h
theorem NF {X:Ctx} {w0:World} (N:Nat) (n:Nat) (h:LP N n):(Pz (X:=X) (w0:=w0) N n h).f=85:=rfl
theorem NG {X:Ctx} {w0:World} (N:Nat) (n:Nat) (h:LP N n) (t:Nat) (args:List SV) (H:Hp):(Pz (X:=X) (w0:=w0) N n h).fn t args H=spL X ((GQ).d H args) t H (fun p:(Fa×(Sm)×Unit)=>LO N n p.1 p.2.1) (fun p:(Fa×(Sm)×Unit)=>Ec N n p.1 p.2.1) (fun p:(Fa×(Sm)×Unit)=>FA N n p.1 p.2.1) (fun p:(Fa×(Sm)×Unit)=>Fa.memO (D0 N n p.1 p.2.1)) (fun p:(Fa×(Sm)×Unit)=>mlO (Fa.pan (Dp N n p.1 p.2.1))):=rfl
abbrev K8 (N:Nat) (n:Nat) (q:Fa) (l:List Sm):Prop:=(∃m,okB N m l)∧okMs N n q∧n≤1000000000
abbrev Aj (N:Nat) (n:Nat) (q:Fa) (l:List Sm):Bool:=(blF (stF n) l q).b
abbrev AV (N:Nat) (n:Nat) (q:Fa) (l:List Sm):Fa:=(blF (stF n) l q).q
abbrev Ab (N:Nat) (n:Nat) (q:Fa) (l:List Sm):Fa:=(blF (stF n) l q).q
abbrev Az (N:Nat) (n:Nat) (q:Fa) (l:List Sm):SV:=.one (.v (.bool (blF (stF n) l q).t))
theorem dB:∀b,∀v∈ArgC.e (acS (cSs) ac0) b,v.tupB=false:=by rintro ⟨x0,_⟩ v hv;simp only[HU,HT,List.mem_cons,List.not_mem_nil,or_false]at hv;subst hv<;>first|rfl|exact Ik _|exact Il _
noncomputable abbrev FV:ArgL (Fa×(List Sm)×Unit):=amFr (acS (cSs) ac0) dB
abbrev IY (N:Nat) (n:Nat):Prop:=E8 Try.prog 72 (FV).args (FV).mem (fun p:(Fa×(List Sm)×Unit)=>K8 N n p.1 p.2.1) (fun p:(Fa×(List Sm)×Unit)=>Aj N n p.1 p.2.1) (fun p:(Fa×(List Sm)×Unit)=>Az N n p.1 p.2.1) (fun p:(Fa×(List Sm)×Unit)=>Fa.memO (AV N n p.1 p.2.1)) (fun p:(Fa×(List Sm)×Unit)=>mlO (Fa.pan (Ab N n p.1 p.2.1)))
theorem dC (N:Nat) (n:Nat):∀p,(fun p:(Fa×(List Sm)×Unit)=>K8 N n p.1 p.2.1) p→(fun p:(Fa×(List Sm)×Unit)=>Aj N n p.1 p.2.1) p=false→Dr ((FV).mem p).length ((fun p:(Fa×(List Sm)×Unit)=>Fa.memO (AV N n p.1 p.2.1)) p)=true∧kdL ((FV).mem p) ((fun p:(Fa×(List Sm)×Unit)=>Fa.memO (AV N n p.1 p.2.1)) p)=true∧EX ((fun p:(Fa×(List Sm)×Unit)=>Fa.memO (AV N n p.1 p.2.1)) p) ((fun p:(Fa×(List Sm)×Unit)=>Az N n p.1 p.2.1) p)∧∀q,some q∈(fun p:(Fa×(List Sm)×Unit)=>Fa.memO (AV N n p.1 p.2.1)) p→DO ((fun p:(Fa×(List Sm)×Unit)=>Fa.memO (AV N n p.1 p.2.1)) p).length q:=fun p _ _=>have h:=DZ p.1 (AV N n p.1 p.2.1);⟨h.1,h.2.1,rfl,h.2.2⟩
theorem dD (N:Nat) (n:Nat):∀p,(fun p:(Fa×(List Sm)×Unit)=>K8 N n p.1 p.2.1) p→(fun p:(Fa×(List Sm)×Unit)=>Aj N n p.1 p.2.1) p=true→((fun p:(Fa×(List Sm)×Unit)=>mlO (Fa.pan (Ab N n p.1 p.2.1))) p).length=((FV).mem p).length∧kdL ((FV).mem p) ((fun p:(Fa×(List Sm)×Unit)=>mlO (Fa.pan (Ab N n p.1 p.2.1))) p)=true∧∀q,some q∈(fun p:(Fa×(List Sm)×Unit)=>mlO (Fa.pan (Ab N n p.1 p.2.1))) p→DO ((fun p:(Fa×(List Sm)×Unit)=>mlO (Fa.pan (Ab N n p.1 p.2.1))) p).length q:=fun p _ _=>IV p.1 (Ab N n p.1 p.2.1)
theorem dE (N:Nat) (n:Nat):∀p,(fun p:(Fa×(List Sm)×Unit)=>K8 N n p.1 p.2.1) p→(fun p:(Fa×(List Sm)×Unit)=>Aj N n p.1 p.2.1) p=true→Dr ((FV).mem p).length ((fun p:(Fa×(List Sm)×Unit)=>Fa.memO (AV N n p.1 p.2.1)) p)=true∧EX ((fun p:(Fa×(List Sm)×Unit)=>Fa.memO (AV N n p.1 p.2.1)) p) ((fun p:(Fa×(List Sm)×Unit)=>Az N n p.1 p.2.1) p):=fun p _ _=>⟨(DZ p.1 (AV N n p.1 p.2.1)).1,rfl⟩
noncomputable def Gz {X:Ctx} {w0:World} (N:Nat) (n:Nat) (h:IY N n):Sy.Spec Try.prog X w0:=Dj 72 Try.call72 (FV) (fun p:(Fa×(List Sm)×Unit)=>K8 N n p.1 p.2.1) (fun p:(Fa×(List Sm)×Unit)=>Aj N n p.1 p.2.1) (fun p:(Fa×(List Sm)×Unit)=>Az N n p.1 p.2.1) (fun p:(Fa×(List Sm)×Unit)=>Fa.memO (AV N n p.1 p.2.1)) (fun p:(Fa×(List Sm)×Unit)=>mlO (Fa.pan (Ab N n p.1 p.2.1))) (dC N n) (dD N n) (dE N n) (fun _=>rfl) h
theorem Bm {X:Ctx} {w0:World} (N:Nat) (n:Nat) (h:IY N n):(Gz (X:=X) (w0:=w0) N n h).f=72:=rfl
theorem Bn {X:Ctx} {w0:World} (N:Nat) (n:Nat) (h:IY N n) (t:Nat) (args:List SV) (H:Hp):(Gz (X:=X) (w0:=w0) N n h).fn t args H=spL X ((FV).d H args) t H (fun p:(Fa×(List Sm)×Unit)=>K8 N n p.1 p.2.1) (fun p:(Fa×(List Sm)×Unit)=>Aj N n p.1 p.2.1) (fun p:(Fa×(List Sm)×Unit)=>Az N n p.1 p.2.1) (fun p:(Fa×(List Sm)×Unit)=>Fa.memO (AV N n p.1 p.2.1)) (fun p:(Fa×(List Sm)×Unit)=>mlO (Fa.pan (Ab N n p.1 p.2.1))):=rfl
attribute [local go_sem] Fa.mem Fa.memO Fa.pan ML.ch ML.ren Ms.brk Ms.exh Ms.spd Sm.ar Sm.cd Sm.e Sm.el Sm.f Sm.k Sm.no Sm.th Sm.x Sm.y G5 G4 G6 Dl BG BP BQ BC BN BO KX KW Cy Cx chL ID EK EJ GA fcN Im frC IE G3 lmH lmO Fk HH HI mcC IF HG mcW E9 DQ DR Fl nmX AB AA Es Eh Dt Du Fo Fm FM FL EN F7 rnC H7 AK DA Ds DP CR EW vrQ IG Io FO
set_option maxRecDepth 20000 in set_option maxHeartbeats 32000000 in
theorem Q0 (N:Nat) (n:Nat) (hu:LP N n):IY N n:=by
 rintro ⟨q,l,_u⟩ w M I lab fz xs hc hA hl hx
 refine Cf Try.func72 rfl (Fa.mem q) w M I lab fz (Aj N n q l) (Fa.pan (Ab N n q l)) (Fa.memO (AV N n q l)) [(Pz N n hu)] [] ((FV).args ⟨q,l,_u⟩) (Az N n q l) xs hA hl hx (Gn _ _ _ _) (jN rfl) (Nat.le_refl _) rfl (IW _) ?_
 clear hx hl hA xs
 simp only[Try.f72]
 obtain⟨⟨m,hl⟩,hM,hn⟩:=hc
 dsimp only at hl hM hn
 have hlen:=nR hl
 obtain⟨G,hG⟩:∃G,blF (stF n) l q=G:=⟨_,rfl⟩
 simp only[↓eB,seval,go_sem,xt,↓A1,Bf,Bg,Bh,Bi,Va.c,Option.isSome_some,Option.isSome_none,Ev.b,Ev.vl,evA,evW,va0,NF,NG,FA,Ec,D0,Dp,Aj,AV,Ab,hG]
 refine Aa (Y:=Nat×Fa) (fun z=>z.1≤l.length∧okMs N n z.2∧blF (stF n) (l.drop z.1) z.2=G)
  (fun z=>⟨[(0,true,.one (.p 0 0 0)),(1,true,.one (.d (.sl zSm (l.map Sm.r)))),(6,true,.one (.d (.sl zSm (l.map Sm.r)))),(7,true,.one (.v (.int .i64 (l.length:Int)))),(8,true,.one (.v (.int .i64 (z.1:Int))))],[(0,.vec 0 zFr [frC z.2]),(1,.vec 0 zMc [mcC z.2.P z.2.m]),(2,.mp true (vsC z.2.vs))]⟩)
  (fun z=>l.length-z.1) (0,q) ⟨Nat.zero_le _,hM,hG⟩ ?_ ?_
 ·refine A4 [] ?_;simp only[↓eB,seval,go_sem,xt,↓A1]
 ·rintro ⟨i,r⟩ ⟨hi,hr,hJ⟩
  dsimp only at hi hr hJ
  refine Ap [Pz N n hu] [] _ _ _ ?_
  have w1:IntKind.i64.wrap ((i:Int)+1)=((i+1:Nat):Int):=by rw[wrap_i64 (by omega) (by omega)];rfl
  cases hx:l[i]? with
  |none=>
   have h2:=List.getElem?_eq_none_iff.1 hx
   have h1:=BF h2
   rw[List.drop_eq_nil_of_le h2]at hJ
   have hJ':r.go=G:=hJ
   subst hJ'
   simp only[↓eB,seval,go_sem,xt,↓A1,Bf,Bg,Bh,Bi,Va.c,Option.isSome_some,Option.isSome_none,Ev.b,Ev.vl,evA,evW,va0,NF,NG,FA,Ec,D0,Dp,Aj,AV,Ab,h1,hG]
   try simp only[A2,A3]
   repeat' first|exact ck|with_reducible apply And.intro|intro _
   all_goals first|exact trivial|(rename_i h;first|exact oI h|exact nah h)|(rename_i _ h _ g;exact sL h g)|decide|omega|(refine A0 [] ?_;simp only[↓eB,seval,go_sem,bne,Az,Aj,AV,Ab,A6,xt,↓A1,Ev.b,Ev.vl,evA,evW,va0,hG,Fa.go])
  |some s=>
   have hlt:=(List.getElem?_eq_some_iff.1 hx).1
   have h1:=BE hlt
   have h2:=A0r hx
   have hT:=A0s hl (List.mem_of_getElem? hx)
   have hk:=Te n s r hr.l (by have:=hr.u;omega)
   rw[Bo hx]at hJ
   simp only[blF]at hJ
   obtain⟨T,hT2⟩:∃T,stF n s r=T:=⟨_,rfl⟩
   rw[hT2]at hJ hk
   obtain⟨k0,x0,y0,e0,f0,cd0,ar0,th0,el0,no0⟩:=s
   obtain⟨b,t,r'⟩:=T
   cases b with
   |true=>
    have hJ':(⟨true,t,r'⟩:Ro)=G:=by simpa using hJ
    subst hJ'
    simp only[↓eB,seval,go_sem,xt,↓A1,Bf,Bg,Bh,Bi,Va.c,Option.isSome_some,Option.isSome_none,Ev.b,Ev.vl,evA,evW,va0,NF,NG,FA,Ec,D0,Dp,Aj,AV,Ab,h1,h2,hG,hT2]
    try simp only[A2,A3]
    repeat' first|exact ck|with_reducible apply And.intro|intro _
    all_goals first|exact⟨hT,hr,hn⟩|(rename_i h;first|exact oI h|exact nah h)|(rename_i _ h _ g;exact sL h g)|decide|omega|(refine A0 [] ?_;simp only[↓eB,seval,go_sem,bne,Az,Aj,AV,Ab,A6,xt,↓A1,Ev.b,Ev.vl,evA,evW,va0,hG,hT2])
   |false=>
   cases t with
   |true=>
    have hJ':(⟨false,true,r'⟩:Ro)=G:=by simpa using hJ
    subst hJ'
    simp only[↓eB,seval,go_sem,xt,↓A1,Bf,Bg,Bh,Bi,Va.c,Option.isSome_some,Option.isSome_none,Ev.b,Ev.vl,evA,evW,va0,NF,NG,FA,Ec,D0,Dp,Aj,AV,Ab,h1,h2,hG,hT2]
    try simp only[A2,A3]
    repeat' first|exact ck|with_reducible apply And.intro|intro _
    all_goals first|exact⟨hT,hr,hn⟩|(rename_i h;first|exact oI h|exact nah h)|(rename_i _ h _ g;exact sL h g)|decide|omega|(refine A0 [] ?_;simp only[↓eB,seval,go_sem,bne,Az,Aj,AV,Ab,A6,xt,↓A1,Ev.b,Ev.vl,evA,evW,va0,hG,hT2])
   |false=>
    have hJ':blF (stF n) (l.drop (i+1)) r'=G:=by simpa using hJ
    simp only[↓eB,seval,go_sem,xt,↓A1,Bf,Bg,Bh,Bi,Va.c,Option.isSome_some,Option.isSome_none,Ev.b,Ev.vl,evA,evW,va0,NF,NG,FA,Ec,D0,Dp,Aj,AV,Ab,h1,h2,hG,hT2,w1]
    try simp only[A2,A3]
    repeat' first|exact ck|with_reducible apply And.intro|intro _
    all_goals try first|exact⟨hT,hr,hn⟩|(rename_i h;first|exact oI h|exact nah h)|(rename_i _ h _ g;exact sL h g)|decide|omega
    refine⟨(i+1,r'),⟨hlt,hr.kq hk (by have h9:r'.m.fuel≤r.m.fuel:=hk.u;have:=hr.u;show r'.m.fuel<_;omega),hJ'⟩,by dsimp only;omega,A4 [] ?_⟩
    simp only[↓eB,seval,go_sem,xt,↓A1]
end Go.Proofs.Ytjnnmindcbgjhaa
