/- What a run keeps, plain. No conditions but those in each statement. -/
import Derived.Test.YtjnnmindcbgjhabSy38
set_option linter.unusedVariables false
set_option linter.unusedSimpArgs false
namespace Go.Proofs.Ytjnnmindcbgjhab
open Go Go.Sy Go.RowKit
def naL (x:Na):Nat:=x.l.length
structure Kq (q r:Fa):Prop where
 P:r.P=q.P
 c:r.m.cs.length=q.m.cs.length
 a:r.m.ar.map naL=q.m.ar.map naL
 l:0≤r.m.fuel
 u:r.m.fuel≤q.m.fuel
theorem Kq.tr {q r t:Fa} (h:Kq q r) (k:Kq r t):Kq q t:=⟨k.P.trans h.P,k.c.trans h.c,k.a.trans h.a,k.l,by have:=k.u;have:=h.u;omega⟩
theorem Kq.of {q r:Fa} (h:0≤q.m.fuel) (h1:r.P=q.P) (h2:r.m.cs=q.m.cs) (h3:r.m.ar=q.m.ar) (h4:r.m.fuel=q.m.fuel):Kq q r:=⟨h1,by rw[h2],by rw[h3],by omega,by omega⟩
theorem put_len (m:Ms) (i j:Int) (v:Int):(m.put i j v).ar.map naL=m.ar.map naL:=by
 show (m.ar.set i.toNat ⟨(m.ar.getD i.toNat ⟨[],[]⟩).s,(m.arr i).set j.toNat v⟩).map naL=_
 rw[List.map_set]
 show (m.ar.map naL).set i.toNat ((m.arr i).set j.toNat v).length=_
 rw[List.length_set]
 apply List.ext_getElem?
 intro k
 rw[List.getElem?_set]
 split
 ·rename_i hk
  subst hk
  split
  ·rename_i hl
   rw[List.length_map]at hl
   rw[List.getElem?_map,List.getElem?_eq_getElem hl]
   simp[Ms.arr,naL,List.getD,hl]
  ·rename_i hl
   rw[List.getElem?_eq_none (Nat.le_of_not_lt hl)]
 ·rfl
theorem kq_asg {q:Fa} {s:Sm} {v:Int} (h:0≤q.m.fuel):Kq q (asgF q s v).q:=by
 unfold asgF
 split
 ·exact Kq.of h rfl rfl rfl rfl
 ·split
  ·exact⟨rfl,by show (q.m.cs.set _ _).length=_;rw[List.length_set],rfl,h,Int.le_refl _⟩
  ·exact Kq.of h rfl rfl rfl rfl
def KqS (st:Sm→Fa→Ro):Prop:=∀s q,0≤q.m.fuel→q.m.fuel≤1000000000→Kq q (st s q).q
theorem kq_bl {st:Sm→Fa→Ro} (h:KqS st):∀(l:List Sm) (q:Fa),0≤q.m.fuel→q.m.fuel≤1000000000→Kq q (blF st l q).q
 |[],q,h0,_=>Kq.of h0 rfl rfl rfl rfl
 |s::l,q,h0,h1=>by
  have k:=h s q h0 h1
  simp only[blF]
  split
  ·exact k
  ·exact k.tr (kq_bl h l _ k.l (by have:=k.u;omega))
theorem kspd {m:Ms} (h1:m.out=false) (h0:0≤m.fuel) (h2:m.fuel≤1000000000):m.spd.fuel=m.fuel-1∧1≤m.fuel:=by
 have:¬m.fuel<1:=of_decide_eq_false h1
 refine⟨?_,by omega⟩
 show w64i (m.fuel-1)=_
 unfold w64i;rw[wrap_i64 (by omega) (by omega)]
theorem kq_spd {q:Fa} (h1:q.m.out=false) (h0:0≤q.m.fuel) (h2:q.m.fuel≤1000000000):Kq q { q with m:=q.m.spd }:=by
 obtain⟨a,b⟩:=kspd h1 h0 h2
 exact⟨rfl,rfl,rfl,by show 0≤q.m.spd.fuel;omega,by show q.m.spd.fuel≤_;omega⟩
theorem kq_lp {bl:Fa→Ro} {s:Sm} (h:∀q,0≤q.m.fuel→q.m.fuel≤1000000000→Kq q (bl q).q):∀(k:Nat) (q:Fa),0≤q.m.fuel→q.m.fuel≤1000000000→Kq q (lpF bl s k q).q
 |0,q,h0,_=>Kq.of h0 rfl rfl rfl rfl
 |k+1,q,h0,h1=>by
  simp only[lpF]
  cases ho:q.m.out with
  |true=>exact Kq.of h0 rfl rfl rfl rfl
  |false=>
   have ks:=kq_spd ho h0 h1
   simp only[Bool.false_eq_true,if_false]
   cases cdF q.P q.m.spd q.vs s.cd with
   |no j=>exact ks.tr (Kq.of ks.l rfl rfl rfl rfl)
   |ok x=>cases x with
    |false=>exact ks
    |true=>
     have kb:=h { q with m:=q.m.spd } ks.l (by have:=ks.u;omega)
     show Kq q (if _ then _ else _:Ro).q
     split
     ·exact ks.tr kb
     ·exact(ks.tr kb).tr (kq_lp h k _ kb.l (by have:=kb.u;have:=ks.u;omega))
theorem kq_cal {st:Sm→Fa→Ro} (h:KqS st) (q:Fa) (g:Fn) (a:List Va) (h0:0≤q.m.fuel) (h1:q.m.fuel≤1000000000):Kq q { q with m:=(calF st q.P g a q.m).2.2 }:=by
 unfold calF
 split
 ·exact Kq.of h0 rfl rfl rfl rfl
 ·have k:=kq_bl h g.body ⟨g.name,0,q.P,{ q.m with deep:=w64i (q.m.deep+1) },vsP g.ps a (vsL g.ls [])⟩ h0 h1
  show Kq q { q with m:=(if _ then _ else _:Bool×Int×Ms).2.2 }
  split
  ·exact⟨rfl,k.c,k.a,k.l,k.u⟩
  ·exact⟨rfl,k.c,k.a,k.l,k.u⟩
theorem kq_inv {st:Sm→Fa→Ro} (h:KqS st) (s:Sm) (q:Fa) (h0:0≤q.m.fuel) (h1:q.m.fuel≤1000000000):Kq q (invF st s q).q:=by
 unfold invF
 split
 ·exact Kq.of h0 rfl rfl rfl rfl
 ·split
  ·exact Kq.of h0 rfl rfl rfl rfl
  ·dsimp only
   split
   ·exact Kq.of h0 rfl rfl rfl rfl
   ·rename_i a _ _ i _ _
    have k:=kq_cal h q (q.P.fs.getD i.toNat ⟨[],[],[],[]⟩) a h0 h1
    unfold invK
    split
    ·exact k
    ·split
     ·exact k
     ·exact k.tr (kq_asg k.l)
theorem kq_ite {c:Prop} [Decidable c] {a b:Ro} {q:Fa} (h1:Kq q a.q) (h2:Kq q b.q):Kq q (if c then a else b).q:=by
 by_cases h:c
 ·rw[if_pos h];exact h1
 ·rw[if_neg h];exact h2
theorem kq_sm {st:Sm→Fa→Ro} (h:KqS st) (s:Sm) (q:Fa) (h0:0≤q.m.fuel) (h1:q.m.fuel≤1000000000):Kq q (smF st s q).q:=by
 have r:∀{t:Fa},t.P=q.P→t.m.cs=q.m.cs→t.m.ar=q.m.ar→t.m.fuel=q.m.fuel→Kq q t:=fun a b c d=>Kq.of h0 a b c d
 unfold smF
 refine kq_ite ?_ (kq_ite ?_ (kq_ite ?_ (kq_ite ?_ (kq_ite ?_ (kq_ite ?_ (kq_ite ?_ (kq_ite ?_ (kq_ite ?_ (kq_ite ?_ (kq_ite ?_ (kq_ite ?_ ?_)))))))))))
 ·cases evF q.P q.m q.vs s.e with
  |no j=>exact r rfl rfl rfl rfl
  |ok v=>exact kq_asg h0
 ·cases q.P.ci s.y with
  |none=>exact r rfl rfl rfl rfl
  |some i=>exact r rfl rfl rfl rfl
 ·exact r rfl rfl rfl rfl
 ·exact r rfl rfl rfl rfl
 ·cases folF q s.y with
  |no j=>exact r rfl rfl rfl rfl
  |ok i=>exact kq_asg h0
 ·cases evF q.P q.m q.vs s.e with
  |no j=>exact r rfl rfl rfl rfl
  |ok v=>
   show Kq q (match folF q s.x with| .no j=>q.brk s j| .ok i=>Fa.go { q with m:=q.m.set i v }).q
   cases folF q s.x with
   |no j=>exact r rfl rfl rfl rfl
   |ok i=>exact⟨rfl,by show (q.m.cs.set _ _).length=_;rw[List.length_set],rfl,h0,Int.le_refl _⟩
 ·cases evF q.P q.m q.vs s.e with
  |no j=>exact r rfl rfl rfl rfl
  |ok i=>
   show Kq q (match accF q s i with| .no j=>q.brk s j| .ok k=>asgF q s ((q.m.arr k).getD i.toNat 0)).q
   cases accF q s i with
   |no j=>exact r rfl rfl rfl rfl
   |ok k=>exact kq_asg h0
 ·cases evF q.P q.m q.vs s.e with
  |no j=>exact r rfl rfl rfl rfl
  |ok i=>
   show Kq q (match evF q.P q.m q.vs s.f with| .no j=>q.brk s j| .ok v=>match accF q s i with| .no j=>q.brk s j| .ok k=>Fa.go { q with m:=q.m.put k i v }).q
   cases evF q.P q.m q.vs s.f with
   |no j=>exact r rfl rfl rfl rfl
   |ok v=>
    show Kq q (match accF q s i with| .no j=>q.brk s j| .ok k=>Fa.go { q with m:=q.m.put k i v }).q
    cases accF q s i with
    |no j=>exact r rfl rfl rfl rfl
    |ok k=>exact⟨rfl,rfl,put_len _ _ _ _,h0,Int.le_refl _⟩
 ·exact kq_inv h s q h0 h1
 ·cases evF q.P q.m q.vs s.e with
  |no j=>exact r rfl rfl rfl rfl
  |ok v=>exact r rfl rfl rfl rfl
 ·cases cdF q.P q.m q.vs s.cd with
  |no j=>exact r rfl rfl rfl rfl
  |ok x=>cases x with
   |true=>exact kq_bl h s.th q h0 h1
   |false=>exact kq_bl h s.el q h0 h1
 ·cases cdF q.P q.m q.vs s.cd with
  |no j=>exact r rfl rfl rfl rfl
  |ok x=>cases x with
   |true=>exact r rfl rfl rfl rfl
   |false=>exact r rfl rfl rfl rfl
 ·exact r rfl rfl rfl rfl
theorem kq_st:∀n,KqS (stF n)
 |0=>fun s q h0 _=>Kq.of h0 rfl rfl rfl rfl
 |n+1=>fun s q h0 h1=>by
  have ih:=kq_st n
  simp only[stF]
  split
  ·exact kq_lp (fun q a b=>kq_bl ih s.th q a b) (n+1) q h0 h1
  ·cases ho:q.m.out with
   |true=>exact Kq.of h0 rfl rfl rfl rfl
   |false=>
    have ks:=kq_spd ho h0 h1
    simp only[Bool.false_eq_true,if_false]
    exact ks.tr (kq_sm ih s { q with m:=q.m.spd } ks.l (by have:=ks.u;omega))
structure okPg (N:Nat) (P:Pg):Prop where
 l:P.fs.length≤1000000
 f:∀f∈P.fs,okF f∧∃m,okB N m f.body
structure okMs (N:Nat) (n:Int) (q:Fa):Prop where
 p:okPg N q.P
 c:okC q.P q.m
 a:∀x∈q.m.ar,x.l.length≤1000000000
 l:0≤q.m.fuel
 u:q.m.fuel<n
theorem okMs.kq {N:Nat} {n k:Int} {q r:Fa} (h:okMs N n q) (e:Kq q r) (hu:r.m.fuel<k):okMs N k r:=by
 refine⟨by rw[e.P];exact h.p,⟨by rw[e.c,e.P];exact h.c.c,?_,by rw[e.P];exact h.c.n,by rw[e.P];exact h.c.k⟩,fun x hx=>?_,e.l,hu⟩
 ·have:=congrArg List.length e.a
  rw[List.length_map,List.length_map]at this
  rw[this,e.P];exact h.c.a
 ·have h1:naL x∈r.m.ar.map naL:=List.mem_map.2 ⟨x,hx,rfl⟩
  rw[e.a]at h1
  obtain⟨y,hy,h2⟩:=List.mem_map.1 h1
  have:=h.a y hy
  show naL x≤_
  rw[← h2];exact this
end Go.Proofs.Ytjnnmindcbgjhab
