/- A deferred closure. No conditions but those in each statement. -/
import Derived.Test.YtjnnmindcbgjhabSy36
import Derived.Recover
import Derived.Test.YtjnnmindcbgjhabPp
import Derived.Test.YtjnnmindcbgjhabCo
import Derived.Test.YtjnnmindcbgjhabMi1
set_option linter.unusedVariables false
set_option linter.unusedSimpArgs false
namespace Go.Sy
open Go Go.RowKit
section
variable {P:Program} {X:Ctx} {w0:World} {n:Nat}
def TriD (X:Ctx) (w0:World) (n:Nat) (c:Code) (s:St) (Qd:Exit→Act→World→Prop):Prop:=∀a w,Holds X w0 n s a w→c.wp P Qd a w
theorem td_next {a b:Code} {s:St} {Qd:Exit→Act→World→Prop} (Q:Exit→St→Prop) (sp:List (Spec P X w0)) (g:Gh) (hq:∀e s' act w,e≠.normal→Q e s'→Holds X w0 n s' act w→Qd e act w) (hp':∀ch act w,keepA X act→PanW X w0 ch w→Qd (.panic ch) act w)
  (h1:vc X w0 sp n g a s (thenQ (fun s'=>TriD (P:=P) X w0 n b s' Qd) Q)):TriD (P:=P) X w0 n (.seq a b) s Qd:=by
 intro act w hs
 refine wp_seq ?_
 refine Code.wp_mono ?_ (vc_ok sp g a s _ h1 act w hs)
 rintro e a' w' (⟨s',hq',hs'⟩|⟨ch,rfl,hk,hpan⟩)
 ·cases e with
  |normal=>exact hq' a' w' hs'
  |_=>exact hq _ s' a' w' (by simp) hq' hs'
 ·exact hp' ch a' w' hk hpan
theorem td_last {c:Code} {s:St} {Qd:Exit→Act→World→Prop} (Q:Exit→St→Prop) (sp:List (Spec P X w0)) (g:Gh) (hq:∀e s' act w,Q e s'→Holds X w0 n s' act w→Qd e act w) (hp':∀ch act w,keepA X act→PanW X w0 ch w→Qd (.panic ch) act w)
  (h1:vc X w0 sp n g c s Q):TriD (P:=P) X w0 n c s Qd:=by
 intro act w hs
 refine Code.wp_mono ?_ (vc_ok sp g c s _ h1 act w hs)
 rintro e a' w' (⟨s',hq',hs'⟩|⟨ch,rfl,hk,hpan⟩)
 ·exact hq e s' a' w' hq' hs'
 ·exact hp' ch a' w' hk hpan
theorem wp_defer {id:Nat} {o1 o2:Oper} {rest:Code} {Qd:Exit→Act→World→Prop} {a:Act} {w:World} {fid t:Nat} {caps:Array Operand} {ty:Array TypeId}
  (h1:o1.op= .makeFunc (.func fid) #[] caps) (d1:o1.dst=some t) (g1:o1.guard=none) (h2:o2.op= .defer ⟨.value (.tmp t),#[],ty⟩) (d2:o2.dst=none) (g2:o2.guard=none) (ht:t<a.tmps.size)
  (hr:rest.wp P Qd { (a.put (some t) (.func (.func fid) #[] (caps.map a.eval))) with defers:={ target:=.fn (.func fid) (caps.map a.eval),args:=#[] }::a.defers } w):(Code.seq (.region id #[o1,o2] false) rest).wp P Qd a w:=by
 refine wp_seq (wp_region ?_)
 have hl:List.range (#[o1,o2]:Array Oper).size=[0,1]:=rfl
 rw[hl]
 have w1:Region.wanted o1 (yielded #[o1,o2] a.tmps)=true:=by unfold Region.wanted;rw[g1]
 have e1:(execOp a.eval o1).run P w= .ok (.value (.func (.func fid) #[] (caps.map a.eval))) w:=by
  have hmf:∀(fn:Fn) (first cap:Array Value) (w:World),(Instr.makeFunc fn first cap).run P w= .ok (.func fn first cap) w:=fun _ _ _ _=>rfl
  simp[execOp,h1,go_sem,hmf]
 simp only[wpOps,List.getElem?_toArray,List.getElem?_cons_zero,List.getElem?_cons_succ,w1,if_true]
 left
 unfold Oper.wp
 rw[e1]
 have w2:Region.wanted o2 (yielded #[o1,o2] (a.put o1.dst (.func (.func fid) #[] (caps.map a.eval))).tmps)=true:=by unfold Region.wanted;rw[g2]
 simp only[Oper.upon,w2,if_true]
 left
 have ev:(a.put o1.dst (.func (.func fid) #[] (caps.map a.eval))).eval (.tmp t)= .func (.func fid) #[] (caps.map a.eval):=by
  rw[d1]
  simp[Act.eval,Act.put,ht]
 have df:(a.put o1.dst (.func (.func fid) #[] (caps.map a.eval))).defers=a.defers:=put_defers ..
 rw[← d1]at hr
 generalize hF:Value.func (Fn.func fid) #[] (caps.map a.eval)=F at*
 generalize hA:a.put o1.dst F=a1 at*
 have ev':a1.eval (Operand.tmp t)=F:=ev
 have e2:(execOp a1.eval o2).run P w= .ok (.defer { target:=.fn (.func fid) (caps.map a.eval),args:=#[] }) w:=by
  simp only[execOp,h2,resolve]
  rw[ev',← hF]
  simp[go_sem]
 rw[e2]
 simp only[Oper.upon,d2]
 rw[df]
 exact hr
end
end Go.Sy
namespace Go.Sy
open Go Go.RowKit
section
variable {P:Program}
theorem wpS_first {id:Nat} {ops:Array Oper} {o0:Oper} {ty:Array TypeId} {Q:Exit→Act→List Frame→World→Prop} {a:Act} {cs cs':List Frame} {w:World} {v:Value} (h0:ops[0]?=some o0) (op0:o0.op= .call ⟨.builtin .recover,#[],ty⟩) (g0:o0.guard=none)
  (hrec:(match recoverD cs with|some (v,cs')=>(v,cs')|none=>(.nilIface,cs))=(v,cs')) (hrest:wpOps P ops (fun e a w=>Q e a cs' w) (List.range' 1 (ops.size-1)) (a.put o0.dst v) w):(Code.region id ops false).wpS P Q a cs w:=by
 intro b k hb hro
 have hsz:0<ops.size:=by
  rcases Nat.eq_zero_or_pos ops.size with h|h
  ·rw[Array.getElem?_eq_none (by omega)]at h0;cases h0
  ·exact h
 have hl:List.range ops.size=0::List.range' 1 (ops.size-1):=by
  rw[List.range_eq_range']
  obtain⟨m,hm⟩:∃m,ops.size=m+1:=⟨ops.size-1,by omega⟩
  rw[hm,List.range'_succ];simp
 have hw:Region.wanted o0 (yielded ops a.tmps)=true:=by unfold Region.wanted;rw[g0]
 have hr:(execOp a.eval o0).run P w= .ok .recover w:=by
  simp[execOp,op0,resolve,go_sem]
 obtain⟨e,a',w',hq,harr⟩:=wp_ops _ (a.put o0.dst v) w hrest b k cs'
 refine⟨e,a',cs',w',hq,.of_steps (.head step_region ?_) harr⟩
 rw[hl]
 have hg:=stepG_op (P:=P) (b:=b) (k:=k) (cs:=cs) (w:=w) (rest:=List.range' 1 (ops.size-1)) h0 hw
 have hfin:∀v,(b.at a (.inRegion ops (0::List.range' 1 (ops.size-1))::k)).finish v=b.at (a.put o0.dst v) (.inRegion ops (List.range' 1 (ops.size-1))::k):=by
  intro v;rw[Frame.finish_at,h0];rfl
 have hk:(b.at a (.inRegion ops (0::List.range' 1 (ops.size-1))::k)).kind= .deferred:=hb
 have htr:=tryRecover_deferred hk cs
 refine .one (step_lone_go ?_)
 rw[hg,← hfin]
 simp only[Frame.at]at htr ⊢
 cases hd:recoverD cs with
 |none=>
  rw[hd]at hrec htr
  simp only[Prod.mk.injEq]at hrec
  obtain⟨rfl,rfl⟩:=hrec
  simp[stepG.apply,hr,htr]
 |some p=>
  rw[hd]at hrec htr
  obtain⟨v1,cs1⟩:=p
  simp only[Prod.mk.injEq]at hrec
  obtain⟨rfl,rfl⟩:=hrec
  simp[stepG.apply,hr,htr]
theorem wp_asks {ops:Array Oper} {o1:Oper} {Q:Exit→Act→World→Prop} {a:Act} {w:World} {m:Nat} {v:Value} (h1:ops[1]?=some o1) (g1:o1.guard=none) (hr:(execOp a.eval o1).run P w= .ok (.value v) w)
  (h:wpOps P ops Q (List.range' 2 m) (a.put o1.dst v) w):wpOps P ops Q (List.range' 1 (m+1)) a w:=by
 rw[List.range'_succ]
 have hw:Region.wanted o1 (yielded ops a.tmps)=true:=by unfold Region.wanted;rw[g1]
 simp only[wpOps,h1,hw,if_true]
 left
 unfold Oper.wp
 rw[hr]
 exact h
end
end Go.Sy
namespace Go.Sy
open Go Go.RowKit
section
variable {P:Program} {X:Ctx} {w0:World} {n:Nat}
theorem den_p {h:Heap} {fz:Nat→Prop} {lab:Lab} {I:Nm} {H:Hp} {k i j:Nat} {x:Value} (r:SDen h fz lab I H (.one (.p k i j)) x):x=(I k).p i j:=by
 have h2:=r.2
 cases h2
 rfl
def pnH (l:List (Nat×List C×List (List C))):List (Nat×Ch):=l.map fun p=>(p.1,.vec 0 p.2.1 p.2.2)
theorem pnH_mem:∀{l:List (Nat×List C×List (List C))} {k:Nat} {ch:Ch},lkp (pnH l) k=some ch→∃z es,(k,z,es)∈l∧ch= .vec 0 z es
 |[],k,ch,h=>by simp[pnH,lkp]at h
 |(k0,z,es)::r,k,ch,h=>by
  simp only[pnH,List.map_cons,lkp]at h
  split at h
  ·rename_i e
   simp only[Option.some.injEq]at h
   exact⟨z,es,by rw[e];exact List.mem_cons_self ..,h.symm⟩
  ·obtain⟨z',es',h1,h2⟩:=pnH_mem (l:=r) h
   exact⟨z',es',List.mem_cons_of_mem _ h1,h2⟩
theorem pnH_some:∀{l:List (Nat×List C×List (List C))} {k:Nat},k∈l.map (·.1)→(lkp (pnH l) k).isSome=true
 |[],k,h=>by cases h
 |(k0,z,es)::r,k,h=>by
  simp only[pnH,List.map_cons,lkp]
  split
  ·rfl
  ·rename_i e
   rcases List.mem_cons.1 h with h|h
   ·exact absurd h e
   ·exact pnH_some (l:=r) h
theorem at_pn {I:Nm} {lab:Lab} {fz:Nat→Prop} {H:Hp} {w:World} (hA:AtW X w0 I lab fz H w) (l:List (Nat×List C×List (List C))) (hl:pnAll l H) (hc:∀p∈l,∀r∈p.2.2,∀c∈r,∀k∈c.names,k∈l.map (·.1)) (hF:∀p∈X.F,p.1∈l.map (·.1)):AtW X w0 I lab fz (lkp (pnH l)) w:=by
 refine⟨fun k ch hk=>?_,fun k ch hk=>?_,hA.own,hA.fzl,hA.fzo,hA.kept,fun p hp=>⟨pnH_some (hF p hp),(hA.fix p hp).2⟩⟩
 ·obtain⟨z,es,h1,rfl⟩:=pnH_mem hk
  have h2:=pnAll_mem hl h1
  cases hH:H k with
  |none=>rw[hH]at h2;exact h2.elim
  |some ch0=>
  rw[hH]at h2
  cases ch0 with
  |dead=>exact h2.elim
  |mp=>exact h2.elim
  |fact=>exact h2.elim
  |vec u z' es'=>
  obtain⟨hz,hw⟩:=h2
  dsimp only at hz hw
  obtain⟨c1,c2,c3⟩:=hA.h k _ hH
  exact⟨c1,by rw[c2,← hz],by rw[← hz];exact vec_weak c3 (wkL_weak hw)⟩
 ·obtain⟨z,es,h1,rfl⟩:=pnH_mem hk
  intro m hm
  obtain⟨r,hr,hm⟩:=List.mem_flatMap.1 hm
  obtain⟨c,hcr,hm⟩:=List.mem_flatMap.1 hm
  exact pnH_some (hc _ h1 r hr c hcr m hm)
theorem td_to {c:Code} {s t:St} {Qd:Exit→Act→World→Prop} (hs:To X s t) (h:TriD (P:=P) X w0 n c t Qd):TriD (P:=P) X w0 n c s Qd:=fun a w hh=>h a w (hs w0 n a w hh)
end
end Go.Sy
namespace Go.Sy
open Go Go.RowKit
def anyM (m:MV):MV:=(m.1,m.2.map fun r=>r.map fun _=>C.any)
def offA (b:Bool) (l:List MV):List (Option MV):=l.map fun m=>some (if b=true then anyM m else m)
theorem offA_n (b:Bool):offA b []=[]:=rfl
theorem offA_t (z:List C) (es:List (List C)) (r:List MV):offA true ((z,es)::r)=some (z,es.map fun r=>r.map fun _=>C.any)::offA true r:=rfl
theorem offA_f (m:MV) (r:List MV):offA false (m::r)=some m::offA false r:=rfl
section
variable {P:Program}
end
attribute [go_sem] offA_n offA_t offA_f pnOL_t pnOL_f pnL_some pnL_none pnL_nil
end Go.Sy
namespace Go.Proofs.Ytjnnmindcbgjhab
open Go Go.Sy Go.RowKit
structure Gy where
 s:List UInt8
 n:Int
structure Gl where
 c:List (List UInt8)
 a:List Gy
structure Pg where
 g:Gl
 fs:List Fn
structure Va where
 p:Bool
 n:Int
 s:List UInt8
structure Nb where
 s:List UInt8
 n:Int
structure Na where
 s:List UInt8
 l:List Int
abbrev Vs:=List (List UInt8×Va)
structure Ms where
 fuel:Int
 deep:Int
 cs:List Nb
 ar:List Na
 e:Int
 v:Int
 f:List UInt8
 al:Int
 k:Int
structure Fa where
 nm:List UInt8
 ret:Int
 P:Pg
 m:Ms
 vs:Vs
theorem mget_put {α:Type} {es:List (List UInt8×α)} {s t:List UInt8} {v k:α} (h:mget (mput es s v) t=some k):mget es t=some k∨k=v:=by
 induction es with
 |nil=>
  simp only[mput,mget]at h
  split at h
  ·exact .inr (Option.some.inj h).symm
  ·cases h
 |cons p r ih=>
  obtain⟨a,b⟩:=p
  simp only[mput]at h
  split at h
  ·rename_i e
   simp only[mget]at h ⊢
   split at h
   ·exact .inr (Option.some.inj h).symm
   ·rename_i e2
    have e3:(a==t)=false:=by rw[eq_of_beq e];simpa using e2
    rw[e3];exact .inl h
  ·simp only[mget]at h ⊢
   split at h
   ·rename_i e2
    rw[if_pos e2];exact .inl h
   ·rename_i e2
    rw[if_neg e2];exact ih h
def fstL:List (List UInt8)→Nat→List (List UInt8×Int)→List (List UInt8×Int)
 |[],_,es=>es
 |s::r,i,es=>fstL r (i+1) (if (mget es s).isSome=true then es else mput es s (i:Int))
def fI (l:List (List UInt8)):List (List UInt8×Int):=fstL l 0 []
def Pg.ci (P:Pg) (s:List UInt8):Option Int:=mget (fI P.g.c) s
def Pg.ai (P:Pg) (s:List UInt8):Option Int:=mget (fI (P.g.a.map Gy.s)) s
def Pg.fi (P:Pg) (s:List UInt8):Option Int:=mget (fI (P.fs.map Fn.name)) s
def va0:Va:=⟨false,0,[]⟩
def vget (vs:Vs) (s:List UInt8):Va:=(mget vs s).getD va0
inductive Ev (α:Type) where
 |ok (a:α)
 |no (k:Int)
def Ev.b {α:Type}:Ev α→Bool
 | .ok _=>false
 | .no _=>true
def Ev.kd {α:Type}:Ev α→Int
 | .ok _=>0
 | .no k=>k
def Ev.vl {α:Type} (d:α):Ev α→α
 | .ok a=>a
 | .no _=>d
def Ms.cell (m:Ms) (i:Int):Int:=(m.cs.getD i.toNat ⟨[],0⟩).n
def vlF (P:Pg) (m:Ms) (vs:Vs) (s:List UInt8):Ev Int:=match mget vs s with
 |some v=>.ok v.n
 |none=>match P.ci s with
  |some i=>.ok (m.cell i)
  |none=>.no 4
def arF (k x y:Int):Int:=if k=2 then w64i (x+y) else if k=3 then w64i (x-y) else if k=4 then w64i (x*y) else if k=5 then w64i (x.tdiv y) else if k=6 then x.tmod y else 0
def evF (P:Pg) (m:Ms) (vs:Vs):Ex→Ev Int
 | .nil=>.ok 0
 | .mk k n s a b=>
  if k=0 then .ok n
  else if k=1 then vlF P m vs s
  else if k=7 then match evF P m vs a with
   | .ok x=>.ok (w64i (0-x))
   | .no j=>.no j
  else match evF P m vs a with
   | .no j=>.no j
   | .ok x=>match evF P m vs b with
    | .no j=>.no j
    | .ok y=>if (k=5∨k=6)∧y=0 then .no 0 else .ok (arF k x y)
def cmF (k x y:Int):Bool:=if k=0 then x==y else if k=1 then !(x==y) else if k=2 then decide (x<y) else if k=3 then decide (x≤y) else if k=4 then decide (y<x) else if k=5 then decide (y≤x) else false
def cdF (P:Pg) (m:Ms) (vs:Vs):Cd→Ev Bool
 | .nil=>.ok false
 | .mk k a b p q s=>
  if k=6 then match cdF P m vs p with
   | .ok true=>cdF P m vs q
   | .ok false=>.ok false
   | .no j=>.no j
  else if k=7 then match cdF P m vs p with
   | .ok true=>.ok true
   | .ok false=>cdF P m vs q
   | .no j=>.no j
  else if k=8 then match cdF P m vs p with
   | .ok x=>.ok (!x)
   | .no j=>.no j
  else if k=9 then .ok ((vget vs s).s==[])
  else match evF P m vs a with
   | .no j=>.no j
   | .ok x=>match evF P m vs b with
    | .no j=>.no j
    | .ok y=>.ok (cmF k x y)
def argF (P:Pg) (m:Ms) (vs:Vs):List Ar→Ev (List Va)
 |[]=>.ok []
 |a::l=>if a.p=true then match argF P m vs l with
   | .ok r=>.ok (⟨true,0,(vget vs a.s).s⟩::r)
   | .no j=>.no j
  else match evF P m vs a.e with
   | .no j=>.no j
   | .ok x=>match argF P m vs l with
    | .ok r=>.ok (⟨false,x,[]⟩::r)
    | .no j=>.no j
def fitB:List Vr→List Va→Bool
 |[],[]=>true
 |v::l,a::r=>(v.p==a.p)&&fitB l r
 |_,_=>false
def vsL:List Vr→Vs→Vs
 |[],vs=>vs
 |v::l,vs=>vsL l (mput vs v.s ⟨v.p,0,[]⟩)
def vsP:List Vr→List Va→Vs→Vs
 |v::l,a::r,vs=>vsP l r (mput vs v.s (if v.p=true then ⟨true,0,a.s⟩ else ⟨false,a.n,[]⟩))
 |_,_,vs=>vs
def Ms.brk (m:Ms) (nm:List UInt8) (al k:Int):Ms:={ m with e:=1,v:=0,f:=nm,al:=al,k:=k }
def Ms.exh (m:Ms):Ms:={ m with e:=2,v:=0,f:=[],al:=0,k:=0 }
def Ms.out (m:Ms):Bool:=decide (m.fuel<1)
def Ms.spd (m:Ms):Ms:={ m with fuel:=w64i (m.fuel-1) }
def Ms.set (m:Ms) (i:Int) (v:Int):Ms:={ m with cs:=m.cs.set i.toNat ⟨(m.cs.getD i.toNat ⟨[],0⟩).s,v⟩ }
def Ms.arr (m:Ms) (i:Int):List Int:=(m.ar.getD i.toNat ⟨[],[]⟩).l
def Ms.put (m:Ms) (i j:Int) (v:Int):Ms:={ m with ar:=m.ar.set i.toNat ⟨(m.ar.getD i.toNat ⟨[],[]⟩).s,(m.arr i).set j.toNat v⟩ }
def Fa.dead (q:Fa) (s:Sm):Fa:={ q with m:={ q.m with cs:=[⟨[],0⟩],ar:=[⟨[],[0]⟩] },vs:=mput q.vs s.x va0 }
def evA {α:Type} (q:Fa) (s:Sm):Ev α→Fa
 | .ok _=>q
 | .no _=>q.dead s
def evW {α:Type} (q:Fa) (s:Sm):Ev α→Fa
 | .ok _=>q
 | .no k=>{ q with m:=q.m.brk q.nm s.no k }
structure okC (P:Pg) (m:Ms):Prop where
 c:m.cs.length=P.g.c.length
 a:m.ar.length=P.g.a.length
 n:P.g.c.length≤1000000
 k:P.g.a.length≤1000000
theorem fst_lt:∀(l:List (List UInt8)) (i:Nat) (es:List (List UInt8×Int)) (s:List UInt8) (j:Int),(∀t k,mget es t=some k→0≤k∧k<(i:Int))→mget (fstL l i es) s=some j→0≤j∧j<((i+l.length:Nat):Int)
 |[],i,es,s,j,h,hj=>by simpa using h s j hj
 |x::r,i,es,s,j,h,hj=>by
  simp only[fstL]at hj
  have ih:=fst_lt r (i+1) _ s j (fun t k hk=>?_) hj
  ·simp only[List.length_cons];omega
  ·split at hk
   ·have:=h t k hk;omega
   ·rcases mget_put hk with hk|hk
    ·have:=h t k hk;omega
    ·omega
theorem fI_lt {l:List (List UInt8)} {s:List UInt8} {j:Int} (h:mget (fI l) s=some j):0≤j∧j<(l.length:Int):=by
 have:=fst_lt l 0 [] s j (fun t k hk=>by cases hk) h
 simpa using this
theorem Pg.ci_lt {P:Pg} {m:Ms} {s:List UInt8} {i:Int} (hc:okC P m) (h:P.ci s=some i):0≤i∧i<(m.cs.length:Int):=by
 rw[hc.c];exact fI_lt h
theorem Pg.ai_lt {P:Pg} {m:Ms} {s:List UInt8} {i:Int} (hc:okC P m) (h:P.ai s=some i):0≤i∧i<(m.ar.length:Int):=by
 rw[hc.a,← List.length_map (f:=Gy.s)];exact fI_lt h
theorem Pg.fi_lt {P:Pg} {s:List UInt8} {i:Int} (h:P.fi s=some i):0≤i∧i<(P.fs.length:Int):=by
 rw[← List.length_map (f:=Fn.name)];exact fI_lt h
structure Ro where
 b:Bool
 t:Bool
 q:Fa
def Fa.brk (q:Fa) (s:Sm) (k:Int):Ro:=⟨true,false,{ q with m:=q.m.brk q.nm s.no k }⟩
def Fa.go (q:Fa):Ro:=⟨false,false,q⟩
def asgF (q:Fa) (s:Sm) (v:Int):Ro:=match mget q.vs s.x with
 |some _=>Fa.go { q with vs:=mput q.vs s.x ⟨false,v,[]⟩ }
 |none=>match q.P.ci s.x with
  |some i=>Fa.go { q with m:=q.m.set i v }
  |none=>q.brk s 4
def folF (q:Fa) (nm:List UInt8):Ev Int:=if ((vget q.vs nm).s==[])=true then .no 2 else match q.P.ci (vget q.vs nm).s with
 |some i=>.ok i
 |none=>.no 4
def accF (q:Fa) (s:Sm) (i:Int):Ev Int:=match q.P.ai s.y with
 |none=>.no 4
 |some k=>if i<0∨((q.m.arr k).length:Int)≤i then .no 1 else .ok k
def blF (st:Sm→Fa→Ro):List Sm→Fa→Ro
 |[],q=>q.go
 |s::l,q=>if (st s q).b=true∨(st s q).t=true then st s q else blF st l (st s q).q
def calF (st:Sm→Fa→Ro) (P:Pg) (g:Fn) (a:List Va) (m:Ms):Bool×Int×Ms:=
 if 200≤m.deep then (true,0,m.exh)
 else
  let r:=blF st g.body ⟨g.name,0,P,{ m with deep:=w64i (m.deep+1) },vsP g.ps a (vsL g.ls [])⟩
  if r.b=true then (true,0,r.q.m) else (false,r.q.ret,{ r.q.m with deep:=w64i (r.q.m.deep-1) })
def lpF (bl:Fa→Ro) (s:Sm):Nat→Fa→Ro
 |0,q=>⟨true,false,{ q with m:=q.m.exh }⟩
 |k+1,q=>
  if q.m.out=true then ⟨true,false,{ q with m:=q.m.exh }⟩
  else match cdF q.P q.m.spd q.vs s.cd with
   | .no j=>Fa.brk { q with m:=q.m.spd } s j
   | .ok false=>Fa.go { q with m:=q.m.spd }
   | .ok true=>
    let r:=bl { q with m:=q.m.spd }
    if r.b=true∨r.t=true then r else lpF bl s k r.q
def invK (s:Sm) (q:Fa) (r:Bool×Int×Ms):Ro:=
 if r.1=true then ⟨true,false,{ q with m:=r.2.2 }⟩
 else if (s.x==[])=true then Fa.go { q with m:=r.2.2 }
 else asgF { q with m:=r.2.2 } s r.2.1
def invF (st:Sm→Fa→Ro) (s:Sm) (q:Fa):Ro:=match argF q.P q.m q.vs s.ar with
 | .no j=>q.brk s j
 | .ok a=>match q.P.fi s.y with
  |none=>q.brk s 4
  |some i=>
   let g:=q.P.fs.getD i.toNat ⟨[],[],[],[]⟩
   if fitB g.ps a=false then q.brk s 4
   else invK s q (calF st q.P g a q.m)
def smF (st:Sm→Fa→Ro) (s:Sm) (q:Fa):Ro:=
 if s.k=0 then match evF q.P q.m q.vs s.e with
  | .no j=>q.brk s j
  | .ok v=>asgF q s v
 else if s.k=1 then match q.P.ci s.y with
  |none=>q.brk s 4
  |some _=>Fa.go { q with vs:=mput q.vs s.x ⟨true,0,s.y⟩ }
 else if s.k=2 then Fa.go { q with vs:=mput q.vs s.x ⟨true,0,(vget q.vs s.y).s⟩ }
 else if s.k=3 then Fa.go { q with vs:=mput q.vs s.x ⟨true,0,[]⟩ }
 else if s.k=4 then match folF q s.y with
  | .no j=>q.brk s j
  | .ok i=>asgF q s (q.m.cell i)
 else if s.k=5 then match evF q.P q.m q.vs s.e with
  | .no j=>q.brk s j
  | .ok v=>match folF q s.x with
   | .no j=>q.brk s j
   | .ok i=>Fa.go { q with m:=q.m.set i v }
 else if s.k=6 then match evF q.P q.m q.vs s.e with
  | .no j=>q.brk s j
  | .ok i=>match accF q s i with
   | .no j=>q.brk s j
   | .ok k=>asgF q s ((q.m.arr k).getD i.toNat 0)
 else if s.k=7 then match evF q.P q.m q.vs s.e with
  | .no j=>q.brk s j
  | .ok i=>match evF q.P q.m q.vs s.f with
   | .no j=>q.brk s j
   | .ok v=>match accF q s i with
    | .no j=>q.brk s j
    | .ok k=>Fa.go { q with m:=q.m.put k i v }
 else if s.k=8 then invF st s q
 else if s.k=9 then match evF q.P q.m q.vs s.e with
  | .no j=>q.brk s j
  | .ok v=>⟨false,true,{ q with ret:=v }⟩
 else if s.k=10 then match cdF q.P q.m q.vs s.cd with
  | .no j=>q.brk s j
  | .ok true=>blF st s.th q
  | .ok false=>blF st s.el q
 else if s.k=12 then match cdF q.P q.m q.vs s.cd with
  | .no j=>q.brk s j
  | .ok true=>q.go
  | .ok false=>q.brk s 3
 else q.go
def stF:Nat→Sm→Fa→Ro
 |0,_,q=>⟨true,false,{ q with m:=q.m.exh }⟩
 |n+1,s,q=>
  if s.k=11 then lpF (blF (stF n) s.th) s (n+1) q
  else if q.m.out=true then ⟨true,false,{ q with m:=q.m.exh }⟩
  else smF (stF n) s { q with m:=q.m.spd }
end Go.Proofs.Ytjnnmindcbgjhab
