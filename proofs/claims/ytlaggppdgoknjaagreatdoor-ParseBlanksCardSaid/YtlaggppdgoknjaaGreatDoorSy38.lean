/- A deferred closure. No conditions but those in each statement. -/
import Derived.Test.YtlaggppdgoknjaaGreatDoorPq12
import Derived.Recover
import Derived.Test.YtlaggppdgoknjaaGreatDoorSo
set_option linter.unusedVariables false
set_option linter.unusedSimpArgs false
namespace Go.Sy
open Go Go.RowKit
section
variable {P:Program} {X:Ctx} {w0:World} {n:Nat}
def TriD (X:Ctx) (w0:World) (n:Nat) (c:Code) (s:St) (Qd:Exit→Act→World→Prop):Prop:=∀a w,Holds X w0 n s a w→c.wp P Qd a w
theorem td_next {a b:Code} {s:St} {Qd:Exit→Act→World→Prop} (Q:Exit→St→Prop) (sp:List (Spec P X w0)) (g:Gh) (hq:∀e s' act w,e≠.normal→Q e s'→Holds X w0 n s' act w→Qd e act w) (hp':∀ch act w,keepA X act→PanW X w0 ch w→Qd (.panic ch) act w)
  (h1:vc X w0 sp n g a s (thenQ (fun s'=>TriD (P:=P) X w0 n b s' Qd) Q)):TriD (P:=P) X w0 n (.seq a b) s Qd:=by
 intro act w hs
 refine wp_seq ?_
 refine Code.wp_mono ?_ (vc_ok sp g a s _ h1 act w hs)
 rintro e a' w' (⟨s',hq',hs'⟩|⟨ch,rfl,hk,hpan⟩)
 ·cases e with
  |normal=>exact hq' a' w' hs'
  |_=>exact hq _ s' a' w' (by simp) hq' hs'
 ·exact hp' ch a' w' hk hpan
theorem td_last {c:Code} {s:St} {Qd:Exit→Act→World→Prop} (Q:Exit→St→Prop) (sp:List (Spec P X w0)) (g:Gh) (hq:∀e s' act w,Q e s'→Holds X w0 n s' act w→Qd e act w) (hp':∀ch act w,keepA X act→PanW X w0 ch w→Qd (.panic ch) act w)
  (h1:vc X w0 sp n g c s Q):TriD (P:=P) X w0 n c s Qd:=by
 intro act w hs
 refine Code.wp_mono ?_ (vc_ok sp g c s _ h1 act w hs)
 rintro e a' w' (⟨s',hq',hs'⟩|⟨ch,rfl,hk,hpan⟩)
 ·exact hq e s' a' w' hq' hs'
 ·exact hp' ch a' w' hk hpan
theorem wp_defer {id:Nat} {o1 o2:Oper} {rest:Code} {Qd:Exit→Act→World→Prop} {a:Act} {w:World} {fid t:Nat} {caps:Array Operand} {ty:Array TypeId}
  (h1:o1.op= .makeFunc (.func fid) #[] caps) (d1:o1.dst=some t) (g1:o1.guard=none) (h2:o2.op= .defer ⟨.value (.tmp t),#[],ty⟩) (d2:o2.dst=none) (g2:o2.guard=none) (ht:t<a.tmps.size)
  (hr:rest.wp P Qd { (a.put (some t) (.func (.func fid) #[] (caps.map a.eval))) with defers:={ target:=.fn (.func fid) (caps.map a.eval),args:=#[] }::a.defers } w):(Code.seq (.region id #[o1,o2] false) rest).wp P Qd a w:=by
 refine wp_seq (wp_region ?_)
 have hl:List.range (#[o1,o2]:Array Oper).size=[0,1]:=rfl
 rw[hl]
 have w1:Region.wanted o1 (yielded #[o1,o2] a.tmps)=true:=by unfold Region.wanted;rw[g1]
 have e1:(execOp a.eval o1).run P w= .ok (.value (.func (.func fid) #[] (caps.map a.eval))) w:=by
  have hmf:∀(fn:Fn) (first cap:Array Value) (w:World),(Instr.makeFunc fn first cap).run P w= .ok (.func fn first cap) w:=fun _ _ _ _=>rfl
  simp[execOp,h1,go_sem,hmf]
 simp only[wpOps,List.getElem?_toArray,List.getElem?_cons_zero,List.getElem?_cons_succ,w1,if_true]
 left
 unfold Oper.wp
 rw[e1]
 have w2:Region.wanted o2 (yielded #[o1,o2] (a.put o1.dst (.func (.func fid) #[] (caps.map a.eval))).tmps)=true:=by unfold Region.wanted;rw[g2]
 simp only[Oper.upon,w2,if_true]
 left
 have ev:(a.put o1.dst (.func (.func fid) #[] (caps.map a.eval))).eval (.tmp t)= .func (.func fid) #[] (caps.map a.eval):=by
  rw[d1]
  simp[Act.eval,Act.put,ht]
 have df:(a.put o1.dst (.func (.func fid) #[] (caps.map a.eval))).defers=a.defers:=put_defers ..
 rw[← d1]at hr
 generalize hF:Value.func (Fn.func fid) #[] (caps.map a.eval)=F at*
 generalize hA:a.put o1.dst F=a1 at*
 have ev':a1.eval (Operand.tmp t)=F:=ev
 have e2:(execOp a1.eval o2).run P w= .ok (.defer { target:=.fn (.func fid) (caps.map a.eval),args:=#[] }) w:=by
  simp only[execOp,h2,resolve]
  rw[ev',← hF]
  simp[go_sem]
 rw[e2]
 simp only[Oper.upon,d2]
 rw[df]
 exact hr
end
end Go.Sy
namespace Go.Sy
open Go Go.RowKit
section
variable {P:Program}
theorem wpS_first {id:Nat} {ops:Array Oper} {o0:Oper} {ty:Array TypeId} {Q:Exit→Act→List Frame→World→Prop} {a:Act} {cs cs':List Frame} {w:World} {v:Value} (h0:ops[0]?=some o0) (op0:o0.op= .call ⟨.builtin .recover,#[],ty⟩) (g0:o0.guard=none)
  (hrec:(match recoverD cs with|some (v,cs')=>(v,cs')|none=>(.nilIface,cs))=(v,cs')) (hrest:wpOps P ops (fun e a w=>Q e a cs' w) (List.range' 1 (ops.size-1)) (a.put o0.dst v) w):(Code.region id ops false).wpS P Q a cs w:=by
 intro b k hb hro
 have hsz:0<ops.size:=by
  rcases Nat.eq_zero_or_pos ops.size with h|h
  ·rw[Array.getElem?_eq_none (by omega)]at h0;cases h0
  ·exact h
 have hl:List.range ops.size=0::List.range' 1 (ops.size-1):=by
  rw[List.range_eq_range']
  obtain⟨m,hm⟩:∃m,ops.size=m+1:=⟨ops.size-1,by omega⟩
  rw[hm,List.range'_succ];simp
 have hw:Region.wanted o0 (yielded ops a.tmps)=true:=by unfold Region.wanted;rw[g0]
 have hr:(execOp a.eval o0).run P w= .ok .recover w:=by
  simp[execOp,op0,resolve,go_sem]
 obtain⟨e,a',w',hq,harr⟩:=wp_ops _ (a.put o0.dst v) w hrest b k cs'
 refine⟨e,a',cs',w',hq,.of_steps (.head step_region ?_) harr⟩
 rw[hl]
 have hg:=stepG_op (P:=P) (b:=b) (k:=k) (cs:=cs) (w:=w) (rest:=List.range' 1 (ops.size-1)) h0 hw
 have hfin:∀v,(b.at a (.inRegion ops (0::List.range' 1 (ops.size-1))::k)).finish v=b.at (a.put o0.dst v) (.inRegion ops (List.range' 1 (ops.size-1))::k):=by
  intro v;rw[Frame.finish_at,h0];rfl
 have hk:(b.at a (.inRegion ops (0::List.range' 1 (ops.size-1))::k)).kind= .deferred:=hb
 have htr:=tryRecover_deferred hk cs
 refine .one (step_lone_go ?_)
 rw[hg,← hfin]
 simp only[Frame.at]at htr ⊢
 cases hd:recoverD cs with
 |none=>
  rw[hd]at hrec htr
  simp only[Prod.mk.injEq]at hrec
  obtain⟨rfl,rfl⟩:=hrec
  simp[stepG.apply,hr,htr]
 |some p=>
  rw[hd]at hrec htr
  obtain⟨v1,cs1⟩:=p
  simp only[Prod.mk.injEq]at hrec
  obtain⟨rfl,rfl⟩:=hrec
  simp[stepG.apply,hr,htr]
theorem wp_asks {ops:Array Oper} {o1:Oper} {Q:Exit→Act→World→Prop} {a:Act} {w:World} {m:Nat} {v:Value} (h1:ops[1]?=some o1) (g1:o1.guard=none) (hr:(execOp a.eval o1).run P w= .ok (.value v) w)
  (h:wpOps P ops Q (List.range' 2 m) (a.put o1.dst v) w):wpOps P ops Q (List.range' 1 (m+1)) a w:=by
 rw[List.range'_succ]
 have hw:Region.wanted o1 (yielded ops a.tmps)=true:=by unfold Region.wanted;rw[g1]
 simp only[wpOps,h1,hw,if_true]
 left
 unfold Oper.wp
 rw[hr]
 exact h
end
end Go.Sy
namespace Go.Sy
open Go Go.RowKit
section
variable {P:Program} {X:Ctx} {w0:World} {n:Nat}
theorem den_p {h:Heap} {fz:Nat→Prop} {lab:Lab} {I:Nm} {H:Hp} {k i j:Nat} {x:Value} (r:SDen h fz lab I H (.one (.p k i j)) x):x=(I k).p i j:=by
 have h2:=r.2
 cases h2
 rfl
theorem holds_defer {s:St} {a:Act} {w:World} (h:Holds X w0 n s a w) {t:Nat} (ht:lkp s.e t=none) (sl:List (Nat×Nat)) (hs:∀p∈sl,lkp s.e p.1=some (true,.one (.p p.2 0 0))∧p.1≠t) (ns:List Nat) (hn:∀k∈ns,(lkp s.h k).isSome=true) (pn:Option (List (Nat×List C×List (List C)))) :
  ∃I:Nm,a.tmps.size=n∧(∀p∈sl,a.tmps[p.1]?=some ((I p.2).p 0 0))∧∀(F:Value) (df:List Deferred),Holds ⟨X.M,X.Z,ns.map fun k=>(k,I k),pn,df,sl.map fun p=>(p.1,(I p.2).p 0 0)⟩ w0 n s { (a.put (some t) F) with defers:=df } w:=by
 obtain⟨hW,I,lab,fz,hA⟩:=h
 have hsl:∀p∈sl,a.tmps[p.1]?=some ((I p.2).p 0 0):=by
  intro p hp
  obtain⟨h1,h2⟩:=hs p hp
  obtain⟨x,hx,hd⟩:=hA.e p.1 true _ h1
  simp only[if_true]at hd
  rw[hx,den_p hd]
 have hput:∀(F:Value) (j:Nat),j≠t→(a.put (some t) F).tmps[j]?=a.tmps[j]?:=by
  intro F j hj
  simp only[Act.put]
  rw[Array.getElem?_setIfInBounds,if_neg (Ne.symm hj)]
 refine⟨I,hA.n,hsl,fun F df=>⟨hW,I,lab,fz,by rw[← hA.n];exact put_size a (some t) F,⟨rfl,fun p hp=>?_⟩,fun j g v hj=>?_,⟨hA.m.h,hA.m.wf,hA.m.own,hA.m.fzl,hA.m.fzo,hA.m.kept,fun p hp=>?_⟩⟩⟩
 ·obtain⟨q,hq,rfl⟩:=List.mem_map.1 hp
  show (a.put (some t) F).tmps[q.1]?=_
  rw[hput F _ (hs q hq).2]
  exact hsl q hq
 ·have hjt:j≠t:=by rintro rfl;rw[ht]at hj;cases hj
  obtain⟨x,hx,hd⟩:=hA.e j g v hj
  exact⟨x,by show (a.put (some t) F).tmps[j]?=_;rw[hput F _ hjt];exact hx,hd⟩
 ·obtain⟨k,hk,rfl⟩:=List.mem_map.1 hp
  exact⟨hn k hk,rfl⟩
def pnH (l:List (Nat×List C×List (List C))):List (Nat×Ch):=l.map fun p=>(p.1,.vec 0 p.2.1 p.2.2)
theorem pnH_mem:∀{l:List (Nat×List C×List (List C))} {k:Nat} {ch:Ch},lkp (pnH l) k=some ch→∃z es,(k,z,es)∈l∧ch= .vec 0 z es
 |[],k,ch,h=>by simp[pnH,lkp]at h
 |(k0,z,es)::r,k,ch,h=>by
  simp only[pnH,List.map_cons,lkp]at h
  split at h
  ·rename_i e
   simp only[Option.some.injEq]at h
   exact⟨z,es,by rw[e];exact List.mem_cons_self ..,h.symm⟩
  ·obtain⟨z',es',h1,h2⟩:=pnH_mem (l:=r) h
   exact⟨z',es',List.mem_cons_of_mem _ h1,h2⟩
theorem pnH_some:∀{l:List (Nat×List C×List (List C))} {k:Nat},k∈l.map (·.1)→(lkp (pnH l) k).isSome=true
 |[],k,h=>by cases h
 |(k0,z,es)::r,k,h=>by
  simp only[pnH,List.map_cons,lkp]
  split
  ·rfl
  ·rename_i e
   rcases List.mem_cons.1 h with h|h
   ·exact absurd h e
   ·exact pnH_some (l:=r) h
theorem at_pn {I:Nm} {lab:Lab} {fz:Nat→Prop} {H:Hp} {w:World} (hA:AtW X w0 I lab fz H w) (l:List (Nat×List C×List (List C))) (hl:pnAll l H) (hc:∀p∈l,∀r∈p.2.2,∀c∈r,∀k∈c.names,k∈l.map (·.1)) (hF:∀p∈X.F,p.1∈l.map (·.1)):AtW X w0 I lab fz (lkp (pnH l)) w:=by
 refine⟨fun k ch hk=>?_,fun k ch hk=>?_,hA.own,hA.fzl,hA.fzo,hA.kept,fun p hp=>⟨pnH_some (hF p hp),(hA.fix p hp).2⟩⟩
 ·obtain⟨z,es,h1,rfl⟩:=pnH_mem hk
  have h2:=pnAll_mem hl h1
  cases hH:H k with
  |none=>rw[hH]at h2;exact h2.elim
  |some ch0=>
  rw[hH]at h2
  cases ch0 with
  |dead=>exact h2.elim
  |mp=>exact h2.elim
  |fact=>exact h2.elim
  |vec u z' es'=>
  obtain⟨hz,hw⟩:=h2
  dsimp only at hz hw
  obtain⟨c1,c2,c3⟩:=hA.h k _ hH
  exact⟨c1,by rw[c2,← hz],by rw[← hz];exact vec_weak c3 (wkL_weak hw)⟩
 ·obtain⟨z,es,h1,rfl⟩:=pnH_mem hk
  intro m hm
  obtain⟨r,hr,hm⟩:=List.mem_flatMap.1 hm
  obtain⟨c,hcr,hm⟩:=List.mem_flatMap.1 hm
  exact pnH_some (hc _ h1 r hr c hcr m hm)
theorem dpost_of {fz0:Nat→Prop} {I:Nm} {lab:Lab} {fz:Nat→Prop} {H:Hp} {w:World} {v:SV} {x:Value} {R:SV→Prop} (hM:X.M=fun _=>False) (hZ:X.Z=fz0) (h0:∀b,fz0 b→b<w0.heap.size) (hA:AtW X w0 I lab fz H w) (hv:SDen (hp w) fz lab I H v x) (hn:v.names=[]) (hR:R v):DPost w0 fz0 R (.returned x) w:=by
 refine⟨v,x,fun b=>fz b∨fz0 b,rfl,hR,hn,fun b hb=>.inr hb,fun b hb=>?_,fun b hb=>?_,sd_closed (fun b hb=>⟨.inl hb,rfl⟩) hn hv,hA.kept.below (fun _ _ hf=>by rw[hM]at hf;exact hf)⟩
 ·rcases hb with hb|hb
  ·rcases hA.fzo b hb with h|h|h
   ·rw[hZ]at h;exact .inl h
   ·exact .inr h
   ·rw[hM]at h;exact h.elim
  ·exact .inl hb
 ·rcases hb with hb|hb
  ·exact(hA.fzl b hb).1
  ·exact Nat.lt_of_lt_of_le (h0 b hb) hA.kept.size
theorem results_at {I:Nm} {lab:Lab} {fz:Nat→Prop} {s:St} {tmps:Array Value} {w:World} {fn:Func} {vs:List SV} (hA:AtW X w0 I lab fz (lkp s.h) w) (he:∀j g v,lkp s.e j=some (g,v)→g=true∧∃k,v= .one (.p k 0 0)∧tmps[j]?=some ((I k).p 0 0)) (h:resAll P s fn.results.toList=some vs) (ht:noTup vs=true) :
  ∃x,(results fn tmps).run P w= .ok x w∧SDen (hp w) fz lab I (lkp s.h) (resV vs) x:=by
 have hA':At ⟨X.M,X.Z,X.F,X.pn,[],[]⟩ w0 tmps.size I lab fz (lkp s.e) (lkp s.h) { tmps:=tmps,defers:=[] } w:=by
  refine⟨rfl,⟨rfl,fun p hp=>by cases hp⟩,fun j g v hj=>?_,⟨hA.h,hA.wf,hA.own,hA.fzl,hA.fzo,hA.kept,hA.fix⟩⟩
  obtain⟨rfl,k,rfl,hx⟩:=he j g v hj
  exact⟨_,hx,rfl,.p _ _ _ _⟩
 exact results_ok hA' h ht
theorem ret_at {fz0:Nat→Prop} {s:St} {a:Act} {w:World} {fn:Func} {v:SV} (hM:X.M=fun _=>False) (hZ:X.Z=fz0) (h0:∀b,fz0 b→b<w0.heap.size) (h:RetP P X fn.results.toList (RESL v) s) (hs:Holds X w0 n s a w):∃x,(results fn a.tmps).run P w= .ok x w∧DPost w0 fz0 (fun u=>leV u v) (.returned x) w:=by
 obtain⟨cs,s',vs,h1,h2,h3,h4,h5⟩:=h
 obtain⟨_,I,lab,fz',hA⟩:=runCs_ent h1 a w hs
 obtain⟨x,x1,x2⟩:=results_ok hA h2 h3
 exact⟨x,x1,dpost_of hM hZ h0 hA.m x2 h4 h5⟩
theorem td_to {c:Code} {s t:St} {Qd:Exit→Act→World→Prop} (hs:To X s t) (h:TriD (P:=P) X w0 n c t Qd):TriD (P:=P) X w0 n c s Qd:=fun a w hh=>h a w (hs w0 n a w hh)
theorem calls_td {f:FuncId} {fn:Func} {c:Code} (hf:P.funcs[f]?=some fn) (hb:fn.body=some c) (w:World) (fz:Nat→Prop) {A:Type} (ac:ArgC A) (F:A→SV) (a:A) (xs:List Value) (hfz:∀b,fz b→b<w.heap.size) (hlen:xs.length=(ac.e a).length)
  (hx:∀(j:Nat) (v:SV) (x:Value),(ac.e a)[j]?=some v→xs[j]?=some x→CD (hp w) fz v x) (hn:(ac.e a).length≤fn.ntmps)
  (h:TriD (P:=P) (clX fz) w fn.ntmps c ⟨argE 0 (ac.e a),[]⟩ (bodyPostD P fn (DPost w fz (fun u=>leV u (F a))))):Calls P f xs.toArray w (DPost w fz (fun v=>v=F a)):=by
 refine(calls_of_wp_defers (R:=DPost w fz (fun u=>leV u (F a))) hf hb (h _ w ?_)).mono fun _ _ h=>dpost_le h
 have hnm:=ac.n a
 have hE0:∀t g v,lkp (argE 0 (ac.e a)) t=some (g,v)→g=true∧(ac.e a)[t]?=some v:=by
  intro t g v ht
  rw[argE_lkp]at ht
  simp only[Nat.zero_le,if_true,Nat.sub_zero,Option.map_eq_some_iff,Prod.mk.injEq]at ht
  obtain⟨u,hu,rfl,rfl⟩:=ht
  exact⟨rfl,hu⟩
 refine⟨?_,nm0,fun _=>none,fz,?_,⟨rfl,fun p hp=>by cases hp⟩,?_,⟨?_,?_,?_,fun b hb=>⟨hfz b hb,rfl⟩,fun b hb=>.inl hb,Kept.refl _ _,by intro p hp;cases hp⟩⟩
 ·intro t g v ht _
  have:=(hE0 t g v ht).2
  rw[hnm v (List.mem_of_getElem? this)]
  intro k hk;cases hk
 ·simp[hlen];omega
 ·intro t g v ht
  obtain⟨rfl,hv⟩:=hE0 t g v ht
  have hlt:t<(ac.e a).length:=(List.getElem?_eq_some_iff.1 hv).1
  have hlt2:t<xs.length:=by omega
  refine⟨xs[t],?_,?_⟩
  ·rw[Array.getElem?_append_left (by simpa using hlt2)]
   simp[hlt2]
  ·simp only[if_true]
   exact sd_closed (fun b hb=>⟨hb,rfl⟩) (hnm v (List.mem_of_getElem? hv)) (hx t v _ hv (List.getElem?_eq_getElem hlt2))
 ·intro k ch hk;simp[lkp]at hk
 ·intro k ch hk;simp[lkp]at hk
 ·intro b π hb;cases hb
end
end Go.Sy
namespace Go.Sy
open Go Go.RowKit
def anyM (m:MV):MV:=(m.1,m.2.map fun r=>r.map fun _=>C.any)
def offA (b:Bool) (l:List MV):List (Option MV):=l.map fun m=>some (if b=true then anyM m else m)
theorem offA_n (b:Bool):offA b []=[]:=rfl
theorem offA_t (z:List C) (es:List (List C)) (r:List MV):offA true ((z,es)::r)=some (z,es.map fun r=>r.map fun _=>C.any)::offA true r:=rfl
theorem offA_f (m:MV) (r:List MV):offA false (m::r)=some m::offA false r:=rfl
theorem offA_len (b:Bool) (l:List MV):(offA b l).length=l.length:=by simp[offA]
theorem offA_nm {l:List MV} {q:MV} (h:some q∈offA true l):∀r∈q.2,∀c∈r,c.names=[]:=by
 obtain⟨m,_,e⟩:=List.mem_map.1 h
 simp only[if_true,Option.some.injEq]at e
 subst e
 intro r hr c hc
 obtain⟨r',_,rfl⟩:=List.mem_map.1 hr
 obtain⟨c',_,rfl⟩:=List.mem_map.1 hc
 rfl
section
variable {P:Program}
theorem calls_toMA {f:FuncId} {fn:Func} {c:Code} (hf:P.funcs[f]?=some fn) (hb:fn.body=some c) (ms:List MV) (w:World) (M:Nat→Prop) (I:Nm) (lab:Lab) (fz:Nat→Prop) (bad:Bool) (q:MV) (l:List MV) (sp:List (Spec P (mXL M fz I ms.length bad (some q::offA true l)) w)) (g:Gh) (args:List SV) (R:SV)
  (xs:List Value) (hA:AtW (mX M fz I ms.length) w I lab fz (lkp (memH 0 ms)) w) (hlen:xs.length=args.length) (hx:∀(j:Nat) (v:SV) (x:Value),args[j]?=some v→xs[j]?=some x→SDen (hp w) fz lab I (lkp (memH 0 ms)) v x)
  (hnm:∀v∈args,∀k∈v.names,k<ms.length) (hn:args.length≤fn.ntmps) (hml:l.length+1=ms.length) (hq:∀r∈q.2,∀c∈r,c.names=[])
  (h:vc (mXL M fz I ms.length bad (some q::offA true l)) w sp fn.ntmps g c ⟨argE 0 args,memH 0 ms⟩ (retQ P (mXL M fz I ms.length bad (some q::offA true l)) fn.results.toList (RESMP bad R (some q::offA bad l)))) :
  Calls P f xs.toArray w (fun en w'=>(bad=false∧MPost w M fz I ms.length (some q::offA bad l) R en w')∨(bad=true∧∃ch,en= .panicked ch∧okCh ch∧∃I' lab' fz',AtW (mX M fz I ms.length) w I' lab' fz' (lkp (memO 0 (some q::offA bad l))) w')):=by
 refine calls_of_wp hf hb (Code.wp_mono ?_ (vc_ok sp g c _ _ h _ w ?_))
 ·rintro e a w' (⟨s,hq',hs⟩|⟨ch,rfl,hd,hch,I1,l1,f1,H1,hA1,hpn⟩)
  ·have fin:RetP P (mXL M fz I ms.length bad (some q::offA true l)) fn.results.toList (RESMP bad R (some q::offA bad l)) s→a.defers=[]∧∃v,(results fn a.tmps).run P w'= .ok v w'∧((bad=false∧MPost w M fz I ms.length (some q::offA bad l) R (Ending.returned v) w')∨(bad=true∧∃ch,Ending.returned v= .panicked ch∧okCh ch∧∃I' lab' fz',AtW (mX M fz I ms.length) w I' lab' fz' (lkp (memO 0 (some q::offA bad l))) w')):=by
    rintro ⟨cs,s',vs,h1,h2,h3,h0,h4,h5,h6⟩
    refine⟨hs.defers,?_⟩
    obtain⟨_,I',lab',fz',hA'⟩:=runCs_ent h1 a w' hs
    obtain⟨x,x1,x2⟩:=results_ok hA' h2 h3
    refine⟨x,x1,.inl ⟨h0,x,I',lab',fz',rfl,at_sub (at_ctx (X:=mXL M fz I ms.length bad (some q::offA true l)) (X':=mX M fz I ms.length) rfl rfl rfl hA'.m) h6 (fun p hp'=>?_),sd_le h4 (sd_noVw h5 x2)⟩⟩
    obtain⟨q1,q2,_⟩:=mem_memF hp'
    exact memO_keys _ _ _ q1 (by rw[List.length_cons,offA_len,hml];simpa using q2)
   cases e with
   |normal=>exact fin hq'
   |ret=>exact fin hq'
   |_=>exact hq'.elim
  ·have hbt:bad=true:=by
    cases bad with
    |true=>rfl
    |false=>exact hpn.elim
   subst hbt
   have hpa:∀k q',(some q::offA true l)[k]?=some (some q')→pn1 (H1 k) q'.1 q'.2:=fun k q' hk=>pnAll_mem (show pnAll (pnL 0 (some q::offA true l)) H1 from hpn) (by simpa using pnL_mem (some q::offA true l) 0 k q' hk)
   refine⟨hd.1,.inr ⟨rfl,ch,rfl,hch,I1,l1,f1,?_,?_,hA1.own,hA1.fzl,hA1.fzo,hA1.kept,fun p hp'=>⟨?_,(hA1.fix p hp').2⟩⟩⟩
   ·intro k ch hk2
    rw[lkp_mem0]at hk2
    simp only[Option.map_eq_some_iff]at hk2
    obtain⟨o,ho,rfl⟩:=hk2
    cases o with
    |none=>exact trivial
    |some q'=>
     have hk0:=hpa k q' ho
     cases hk:H1 k with
     |none=>rw[hk]at hk0;exact hk0.elim
     |some ch0=>
     rw[hk]at hk0
     cases ch0 with
     |dead=>exact hk0.elim
     |mp=>exact hk0.elim
     |fact=>exact hk0.elim
     |vec u z es=>
     obtain⟨hz,hw⟩:=hk0
     obtain⟨c1,c2,c3⟩:=hA1.h k _ hk
     exact⟨c1,by rw[c2,← hz],by rw[← hz];exact vec_weak c3 (wkL_weak hw)⟩
   ·intro k ch hk2 n hn'
    rw[lkp_mem0]at hk2
    simp only[Option.map_eq_some_iff]at hk2
    obtain⟨o,ho,rfl⟩:=hk2
    cases o with
    |none=>cases hn'
    |some q'=>
     obtain⟨r,hr,hn'⟩:=List.mem_flatMap.1 hn'
     obtain⟨c,hc,hn'⟩:=List.mem_flatMap.1 hn'
     rcases List.mem_cons.1 (List.mem_of_getElem? ho) with e|hm
     ·simp only[Option.some.injEq]at e
      subst e
      rw[hq r hr c hc]at hn';cases hn'
     ·rw[offA_nm hm r hr c hc]at hn';cases hn'
   ·obtain⟨q1,q2,_⟩:=mem_memF hp'
    rw[lkp_mem0]
    have hl0:(some q::offA true l).length=ms.length:=by rw[List.length_cons,offA_len,hml]
    have:p.1<(some q::offA true l).length:=by omega
    rw[List.getElem?_eq_getElem this];rfl
 ·refine⟨?_,I,lab,fz,?_,⟨rfl,fun p hp=>by cases hp⟩,?_,at_ctx (X:=mX M fz I ms.length) (X':=mXL M fz I ms.length bad (some q::offA true l)) rfl rfl rfl hA⟩
  ·intro t g v ht _ k hk
   rw[argE_lkp]at ht
   simp only[Nat.zero_le,if_true,Nat.sub_zero,Option.map_eq_some_iff,Prod.mk.injEq]at ht
   obtain⟨u,hu,rfl,rfl⟩:=ht
   have:=hnm u (List.mem_of_getElem? hu) k hk
   show (lkp (memH 0 ms) k).isSome=true
   rw[memH,lkp_mem0]
   simp[this]
  ·simp[hlen];omega
  ·intro t g v ht
   rw[argE_lkp]at ht
   simp only[Nat.zero_le,if_true,Nat.sub_zero,Option.map_eq_some_iff,Prod.mk.injEq]at ht
   obtain⟨u,hu,rfl,rfl⟩:=ht
   have hlt:t<args.length:=(List.getElem?_eq_some_iff.1 hu).1
   have hlt2:t<xs.length:=by omega
   refine⟨xs[t],?_,?_⟩
   ·rw[Array.getElem?_append_left (by simpa using hlt2)]
    simp[hlt2]
   ·simp only[if_true]
    exact hx t u _ hu (List.getElem?_eq_getElem hlt2)
end
attribute [go_sem] offA_n offA_t offA_f pnOL_t pnOL_f pnL_some pnL_none pnL_nil
end Go.Sy
