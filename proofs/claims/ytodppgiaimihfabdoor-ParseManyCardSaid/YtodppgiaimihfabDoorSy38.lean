/- A deferred closure. No conditions but those in each statement. -/
import Derived.Test.YtodppgiaimihfabDoorPq12
import Derived.Recover
set_option linter.unusedVariables false
set_option linter.unusedSimpArgs false
namespace Go.Sy
open Go Go.RowKit
section
variable {P:Program} {X:Ctx} {w0:World} {n:Nat}
def TriD (X:Ctx) (w0:World) (n:Nat) (c:Code) (s:St) (Qd:Exit→Act→World→Prop):Prop:=∀a w,Holds X w0 n s a w→c.wp P Qd a w
theorem td_next {a b:Code} {s:St} {Qd:Exit→Act→World→Prop} (Q:Exit→St→Prop) (sp:List (Spec P X w0)) (g:Gh) (hq:∀e s' act w,e≠.normal→Q e s'→Holds X w0 n s' act w→Qd e act w) (hp':∀ch act w,keepA X act→PanW X w0 ch w→Qd (.panic ch) act w)
  (h1:vc X w0 sp n g a s (thenQ (fun s'=>TriD (P:=P) X w0 n b s' Qd) Q)):TriD (P:=P) X w0 n (.seq a b) s Qd:=by
 intro act w hs
 refine wp_seq ?_
 refine Code.wp_mono ?_ (vc_ok sp g a s _ h1 act w hs)
 rintro e a' w' (⟨s',hq',hs'⟩|⟨ch,rfl,hk,hpan⟩)
 ·cases e with
  |normal=>exact hq' a' w' hs'
  |_=>exact hq _ s' a' w' (by simp) hq' hs'
 ·exact hp' ch a' w' hk hpan
theorem td_last {c:Code} {s:St} {Qd:Exit→Act→World→Prop} (Q:Exit→St→Prop) (sp:List (Spec P X w0)) (g:Gh) (hq:∀e s' act w,Q e s'→Holds X w0 n s' act w→Qd e act w) (hp':∀ch act w,keepA X act→PanW X w0 ch w→Qd (.panic ch) act w)
  (h1:vc X w0 sp n g c s Q):TriD (P:=P) X w0 n c s Qd:=by
 intro act w hs
 refine Code.wp_mono ?_ (vc_ok sp g c s _ h1 act w hs)
 rintro e a' w' (⟨s',hq',hs'⟩|⟨ch,rfl,hk,hpan⟩)
 ·exact hq e s' a' w' hq' hs'
 ·exact hp' ch a' w' hk hpan
theorem wp_defer {id:Nat} {o1 o2:Oper} {rest:Code} {Qd:Exit→Act→World→Prop} {a:Act} {w:World} {fid t:Nat} {caps:Array Operand} {ty:Array TypeId}
  (h1:o1.op= .makeFunc (.func fid) #[] caps) (d1:o1.dst=some t) (g1:o1.guard=none) (h2:o2.op= .defer ⟨.value (.tmp t),#[],ty⟩) (d2:o2.dst=none) (g2:o2.guard=none) (ht:t<a.tmps.size)
  (hr:rest.wp P Qd { (a.put (some t) (.func (.func fid) #[] (caps.map a.eval))) with defers:={ target:=.fn (.func fid) (caps.map a.eval),args:=#[] }::a.defers } w):(Code.seq (.region id #[o1,o2] false) rest).wp P Qd a w:=by
 refine wp_seq (wp_region ?_)
 have hl:List.range (#[o1,o2]:Array Oper).size=[0,1]:=rfl
 rw[hl]
 have w1:Region.wanted o1 (yielded #[o1,o2] a.tmps)=true:=by unfold Region.wanted;rw[g1]
 have e1:(execOp a.eval o1).run P w= .ok (.value (.func (.func fid) #[] (caps.map a.eval))) w:=by
  have hmf:∀(fn:Fn) (first cap:Array Value) (w:World),(Instr.makeFunc fn first cap).run P w= .ok (.func fn first cap) w:=fun _ _ _ _=>rfl
  simp[execOp,h1,go_sem,hmf]
 simp only[wpOps,List.getElem?_toArray,List.getElem?_cons_zero,List.getElem?_cons_succ,w1,if_true]
 left
 unfold Oper.wp
 rw[e1]
 have w2:Region.wanted o2 (yielded #[o1,o2] (a.put o1.dst (.func (.func fid) #[] (caps.map a.eval))).tmps)=true:=by unfold Region.wanted;rw[g2]
 simp only[Oper.upon,w2,if_true]
 left
 have ev:(a.put o1.dst (.func (.func fid) #[] (caps.map a.eval))).eval (.tmp t)= .func (.func fid) #[] (caps.map a.eval):=by
  rw[d1]
  simp[Act.eval,Act.put,ht]
 have df:(a.put o1.dst (.func (.func fid) #[] (caps.map a.eval))).defers=a.defers:=put_defers ..
 rw[← d1]at hr
 generalize hF:Value.func (Fn.func fid) #[] (caps.map a.eval)=F at*
 generalize hA:a.put o1.dst F=a1 at*
 have ev':a1.eval (Operand.tmp t)=F:=ev
 have e2:(execOp a1.eval o2).run P w= .ok (.defer { target:=.fn (.func fid) (caps.map a.eval),args:=#[] }) w:=by
  simp only[execOp,h2,resolve]
  rw[ev',← hF]
  simp[go_sem]
 rw[e2]
 simp only[Oper.upon,d2]
 rw[df]
 exact hr
end
end Go.Sy
namespace Go.Sy
open Go Go.RowKit
section
variable {P:Program}
theorem wpS_first {id:Nat} {ops:Array Oper} {o0:Oper} {ty:Array TypeId} {Q:Exit→Act→List Frame→World→Prop} {a:Act} {cs cs':List Frame} {w:World} {v:Value} (h0:ops[0]?=some o0) (op0:o0.op= .call ⟨.builtin .recover,#[],ty⟩) (g0:o0.guard=none)
  (hrec:(match recoverD cs with|some (v,cs')=>(v,cs')|none=>(.nilIface,cs))=(v,cs')) (hrest:wpOps P ops (fun e a w=>Q e a cs' w) (List.range' 1 (ops.size-1)) (a.put o0.dst v) w):(Code.region id ops false).wpS P Q a cs w:=by
 intro b k hb hro
 have hsz:0<ops.size:=by
  rcases Nat.eq_zero_or_pos ops.size with h|h
  ·rw[Array.getElem?_eq_none (by omega)]at h0;cases h0
  ·exact h
 have hl:List.range ops.size=0::List.range' 1 (ops.size-1):=by
  rw[List.range_eq_range']
  obtain⟨m,hm⟩:∃m,ops.size=m+1:=⟨ops.size-1,by omega⟩
  rw[hm,List.range'_succ];simp
 have hw:Region.wanted o0 (yielded ops a.tmps)=true:=by unfold Region.wanted;rw[g0]
 have hr:(execOp a.eval o0).run P w= .ok .recover w:=by
  simp[execOp,op0,resolve,go_sem]
 obtain⟨e,a',w',hq,harr⟩:=wp_ops _ (a.put o0.dst v) w hrest b k cs'
 refine⟨e,a',cs',w',hq,.of_steps (.head step_region ?_) harr⟩
 rw[hl]
 have hg:=stepG_op (P:=P) (b:=b) (k:=k) (cs:=cs) (w:=w) (rest:=List.range' 1 (ops.size-1)) h0 hw
 have hfin:∀v,(b.at a (.inRegion ops (0::List.range' 1 (ops.size-1))::k)).finish v=b.at (a.put o0.dst v) (.inRegion ops (List.range' 1 (ops.size-1))::k):=by
  intro v;rw[Frame.finish_at,h0];rfl
 have hk:(b.at a (.inRegion ops (0::List.range' 1 (ops.size-1))::k)).kind= .deferred:=hb
 have htr:=tryRecover_deferred hk cs
 refine .one (step_lone_go ?_)
 rw[hg,← hfin]
 simp only[Frame.at]at htr ⊢
 cases hd:recoverD cs with
 |none=>
  rw[hd]at hrec htr
  simp only[Prod.mk.injEq]at hrec
  obtain⟨rfl,rfl⟩:=hrec
  simp[stepG.apply,hr,htr]
 |some p=>
  rw[hd]at hrec htr
  obtain⟨v1,cs1⟩:=p
  simp only[Prod.mk.injEq]at hrec
  obtain⟨rfl,rfl⟩:=hrec
  simp[stepG.apply,hr,htr]
theorem wp_asks {ops:Array Oper} {o1:Oper} {Q:Exit→Act→World→Prop} {a:Act} {w:World} {m:Nat} {v:Value} (h1:ops[1]?=some o1) (g1:o1.guard=none) (hr:(execOp a.eval o1).run P w= .ok (.value v) w)
  (h:wpOps P ops Q (List.range' 2 m) (a.put o1.dst v) w):wpOps P ops Q (List.range' 1 (m+1)) a w:=by
 rw[List.range'_succ]
 have hw:Region.wanted o1 (yielded ops a.tmps)=true:=by unfold Region.wanted;rw[g1]
 simp only[wpOps,h1,hw,if_true]
 left
 unfold Oper.wp
 rw[hr]
 exact h
end
end Go.Sy
