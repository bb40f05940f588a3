/- Calls that may panic, in their caller's memory. No conditions but those in each statement. -/
import Derived.Test.YtlaggppdgoknjaaGreatDoorPq1
set_option linter.unusedVariables false
set_option linter.unusedSimpArgs false
namespace Go.Sy
open Go Go.RowKit
def CallsMP (P:Program) (f:FuncId) {A:Type} (args:A→List SV) (mem:A→List MV) (Cd:A→Prop) (bad:A→Bool) (res:A→SV) (mem':A→List (Option MV)):Prop:=
 ∀(a:A) (w:World) (M:Nat→Prop) (I:Nm) (lab:Lab) (fz:Nat→Prop) (xs:List Value),Cd a→AtW (mX M fz I (mem a).length) w I lab fz (lkp (memH 0 (mem a))) w→xs.length=(args a).length→
  (∀(j:Nat) (v:SV) (x:Value),(args a)[j]?=some v→xs[j]?=some x→SDen (hp w) fz lab I (lkp (memH 0 (mem a))) v x)→
  Calls P f xs.toArray w (fun en w'=>(bad a=false∧MPost w M fz I (mem a).length (mem' a) (res a) en w')∨(bad a=true∧∃ch,en= .panicked ch∧okCh ch∧∃I' lab' fz',AtW (mX M fz I (mem a).length) w I' lab' fz' (lkp (memO 0 (mem' a))) w'))
theorem at_fact {X:Ctx} {w0 w:World} {I:Nm} {lab:Lab} {fz:Nat→Prop} {H:Hp} (hA:AtW X w0 I lab fz H w) {t:Nat} (ht:H t=none) {p:Prop} (hp':p):AtW X w0 I lab fz (upd H t (.fact p)) w:=by
 refine⟨fun k ch hk=>?_,fun k ch hk=>?_,hA.own,hA.fzl,hA.fzo,hA.kept,fun q hq=>⟨?_,(hA.fix q hq).2⟩⟩
 ·by_cases e:k=t
  ·subst e;rw[upd_self]at hk;simp only[Option.some.injEq]at hk;subst hk;exact hp'
  ·rw[upd_ne _ _ e]at hk;exact hA.h k ch hk
 ·by_cases e:k=t
  ·subst e;rw[upd_self]at hk;simp only[Option.some.injEq]at hk;subst hk;intro n hn;cases hn
  ·rw[upd_ne _ _ e]at hk;exact dom_upd (hA.wf k ch hk) _ _
 ·exact dom_upd (l:=[q.1]) (by intro n hn;simp at hn;subst hn;exact(hA.fix q hq).1) _ _ q.1 (by simp)
theorem upd_e {α:Type} (f:Nat→Option α) (k:Nat) (x:α) (j:Nat):upd f k x j=if j=k then some x else f j:=rfl
theorem updH_app:∀(u v:List (Nat×Ch)) (H:Hp),updH H (u++v)=updH (updH H u) v
 |[],_,_=>rfl
 |(k,c)::u,v,H=>by simp only[List.cons_append,updH];exact updH_app u v _
theorem lenM_eq:∀{n:Nat} {m:List (Option MV)},m.length=n→lenM n m=true
 |0,[],_=>rfl
 |n+1,_::r,h=>by simp only[lenM];exact lenM_eq (by simpa using h)
theorem outC_vw {n:Nat} {f:Nat→Nat} {c:C} (h:outC n c=true):noVwC (renC f c)=true:=by
 cases c<;>first|rfl|(simp[outC]at h)
theorem outV_vw {n:Nat} {f:Nat→Nat} {v:SV} (h:outV n v=true):noVw (renV f v)=true:=by
 have key:∀{l:List C},l.all (outC n)=true→(l.map (renC f)).all noVwC=true:=by
  intro l hl
  rw[List.all_map]
  exact List.all_eq_true.2 fun c hc=>outC_vw (List.all_eq_true.1 hl c hc)
 cases v with
 |one c=>exact outC_vw h
 |agg l=>exact key h
 |tup l=>
  show (List.map _ l).all _=true
  rw[List.all_map]
  refine List.all_eq_true.2 fun p hp'=>?_
  have:=List.all_eq_true.1 h p hp'
  cases p with
  |inl c=>exact outC_vw this
  |inr l=>exact key this
def spMP (X:Ctx) {A:Type} (o:Option (A×List Nat)) (t:Nat) (H:Hp) (Cd:A→Prop) (bad:A→Bool) (res:A→SV) (mem':A→List (Option MV)):Res:=
 match o with
 |some (a,ks)=>some (Cd a∧ndB ks=true∧(bad a=true→pnO X.pn (updH H (updM H t ks (mem' a)))),⟨renV (nmM ks t) (res a),updM H t ks (mem' a)++[(t,.fact (bad a=false))]⟩,t::(ks++pnN X.pn))
 |none=>none
theorem spMP_some (X:Ctx) {A:Type} (a:A) (ks:List Nat) (t:Nat) (H:Hp) (Cd:A→Prop) (bad:A→Bool) (res:A→SV) (mem':A→List (Option MV)):spMP X (some (a,ks)) t H Cd bad res mem'=some (Cd a∧ndB ks=true∧(bad a=true→pnO X.pn (updH H (updM H t ks (mem' a)))),⟨renV (nmM ks t) (res a),updM H t ks (mem' a)++[(t,.fact (bad a=false))]⟩,t::(ks++pnN X.pn)):=rfl
theorem updM_keys (H:Hp) (t:Nat):∀(ks:List Nat) (m:List (Option MV)),m.length=ks.length→∀p∈updM H t ks m,p.1∈ks
 |[],[],_,p,hp=>by simp[updM]at hp
 |k::ks,o::m,h,p,hp=>by
  simp only[updM,List.mem_cons]at hp
  rcases hp with rfl|hp
  ·exact List.mem_cons_self ..
  ·exact List.mem_cons_of_mem _ (updM_keys H t ks m (by simpa using h) p hp)
section
variable {P:Program}
def specMP {X:Ctx} {w0:World} (f:FuncId) (call:∀(args:Array Value) (w:World),(callFunc f args).run P w= .ok (.enter f args) w) {A:Type} (am:ArgM A) (Cd:A→Prop) (bad:A→Bool) (res:A→SV) (mem':A→List (Option MV))
  (hl:∀a,Cd a→(mem' a).length=(am.mem a).length) (ho:∀a,Cd a→outV (mem' a).length (res a)=true) (hn:∀a,Cd a→∀q,some q∈mem' a→∀r∈q.2,∀c∈r,c.names=[]) (ok:CallsMP P f (am.args 0) am.mem Cd bad res mem'):Spec P X w0 where
 f:=f
 call:=call
 fn t args H:=spMP X (am.d H args) t H Cd bad res mem'
 ok w I lab fz H t args xs c e fp hA ht h hc hd hlx hx:=by
  unfold spMP at h
  split at h
  ·rename_i a ks ha
   simp only[Option.some.injEq,Prod.mk.injEq]at h
   obtain⟨rfl,rfl,rfl⟩:=h
   obtain⟨hCd,hnd,hbad⟩:=hc
   have hlen:=hl a hCd
   have hlm:lenM (am.mem a).length (mem' a)=true:=lenM_eq hlen
   obtain⟨g1,g2,g3⟩:=am.h H args a ks ha
   have htk:t∉ks:=by
    intro hm
    obtain⟨i,hi⟩:=List.mem_iff_getElem?.1 hm
    obtain⟨u,z,m,e1,_⟩:=g3 i t hi
    rw[ht]at e1;cases e1
   obtain⟨Mc,Ic,labc,hAc,hlen',hargs,key⟩:=backM am hA ht ha hnd hd hlx hx hlm (hn a hCd)
   have hget:=updM_get H t ks (mem' a) H
   rw[← g2]at hlm
   have htn:updH H (updM H t ks (mem' a)) t=none:=by
    rw[hget t hnd htk hlm]
    have hp':pos ks t=none:=by
     cases hp':pos ks t with
     |none=>rfl
     |some j=>exact absurd (List.mem_of_getElem? (pos_get hp')) htk
    rw[hp',List.getElem?_eq_none (by omega:(mem' a).length≤ks.length)]
    simp[ht]
   refine(ok a w Mc Ic labc fz xs hCd hAc hlen' hargs).mono ?_
   rintro en w' (⟨hb,hm⟩|⟨hb,ch,rfl,hch,I',lab',fz',hB⟩)
   ·obtain⟨x,rfl,I2,lab2,fz2,q1,q2,q3⟩:=key (res a) (ho a hCd) en w' hm
    refine .inl ⟨x,rfl,I2,lab2,fz2,?_,fun s hs=>?_,q3.z,q3.n,fun k u p y hk hv=>?_⟩
    ·rw[updH_app];exact at_fact q1 htn hb
    ·simp only[Option.some.injEq]at hs
     subst hs
     exact sd_noVw (outV_vw (ho a hCd)) (q2 _ rfl)
    ·have hkt:k≠t:=by rintro rfl;rw[ht]at hk;cases hk
     have h0:=q3.w k u p y hk hv
     refine⟨h0.1,fun u' z es hk'=>h0.2 u' z es ?_⟩
     rw[updH_app]at hk'
     simpa only[updH,upd_ne _ _ hkt] using hk'
   ·obtain⟨x,_,I2,lab2,fz2,q1,_,_⟩:=key (.one (.v (.bool false))) rfl (.returned (.bool false)) w' ⟨.bool false,I',lab',fz',rfl,hB,sd_v rfl⟩
    exact .inr ⟨ch,rfl,hch,I2,lab2,fz2,_,q1,hbad hb⟩
  ·cases h
 dom t args H c e fp ht hc h hd:=by
  unfold spMP at h
  split at h
  ·rename_i a ks ha
   simp only[Option.some.injEq,Prod.mk.injEq]at h
   obtain⟨rfl,rfl,rfl⟩:=h
   obtain⟨hCd,hnd,_⟩:=hc
   obtain⟨g1,g2,g3⟩:=am.h H args a ks ha
   have hlen:=hl a hCd
   have hlm:lenM ks.length (mem' a)=true:=lenM_eq (by omega)
   have htk:t∉ks:=by
    intro hm
    obtain⟨i,hi⟩:=List.mem_iff_getElem?.1 hm
    obtain⟨u,z,m,e1,_⟩:=g3 i t hi
    rw[ht]at e1;cases e1
   refine⟨fun k hk=>?_,fun p hp'=>?_⟩
   ·obtain⟨i,hi,rfl⟩:=renV_names (ho a hCd) hk
    have h1:i<ks.length:=by omega
    have hk:ks[i]?=some ks[i]:=List.getElem?_eq_getElem h1
    have e1:nmM ks t i=ks[i]:=by simp only[nmM,hk,Option.getD_some]
    rw[updH_app]
    refine dom_upd (l:=[nmM ks t i]) (fun n hn'=>?_) _ _ _ (by simp)
    simp only[List.mem_singleton]at hn'
    subst hn'
    rw[updM_get H t ks (mem' a) H _ hnd htk hlm,e1,pos_of hnd hk];rfl
   ·rcases List.mem_append.1 hp' with hp'|hp'
    ·exact List.mem_cons_of_mem _ (List.mem_append_left _ (updM_keys H t ks _ (by omega) p hp'))
    ·simp only[List.mem_singleton]at hp';subst hp';exact List.mem_cons_self ..
  ·cases h
 loc t args H H' c e fp h hf:=by
  unfold spMP at h ⊢
  split at h
  ·rename_i a ks ha
   simp only[Option.some.injEq,Prod.mk.injEq]at h
   obtain⟨rfl,rfl,rfl⟩:=h
   have h1:=am.l H H' args a ks ha fun k hk=>hf k (List.mem_cons_of_mem _ (List.mem_append_left _ hk))
   rw[h1]
   have h2:∀(ks:List Nat) (m:List (Option MV)),(∀k∈ks,H' k=H k)→updM H' t ks m=updM H t ks m:=by
    intro ks
    induction ks with
    |nil=>intro m _;match m with
     |[]=>rfl
     |none::_=>rfl
     |some _::_=>rfl
    |cons k r ih=>
     intro m hk
     match m with
     |[]=>rfl
     |o::m=>simp only[updM];rw[hk k (List.mem_cons_self ..),ih m fun j hj=>hk j (List.mem_cons_of_mem _ hj)]
   have h3:=h2 ks (mem' a) fun k hk=>hf k (List.mem_cons_of_mem _ (List.mem_append_left _ hk))
   have h4:pnO X.pn (updH H' (updM H t ks (mem' a)))=pnO X.pn (updH H (updM H t ks (mem' a))):=pnO_congr fun k hk=>updH_agree _ (hf k (List.mem_cons_of_mem _ (List.mem_append_right _ hk)))
   simp only[h3,h4]
  ·cases h
theorem specMP_f {X:Ctx} {w0:World} {A:Type} (f call) (am:ArgM A) (Cd bad res mem' hl ho hn ok):(specMP (P:=P) (X:=X) (w0:=w0) f call am Cd bad res mem' hl ho hn ok).f=f:=rfl
theorem specMP_fn {X:Ctx} {w0:World} {A:Type} (f call) (am:ArgM A) (Cd bad res mem' hl ho hn ok) (t:Nat) (args:List SV) (H:Hp):(specMP (P:=P) (X:=X) (w0:=w0) f call am Cd bad res mem' hl ho hn ok).fn t args H=spMP X (am.d H args) t H Cd bad res mem':=rfl
end
end Go.Sy
