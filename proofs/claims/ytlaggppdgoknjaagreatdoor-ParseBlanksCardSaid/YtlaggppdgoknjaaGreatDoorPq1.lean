/- The tokens of a text: signs and words begin with no digit, numbers are digits that fit. No conditions but those in each statement. -/
import Derived.Test.YtlaggppdgoknjaaGreatDoorLe4
import Derived.Test.YtlaggppdgoknjaaGreatDoorMi1
import Derived.Lib.ParseIntBTie
import Derived.Test.YtlaggppdgoknjaaGreatDoorSy28
set_option linter.unusedVariables false
set_option linter.unusedSimpArgs false
namespace Go.Proofs.YtlaggppdgoknjaaGreatDoor
open Go Go.Sy Go.RowKit
def sgT (t:List UInt8):Bool:=match t with
 |[]=>false
 |b::_=>!digB (b.toNat:Int)
structure NumT (t:List UInt8):Prop where
 ne:t≠[]
 d:∀b∈t,dig b
 v:val t 0≤9223372036854775807
def tkO (x:Tok):Prop:=(x.k=1→NumT x.t)∧(x.k≠1→sgT x.t=true)
def lexd (l:List Tok):Prop:=∀x∈l,tkO x
theorem sg_num {t:List UInt8} (h:NumT t):sgT t=false:=by
 cases t with
 |nil=>rfl
 |cons b r=>
  have:=(dig_iff b).2 (h.d b (List.mem_cons_self ..))
  simp[sgT,this]
theorem sg_at {s:List UInt8} {i k:Nat} (h:i<s.length) (hk:0<k) (hd:digB (chI s i)=false):sgT ((s.drop i).take k)=true:=by
 rw[List.drop_eq_getElem_cons h]
 obtain⟨n,rfl⟩:∃n,k=n+1:=⟨k-1,by omega⟩
 simp only[List.take_succ_cons,sgT]
 have:chI s i=(s[i].toNat:Int):=by simp[chI,List.getD,h]
 rw[← this,hd];rfl
theorem num_at {s:List UInt8} {i:Nat} (h:i<s.length) (hd:digB (chI s i)=true) (hg:greB (s.drop i)=false):NumT ((s.drop i).take (spanN digB (s.drop i))):=by
 have h1:=spanN_at digB h
 rw[if_pos hd]at h1
 have hall:∀b∈(s.drop i).take (spanN digB (s.drop i)),dig b:=fun b hb=>(dig_iff b).1 (span_all digB _ b hb)
 refine⟨?_,hall,?_⟩
 ·intro e
  have:=congrArg List.length e
  simp only[List.length_take,List.length_drop,List.length_nil]at this
  omega
 ·have h2:=dgF_val _ 0 false hall (by omega)
  have h3:gre (dgF (s.drop i) 0 false)=greB (s.drop i):=rfl
  rw[dgF_span]at h3
  rw[Int.natCast_zero,h3,hg]at h2
  simp at h2
  exact h2
theorem rxF_lex (s:List UInt8):∀(f i:Nat) (out:List Tok),lexd out→lexd (rxF s f i out).1
 |0,i,out,h=>h
 |f+1,i,out,h=>by
  have hnil:lexd ([]:List Tok):=fun x hx=>by cases hx
  have hsn:∀(x:Tok),tkO x→lexd (out++[x]):=by
   intro x hx y hy
   rcases List.mem_append.1 hy with hy|hy
   ·exact h y hy
   ·simp only[List.mem_singleton]at hy;subst hy;exact hx
  simp only[rxF]
  split
  ·exact h
  rename_i hlt
  have hlt:i<s.length:=by omega
  split
  ·exact rxF_lex s f _ _ h
  split
  ·exact rxF_lex s f _ _ h
  split
  ·rename_i hl
   have h1:=spanN_at idB hlt
   rw[if_pos (show idB _=true by show (letB _||digB _)=true;rw[hl];rfl)]at h1
   split
   ·exact hnil
   ·exact rxF_lex s f _ _ (hsn _ ⟨fun hk=>absurd (show (0:Int)=1 from hk) (by decide),fun _=>sg_at hlt (by omega) (let_not_dig hl)⟩)
  split
  ·rename_i hd
   split
   ·exact hnil
   rename_i hg
   split
   ·exact hnil
   ·exact rxF_lex s f _ _ (hsn _ ⟨fun _=>num_at hlt hd (by simpa using hg),fun hk=>absurd rfl hk⟩)
  rename_i hd
  have hd:digB (chI s i)=false:=by simpa using hd
  split
  ·exact rxF_lex s f _ _ (hsn _ ⟨fun hk=>absurd (show (2:Int)=1 from hk) (by decide),fun _=>sg_at hlt (by omega) hd⟩)
  split
  ·exact rxF_lex s f _ _ (hsn _ ⟨fun hk=>absurd (show (2:Int)=1 from hk) (by decide),fun _=>sg_at hlt (by omega) hd⟩)
  ·exact hnil
theorem rxT_lex (s:List UInt8):lexd (rxT s).1:=by
 unfold rxT
 split
 ·intro x hx;cases hx
 ·exact rxF_lex s _ _ _ (fun x hx=>by cases hx)
theorem numW_val:∀(l:List UInt8) (n:Nat),(∀b∈l,dig b)→val l n≤9223372036854775807→numW l (n:Int)=(val l n:Int)
 |[],n,_,_=>rfl
 |b::r,n,hd,hv=>by
  have hb:=hd b (List.mem_cons_self ..)
  obtain⟨h1,h2⟩:=hb
  have h3:=val_ge r (10*n+(b.toNat-48))
  simp only[val]at hv ⊢
  have e1:w64i (10*(n:Int))=10*(n:Int):=wrap_i64 (by omega) (by omega)
  have e2:IntKind.u8.wrap ((b.toNat:Int)-48)=(b.toNat:Int)-48:=wrap_u8 (by omega) (by omega)
  have e3:w64i ((b.toNat:Int)-48)=(b.toNat:Int)-48:=wrap_i64 (by omega) (by omega)
  have e4:w64i (10*(n:Int)+((b.toNat:Int)-48))=((10*n+(b.toNat-48):Nat):Int):=by
   unfold w64i;rw[wrap_i64 (by omega) (by omega)];omega
  simp only[numW,e1,e2,e3,e4]
  exact numW_val r _ (fun c hc=>hd c (List.mem_cons_of_mem _ hc)) hv
theorem parseM_val (M:Nat) (hM:9223372036854775807≤M):∀(l:List UInt8) (n:Nat),(∀b∈l,dig b)→val l n≤9223372036854775807→Lib.parseUintM M n l= .ok (val l n)
 |[],n,_,_=>rfl
 |b::r,n,hd,hv=>by
  have hb:=hd b (List.mem_cons_self ..)
  obtain⟨h1,h2⟩:=hb
  have h3:=val_ge r (10*n+(b.toNat-48))
  simp only[val]at hv ⊢
  simp only[Lib.parseUintM]
  rw[if_pos ⟨h1,h2⟩,if_neg (by omega),if_neg (by omega)]
  have e:n*10+(b.toNat-48)=10*n+(b.toNat-48):=by omega
  rw[e]
  exact parseM_val M hM r _ (fun c hc=>hd c (List.mem_cons_of_mem _ hc)) hv
theorem num_ok {t:List UInt8} (h:NumT t):Lib.parseIntB 64 t= .ok (numW t 0):=by
 obtain⟨hne,hd,hv⟩:=h
 have h1:=numW_val t 0 hd hv
 have h2:=parseM_val (2 ^ 64-1) (by decide) t 0 hd hv
 cases t with
 |nil=>exact absurd rfl hne
 |cons c r=>
  obtain⟨hc1,hc2⟩:=hd c (List.mem_cons_self ..)
  have n43:¬(c.toNat=43∨c.toNat=45):=by omega
  have n45:¬c.toNat=45:=by omega
  have h3:Lib.parseUintB 64 (c::r)= .ok (val (c::r) 0):=by
   unfold Lib.parseUintB;rw[if_neg (by simp)];exact h2
  have e2:(2:Nat) ^ (64-1)=9223372036854775808:=by decide
  have h4:¬(9223372036854775808≤val (c::r) 0):=by omega
  have h1':numW (c::r) 0=(val (c::r) 0:Int):=h1
  rw[h1']
  unfold Lib.parseIntB
  have n43':¬c.toNat=43:=by omega
  simp only[n43',n45,or_self,if_false,h3,e2,h4,and_false,false_and]
theorem tk_in {p:Pr} (h:okI p) (hi:p.i<(p.l.length:Int)):tk p∈p.l:=by
 obtain⟨h1,h2,h3⟩:=h
 unfold tk
 have:p.i.toNat<p.l.length:=by omega
 rw[List.getD,List.getElem?_eq_getElem this];exact List.getElem_mem this
def isQ (t:List UInt8) (p:Pr):Bool:=decide (p.i<(p.l.length:Int))&&(tk p).t==t
theorem isQ_T {t:List UInt8} {p:Pr} (h:okI p) (he:p.e=0) (hl:lexd p.l) (ht:sgT t=true):isQ t p=isT t p:=by
 unfold isQ isT
 rw[he]
 cases hd:decide (p.i<(p.l.length:Int)) with
 |false=>rfl
 |true=>
  have hi:p.i<(p.l.length:Int):=by simpa using hd
  have hk:=hl _ (tk_in h hi)
  cases h1:((tk p).t==t) with
  |false=>simp
  |true=>
   have h2:(tk p).t=t:=by simpa using h1
   have h3:(tk p).k≠1:=by
    intro h3
    have:=sg_num (hk.1 h3)
    rw[h2,ht]at this;cases this
   have:((tk p).k != 1)=true:=by simpa using h3
   rw[this];rfl
end Go.Proofs.YtlaggppdgoknjaaGreatDoor
namespace Go.Sy
open Go Go.RowKit
def sC (k:Nat):C→C
 | .p _ x y=>.p k x y
 |c=>c
def sR (k:Nat) (es:List (List C)):List (List C):=es.map fun r=>r.map (sC k)
def sI:Nat→Nat→List (List C)→List (List C)
 |0,k,es=>sR k es
 |_+1,_,es=>es
def cOK (i:Nat) (c:C):Prop:=c.names=[]∨i=0∧∃x y,c= .p 0 x y
structure ArgN (A:Type) where
 d:Hp→List SV→Option (A×List Nat)
 args:A→List SV
 mem:A→List MV
 h:∀(H:Hp) (l:List SV) (a:A) (ks:List Nat),d H l=some (a,ks)→(args a).length=l.length∧ks.length=(mem a).length∧∀(i k:Nat),ks[i]?=some k→∃u z m,H k=some (.vec u z (sI i k m.2))∧(mem a)[i]?=some m∧z.length=m.1.length∧(zT m.1=none∨zT m.1=zT z)
 ha:∀(H:Hp) (l:List SV) (a:A) (ks:List Nat) (j:Nat) (v v':SV) (x:Value) {hh:Heap} {fz:Nat→Prop} {lab lab':Lab} {I I':Nm} {H0 H':Hp},d H l=some (a,ks)→l[j]?=some v→(args a)[j]?=some v'→(∀i k,ks[i]?=some k→I' i=I k)→SDen hh fz lab I H0 v x→SDen hh fz lab' I' H' v' x
 n:∀a (i:Nat) m,(mem a)[i]?=some m→∀r∈m.2,∀c∈r,cOK i c
 an:∀a,∀v∈args a,∀k∈v.names,k<(mem a).length
 l:∀(H H':Hp) (v:List SV) (a:A) (ks:List Nat),d H v=some (a,ks)→(∀k∈ks,H' k=H k)→d H' v=some (a,ks)
section
variable {P:Program}
end
abbrev T0:World→Prop:=fun _=>True
structure RowB (B:Type) where
 z:List C
 d:Nat→List C→Option B
 e:B→List C
 h:∀k r b,d k r=some b→r=(e b).map (sC k)
 n:∀b,∀c∈e b,cOK 0 c
end Go.Sy
namespace Go.Sy
open Go Go.RowKit
section
variable {X:Ctx} {w0 w:World} {I:Nm} {lab:Lab} {fz:Nat→Prop} {H:Hp}
end
section
variable {P:Program}
end
end Go.Sy
namespace Go.Sy
open Go Go.RowKit
def CallsMP (P:Program) (f:FuncId) {A:Type} (args:A→List SV) (mem:A→List MV) (Cd:A→Prop) (bad:A→Bool) (res:A→SV) (mem':A→List (Option MV)):Prop:=
 ∀(a:A) (w:World) (M:Nat→Prop) (I:Nm) (lab:Lab) (fz:Nat→Prop) (xs:List Value),Cd a→AtW (mX M fz I (mem a).length) w I lab fz (lkp (memH 0 (mem a))) w→xs.length=(args a).length→
  (∀(j:Nat) (v:SV) (x:Value),(args a)[j]?=some v→xs[j]?=some x→SDen (hp w) fz lab I (lkp (memH 0 (mem a))) v x)→
  Calls P f xs.toArray w (fun en w'=>(bad a=false∧MPost w M fz I (mem a).length (mem' a) (res a) en w')∨(bad a=true∧∃ch,en= .panicked ch∧okCh ch∧∃I' lab' fz',AtW (mX M fz I (mem a).length) w I' lab' fz' (lkp (memO 0 (mem' a))) w'))
theorem at_fact {X:Ctx} {w0 w:World} {I:Nm} {lab:Lab} {fz:Nat→Prop} {H:Hp} (hA:AtW X w0 I lab fz H w) {t:Nat} (ht:H t=none) {p:Prop} (hp':p):AtW X w0 I lab fz (upd H t (.fact p)) w:=by
 refine⟨fun k ch hk=>?_,fun k ch hk=>?_,hA.own,hA.fzl,hA.fzo,hA.kept,fun q hq=>⟨?_,(hA.fix q hq).2⟩⟩
 ·by_cases e:k=t
  ·subst e;rw[upd_self]at hk;simp only[Option.some.injEq]at hk;subst hk;exact hp'
  ·rw[upd_ne _ _ e]at hk;exact hA.h k ch hk
 ·by_cases e:k=t
  ·subst e;rw[upd_self]at hk;simp only[Option.some.injEq]at hk;subst hk;intro n hn;cases hn
  ·rw[upd_ne _ _ e]at hk;exact dom_upd (hA.wf k ch hk) _ _
 ·exact dom_upd (l:=[q.1]) (by intro n hn;simp at hn;subst hn;exact(hA.fix q hq).1) _ _ q.1 (by simp)
theorem upd_e {α:Type} (f:Nat→Option α) (k:Nat) (x:α) (j:Nat):upd f k x j=if j=k then some x else f j:=rfl
theorem updH_app:∀(u v:List (Nat×Ch)) (H:Hp),updH H (u++v)=updH (updH H u) v
 |[],_,_=>rfl
 |(k,c)::u,v,H=>by simp only[List.cons_append,updH];exact updH_app u v _
theorem lenM_eq:∀{n:Nat} {m:List (Option MV)},m.length=n→lenM n m=true
 |0,[],_=>rfl
 |n+1,_::r,h=>by simp only[lenM];exact lenM_eq (by simpa using h)
theorem outC_vw {n:Nat} {f:Nat→Nat} {c:C} (h:outC n c=true):noVwC (renC f c)=true:=by
 cases c<;>first|rfl|(simp[outC]at h)
theorem outV_vw {n:Nat} {f:Nat→Nat} {v:SV} (h:outV n v=true):noVw (renV f v)=true:=by
 have key:∀{l:List C},l.all (outC n)=true→(l.map (renC f)).all noVwC=true:=by
  intro l hl
  rw[List.all_map]
  exact List.all_eq_true.2 fun c hc=>outC_vw (List.all_eq_true.1 hl c hc)
 cases v with
 |one c=>exact outC_vw h
 |agg l=>exact key h
 |tup l=>
  show (List.map _ l).all _=true
  rw[List.all_map]
  refine List.all_eq_true.2 fun p hp'=>?_
  have:=List.all_eq_true.1 h p hp'
  cases p with
  |inl c=>exact outC_vw this
  |inr l=>exact key this
def spMP (X:Ctx) {A:Type} (o:Option (A×List Nat)) (t:Nat) (H:Hp) (Cd:A→Prop) (bad:A→Bool) (res:A→SV) (mem':A→List (Option MV)):Res:=
 match o with
 |some (a,ks)=>some (Cd a∧ndB ks=true∧(bad a=true→pnO X.pn (updH H (updM H t ks (mem' a)))),⟨renV (nmM ks t) (res a),updM H t ks (mem' a)++[(t,.fact (bad a=false))]⟩,t::(ks++pnN X.pn))
 |none=>none
theorem spMP_some (X:Ctx) {A:Type} (a:A) (ks:List Nat) (t:Nat) (H:Hp) (Cd:A→Prop) (bad:A→Bool) (res:A→SV) (mem':A→List (Option MV)):spMP X (some (a,ks)) t H Cd bad res mem'=some (Cd a∧ndB ks=true∧(bad a=true→pnO X.pn (updH H (updM H t ks (mem' a)))),⟨renV (nmM ks t) (res a),updM H t ks (mem' a)++[(t,.fact (bad a=false))]⟩,t::(ks++pnN X.pn)):=rfl
theorem updM_keys (H:Hp) (t:Nat):∀(ks:List Nat) (m:List (Option MV)),m.length=ks.length→∀p∈updM H t ks m,p.1∈ks
 |[],[],_,p,hp=>by simp[updM]at hp
 |k::ks,o::m,h,p,hp=>by
  simp only[updM,List.mem_cons]at hp
  rcases hp with rfl|hp
  ·exact List.mem_cons_self ..
  ·exact List.mem_cons_of_mem _ (updM_keys H t ks m (by simpa using h) p hp)
section
variable {P:Program}
def specMP {X:Ctx} {w0:World} (f:FuncId) (call:∀(args:Array Value) (w:World),(callFunc f args).run P w= .ok (.enter f args) w) {A:Type} (am:ArgM A) (Cd:A→Prop) (bad:A→Bool) (res:A→SV) (mem':A→List (Option MV))
  (hl:∀a,Cd a→(mem' a).length=(am.mem a).length) (ho:∀a,Cd a→outV (mem' a).length (res a)=true) (hn:∀a,Cd a→∀q,some q∈mem' a→∀r∈q.2,∀c∈r,c.names=[]) (ok:CallsMP P f (am.args 0) am.mem Cd bad res mem'):Spec P X w0 where
 f:=f
 call:=call
 fn t args H:=spMP X (am.d H args) t H Cd bad res mem'
 ok w I lab fz H t args xs c e fp hA ht h hc hd hlx hx:=by
  unfold spMP at h
  split at h
  ·rename_i a ks ha
   simp only[Option.some.injEq,Prod.mk.injEq]at h
   obtain⟨rfl,rfl,rfl⟩:=h
   obtain⟨hCd,hnd,hbad⟩:=hc
   have hlen:=hl a hCd
   have hlm:lenM (am.mem a).length (mem' a)=true:=lenM_eq hlen
   obtain⟨g1,g2,g3⟩:=am.h H args a ks ha
   have htk:t∉ks:=by
    intro hm
    obtain⟨i,hi⟩:=List.mem_iff_getElem?.1 hm
    obtain⟨u,z,m,e1,_⟩:=g3 i t hi
    rw[ht]at e1;cases e1
   obtain⟨Mc,Ic,labc,hAc,hlen',hargs,key⟩:=backM am hA ht ha hnd hd hlx hx hlm (hn a hCd)
   have hget:=updM_get H t ks (mem' a) H
   rw[← g2]at hlm
   have htn:updH H (updM H t ks (mem' a)) t=none:=by
    rw[hget t hnd htk hlm]
    have hp':pos ks t=none:=by
     cases hp':pos ks t with
     |none=>rfl
     |some j=>exact absurd (List.mem_of_getElem? (pos_get hp')) htk
    rw[hp',List.getElem?_eq_none (by omega:(mem' a).length≤ks.length)]
    simp[ht]
   refine(ok a w Mc Ic labc fz xs hCd hAc hlen' hargs).mono ?_
   rintro en w' (⟨hb,hm⟩|⟨hb,ch,rfl,hch,I',lab',fz',hB⟩)
   ·obtain⟨x,rfl,I2,lab2,fz2,q1,q2,q3⟩:=key (res a) (ho a hCd) en w' hm
    refine .inl ⟨x,rfl,I2,lab2,fz2,?_,fun s hs=>?_,q3.z,q3.n,fun k u p y hk hv=>?_⟩
    ·rw[updH_app];exact at_fact q1 htn hb
    ·simp only[Option.some.injEq]at hs
     subst hs
     exact sd_noVw (outV_vw (ho a hCd)) (q2 _ rfl)
    ·have hkt:k≠t:=by rintro rfl;rw[ht]at hk;cases hk
     have h0:=q3.w k u p y hk hv
     refine⟨h0.1,fun u' z es hk'=>h0.2 u' z es ?_⟩
     rw[updH_app]at hk'
     simpa only[updH,upd_ne _ _ hkt] using hk'
   ·obtain⟨x,_,I2,lab2,fz2,q1,_,_⟩:=key (.one (.v (.bool false))) rfl (.returned (.bool false)) w' ⟨.bool false,I',lab',fz',rfl,hB,sd_v rfl⟩
    exact .inr ⟨ch,rfl,hch,I2,lab2,fz2,_,q1,hbad hb⟩
  ·cases h
 dom t args H c e fp ht hc h hd:=by
  unfold spMP at h
  split at h
  ·rename_i a ks ha
   simp only[Option.some.injEq,Prod.mk.injEq]at h
   obtain⟨rfl,rfl,rfl⟩:=h
   obtain⟨hCd,hnd,_⟩:=hc
   obtain⟨g1,g2,g3⟩:=am.h H args a ks ha
   have hlen:=hl a hCd
   have hlm:lenM ks.length (mem' a)=true:=lenM_eq (by omega)
   have htk:t∉ks:=by
    intro hm
    obtain⟨i,hi⟩:=List.mem_iff_getElem?.1 hm
    obtain⟨u,z,m,e1,_⟩:=g3 i t hi
    rw[ht]at e1;cases e1
   refine⟨fun k hk=>?_,fun p hp'=>?_⟩
   ·obtain⟨i,hi,rfl⟩:=renV_names (ho a hCd) hk
    have h1:i<ks.length:=by omega
    have hk:ks[i]?=some ks[i]:=List.getElem?_eq_getElem h1
    have e1:nmM ks t i=ks[i]:=by simp only[nmM,hk,Option.getD_some]
    rw[updH_app]
    refine dom_upd (l:=[nmM ks t i]) (fun n hn'=>?_) _ _ _ (by simp)
    simp only[List.mem_singleton]at hn'
    subst hn'
    rw[updM_get H t ks (mem' a) H _ hnd htk hlm,e1,pos_of hnd hk];rfl
   ·rcases List.mem_append.1 hp' with hp'|hp'
    ·exact List.mem_cons_of_mem _ (List.mem_append_left _ (updM_keys H t ks _ (by omega) p hp'))
    ·simp only[List.mem_singleton]at hp';subst hp';exact List.mem_cons_self ..
  ·cases h
 loc t args H H' c e fp h hf:=by
  unfold spMP at h ⊢
  split at h
  ·rename_i a ks ha
   simp only[Option.some.injEq,Prod.mk.injEq]at h
   obtain⟨rfl,rfl,rfl⟩:=h
   have h1:=am.l H H' args a ks ha fun k hk=>hf k (List.mem_cons_of_mem _ (List.mem_append_left _ hk))
   rw[h1]
   have h2:∀(ks:List Nat) (m:List (Option MV)),(∀k∈ks,H' k=H k)→updM H' t ks m=updM H t ks m:=by
    intro ks
    induction ks with
    |nil=>intro m _;match m with
     |[]=>rfl
     |none::_=>rfl
     |some _::_=>rfl
    |cons k r ih=>
     intro m hk
     match m with
     |[]=>rfl
     |o::m=>simp only[updM];rw[hk k (List.mem_cons_self ..),ih m fun j hj=>hk j (List.mem_cons_of_mem _ hj)]
   have h3:=h2 ks (mem' a) fun k hk=>hf k (List.mem_cons_of_mem _ (List.mem_append_left _ hk))
   have h4:pnO X.pn (updH H' (updM H t ks (mem' a)))=pnO X.pn (updH H (updM H t ks (mem' a))):=pnO_congr fun k hk=>updH_agree _ (hf k (List.mem_cons_of_mem _ (List.mem_append_right _ hk)))
   simp only[h3,h4]
  ·cases h
theorem specMP_f {X:Ctx} {w0:World} {A:Type} (f call) (am:ArgM A) (Cd bad res mem' hl ho hn ok):(specMP (P:=P) (X:=X) (w0:=w0) f call am Cd bad res mem' hl ho hn ok).f=f:=rfl
theorem specMP_fn {X:Ctx} {w0:World} {A:Type} (f call) (am:ArgM A) (Cd bad res mem' hl ho hn ok) (t:Nat) (args:List SV) (H:Hp):(specMP (P:=P) (X:=X) (w0:=w0) f call am Cd bad res mem' hl ho hn ok).fn t args H=spMP X (am.d H args) t H Cd bad res mem':=rfl
end
end Go.Sy
