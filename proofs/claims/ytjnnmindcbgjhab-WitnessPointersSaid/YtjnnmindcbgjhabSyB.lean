/- A symbolic executor, further. No conditions but those in each statement. -/
import Derived.Test.YtjnnmindcbgjhabSyA
set_option linter.unusedVariables false
set_option linter.unusedSimpArgs false
namespace Go.Sy
open Go.RowKit
structure Kept (M:Nat→Prop) (w w':World):Prop where
 os:w'.os=w.os
 tape:w'.tape=w.tape
 output:w'.output=w.output
 size:w.heap.size≤w'.heap.size
 block:∀k,k<w.heap.size→¬M k→w'.heap[k]?=w.heap[k]?
theorem Kept.refl (M:Nat→Prop) (w:World):Kept M w w:=⟨rfl,rfl,rfl,Nat.le_refl _,fun _ _ _=>rfl⟩
theorem Kept.trans {M M':Nat→Prop} {a b c:World} (h:Kept M a b) (k:Kept M' b c) (hM:∀x,x<a.heap.size→M' x→M x):Kept M a c:=
 ⟨k.os.trans h.os,k.tape.trans h.tape,k.output.trans h.output,Nat.le_trans h.size k.size,
  fun i hi hm=>(k.block i (Nat.lt_of_lt_of_le hi h.size) (fun hx=>hm (hM i hi hx))).trans (h.block i hi hm)⟩
theorem Kept.of_below {w w':World} (h:Below w.heap.size w w') (M:Nat→Prop):Kept M w w':=⟨h.os,h.tape,h.output,h.size,fun k hk _=>h.block k hk⟩
theorem Kept.below {M:Nat→Prop} {w w':World} (h:Kept M w w') (hM:∀x,x<w.heap.size→¬M x):Below w.heap.size w w':=
 ⟨h.os,h.tape,h.output,h.size,fun k hk=>h.block k hk (hM k hk)⟩
structure Ctx where
 M:Nat→Prop
 Z:Nat→Prop
 F:List (Nat×NV)
 pn:Option (List (Nat×List C×List (List C))):=none
 dfs:List Deferred:=[]
 kp:List (Nat×Value):=[]
abbrev hp (w:World):Heap:=fun b=>w.heap[b]?
def MpAt (h:Heap) (fz:Nat→Prop) (lab:Lab) (I:Nm) (k:Nat) (ag:Bool) (es:List (List UInt8×List C)):Prop:=
 ∃r entries clock,I k=⟨some (r,0),0,0,0,true⟩∧lab r=some [k]∧h r=some (.map entries clock)∧entries.size=es.length∧
  ∀(i:Nat) (p:List UInt8×List C),es[i]?=some p→∃e,entries[i]?=some e∧e.key= .string (bs p.1)∧
   (
    match ag with
    |true=>∃arr,e.val= .agg arr∧arr.size=p.2.length∧∀(j:Nat) (c:C),p.2[j]?=some c→∃y,arr[j]?=some y∧c.stor=true∧Den h fz lab I [] c y
    |false=>∃c,p.2=[c]∧c.stor=true∧Den h fz lab I [] c e.val)
def ChAt (h:Heap) (fz:Nat→Prop) (lab:Lab) (I:Nm) (k:Nat):Ch→Prop
 | .dead=>True
 | .vec _ z es=>(I k).mp=false∧(I k).s=z.length∧VecAt h fz lab I [k] z es (I k).v
 | .mp ag es=>MpAt h fz lab I k ag es
 | .fact p=>p
def chNames:Ch→List Nat
 | .dead=>[]
 | .vec _ _ es=>es.flatMap fun r=>r.flatMap C.names
 | .mp _ es=>es.flatMap fun p=>p.2.flatMap C.names
 | .fact _=>[]
def Dom (H:Hp) (l:List Nat):Prop:=∀k∈l,(H k).isSome=true
structure AtW (X:Ctx) (w0:World) (I:Nm) (lab:Lab) (fz:Nat→Prop) (H:Hp) (w:World):Prop where
 h:∀k ch,H k=some ch→ChAt (hp w) fz lab I k ch
 wf:∀k ch,H k=some ch→Dom H (chNames ch)
 own:∀b π,lab b=some π→b<w.heap.size∧(w0.heap.size≤b∨X.M b)
 fzl:∀b,fz b→b<w.heap.size∧lab b=none
 fzo:∀b,fz b→X.Z b∨w0.heap.size≤b∨X.M b
 kept:Kept X.M w0 w
 fix:∀p∈X.F,(H p.1).isSome=true∧I p.1=p.2
def upd {α:Type} (f:Nat→Option α) (k:Nat) (x:α):Nat→Option α:=fun j=>if j=k then some x else f j
def updH (H:Hp):List (Nat×Ch)→Hp
 |[]=>H
 |(k,c)::r=>updH (upd H k c) r
theorem upd_self {α:Type} (f:Nat→Option α) (k:Nat) (x:α):upd f k x k=some x:=by simp[upd]
theorem upd_ne {α:Type} (f:Nat→Option α) {k j:Nat} (x:α) (h:j≠k):upd f k x j=f j:=by simp[upd,h]
theorem dom_upd {H:Hp} {l:List Nat} (h:Dom H l) (k:Nat) (c:Ch):Dom (upd H k c) l:=by
 intro j hj
 by_cases e:j=k
 ·subst e;simp[upd]
 ·rw[upd_ne _ _ e];exact h j hj
theorem dom_updH {l:List Nat}:∀(u:List (Nat×Ch)) {H:Hp},Dom H l→Dom (updH H u) l
 |[],H,h=>h
 |(k,c)::r,H,h=>dom_updH r (dom_upd h k c)
def wkC (c c':C):Prop:=c'= .any∨c'=c
theorem wkC_any (c:C):wkC c .any=True:=by simp[wkC]
theorem wkC_eq (c:C):wkC c c=True:=by simp[wkC]
def wkR:List C→List C→Prop
 |[],[]=>True
 |c::r,c'::r'=>wkC c c'∧wkR r r'
 |_,_=>False
def wkL:List (List C)→List (List C)→Prop
 |[],[]=>True
 |r::es,r'::es'=>wkR r r'∧wkL es es'
 |_,_=>False
def pn1:Option Ch→List C→List (List C)→Prop
 |some (.vec _ z' es'),z,es=>z'=z∧wkL es' es
 |_,_,_=>False
theorem pn1_v (u:Nat) (z':List C) (es':List (List C)) (z:List C) (es:List (List C)):pn1 (some (.vec u z' es')) z es=(z'=z∧wkL es' es):=rfl
def pnAll:List (Nat×List C×List (List C))→Hp→Prop
 |[],_=>True
 |(k,z,es)::r,H=>pn1 (H k) z es∧pnAll r H
def pnO:Option (List (Nat×List C×List (List C)))→Hp→Prop
 |some l,H=>pnAll l H
 |none,_=>False
theorem pnO_some (l:List (Nat×List C×List (List C))) (H:Hp):pnO (some l) H=pnAll l H:=rfl
def pnN:Option (List (Nat×List C×List (List C)))→List Nat
 |some l=>l.map (·.1)
 |none=>[]
theorem pnAll_congr:∀{l:List (Nat×List C×List (List C))} {H H':Hp},(∀k∈l.map (·.1),H' k=H k)→pnAll l H'=pnAll l H
 |[],_,_,_=>rfl
 |(k,z,es)::r,H,H',h=>by
  simp only[pnAll]
  rw[h k (by simp),pnAll_congr fun j hj=>h j (by simp only[List.map_cons,List.mem_cons];exact .inr hj)]
theorem pnO_congr {o:Option (List (Nat×List C×List (List C)))} {H H':Hp} (h:∀k∈pnN o,H' k=H k):pnO o H'=pnO o H:=by
 cases o with
 |none=>rfl
 |some l=>exact pnAll_congr h
def okCh (ch:List PanicEntry):Prop:=∃T y,ch=[{ v:=.iface T y,recovered:=false }]
def PanW (X:Ctx) (w0:World) (ch:List PanicEntry) (w':World):Prop:=
 okCh ch∧∃I lab fz H,AtW X w0 I lab fz H w'∧pnO X.pn H
theorem calls_inl {P:Program} {f:FuncId} {args:Array Value} {w:World} {R R':Ending→World→Prop} (h:Calls P f args w R):Calls P f args w (fun en w'=>R en w'∨R' en w'):=h.mono fun _ _ h=>.inl h
def Post (X:Ctx) (w0 w:World) (I:Nm) (lab:Lab) (fz:Nat→Prop) (H:Hp) (v:Option SV) (u:List (Nat×Ch)) (x:Value) (w':World):Prop:=
 ∃I' lab' fz',AtW X w0 I' lab' fz' (updH H u) w'∧(∀s,v=some s→SDen (hp w') fz' lab' I' (updH H u) s x)∧Pres (hp w) (hp w') fz fz' I I' H (updH H u)
section
variable {X:Ctx} {w0 w:World} {I:Nm} {lab:Lab} {fz:Nat→Prop} {H:Hp}
theorem post_val (hA:AtW X w0 I lab fz H w) {v:SV} {x:Value} (hv:SDen (hp w) fz lab I H v x):Post X w0 w I lab fz H (some v) [] x w:=
 ⟨I,lab,fz,hA,fun s hs=>by simp only[Option.some.injEq]at hs;subst hs;exact hv,Pres.refl _ _ _ _⟩
theorem AtW.drew (hA:AtW X w0 I lab fz H w) (w1:World) (hh:w1.heap=w.heap) (h1:w1.os=w.os) (h2:w1.tape=w.tape) (h3:w1.output=w.output):AtW X w0 I lab fz H w1:=by
 have e:hp w1=hp w:=by funext b;simp[hp,hh]
 refine⟨by rw[e];exact hA.h,hA.wf,by rw[hh];exact hA.own,by rw[hh];exact hA.fzl,hA.fzo,⟨h1.trans hA.kept.os,h2.trans hA.kept.tape,h3.trans hA.kept.output,by rw[hh];exact hA.kept.size,by rw[hh];exact hA.kept.block⟩,hA.fix⟩
theorem nv_some {n:NV} {b off len cap:Nat} (hm:n.mp=false) (h:n.v=slV (some (b,off)) len cap):n.b=some (b,off)∧n.len=len∧n.cap=cap:=by
 unfold NV.v at h
 rw[hm]at h
 simp only[Bool.false_eq_true,if_false,slV,Value.slice.injEq]at h
 obtain⟨h1,h2,h3⟩:=h
 refine⟨?_,h2,h3⟩
 cases hb:n.b with
 |none=>simp[hb]at h1
 |some x=>simp[hb]at h1;obtain⟨g1,g2⟩:=h1;rw[← g1,← g2]
theorem vec_open (hA:AtW X w0 I lab fz H w) {k u:Nat} {z:List C} {es:List (List C)} (hk:H k=some (.vec u z es)) {i:Nat} (hi:i<es.length) :
  ∃b off cap arr T,I k=⟨some (b,off),es.length,cap,z.length,false⟩∧lab b=some [k]∧hp w b=some (.cells arr T (0,0))∧(off+cap*z.length≤arr.size∧zOK z T off)∧es.length≤cap∧
   ∀(i:Nat) (cs:List C),es[i]?=some cs→cs.length=z.length∧∀(j:Nat) (c:C),cs[j]?=some c→∃y,arr[off+i*z.length+j]?=some y∧Den (hp w) fz lab I ([k]++[i,j]) c y:=by
 obtain⟨h1,h2,h3⟩:=hA.h k _ hk
 rcases h3 with⟨rfl,_⟩|⟨b,off,cap,arr,T,hx,hb,hh,hsz,hcap,hc⟩
 ·simp at hi
 ·obtain⟨g1,g2,g3⟩:=nv_some h1 hx
  refine⟨b,off,cap,arr,T,?_,hb,hh,hsz,hcap,hc⟩
  rw[← g1,← g2,← g3,← h2,← h1]
theorem inP_lt {p:List (Nat×Nat)} {z:List C} {es:List (List C)} (h:inP p z es):0<es.length:=by
 match p,h with
 |[(i,j)],h=>simp only[inP]at h;omega
 |(i,j)::p::r,h=>have:=h.1;omega
theorem getD_get {α:Type} {l:List α} {i:Nat} {d:α} (h:i<l.length):l[i]?=some (l.getD i d):=by
 simp[List.getD,List.getElem?_eq_getElem h]
theorem baseOf_slV (a:Option (Nat×Nat)) (n c:Nat):baseOf (slV a n c)=a:=by
 cases a<;>rfl
theorem atp_congr {h h':Heap} {fz:Nat→Prop} {lab:Lab} {I:Nm}:∀(p:List (Nat×Nat)) {π:List Nat} {z:List C} {es:List (List C)} {v x:Value},VecAt h fz lab I π z es v→(∀b ρ,lab b=some (π++ρ)→h' b=h b)→inP p z es→AtP h p (baseOf v) z es x→AtP h' p (baseOf v) z es x
 |[],_,_,_,_,_,_,_,hi,_=>hi.elim
 |[(i,j)],π,z,es,v,x,hv,hb,hi,ha=>by
  rcases hv with⟨rfl,_⟩|⟨b,off,cap,arr,T,rfl,hlb,hh,hsz,hcap,hc⟩
  ·simp[inP]at hi
  ·rw[baseOf_slV]at ha ⊢
   obtain⟨b',off',arr',T',m',e1,e2,e3⟩:=ha
   simp only[Option.some.injEq,Prod.mk.injEq]at e1
   obtain⟨rfl,rfl⟩:=e1
   exact⟨b,off,arr',T',m',rfl,by rw[hb b [] (by simpa using hlb)];exact e2,e3⟩
 |(i,j)::q::r,π,z,es,v,x,hv,hb,hi,ha=>by
  rcases hv with⟨rfl,_⟩|⟨b,off,cap,arr,T,rfl,hlb,hh,hsz,hcap,hc⟩
  ·have:=inP_lt hi;simp at this
  ·rw[baseOf_slV]at ha ⊢
   obtain⟨b',off',arr',T',m',y,e1,e2,e3,e4⟩:=ha
   simp only[Option.some.injEq,Prod.mk.injEq]at e1
   obtain⟨rfl,rfl⟩:=e1
   obtain⟨hi1,hi2⟩:=hi
   refine⟨b,off,arr',T',m',y,rfl,by rw[hb b [] (by simpa using hlb)];exact e2,e3,?_⟩
   split at e4
   ·rename_i z' es' hg
    rw[hg]at hi2
    obtain⟨_,q2⟩:=hc i _ (getD_get (d:=z) hi1)
    obtain⟨y',y1,y2⟩:=q2 j _ hg
    rw[hh]at e2
    simp only[Option.some.injEq,Obj.cells.injEq]at e2
    obtain⟨rfl,_,_⟩:=e2
    rw[y1]at e3
    simp only[Option.some.injEq]at e3
    subst e3
    exact atp_congr (q::r) (ov_vec y2).1 (fun b ρ hb'=>hb b ([i,j]++ρ) (by rw[← List.append_assoc];exact hb')) hi2 e4
   ·exact e4.elim
theorem atp_open {h:Heap} {fz:Nat→Prop} {lab:Lab} {I:Nm}:∀(p:List (Nat×Nat)) {π:List Nat} {z:List C} {es:List (List C)} {v x:Value} {c:C},VecAt h fz lab I π z es v→inP p z es→getP p z es=some c→AtP h p (baseOf v) z es x→Den h fz lab I (π++flatP p) c x
 |[],_,_,_,_,_,_,_,hi,_,_=>hi.elim
 |[(i,j)],π,z,es,v,x,c,hv,hi,hg,ha=>by
  rcases hv with⟨rfl,_⟩|⟨b,off,cap,arr,T,rfl,hlb,hh,hsz,hcap,hc⟩
  ·simp[inP]at hi
  ·rw[baseOf_slV]at ha
   obtain⟨b',off',arr',T',m',e1,e2,e3⟩:=ha
   simp only[Option.some.injEq,Prod.mk.injEq]at e1
   obtain⟨rfl,rfl⟩:=e1
   rw[hh]at e2
   simp only[Option.some.injEq,Obj.cells.injEq]at e2
   obtain⟨rfl,_,_⟩:=e2
   obtain⟨_,q2⟩:=hc i _ (getD_get (d:=z) hi)
   obtain⟨y,y1,y2⟩:=q2 j c hg
   rw[y1]at e3
   simp only[Option.some.injEq]at e3
   subst e3
   exact y2
 |(i,j)::q::r,π,z,es,v,x,c,hv,hi,hg,ha=>by
  rcases hv with⟨rfl,_⟩|⟨b,off,cap,arr,T,rfl,hlb,hh,hsz,hcap,hc⟩
  ·have:=inP_lt hi;simp at this
  ·rw[baseOf_slV]at ha
   obtain⟨b',off',arr',T',m',y,e1,e2,e3,e4⟩:=ha
   simp only[Option.some.injEq,Prod.mk.injEq]at e1
   obtain⟨rfl,rfl⟩:=e1
   obtain⟨hi1,hi2⟩:=hi
   simp only[getP]at hg
   split at e4
   ·rename_i z' es' hg'
    rw[hg']at hi2 hg
    obtain⟨_,q2⟩:=hc i _ (getD_get (d:=z) hi1)
    obtain⟨y',y1,y2⟩:=q2 j _ hg'
    rw[hh]at e2
    simp only[Option.some.injEq,Obj.cells.injEq]at e2
    obtain⟨rfl,_,_⟩:=e2
    rw[y1]at e3
    simp only[Option.some.injEq]at e3
    subst e3
    have:=atp_open (q::r) (ov_vec y2).1 hi2 hg e4
    simpa [flatP,List.append_assoc] using this
   ·exact e4.elim
theorem atp_ex {h:Heap} {fz:Nat→Prop} {lab:Lab} {I:Nm}:∀(p:List (Nat×Nat)) {π:List Nat} {z:List C} {es:List (List C)} {v:Value} {c:C},VecAt h fz lab I π z es v→inP p z es→getP p z es=some c→∃y,AtP h p (baseOf v) z es y
 |[],_,_,_,_,_,_,hi,_=>hi.elim
 |[(i,j)],π,z,es,v,c,hv,hi,hg=>by
  rcases hv with⟨rfl,_⟩|⟨b,off,cap,arr,T,rfl,hlb,hh,hsz,hcap,hc⟩
  ·simp[inP]at hi
  ·obtain⟨_,q2⟩:=hc i _ (getD_get (d:=z) hi)
   obtain⟨y,y1,y2⟩:=q2 j c hg
   exact⟨y,b,off,arr,T,(0,0),baseOf_slV _ _ _,hh,y1⟩
 |(i,j)::q::r,π,z,es,v,c,hv,hi,hg=>by
  rcases hv with⟨rfl,_⟩|⟨b,off,cap,arr,T,rfl,hlb,hh,hsz,hcap,hc⟩
  ·have:=inP_lt hi;simp at this
  ·obtain⟨hi1,hi2⟩:=hi
   simp only[getP]at hg
   split at hi2
   ·rename_i z' es' hg'
    simp only[hg']at hg
    obtain⟨_,q2⟩:=hc i _ (getD_get (d:=z) hi1)
    obtain⟨y',y1,y2⟩:=q2 j _ hg'
    obtain⟨y,hy⟩:=atp_ex (q::r) (ov_vec y2).1 hi2 hg
    refine⟨y,b,off,arr,T,(0,0),y',baseOf_slV _ _ _,hh,y1,?_⟩
    simp only[hg'];exact hy
   ·exact hi2.elim
theorem getP_clos {h:Heap} {fz:Nat→Prop} {lab:Lab} {I:Nm} (p:List (Nat×Nat)) {π:List Nat} {z z':List C} {es es':List (List C)} {v:Value} (hv:VecAt h fz lab I π z es v) (hi:inP p z es) (hg:getP p z es=some (.ov z' es')):∀r∈es',∀c∈r,c.names=[]:=by
 intro r hr c hc
 obtain⟨y,hy⟩:=atp_ex p hv hi hg
 obtain⟨_,hcl⟩:=ov_vec (atp_open p hv hi hg hy)
 obtain⟨i,hi'⟩:=List.mem_iff_getElem?.1 hr
 obtain⟨j,hj⟩:=List.mem_iff_getElem?.1 hc
 exact hcl i j r c hi' hj
theorem atp_snoc {h:Heap} {x:Value}:∀(p:List (Nat×Nat)) {a:Option (Nat×Nat)} {z:List C} {es:List (List C)} {y:Value} {z':List C} {es':List (List C)} {m j b off:Nat} {arr:Array Value} {T:TypeId} {mm:Nat×Nat},AtP h p a z es y→getP p z es=some (.ov z' es')→baseOf y=some (b,off)→h b=some (.cells arr T mm)→arr[off+m*z'.length+j]?=some x→AtP h (p++[(m,j)]) a z es x
 |[],_,_,_,_,_,_,_,_,_,_,_,_,_,ha,_,_,_,_=>ha.elim
 |[(i0,j0)],a,z,es,y,z',es',m,j,b,off,arr,T,mm,ha,hg,hy,hb,hx=>by
  obtain⟨b',off',arr',T',m',e1,e2,e3⟩:=ha
  simp only[getP]at hg
  refine⟨b',off',arr',T',m',y,e1,e2,e3,?_⟩
  rw[hg]
  exact⟨b,off,arr,T,mm,hy,hb,hx⟩
 |(i0,j0)::q::r,a,z,es,y,z',es',m,j,b,off,arr,T,mm,ha,hg,hy,hb,hx=>by
  obtain⟨b',off',arr',T',m',y',e1,e2,e3,e4⟩:=ha
  simp only[getP]at hg
  split at e4
  ·rename_i z2 es2 hg2
   simp only[hg2]at hg
   refine⟨b',off',arr',T',m',y',e1,e2,e3,?_⟩
   simp only[hg2]
   exact atp_snoc (q::r) e4 hg hy hb hx
  ·exact e4.elim
theorem vw_keep (hA:AtW X w0 I lab fz H w) {w':World} {I':Nm} {H':Hp} {k:Nat} (hH:H' k=H k) (hI:I' k=I k) (hb:∀b ρ,lab b=some ([k]++ρ)→hp w' b=hp w b) {u:Nat} {p:List (Nat×Nat)} {x:Value} (hv:Vw (hp w) I H k u p x) :
  Vw (hp w') I' H' k u p x:=by
 refine⟨hv.1,fun u' z es hk=>?_⟩
 rw[hH]at hk
 obtain⟨h1,h2⟩:=hv.2 u' z es hk
 refine⟨h1,fun e hi ho=>?_⟩
 obtain⟨m1,m2,m3⟩:=hA.h k _ hk
 have hbase:baseOf (I k).v=(I k).b:=by unfold NV.v;rw[m1];exact baseOf_slV _ _ _
 have:=atp_congr p m3 hb hi (by rw[hbase];exact h2 e hi ho)
 rw[hbase]at this
 rw[hI];exact this
theorem vw_bump (hA:AtW X w0 I lab fz H w) {w':World} {I':Nm} {H':Hp} {k u0 u1:Nat} {z z':List C} {es es':List (List C)} (hk:H k=some (.vec u0 z es)) (hk':H' k=some (.vec u1 z' es')) (hu:u0<u1) {u:Nat} {p:List (Nat×Nat)} {x:Value} (hv:Vw (hp w) I H k u p x) :
  Vw (hp w') I' H' k u p x:=by
 refine⟨hv.1,fun u' z2 es2 h2=>?_⟩
 rw[hk']at h2
 simp only[Option.some.injEq,Ch.vec.injEq]at h2
 obtain⟨rfl,_,_⟩:=h2
 have:=(hv.2 u0 z es hk).1
 exact⟨by omega,fun e=>by omega⟩
theorem vw_dead {w':World} {I':Nm} {H':Hp} {k:Nat} (hk':H' k=some .dead) {u:Nat} {p:List (Nat×Nat)} {x:Value} (hv:Vw (hp w) I H k u p x):Vw (hp w') I' H' k u p x:=
 ⟨hv.1,fun u' z2 es2 h2=>by rw[hk']at h2;simp at h2⟩
theorem mp_mono {h h':Heap} {fz fz':Nat→Prop} {lab lab':Lab} {I I':Nm} (hz:∀b,fz b→fz' b∧h' b=h b) {k:Nat} {ag:Bool} {es:List (List UInt8×List C)} (r:MpAt h fz lab I k ag es)
  (hl:∀b,lab b=some [k]→lab' b=some [k]∧h' b=h b) (hk:I' k=I k) (hI:∀n∈chNames (.mp ag es),I' n=I n):MpAt h' fz' lab' I' k ag es:=by
 obtain⟨b,entries,clock,h1,h2,h3,h4,h5⟩:=r
 refine⟨b,entries,clock,hk.trans h1,(hl b h2).1,(hl b h2).2.trans h3,h4,fun i p hp'=>?_⟩
 obtain⟨e,g1,g2,g3⟩:=h5 i p hp'
 refine⟨e,g1,g2,?_⟩
 have hn:∀c∈p.2,∀n∈c.names,I' n=I n:=fun c hc n hn=>hI n (List.mem_flatMap.2 ⟨p,List.mem_of_getElem? hp',List.mem_flatMap.2 ⟨c,hc,hn⟩⟩)
 have fl:∀c:C,c.stor=true→c.flat=true:=by intro c hc;cases c<;>first|rfl|(simp[C.stor]at hc)
 cases ag with
 |true=>
  obtain⟨arr,a1,a2,a3⟩:=g3
  refine⟨arr,a1,a2,fun j c hc=>?_⟩
  obtain⟨y,b1,b2,b3⟩:=a3 j c hc
  exact⟨y,b1,b2,den_flat hz (fl c b2) b3 (hn c (List.mem_of_getElem? hc))⟩
 |false=>
  obtain⟨c,a1,a2,a3⟩:=g3
  exact⟨c,a1,a2,den_flat hz (fl c a2) a3 (hn c (by rw[a1];exact List.mem_cons_self ..))⟩
theorem ch_keep (hA:AtW X w0 I lab fz H w) {w':World} {I':Nm} {lab':Lab} {fz':Nat→Prop} {k:Nat} {ch:Ch} (hk:H k=some ch) (hz:∀b,fz b→fz' b∧hp w' b=hp w b) (hI:∀n,(H n).isSome=true→I' n=I n)
  (hl:∀b ρ,lab b=some ([k]++ρ)→lab' b=some ([k]++ρ)∧hp w' b=hp w b):ChAt (hp w') fz' lab' I' k ch:=by
 have h0:=hA.h k ch hk
 have hd:(H k).isSome=true:=by simp[hk]
 have hw:=hA.wf k ch hk
 cases ch with
 |dead=>trivial
 |fact p=>exact h0
 |vec u z es=>
  obtain⟨h1,h2,h3⟩:=h0
  refine⟨by rw[hI k hd];exact h1,by rw[hI k hd];exact h2,?_⟩
  rw[hI k hd]
  exact vec_mono hz h3 hl fun i j cs c g1 g2 n hn=>hI n (hw n (List.mem_flatMap.2 ⟨cs,List.mem_of_getElem? g1,List.mem_flatMap.2 ⟨c,List.mem_of_getElem? g2,hn⟩⟩))
 |mp ag es=>exact mp_mono hz h0 (fun b hb=>by have:=hl b [] (by simpa using hb);simpa using this) (hI k hd) fun n hn=>hI n (hw n hn)
theorem stor_flat {c:C} (h:c.stor=true):c.flat=true:=by cases c<;>first|rfl|(simp[C.stor]at h)
def Weak (es es':List (List C)):Prop:=
 es'.length=es.length∧∀(i:Nat) (r':List C),es'[i]?=some r'→∃r,es[i]?=some r∧r'.length=r.length∧∀(j:Nat) (c:C),r'[j]?=some c→r[j]?=some c∨(c= .any∧∃c0,r[j]?=some c0)
theorem vec_weak {h:Heap} {fz:Nat→Prop} {lab:Lab} {I:Nm} {π:List Nat} {z:List C} {es es':List (List C)} {x:Value} (r:VecAt h fz lab I π z es x) (hw:Weak es es'):VecAt h fz lab I π z es' x:=by
 rcases r with⟨rfl,h2⟩|⟨b,off,cap,arr,T,rfl,hb,hh,hsz,hcap,hc⟩
 ·have:=hw.1;simp at this;subst this;exact .inl ⟨rfl,h2⟩
 ·refine .inr ⟨b,off,cap,arr,T,by rw[hw.1],hb,hh,hsz,by rw[hw.1];exact hcap,fun i r' hr'=>?_⟩
  obtain⟨r,g1,g2,g3⟩:=hw.2 i r' hr'
  refine⟨by rw[g2];exact(hc i r g1).1,fun j c hj=>?_⟩
  rcases g3 j c hj with e|⟨rfl,c0,e⟩
  ·exact(hc i r g1).2 j c e
  ·obtain⟨y,y1,y2⟩:=(hc i r g1).2 j c0 e
   exact⟨y,y1,.any _ y (den_one y2)⟩
structure PresB (t:Nat) (h h':Heap) (fz fz':Nat→Prop) (I I':Nm) (H H':Hp):Prop where
 z:∀b,fz b→fz' b∧h' b=h b
 n:∀k,k≠t→(H k).isSome=true→I' k=I k
 d:∀k,k≠t→(H k).isSome=true→(H' k).isSome=true
 w:∀k u p x,k≠t→(H k).isSome=true→Vw h I H k u p x→Vw h' I' H' k u p x
theorem PresB.comp {t:Nat} {h1 h2 h3:Heap} {f1 f2 f3:Nat→Prop} {I1 I2 I3:Nm} {H1 H2 H3:Hp} (a:PresB t h1 h2 f1 f2 I1 I2 H1 H2) (b:PresB t h2 h3 f2 f3 I2 I3 H2 H3):PresB t h1 h3 f1 f3 I1 I3 H1 H3:=
 ⟨fun x hx=>⟨(b.z x (a.z x hx).1).1,((b.z x (a.z x hx).1).2).trans (a.z x hx).2⟩,fun k hk hs=>(b.n k hk (a.d k hk hs)).trans (a.n k hk hs),fun k hk hs=>b.d k hk (a.d k hk hs),fun k u p x hk hs hv=>b.w k u p x hk (a.d k hk hs) (a.w k u p x hk hs hv)⟩
theorem PresB.pres {t:Nat} {h h':Heap} {fz fz':Nat→Prop} {I I':Nm} {H H':Hp} (a:PresB t h h' fz fz' I I' H H') (ht:H t=none):Pres h h' fz fz' I I' H H':=by
 have ne:∀k,(H k).isSome=true→k≠t:=by rintro k hk rfl;rw[ht]at hk;cases hk
 exact⟨a.z,fun k hk=>a.n k (ne k hk) hk,fun k u p x hk hv=>a.w k u p x (ne k hk) hk hv⟩
theorem at_set (hA:AtW X w0 I lab fz H w) {t:Nat} (hpriv:∀k ch,k≠t→H k=some ch→t∉chNames ch) (hF:∀p∈X.F,p.1≠t) (nv:NV) (hm:nv.mp=false) (z:List C) (es:List (List C)) (hs:nv.s=z.length) {w':World} {lab':Lab}
  (hz:∀b,fz b→hp w' b=hp w b) (hl:∀k ch,k≠t→H k=some ch→ch≠.dead→∀b ρ,lab b=some ([k]++ρ)→lab' b=some ([k]++ρ)∧hp w' b=hp w b)
  (ho:∀b π,lab' b=some π→b<w'.heap.size∧(w0.heap.size≤b∨X.M b)) (hf:∀b,fz b→b<w'.heap.size∧lab' b=none) (hk:Kept X.M w0 w')
  (hv:VecAt (hp w') fz lab' (fun n=>if n=t then nv else I n) [t] z es nv.v) (hn:∀(i j:Nat) (cs:List C) (c:C),es[i]?=some cs→cs[j]?=some c→Dom H c.names) :
  AtW X w0 (fun n=>if n=t then nv else I n) lab' fz (upd H t (.vec 0 z es)) w'∧PresB t (hp w) (hp w') fz fz I (fun n=>if n=t then nv else I n) H (upd H t (.vec 0 z es)):=by
 have hd:∀l,Dom H l→Dom (upd H t (.vec 0 z es)) l:=fun l hl=>dom_upd hl _ _
 have hoth:∀k2,k2≠t→upd H t (.vec 0 z es) k2=H k2:=fun k2 h=>upd_ne _ _ h
 have hzz:∀b,fz b→fz b∧hp w' b=hp w b:=fun b hb=>⟨hb,hz b hb⟩
 refine⟨⟨?_,?_,ho,hf,hA.fzo,hk,?_⟩,hzz,fun k hk _=>by simp[hk],fun k hk hs=>by rw[hoth k hk];exact hs,?_⟩
 ·intro k2 ch h
  by_cases e:k2=t
  ·subst e
   rw[upd_self]at h;simp only[Option.some.injEq]at h;subst h
   exact⟨by simp[hm],by simp[hs],by simpa using hv⟩
  ·rw[hoth k2 e]at h
   have h0:=hA.h k2 ch h
   have hd2:(H k2).isSome=true:=by simp[h]
   have hw:=hA.wf k2 ch h
   have hI:∀n∈chNames ch,(if n=t then nv else I n)=I n:=by
    intro n hn'
    have:n≠t:=by rintro rfl;exact hpriv k2 ch e h hn'
    simp[this]
   cases ch with
   |dead=>trivial
   |fact p=>exact h0
   |vec u z2 es2=>
    obtain⟨h1,h2,h3⟩:=h0
    refine⟨by simpa [e] using h1,by simpa [e] using h2,?_⟩
    simp only[e,if_false]
    exact vec_mono hzz h3 (hl k2 _ e h (by simp)) fun i j cs c g1 g2 n hn'=>hI n (List.mem_flatMap.2 ⟨cs,List.mem_of_getElem? g1,List.mem_flatMap.2 ⟨c,List.mem_of_getElem? g2,hn'⟩⟩)
   |mp ag es2=>exact mp_mono hzz h0 (fun b hb=>by have:=hl k2 _ e h (by simp) b [] (by simpa using hb);simpa using this) (by simp[e]) hI
 ·intro k2 ch h
  by_cases e:k2=t
  ·subst e
   rw[upd_self]at h;simp only[Option.some.injEq]at h;subst h
   apply hd
   intro n hn'
   obtain⟨r,hr1,hn'⟩:=List.mem_flatMap.1 hn'
   obtain⟨c,hc1,hn'⟩:=List.mem_flatMap.1 hn'
   obtain⟨i,hi⟩:=List.mem_iff_getElem?.1 hr1
   obtain⟨j,hj⟩:=List.mem_iff_getElem?.1 hc1
   exact hn i j r c hi hj n hn'
  ·rw[hoth k2 e]at h
   exact hd _ (hA.wf k2 ch h)
 ·intro p hp'
  obtain⟨g1,g2⟩:=hA.fix p hp'
  have:=hF p hp'
  exact⟨by rw[hoth _ this];exact g1,by simp[this,g2]⟩
 ·intro k u p x hk hs hv2
  obtain⟨ch,hch⟩:=Option.isSome_iff_exists.1 hs
  by_cases e:ch= .dead
  ·exact vw_dead (by rw[hoth k hk,hch,e]) hv2
  ·exact vw_keep hA (hoth k hk) (by simp[hk]) (fun b ρ hb=>(hl k ch hk hch e b ρ hb).2) hv2
theorem AtW.priv (hA:AtW X w0 I lab fz H w) {t:Nat} (ht:H t=none):(∀k ch,k≠t→H k=some ch→t∉chNames ch)∧∀p∈X.F,p.1≠t:=by
 refine⟨fun k ch _ hk hn=>?_,fun p hp' e=>?_⟩
 ·have:=hA.wf k ch hk t hn;rw[ht]at this;cases this
 ·have:=(hA.fix p hp').1;rw[e,ht]at this;cases this
theorem post_new0 (hA:AtW X w0 I lab fz H w) (w1:World) (hh:w1.heap=w.heap) (h1:w1.os=w.os) (h2:w1.tape=w.tape) (h3:w1.output=w.output) (t:Nat) (ht:H t=none)
  (z:List C) (es:List (List C)) (arr:Array Value) (T:TypeId) (cap:Nat) (hcap:es.length≤cap) (hsz:cap*z.length≤arr.size) (hzt:zOK z T 0)
  (hr:∀(i:Nat) (cs:List C),es[i]?=some cs→cs.length=z.length∧∀(j:Nat) (c:C),cs[j]?=some c→c.stor=true∧Dom H c.names∧∃y,arr[i*z.length+j]?=some y∧Den (hp w) fz lab I [] c y)
  (v:SV) (x:Value)
  (hv:v= .one (.p t 0 0)∧x=ptV (some (w.heap.size,0)) 0∨v= .one (.s t)∧x=slV (some (w.heap.size,0)) es.length cap) :
  Post X w0 w I lab fz H (some v) [(t,.vec 0 z es)] x (w1.alloc (.cells arr T)):=by
 obtain⟨p1,p2⟩:=hA.priv ht
 let nv:NV:=⟨some (w.heap.size,0),es.length,cap,z.length,false⟩
 let lab':Lab:=fun b=>if b=w.heap.size then some [t] else lab b
 have hsize:(w1.alloc (.cells arr T)).heap.size=w.heap.size+1:=by
  show (w1.heap.push _).size=_
  rw[hh];simp
 have hlt:∀b,b≠w.heap.size→hp (w1.alloc (.cells arr T)) b=hp w b:=by
  intro b hb
  show (w1.heap.push _)[b]?=w.heap[b]?
  rw[hh,Array.getElem?_push]
  simp[hb]
 have hself:hp (w1.alloc (.cells arr T)) w.heap.size=some (.cells arr T (0,0)):=by
  show (w1.heap.push _)[w.heap.size]?=_
  rw[hh,Array.getElem?_push]
  simp
 have hzb:∀b,fz b→hp (w1.alloc (.cells arr T)) b=hp w b:=fun b hb=>hlt b (by have:=(hA.fzl b hb).1;omega)
 have hI:∀n,(H n).isSome=true→(if n=t then nv else I n)=I n:=by
  intro n hn
  have:n≠t:=by rintro rfl;rw[ht]at hn;cases hn
  simp[this]
 obtain⟨r1,r2⟩:=at_set (lab':=lab') (w':=w1.alloc (.cells arr T)) hA p1 p2 nv rfl z es rfl hzb
  (fun k ch _ hk _ b ρ hb=>by
   have:b≠w.heap.size:=by have:=(hA.own b _ hb).1;omega
   exact⟨by simp only[lab',this,if_false];exact hb,hlt b this⟩)
  (fun b π hb=>by
   by_cases e:b=w.heap.size
   ·rw[hsize];exact⟨by omega,.inl (by have:=hA.kept.size;omega)⟩
   ·simp only[lab',e,if_false]at hb
    have:=hA.own b π hb
    exact⟨by rw[hsize];omega,this.2⟩)
  (fun b hb=>by
   have:=hA.fzl b hb
   exact⟨by rw[hsize];omega,by simp[lab',show b≠w.heap.size by omega,this.2]⟩)
  ⟨h1.trans hA.kept.os,h2.trans hA.kept.tape,h3.trans hA.kept.output,by rw[hsize];have:=hA.kept.size;omega,fun b hb hm=>by
   have hs:=hA.kept.size
   rw[← hA.kept.block b hb hm]
   exact hlt b (by omega)⟩
  (.inr ⟨w.heap.size,0,cap,arr,T,by simp[nv,NV.v],by simp[lab'],hself,⟨by omega,hzt⟩,hcap,fun i cs h4=>⟨(hr i cs h4).1,fun j c h5=>by
   obtain⟨g1,g2,y,g3,g4⟩:=(hr i cs h4).2 j c h5
   exact⟨y,by rw[Nat.zero_add];exact g3,den_flat (fun b hb=>⟨hb,hzb b hb⟩) (stor_flat g1) g4 fun n hn=>hI n (g2 n hn)⟩⟩⟩)
  (fun i j cs c g1 g2=>((hr i cs g1).2 j c g2).2.1)
 refine⟨_,lab',fz,r1,?_,r2.pres ht⟩
 intro s hs
 simp only[Option.some.injEq]at hs
 subst hs
 rcases hv with⟨rfl,rfl⟩|⟨rfl,rfl⟩
 ·have hx:ptV (some (w.heap.size,0)) 0=((fun n=>if n=t then nv else I n) t).p 0 0:=by simp[nv,NV.p]
  rw[hx]
  exact⟨rfl,.p _ _ _ _⟩
 ·have hx:slV (some (w.heap.size,0)) es.length cap=((fun n=>if n=t then nv else I n) t).v:=by simp[nv,NV.v]
  rw[hx]
  exact⟨rfl,.s _ _⟩
theorem at_rename (hA:AtW X w0 I lab fz H w) {t k u:Nat} (ht:H t=none) {z:List C} {es:List (List C)} (hk:H k=some (.vec u z es)) :
  ∃lab',AtW X w0 (fun n=>if n=t then I k else I n) lab' fz (upd (upd H k .dead) t (.vec 0 z es)) w∧PresB t (hp w) (hp w) fz fz I (fun n=>if n=t then I k else I n) H (upd (upd H k .dead) t (.vec 0 z es)):=by
 classical
 have hkt:k≠t:=by rintro rfl;rw[ht]at hk;cases hk
 let lab':Lab:=fun c=>match lab c with
  |some (n::ρ)=>if n=k then some (t::ρ) else some (n::ρ)
  |x=>x
 obtain⟨pr1,pr2⟩:=hA.priv ht
 obtain⟨m1,m2,m3⟩:=hA.h k _ hk
 have hlk:∀c ρ,lab c=some ([k]++ρ)→lab' c=some ([t]++ρ):=by intro c ρ hc;simp[lab',hc]
 have hlo:∀k2,k2≠k→∀c ρ,lab c=some ([k2]++ρ)→lab' c=some ([k2]++ρ):=by intro k2 h c ρ hc;simp[lab',hc,h]
 have hsome:∀c π,lab' c=some π→∃π',lab c=some π':=by
  intro c π hc
  cases h:lab c with
  |none=>simp[lab',h]at hc
  |some π'=>exact⟨π',rfl⟩
 have hA1:AtW X w0 I lab fz (upd H k .dead) w:=by
  refine⟨fun k2 ch h=>?_,fun k2 ch h=>?_,hA.own,hA.fzl,hA.fzo,hA.kept,fun p hp'=>⟨?_,(hA.fix p hp').2⟩⟩
  ·by_cases e:k2=k
   ·subst e;rw[upd_self]at h;simp only[Option.some.injEq]at h;subst h;trivial
   ·rw[upd_ne _ _ e]at h;exact hA.h k2 ch h
  ·by_cases e:k2=k
   ·subst e;rw[upd_self]at h;simp only[Option.some.injEq]at h;subst h;intro n hn;cases hn
   ·rw[upd_ne _ _ e]at h;exact dom_upd (hA.wf k2 ch h) _ _
  ·exact dom_upd (l:=[p.1]) (by intro q hq;simp at hq;subst hq;exact(hA.fix p hp').1) k .dead p.1 (by simp)
 have hp1:PresB t (hp w) (hp w) fz fz I I H (upd H k .dead):=by
  refine⟨fun b hb=>⟨hb,rfl⟩,fun _ _ _=>rfl,fun n _ hn=>dom_upd (l:=[n]) (by intro q hq;simp at hq;subst hq;exact hn) k .dead n (by simp),?_⟩
  intro n u2 p x hnt hn hv
  by_cases e:n=k
  ·subst e;exact vw_dead (upd_self _ _ _) hv
  ·exact vw_keep hA (upd_ne _ _ e) rfl (fun _ _ _=>rfl) hv
 have ht1:(upd H k .dead) t=none:=by rw[upd_ne _ _ (Ne.symm hkt)];exact ht
 obtain⟨q1,q2⟩:=hA1.priv ht1
 have c1:∀k2 ch,k2≠t→upd H k .dead k2=some ch→ch≠.dead→∀b ρ,lab b=some ([k2]++ρ)→lab' b=some ([k2]++ρ)∧hp w b=hp w b:=by
  intro k2 ch g1 g2 g3 b ρ hb
  refine⟨?_,rfl⟩
  by_cases e:k2=k
  ·subst e;rw[upd_self]at g2;simp only[Option.some.injEq]at g2;exact absurd g2.symm g3
  ·exact hlo k2 e b ρ hb
 have c2:∀b π,lab' b=some π→b<w.heap.size∧(w0.heap.size≤b∨X.M b):=by
  intro b π hb
  obtain⟨π',h⟩:=hsome b π hb;exact hA.own b π' h
 have c3:∀b,fz b→b<w.heap.size∧lab' b=none:=fun b hb=>⟨(hA.fzl b hb).1,by have:=(hA.fzl b hb).2;simp[lab',this]⟩
 have c4:VecAt (hp w) fz lab' (fun n=>if n=t then I k else I n) [t] z es (I k).v:=by
  refine vec_mono (fun b hb=>⟨hb,rfl⟩) m3 (fun b ρ hb=>⟨hlk b ρ hb,rfl⟩) fun i j cs c g1 g2 n hn=>?_
  have:n≠t:=by
   rintro rfl
   exact pr1 k _ hkt hk (List.mem_flatMap.2 ⟨cs,List.mem_of_getElem? g1,List.mem_flatMap.2 ⟨c,List.mem_of_getElem? g2,hn⟩⟩)
  simp[this]
 have c5:∀(i j:Nat) (cs:List C) (c:C),es[i]?=some cs→cs[j]?=some c→Dom (upd H k .dead) c.names:=by
  intro i j cs c g1 g2 n hn
  have:=hA.wf k _ hk n (List.mem_flatMap.2 ⟨cs,List.mem_of_getElem? g1,List.mem_flatMap.2 ⟨c,List.mem_of_getElem? g2,hn⟩⟩)
  exact dom_upd (l:=[n]) (by intro q hq;simp at hq;subst hq;exact this) k .dead n (by simp)
 obtain⟨r1,r2⟩:=at_set (lab':=lab') hA1 q1 q2 (I k) m1 z es m2 (fun _ _=>rfl) c1 c2 c3 hA.kept c4 c5
 exact⟨lab',r1,hp1.comp r2⟩
theorem vec_set1 {h h':Heap} {fz fz':Nat→Prop} {lab lab':Lab} {I I':Nm} (hz:∀b,fz b→fz' b∧h' b=h b) {π:List Nat} {z:List C} {es:List (List C)} {v y:Value} {i j:Nat} {c0 c1:C} (hv:VecAt h fz lab I π z es v) (hi:i<es.length) (hj:(es.getD i z)[j]?=some c0)
  (hy:AtP h [(i,j)] (baseOf v) z es y) (hl:∀b ρ,lab b=some (π++ρ)→¬([i,j] <+: ρ)→lab' b=some (π++ρ)∧h' b=h b) (hI:∀(i j:Nat) (cs:List C) (c:C),es[i]?=some cs→cs[j]?=some c→∀k∈c.names,I' k=I k) (h1:Den h' fz' lab' I' (π++[i,j]) c1 y) :
  VecAt h' fz' lab' I' π z (es.set i ((es.getD i z).set j c1)) v:=by
 rcases hv with⟨rfl,_⟩|⟨b,off,cap,arr,T,rfl,hlb,hh,hsz,hcap,hc⟩
 ·simp at hi
 ·rw[baseOf_slV]at hy
  obtain⟨b',off',arr',T',m',e1,e2,e3⟩:=hy
  simp only[Option.some.injEq,Prod.mk.injEq]at e1
  obtain⟨rfl,rfl⟩:=e1
  rw[hh]at e2
  simp only[Option.some.injEq,Obj.cells.injEq]at e2
  obtain⟨rfl,_,_⟩:=e2
  obtain⟨l1,l2⟩:=hl b [] (by simpa using hlb) (by simp)
  refine .inr ⟨b,off,cap,arr,T,by simp,by simpa using l1,l2.trans hh,hsz,by simpa using hcap,fun i2 cs q1=>?_⟩
  have oth:∀(i2 j2:Nat) (r:List C) (cc:C) (yy:Value),es[i2]?=some r→r[j2]?=some cc→(i2≠i∨j2≠j)→Den h fz lab I (π++[i2,j2]) cc yy→Den h' fz' lab' I' (π++[i2,j2]) cc yy:=by
   intro i2 j2 r cc yy r1 r2 hne hd
   refine den_mono hz hd _ (fun c' ρ hc'=>?_) fun k hk=>hI i2 j2 r cc r1 r2 k hk
   have:=hl c' ([i2,j2]++ρ) (by rw[← List.append_assoc];exact hc') (by
    rintro ⟨σ,hσ⟩
    simp at hσ
    omega)
   rwa [← List.append_assoc]at this
  rw[List.getElem?_set]at q1
  split at q1
  ·rename_i e0;subst e0
   try rw[if_pos hi]at q1
   simp only[Option.some.injEq]at q1;subst q1
   obtain⟨p1,p2⟩:=hc i _ (getD_get (d:=z) hi)
   refine⟨by simpa using p1,fun j2 c2 q2=>?_⟩
   rw[List.getElem?_set]at q2
   split at q2
   ·rename_i e1;subst e1
    split at q2
    ·simp only[Option.some.injEq]at q2;subst q2
     exact⟨y,e3,h1⟩
    ·cases q2
   ·rename_i e1
    obtain⟨yy,yy1,yy2⟩:=p2 j2 c2 q2
    exact⟨yy,yy1,oth i j2 _ c2 yy (getD_get hi) q2 (.inr (Ne.symm e1)) yy2⟩
  ·rename_i e0
   obtain⟨p1,p2⟩:=hc i2 cs q1
   refine⟨p1,fun j2 c2 q2=>?_⟩
   obtain⟨yy,yy1,yy2⟩:=p2 j2 c2 q2
   exact⟨yy,yy1,oth i2 j2 cs c2 yy q1 q2 (.inl (Ne.symm e0)) yy2⟩
theorem setP_names:∀(p:List (Nat×Nat)) {z:List C} {es:List (List C)} {c1:C} {i j:Nat} {cs:List C} {c:C},(setP p z es c1)[i]?=some cs→cs[j]?=some c→∀n∈c.names,n∈c1.names∨∃r∈es,∃c0∈r,n∈c0.names
 |[],z,es,c1,i,j,cs,c,h1,h2,n,hn=>.inr ⟨cs,List.mem_of_getElem? h1,c,List.mem_of_getElem? h2,hn⟩
 |(i0,j0)::r,z,es,c1,i,j,cs,c,h1,h2,n,hn=>by
  have key:∀c2:C,(es.set i0 ((es.getD i0 z).set j0 c2))[i]?=some cs→n∈c2.names∨∃r∈es,∃c0∈r,n∈c0.names:=by
   intro c2 h1
   rw[List.getElem?_set]at h1
   split at h1
   ·split at h1
    ·rename_i hlt
     simp only[Option.some.injEq]at h1;subst h1
     rw[List.getElem?_set]at h2
     split at h2
     ·split at h2
      ·simp only[Option.some.injEq]at h2;subst h2;exact .inl hn
      ·cases h2
     ·exact .inr ⟨_,List.mem_of_getElem? (getD_get (d:=z) hlt),c,List.mem_of_getElem? h2,hn⟩
    ·cases h1
   ·exact .inr ⟨cs,List.mem_of_getElem? h1,c,List.mem_of_getElem? h2,hn⟩
  cases r with
  |nil=>exact key c1 h1
  |cons q r=>
   simp only[setP]at h1
   split at h1
   ·rcases key _ h1 with h|h
    ·cases h
    ·exact .inr h
   ·exact .inr ⟨cs,List.mem_of_getElem? h1,c,List.mem_of_getElem? h2,hn⟩
theorem vec_setP {h h':Heap} {fz fz':Nat→Prop} {lab lab':Lab} {I I':Nm} (hz:∀b,fz b→fz' b∧h' b=h b):∀(p:List (Nat×Nat)) {π:List Nat} {z:List C} {es:List (List C)} {v y:Value} {c0 c1:C},VecAt h fz lab I π z es v→inP p z es→getP p z es=some c0→
  AtP h p (baseOf v) z es y→(∀b ρ,lab b=some (π++ρ)→¬(flatP p <+: ρ)→lab' b=some (π++ρ)∧h' b=h b)→(∀(i j:Nat) (cs:List C) (c:C),es[i]?=some cs→cs[j]?=some c→∀k∈c.names,I' k=I k)→Den h' fz' lab' I' (π++flatP p) c1 y→c1.names=[]→
  VecAt h' fz' lab' I' π z (setP p z es c1) v
 |[],_,_,_,_,_,_,_,_,hi,_,_,_,_,_,_=>hi.elim
 |[(i,j)],π,z,es,v,y,c0,c1,hv,hi,hg,ha,hl,hI,h1,_=>vec_set1 hz hv hi hg ha hl hI h1
 |(i,j)::q::r,π,z,es,v,y,c0,c1,hv,hi,hg,ha,hl,hI,h1,hn=>by
  obtain⟨hi1,hi2⟩:=hi
  obtain⟨b',off',arr',T',m',y',e1,e2,e3,e4⟩:=ha
  simp only[getP]at hg
  split at e4
  ·rename_i z' es' hg'
   rw[hg']at hi2 hg
   have hat:AtP h [(i,j)] (baseOf v) z es y':=⟨b',off',arr',T',m',e1,e2,e3⟩
   have hd:=atp_open [(i,j)] hv hi1 (by simpa only[getP] using hg') hat
   simp only[flatP]at hd
   obtain⟨d1,d2⟩:=ov_vec hd
   have e:setP ((i,j)::q::r) z es c1=es.set i ((es.getD i z).set j (.ov z' (setP (q::r) z' es' c1))):=by simp only[setP,hg']
   rw[e]
   refine vec_set1 hz hv hi1 hg' hat (fun b ρ hb hne=>hl b ρ hb ?_) hI (vec_ov (vec_setP hz (q::r) d1 hi2 hg e4 ?_ ?_ ?_ hn) ?_)
   ·rintro ⟨σ,hσ⟩
    exact hne ⟨flatP (q::r)++σ,by simpa [flatP] using hσ⟩
   ·intro b ρ hb hne
    have:=hl b ([i,j]++ρ) (by rw[← List.append_assoc];exact hb) (by
     rintro ⟨σ,hσ⟩
     refine hne ⟨σ,?_⟩
     have h2:i::j::(flatP (q::r)++σ)=i::j::ρ:=by simpa [flatP] using hσ
     simpa using h2)
    rwa [← List.append_assoc]at this
   ·intro i2 j2 cs c g1 g2 k hk
    rw[d2 i2 j2 cs c g1 g2]at hk;cases hk
   ·simpa [flatP,List.append_assoc] using h1
   ·intro i2 j2 cs c g1 g2
    apply List.eq_nil_iff_forall_not_mem.2
    intro n hn'
    rcases setP_names (q::r) g1 g2 n hn' with h|⟨r2,hr2,c2,hc2,h⟩
    ·rw[hn]at h;cases h
    ·obtain⟨i3,hi3⟩:=List.mem_iff_getElem?.1 hr2
     obtain⟨j3,hj3⟩:=List.mem_iff_getElem?.1 hc2
     rw[d2 i3 j3 r2 c2 hi3 hj3]at h;cases h
  ·exact e4.elim
theorem vec_base (hA:AtW X w0 I lab fz H w) {k u:Nat} {z:List C} {es:List (List C)} (hk:H k=some (.vec u z es)):VecAt (hp w) fz lab I [k] z es (I k).v∧baseOf (I k).v=(I k).b:=by
 obtain⟨m1,m2,m3⟩:=hA.h k _ hk
 exact⟨m3,by unfold NV.v;rw[m1];exact baseOf_slV _ _ _⟩
theorem at_take (hA:AtW X w0 I lab fz H w) {t k u:Nat} {p:List (Nat×Nat)} (ht:H t=none) {z z':List C} {es es':List (List C)} {y:Value} (hk:H k=some (.vec u z es)) (hi:inP p z es) (hj:getP p z es=some (.ov z' es')) (hat:AtP (hp w) p (I k).b z es y) :
  ∃lab' nv,nv.mp=false∧nv.v=y∧AtW X w0 (fun n=>if n=t then nv else I n) lab' fz (upd (upd H k (.vec (u+1) z (setP p z es .any))) t (.vec 0 z' es')) w∧
   PresB t (hp w) (hp w) fz fz I (fun n=>if n=t then nv else I n) H (upd (upd H k (.vec (u+1) z (setP p z es .any))) t (.vec 0 z' es')):=by
 classical
 have hkt:k≠t:=by rintro rfl;rw[ht]at hk;cases hk
 obtain⟨hbv,hbase⟩:=vec_base hA hk
 have hden:=atp_open p hbv hi hj (by rw[hbase];exact hat)
 obtain⟨hvec,hcl⟩:=ov_vec hden
 let π:List Nat:=[k]++flatP p
 let lab':Lab:=fun c=>match lab c with
  |some ρ=>if π <+: ρ then some (t::ρ.drop π.length) else some ρ
  |none=>none
 obtain⟨pr1,pr2⟩:=hA.priv ht
 have hlk:∀c ρ,lab c=some (π++ρ)→lab' c=some ([t]++ρ):=by
  intro c ρ hc
  simp only[lab',hc]
  rw[if_pos (List.prefix_append _ _)]
  simp
 have hlo:∀c ρ,lab c=some ρ→¬(π <+: ρ)→lab' c=some ρ:=by intro c ρ hc h;simp only[lab',hc];rw[if_neg h]
 have hsome:∀c ρ,lab' c=some ρ→∃ρ',lab c=some ρ':=by
  intro c ρ hc
  cases h:lab c with
  |none=>simp[lab',h]at hc
  |some ρ'=>exact⟨ρ',rfl⟩
 have hz:∀b,fz b→fz b∧hp w b=hp w b:=fun b hb=>⟨hb,rfl⟩
 have nmsub:∀(i2 j2:Nat) (r2:List C) (c2:C),(setP p z es .any)[i2]?=some r2→r2[j2]?=some c2→∀n∈c2.names,(H n).isSome=true:=by
  intro i2 j2 r2 c2 h1 h2 n hn
  rcases setP_names p h1 h2 n hn with h|⟨r,hr,c,hc,h⟩
  ·cases h
  ·exact hA.wf k _ hk n (List.mem_flatMap.2 ⟨r,hr,List.mem_flatMap.2 ⟨c,hc,h⟩⟩)
 let H1:=upd H k (.vec (u+1) z (setP p z es .any))
 have hotherl:∀k2,k2≠k→∀c ρ,lab c=some ([k2]++ρ)→lab' c=some ([k2]++ρ):=by
  intro k2 e c ρ hc
  refine hlo c _ hc ?_
  rintro ⟨σ,hσ⟩
  simp[π]at hσ
  exact e hσ.1.symm
 have hA1:AtW X w0 I lab' fz H1 w:=by
  refine⟨fun k2 ch h=>?_,fun k2 ch h=>?_,fun c ρ hc=>?_,fun c hc=>⟨(hA.fzl c hc).1,by have:=(hA.fzl c hc).2;simp[lab',this]⟩,hA.fzo,hA.kept,fun p hp'=>⟨?_,(hA.fix p hp').2⟩⟩
  ·by_cases e:k2=k
   ·subst e
    rw[show H1 k2=_ from upd_self _ _ _]at h;simp only[Option.some.injEq]at h;subst h
    obtain⟨m1,m2,m3⟩:=hA.h k2 _ hk
    refine⟨m1,m2,vec_setP hz p m3 hi hj (by rw[hbase];exact hat) (fun b ρ hb hne=>⟨hlo b _ hb ?_,rfl⟩) (fun _ _ _ _ _ _ _ _=>rfl) (.any _ _ (den_one hden)) rfl⟩
    rintro ⟨σ,hσ⟩
    exact hne ⟨σ,by simpa [π] using hσ⟩
   ·rw[show H1 k2=H k2 from upd_ne _ _ e]at h
    exact ch_keep hA h hz (fun _ _=>rfl) fun c ρ hc=>⟨hotherl k2 e c ρ hc,rfl⟩
  ·have hd1:∀n,(H n).isSome=true→(H1 n).isSome=true:=fun n hn=>dom_upd (l:=[n]) (by intro q hq;simp at hq;subst hq;exact hn) k _ n (by simp)
   by_cases e:k2=k
   ·subst e
    rw[show H1 k2=_ from upd_self _ _ _]at h;simp only[Option.some.injEq]at h;subst h
    intro n hn
    obtain⟨r,hr1,hn⟩:=List.mem_flatMap.1 hn
    obtain⟨c,hc1,hn⟩:=List.mem_flatMap.1 hn
    obtain⟨i2,hi2⟩:=List.mem_iff_getElem?.1 hr1
    obtain⟨j2,hj2⟩:=List.mem_iff_getElem?.1 hc1
    exact hd1 n (nmsub i2 j2 r c hi2 hj2 n hn)
   ·rw[show H1 k2=H k2 from upd_ne _ _ e]at h
    intro n hn
    exact hd1 n (hA.wf k2 ch h n hn)
  ·obtain⟨ρ',h⟩:=hsome c ρ hc;exact hA.own c ρ' h
  ·exact dom_upd (l:=[p.1]) (by intro q hq;simp at hq;subst hq;exact(hA.fix p hp').1) k _ p.1 (by simp)
 have hp1:PresB t (hp w) (hp w) fz fz I I H H1:=by
  refine⟨hz,fun _ _ _=>rfl,fun n _ hn=>dom_upd (l:=[n]) (by intro q hq;simp at hq;subst hq;exact hn) k _ n (by simp),?_⟩
  intro n u2 p2 x hnt hn hv
  by_cases e:n=k
  ·subst e;exact vw_bump hA hk (upd_self _ _ _) (by omega) hv
  ·exact vw_keep hA (upd_ne _ _ e) rfl (fun _ _ _=>rfl) hv
 have ht1:H1 t=none:=by rw[show H1 t=H t from upd_ne _ _ (Ne.symm hkt)];exact ht
 obtain⟨q1,q2⟩:=hA1.priv ht1
 have hnv:∃nv:NV,nv.mp=false∧nv.s=z'.length∧nv.v=y:=by
  rcases hvec with⟨_,rfl⟩|⟨b2,off2,cap2,arr2,T2,rfl,_⟩
  ·exact⟨⟨none,0,0,z'.length,false⟩,rfl,rfl,rfl⟩
  ·exact⟨⟨some (b2,off2),es'.length,cap2,z'.length,false⟩,rfl,rfl,rfl⟩
 obtain⟨nv,n1,n2,n3⟩:=hnv
 have c4:VecAt (hp w) fz lab' (fun n=>if n=t then nv else I n) [t] z' es' nv.v:=by
  rw[n3]
  exact vec_mono hz hvec (fun b ρ hb=>⟨hlk b ρ hb,rfl⟩) fun i j cs c g1 g2 n hn=>by rw[hcl i j cs c g1 g2]at hn;cases hn
 obtain⟨r1,r2⟩:=at_set (lab':=lab') hA1 q1 q2 nv n1 z' es' n2 (fun _ _=>rfl) (fun _ _ _ _ _ b ρ hb=>⟨hb,rfl⟩) hA1.own (fun b hb=>⟨(hA1.fzl b hb).1,(hA1.fzl b hb).2⟩) hA.kept c4
  (fun i j cs c g1 g2 n hn=>by rw[hcl i j cs c g1 g2]at hn;cases hn)
 exact⟨lab',nv,n1,n3,r1,hp1.comp r2⟩
theorem post_upd (hA:AtW X w0 I lab fz H w) {k u:Nat} {z:List C} {es es':List (List C)} (hk:H k=some (.vec u z es)) {w':World} {b:Nat} {ρ0:List Nat} (hb:lab b=some (k::ρ0))
  (hs:w'.heap.size=w.heap.size) (h1:w'.os=w.os) (h2:w'.tape=w.tape) (h3:w'.output=w.output) (hne:∀c,c≠b→w'.heap[c]?=w.heap[c]?)
  (hv:VecAt (hp w') fz lab I [k] z es' (I k).v) (hn:∀(i j:Nat) (cs:List C) (c:C),es'[i]?=some cs→cs[j]?=some c→Dom H c.names) (x:Value) :
  Post X w0 w I lab fz H none [(k,.vec (u+1) z es')] x w':=by
 have hz:∀c,fz c→fz c∧hp w' c=hp w c:=fun c hc=>⟨hc,hne c (by rintro rfl;have:=(hA.fzl c hc).2;rw[hb]at this;cases this)⟩
 have hl:∀k2,k2≠k→∀c ρ,lab c=some ([k2]++ρ)→lab c=some ([k2]++ρ)∧hp w' c=hp w c:=by
  intro k2 hk2 c ρ hc
  refine⟨hc,hne c ?_⟩
  rintro rfl
  rw[hb]at hc
  simp at hc
  exact hk2 hc.1.symm
 have hd:∀l,Dom H l→Dom (updH H [(k,.vec (u+1) z es')]) l:=fun l hl=>dom_updH _ hl
 have hself:updH H [(k,.vec (u+1) z es')] k=some (.vec (u+1) z es'):=by simp[updH,upd]
 have hoth:∀k2,k2≠k→updH H [(k,.vec (u+1) z es')] k2=H k2:=by intro k2 h;simp[updH,upd,h]
 obtain⟨m1,m2,_⟩:=hA.h k _ hk
 refine⟨I,lab,fz,⟨?_,?_,?_,?_,hA.fzo,?_,?_⟩,(fun s hs=>by cases hs),hz,fun _ _=>rfl,?_⟩
 ·intro k2 ch h
  by_cases e:k2=k
  ·subst e
   rw[hself]at h;simp only[Option.some.injEq]at h;subst h
   exact⟨m1,m2,hv⟩
  ·rw[hoth k2 e]at h
   exact ch_keep hA h hz (fun _ _=>rfl) (hl k2 e)
 ·intro k2 ch h
  by_cases e:k2=k
  ·subst e
   rw[hself]at h;simp only[Option.some.injEq]at h;subst h
   apply hd
   intro n hn'
   obtain⟨r,hr1,hn'⟩:=List.mem_flatMap.1 hn'
   obtain⟨c,hc1,hn'⟩:=List.mem_flatMap.1 hn'
   obtain⟨i,hi⟩:=List.mem_iff_getElem?.1 hr1
   obtain⟨j,hj⟩:=List.mem_iff_getElem?.1 hc1
   exact hn i j r c hi hj n hn'
  ·rw[hoth k2 e]at h
   exact hd _ (hA.wf k2 ch h)
 ·intro c π hc;rw[hs];exact hA.own c π hc
 ·intro c hc;rw[hs];exact hA.fzl c hc
 ·refine⟨h1.trans hA.kept.os,h2.trans hA.kept.tape,h3.trans hA.kept.output,by rw[hs];exact hA.kept.size,fun c hc hm=>?_⟩
  rw[← hA.kept.block c hc hm]
  refine hne c ?_
  rintro rfl
  rcases (hA.own c _ hb).2 with h|h
  ·omega
  ·exact hm h
 ·intro p hp'
  obtain⟨g1,g2⟩:=hA.fix p hp'
  exact⟨dom_updH (l:=[p.1]) _ (by intro q hq;simp at hq;subst hq;exact g1) p.1 (by simp),g2⟩
 ·intro k2 u2 p y hk2 hv2
  by_cases e:k2=k
  ·subst e;exact vw_bump hA hk hself (by omega) hv2
  ·exact vw_keep hA (hoth k2 e) rfl (fun c ρ hc=>(hl k2 e c ρ hc).2) hv2
end
end Go.Sy
namespace Go.Sy
open Go.RowKit
theorem oneC {x:Value} (h:oneV x=true):x.oneCell'=true:=by cases x<;>first|rfl|(simp[oneV]at h)
theorem addr_add (b off n:Nat):(⟨b,off,none⟩:Addr).add n=⟨b,off+n,none⟩:=by
 unfold Addr.add
 split
 ·rename_i h;subst h;rfl
 ·rfl
theorem setCells_heap (b:Nat) (T:TypeId) (m:Nat×Nat):∀(vs:List Value) (o:Nat) (w:World) (arr:Array Value),w.heap[b]?=some (.cells arr T m)→o+vs.length≤arr.size→
  ∃arr',(w.setCells b o vs).heap[b]?=some (.cells arr' T m)∧arr'.size=arr.size∧(∀i,arr'[i]?=if o≤i∧i<o+vs.length then vs[i-o]? else arr[i]?)∧
   (w.setCells b o vs).heap.size=w.heap.size∧(w.setCells b o vs).os=w.os∧(w.setCells b o vs).tape=w.tape∧(w.setCells b o vs).output=w.output∧∀c,c≠b→(w.setCells b o vs).heap[c]?=w.heap[c]?
 |[],o,w,arr,h,_=>⟨arr,h,rfl,fun i=>by rw[if_neg (by rintro ⟨h1,h2⟩;simp only[List.length_nil]at h2;omega)],rfl,rfl,rfl,rfl,fun _ _=>rfl⟩
 |v::r,o,w,arr,h,hl=>by
  simp only[List.length_cons]at hl
  have h1:(w.setCell ⟨b,o,none⟩ v).heap[b]?=some (.cells (arr.setIfInBounds o v) T m):=by
   simp[World.setCell,Array.getElem?_modify,h]
  obtain⟨arr',g1,g2,g3,g4,g5,g6,g7,g8⟩:=setCells_heap b T m r (o+1) (w.setCell ⟨b,o,none⟩ v) _ h1 (by simp;omega)
  refine⟨arr',g1,by simpa using g2,fun i=>?_,?_,g5,g6,g7,fun c hc=>?_⟩
  ·rw[g3]
   by_cases e:i=o
   ·subst e
    rw[if_neg (by omega),if_pos (by simp)]
    simp[Array.getElem?_setIfInBounds]
    omega
   ·by_cases e2:o+1≤i∧i<o+1+r.length
    ·rw[if_pos e2,if_pos (by simp;omega)]
     obtain⟨d,rfl⟩:∃d,i=o+1+d:=⟨i-(o+1),by omega⟩
     rw[show o+1+d-(o+1)=d by omega,show o+1+d-o=d+1 by omega]
     simp
    ·rw[if_neg e2,if_neg (by simp;omega)]
     rw[Array.getElem?_setIfInBounds_ne (by omega)]
  ·rw[World.setCells,g4];simp[World.setCell]
  ·rw[World.setCells,g8 c hc];exact Below.heap_setCell _ _ _ _ hc
section
variable {P:Program} {X:Ctx} {w0 w:World} {I:Nm} {lab:Lab} {fz:Nat→Prop} {H:Hp}
theorem den_oD {h:Heap} {fz:Nat→Prop} {lab:Lab} {I:Nm} {π:List Nat} {d:D} {y:Value} (r:Rd h fz d y):Den h fz lab I π (oD d) y:=by
 cases r with
 |v x h1=>exact .v _ _ h1
 |nil z a cap h0=>exact .d _ _ _ (.nil z a cap h0)
 |sl=>rename_i z es b off cap arr T m val hz hb hcap hl hc hr;exact .d _ _ _ (.sl z es b off cap arr T m val hz hb hcap hl hc hr)
 |pnil=>exact .d _ _ _ .pnil
 |mp es b entries clock hz hb hl hk=>exact .d _ _ _ (.mp es b entries clock hz hb hl hk)
 |pt=>rename_i cs b off arr T m val hz hb hc hr;exact .d _ _ _ (.pt cs b off arr T m val hz hb hc hr)
theorem oD_stor (d:D):(oD d).stor=true:=by cases d<;>rfl
theorem oD_names (d:D):(oD d).names=[]:=by cases d<;>rfl
theorem rows_read {arr:Array Value} {off s n:Nat} (hsz:off+n*s≤arr.size):((arr.toList.drop off).take (n*s)).length=n*s∧∀i j,i<n→j<s→((arr.toList.drop off).take (n*s))[i*s+j]?=arr[off+i*s+j]?:=by
 constructor
 ·simp;omega
 ·intro i j hi hj
  have:i*s+j<n*s:=by
   have:(i+1)*s≤n*s:=Nat.mul_le_mul_right s hi
   rw[Nat.add_mul]at this;omega
  rw[List.getElem?_take,if_pos this,List.getElem?_drop,Array.getElem?_toList]
  congr 1
  omega
theorem src_ok (hA:AtW X w0 I lab fz H w) {b:C} {y:Value} (hb:SC (hp w) fz lab I H b y) {z:List C} {rows:List (List C)} {f:List Nat} (hr:srcR H z b=some (rows,f)) {U e:TypeId} (hU:P.underlying U=some (.slice e)) {s:Nat} (hs:0<s)
  (hq:∀q,srcZ H b=some q→q=s) (hst:rowsStor rows) :
  ∃news,Src P s U y rows.length news w∧∀(i:Nat) (r:List C),rows[i]?=some r→r.length=s∧∀(j:Nat) (c:C),r[j]?=some c→Dom H c.names∧∃v,news[i*s+j]?=some v∧Den (hp w) fz lab I [] c v:=by
 have key:∀(a:Addr) (n c:Nat) (arr:Array Value) (T:TypeId) (m:Nat×Nat),a.spot=none→(hp w) a.block=some (.cells arr T m)→a.off+n*s≤arr.size→(∀j,j<n*s→∃v,arr[a.off+j]?=some v∧oneV v=true)→
   Src P s U (.slice (some a) n c) n ((arr.toList.drop a.off).take (n*s)) w:=by
  intro a n c arr T m hsp hh hsz hone
  obtain⟨g1,g2⟩:=rows_read (s:=s) (n:=n) hsz
  obtain⟨ab,ao,asp⟩:=a
  simp only at hsp;subst hsp
  refine Src.ofSlice w hU _ n c _ g1 ?_ ?_
  ·intro j u hj
   have hjl:j<n*s:=by have:=(List.getElem?_eq_some_iff.1 hj).1;omega
   rw[addr_add]
   have hh':w.heap[ab]?=some (.cells arr T m):=hh
   simp only[World.cell?,hh',Option.isSome_none,Bool.false_eq_true,if_false]
   rw[List.getElem?_take,if_pos hjl,List.getElem?_drop,Array.getElem?_toList]at hj
   exact hj
  ·intro u hu
   obtain⟨j,hj⟩:=List.mem_iff_getElem?.1 hu
   have hjl:j<n*s:=by have:=(List.getElem?_eq_some_iff.1 hj).1;omega
   rw[List.getElem?_take,if_pos hjl,List.getElem?_drop,Array.getElem?_toList]at hj
   obtain⟨v,g3,g4⟩:=hone j hjl
   rw[g3]at hj
   simp only[Option.some.injEq]at hj
   subst hj
   exact oneC g4
 have hdiv:∀n j,j<n*s→j / s<n∧j % s<s∧j / s*s+j % s=j:=by
  intro n j hj
  refine⟨Nat.div_lt_of_lt_mul (by rwa [Nat.mul_comm]),Nat.mod_lt _ hs,?_⟩
  rw[Nat.mul_comm];exact Nat.div_add_mod j s
 have dcase:∀(z':List D) (es:List (List D)),z'.length=s→Rd (hp w) fz (.sl z' es) y→rows=es.map (fun r=>r.map oD)→
   ∃news,Src P s U y rows.length news w∧∀(i:Nat) (r:List C),rows[i]?=some r→r.length=s∧∀(j:Nat) (c:C),r[j]?=some c→Dom H c.names∧∃v,news[i*s+j]?=some v∧Den (hp w) fz lab I [] c v:=by
  intro z' es hz' hrd hrows
  subst hrows
  cases hrd with
  |nil _ a cap h0=>
   cases a with
   |none=>
    obtain rfl:=h0 rfl
    exact⟨[],Src.ofNil w hU 0,by simp⟩
   |some a=>exact⟨[],Src.ofSlice w hU a 0 cap [] (by simp) (by simp) (by simp),by simp⟩
  |sl _ _ bl off cap arr T m val hfz hh hcap hl hc hrr=>
   have hone:∀j,j<es.length*s→∃v,arr[off+j]?=some v∧oneV v=true:=by
    intro j hj
    obtain⟨d1,d2,d3⟩:=hdiv es.length j hj
    obtain⟨cs,hcs⟩:∃cs,es[j / s]?=some cs:=⟨_,List.getElem?_eq_getElem d1⟩
    have hlen:=hl _ cs hcs
    obtain⟨d,hd⟩:∃d,cs[j % s]?=some d:=⟨_,List.getElem?_eq_getElem (by omega)⟩
    have:=hc _ _ cs d hcs hd
    rw[hz',Nat.add_assoc,d3]at this
    exact⟨_,this,rd_one (hrr _ _ cs d hcs hd)⟩
   by_cases he:es=[]
   ·subst he
    exact⟨[],Src.ofSlice w hU ⟨bl,off,none⟩ 0 cap [] (by simp) (by simp) (by simp),by simp⟩
   have hpos:0<es.length:=List.length_pos_iff.2 he
   have hsz:off+es.length*s≤arr.size:=by
    have h0:0<es.length*s:=Nat.mul_pos hpos hs
    obtain⟨v,hv,_⟩:=hone (es.length*s-1) (by omega)
    have:=(Array.getElem?_eq_some_iff.1 hv).1
    omega
   obtain⟨g1,g2⟩:=rows_read (s:=s) (n:=es.length) hsz
   refine⟨(arr.toList.drop off).take (es.length*s),?_,?_⟩
   ·have:=key ⟨bl,off,none⟩ es.length cap arr T m rfl hh hsz hone
    simpa using this
   ·intro i r hr
    simp only[List.getElem?_map,Option.map_eq_some_iff]at hr
    obtain⟨cs,hcs,rfl⟩:=hr
    have hil:i<es.length:=(List.getElem?_eq_some_iff.1 hcs).1
    have hlen:=hl i cs hcs
    refine⟨by simp[hlen,hz'],fun j c hj=>?_⟩
    simp only[List.getElem?_map,Option.map_eq_some_iff]at hj
    obtain⟨d,hd,rfl⟩:=hj
    have hjl:j<s:=by have:=(List.getElem?_eq_some_iff.1 hd).1;omega
    refine⟨(by rw[oD_names];intro n hn;cases hn),_,?_,den_oD (hrr i j cs d hcs hd)⟩
    rw[g2 i j hil hjl,← hz']
    exact hc i j cs d hcs hd
 unfold srcR at hr
 split at hr
 ·rename_i z' es
  simp only[Option.some.injEq,Prod.mk.injEq]at hr
  obtain⟨hrows,_⟩:=hr
  have hd:=hb.2
  cases hd with
  |d _ _ _ r=>exact dcase z' es (hq _ rfl) r hrows.symm
 ·rename_i z' es
  simp only[Option.some.injEq,Prod.mk.injEq]at hr
  obtain⟨hrows,_⟩:=hr
  have hd:=hb.2
  cases hd with
  |df _ _ _ a r=>exact dcase z' es (hq _ rfl) r hrows.symm
 ·simp only[Option.some.injEq,Prod.mk.injEq]at hr
  obtain⟨rfl,_⟩:=hr
  have hd:=hb.2
  cases hd with
  |v=>exact⟨[],Src.ofNil w hU 0,by simp⟩
 ·rename_i k
  split at hr
  ·rename_i u z' es hk
   simp only[Option.some.injEq,Prod.mk.injEq]at hr
   obtain⟨rfl,_⟩:=hr
   have hz':z'.length=s:=hq _ (by simp[srcZ,hk])
   have hd:=hb.2
   cases hd with
   |s _ k=>
    obtain⟨m1,m2,m3⟩:=hA.h k _ hk
    rcases m3 with⟨rfl,hx⟩|⟨bl,off,cap,arr,T,hx,hlb,hh,hsz,hcap,hc⟩
    ·rw[hx];exact⟨[],Src.ofNil w hU 0,by simp⟩
    ·rw[hx]
     have hsz':off+es.length*s≤arr.size:=by
      have:es.length*s≤cap*s:=Nat.mul_le_mul_right s hcap
      have hsz:=hsz.1
      rw[hz']at hsz;omega
     have hone:∀j,j<es.length*s→∃v,arr[off+j]?=some v∧oneV v=true:=by
      intro j hj
      obtain⟨d1,d2,d3⟩:=hdiv es.length j hj
      obtain⟨cs,hcs⟩:∃cs,es[j / s]?=some cs:=⟨_,List.getElem?_eq_getElem d1⟩
      obtain⟨hlen,hcc⟩:=hc _ cs hcs
      obtain⟨d,hd⟩:∃d,cs[j % s]?=some d:=⟨_,List.getElem?_eq_getElem (by omega)⟩
      obtain⟨v,g1,g2⟩:=hcc _ d hd
      rw[hz',Nat.add_assoc,d3]at g1
      exact⟨v,g1,den_one g2⟩
     obtain⟨g1,g2⟩:=rows_read (s:=s) (n:=es.length) hsz'
     refine⟨(arr.toList.drop off).take (es.length*s),key ⟨bl,off,none⟩ es.length cap arr T (0,0) rfl hh hsz' hone,?_⟩
     intro i r hi
     have hil:i<es.length:=(List.getElem?_eq_some_iff.1 hi).1
     obtain⟨hlen,hcc⟩:=hc i r hi
     refine⟨hlen.trans hz',fun j c hj=>?_⟩
     obtain⟨v,v1,v2⟩:=hcc j c hj
     have hjl:j<s:=by have:=(List.getElem?_eq_some_iff.1 hj).1;omega
     refine⟨fun n hn=>hA.wf k _ hk n (List.mem_flatMap.2 ⟨r,List.mem_of_getElem? hi,List.mem_flatMap.2 ⟨c,List.mem_of_getElem? hj,hn⟩⟩),v,?_,?_⟩
     ·rw[g2 i j hil hjl,← hz'];exact v1
     ·exact den_flat (fun b hb=>⟨hb,rfl⟩) (stor_flat (hst r (List.mem_of_getElem? hi) c (List.mem_of_getElem? hj))) v2 fun _ _=>rfl
  ·cases hr
 ·cases hr
theorem at_grow (hA:AtW X w0 I lab fz H w) {t u:Nat} {z:List C} {es:List (List C)} (ht:H t=some (.vec u z es)) (hpriv:∀k ch,k≠t→H k=some ch→t∉chNames ch) (hpt:t∉chNames (.vec u z es)) (hF:∀p∈X.F,p.1≠t)
  {T U ty e:TypeId} {i:TypeInfo} {zv:Value} (hT:P.underlying T=some (.slice e)) (hi:P.info? e=some i) (hzv:i.zero=some zv) (hzl:zv.cells.size=i.size) (hs:z.length=i.size) (hs0:0<i.size)
  {y:Value} {rows:List (List C)} {news:List Value} (hsrc:Src P i.size U y rows.length news w) (hzt:zT z=none∨zT z=some e) (hb:(es.length+rows.length)*i.bytes≤140737488355328) (h63:es.length+rows.length≤9223372036854775807)
  (hrows:∀(i2:Nat) (r:List C),rows[i2]?=some r→r.length=i.size∧∀(j:Nat) (c:C),r[j]?=some c→c.stor=true∧Dom H c.names∧t∉c.names∧∃v,news[i2*i.size+j]?=some v∧Den (hp w) fz lab I [] c v) :
  ∃nv lab' w',nv.mp=false∧(Builtin.append_ #[T,U] ty #[(I t).v,y]).run P w= .ok nv.v w'∧AtW X w0 (fun n=>if n=t then nv else I n) lab' fz (upd H t (.vec 0 z (es++rows))) w'∧
   PresB t (hp w) (hp w') fz fz I (fun n=>if n=t then nv else I n) H (upd H t (.vec 0 z (es++rows))):=by
 obtain⟨m1,m2,m3⟩:=hA.h t _ ht
 have hI2:∀(nv:NV) (c:C),t∉c.names→∀n∈c.names,(if n=t then nv else I n)=I n:=by
  intro nv c hc n hn
  have:n≠t:=by rintro rfl;exact hc hn
  simp[this]
 have hes:∀(i2 j:Nat) (r:List C) (c:C),es[i2]?=some r→r[j]?=some c→t∉c.names∧Dom H c.names:=by
  intro i2 j r c g1 g2
  exact⟨fun h=>hpt (List.mem_flatMap.2 ⟨r,List.mem_of_getElem? g1,List.mem_flatMap.2 ⟨c,List.mem_of_getElem? g2,h⟩⟩),
   fun n hn=>hA.wf t _ ht n (List.mem_flatMap.2 ⟨r,List.mem_of_getElem? g1,List.mem_flatMap.2 ⟨c,List.mem_of_getElem? g2,hn⟩⟩)⟩
 have hnm:∀(i2 j:Nat) (r:List C) (c:C),(es++rows)[i2]?=some r→r[j]?=some c→Dom H c.names:=by
  intro i2 j r c g1 g2
  rw[List.getElem?_append]at g1
  split at g1
  ·exact(hes i2 j r c g1 g2).2
  ·exact((hrows _ r g1).2 j c g2).2.1
 have hnl:=hsrc.newsLen
 have hold:∃base off cap arr,(I t).v=slV base es.length cap∧(base=none→es=[]∧cap=0)∧(∀b,base=some b→b.2=off∧lab b.1=some [t]∧(∃T',hp w b.1=some (.cells arr T' (0,0))∧zOK z T' off)∧off+cap*z.length≤arr.size∧es.length≤cap)∧
   ∀(i2:Nat) (cs:List C),es[i2]?=some cs→cs.length=z.length∧∀(j:Nat) (c:C),cs[j]?=some c→∃y,arr[off+i2*z.length+j]?=some y∧Den (hp w) fz lab I ([t]++[i2,j]) c y:=by
  rcases m3 with⟨rfl,hx⟩|⟨bl,off,cap,arr,T',hx,hlb,hh,hsz,hcap,hc⟩
  ·exact⟨none,0,0,#[],hx,(fun _=>⟨rfl,rfl⟩),(fun b hb=>by cases hb),by simp⟩
  ·exact⟨some (bl,off),off,cap,arr,hx,(fun h=>by cases h),(fun b hb=>by simp only[Option.some.injEq]at hb;subst hb;exact⟨rfl,hlb,⟨T',hh,hsz.2⟩,hsz.1,hcap⟩),hc⟩
 obtain⟨base,off,cap,arr,hx,hb0,hb1,hc⟩:=hold
 by_cases hroom:es.length+rows.length≤cap
 ·
  cases base with
  |none=>
   obtain⟨rfl,rfl⟩:=hb0 rfl
   have hr0:rows=[]:=by
    have:rows.length=0:=by simp at hroom;simpa using hroom
    exact List.length_eq_zero_iff.1 this
   subst hr0
   have hn0:news=[]:=by
    have:news.length=0:=by simpa using hnl
    exact List.length_eq_zero_iff.1 this
   subst hn0
   have hset:=at_set (lab':=lab) (w':=w) hA hpriv hF (I t) m1 z [] m2 (fun _ _=>rfl) (fun k ch _ _ _ b ρ hb=>⟨hb,rfl⟩) hA.own hA.fzl hA.kept (.inl ⟨rfl,hx⟩) (by simp)
   refine⟨I t,lab,w,m1,?_,by simpa using hset.1,by simpa using hset.2⟩
   rw[hx]
   have hl:=hsrc.len w
   have hcl:=hsrc.cells
   simp only[List.length_nil]at hl hcl
   have hz0:Builtin.firstCells i.size 0 y=Builtin.firstCells i.size 0 y:=rfl
   rcases hsrc.kind with⟨e',hk⟩|hk<;>simp[slV,Builtin.append_,run_underlying hT,run_underlying hk,sizeOf,typeInfo,hi,hl,hcl]
  |some bo=>
   obtain⟨bl,bo2⟩:=bo
   obtain⟨e1,hlb,⟨T',hh,hzo⟩,hsz,hcap⟩:=hb1 _ rfl
   simp only at e1 hlb hh
   subst e1
   have hhw:w.heap[bl]?=some (.cells arr T' (0,0)):=hh
   rw[hs]at hsz
   have hfit:bo2+es.length*i.size+news.length≤arr.size:=by
    rw[hnl]
    have:(es.length+rows.length)*i.size≤cap*i.size:=Nat.mul_le_mul_right _ hroom
    rw[Nat.add_mul]at this
    omega
   obtain⟨arr',g1,g2,g3,g4,g5,g6,g7,g8⟩:=setCells_heap bl T' (0,0) news (bo2+es.length*i.size) w arr hhw hfit
   have hrun:=run_append_room_src (P:=P) w T U ty e i hT hi bl bo2 es.length cap y rows.length news hsrc hroom
    (fun j hj=>by simp only[World.cell?,hhw,Option.isSome_none,Bool.false_eq_true,if_false];rw[Array.getElem?_eq_getElem (by omega)];rfl)
    (fun j hj=>by simp[World.frozen?,hhw])
   let nv:NV:=⟨some (bl,bo2),es.length+rows.length,cap,z.length,false⟩
   refine⟨nv,lab,w.setCells bl (bo2+es.length*i.size) news,rfl,by rw[hx];exact hrun,?_⟩
   have hzb:∀b,fz b→hp (w.setCells bl (bo2+es.length*i.size) news) b=hp w b:=fun b hb=>g8 b (by rintro rfl;have:=(hA.fzl b hb).2;rw[hlb]at this;cases this)
   refine at_set hA hpriv hF nv rfl z (es++rows) rfl hzb ?_ (fun b π hb=>by rw[g4];exact hA.own b π hb) (fun b hb=>by rw[g4];exact hA.fzl b hb) ?_ ?_ hnm
   ·intro k ch hk _ _ b ρ hb
    refine⟨hb,g8 b ?_⟩
    rintro rfl
    rw[hlb]at hb
    simp at hb
    exact hk hb.1.symm
   ·refine⟨g5.trans hA.kept.os,g6.trans hA.kept.tape,g7.trans hA.kept.output,by rw[g4];exact hA.kept.size,fun c hc hm=>?_⟩
    rw[← hA.kept.block c hc hm]
    refine g8 c ?_
    rintro rfl
    rcases (hA.own c _ hlb).2 with h|h
    ·omega
    ·exact hm h
   ·refine .inr ⟨bl,bo2,cap,arr',T',by simp[nv,NV.v],hlb,g1,⟨by rw[g2,hs];exact hsz,hzo⟩,by simpa using hroom,fun i2 r hr=>?_⟩
    rw[List.getElem?_append]at hr
    split at hr
    ·rename_i hlt
     obtain⟨q1,q2⟩:=hc i2 r hr
     refine⟨q1,fun j c hj=>?_⟩
     obtain⟨v,v1,v2⟩:=q2 j c hj
     have hjl:j<z.length:=by have:=(List.getElem?_eq_some_iff.1 hj).1;omega
     refine⟨v,?_,den_mono (fun b hb=>⟨hb,hzb b hb⟩) v2 _ (fun b ρ hb=>⟨hb,g8 b ?_⟩) (hI2 nv c (hes i2 j r c hr hj).1)⟩
     ·rw[g3,if_neg ?_];· exact v1
      intro hh2
      have:(i2+1)*z.length≤es.length*z.length:=Nat.mul_le_mul_right _ hlt
      rw[Nat.add_mul,hs]at this
      rw[hs]at hjl hh2
      omega
     ·rintro rfl;rw[hlb]at hb;simp at hb
    ·rename_i hge
     obtain⟨q1,q2⟩:=hrows _ r hr
     refine⟨q1.trans hs.symm,fun j c hj=>?_⟩
     obtain⟨c1,c2,c3,v,v1,v2⟩:=q2 j c hj
     refine⟨v,?_,den_flat (fun b hb=>⟨hb,hzb b hb⟩) (stor_flat c1) v2 (hI2 nv c c3)⟩
     have hjl:j<i.size:=by have:=(List.getElem?_eq_some_iff.1 hj).1;omega
     obtain⟨d,rfl⟩:∃d,i2=es.length+d:=⟨i2-es.length,by omega⟩
     rw[show es.length+d-es.length=d by omega]at v1 hr
     have hdl:d<rows.length:=(List.getElem?_eq_some_iff.1 hr).1
     have hd2:(d+1)*i.size≤rows.length*i.size:=Nat.mul_le_mul_right _ hdl
     rw[Nat.add_mul]at hd2
     rw[g3,hs,Nat.add_mul,if_pos (by rw[hnl];omega),← v1]
     congr 1
     omega
 ·
  have holds:∃olds:List Value,olds.length=es.length*i.size∧(Builtin.firstCells i.size es.length (slV base es.length cap)).run P w.drew= .ok olds.toArray w.drew∧
    ∀i2 j,i2<es.length→j<i.size→olds[i2*i.size+j]?=arr[off+i2*i.size+j]?:=by
   cases base with
   |none=>
    obtain⟨rfl,rfl⟩:=hb0 rfl
    exact⟨[],by simp,run_firstCells_none w.drew i.size 0 0 0,by simp⟩
   |some bo=>
    obtain⟨bl,bo2⟩:=bo
    obtain⟨e1,hlb,⟨T',hh,hzo⟩,hsz,hcap⟩:=hb1 _ rfl
    simp only at e1 hlb hh
    subst e1
    have hhw:w.heap[bl]?=some (.cells arr T' (0,0)):=hh
    rw[hs]at hsz
    have hsz':bo2+es.length*i.size≤arr.size:=by
     have:es.length*i.size≤cap*i.size:=Nat.mul_le_mul_right _ hcap
     omega
    obtain⟨r1,r2⟩:=rows_read (s:=i.size) (n:=es.length) hsz'
    refine⟨_,r1,run_firstCells_some (P:=P) w.drew i.size es.length ⟨bl,bo2,none⟩ es.length cap _ r1 ?_,r2⟩
    intro j v hj
    have hjl:j<es.length*i.size:=by have:=(List.getElem?_eq_some_iff.1 hj).1;omega
    rw[addr_add]
    have hhd:w.drew.heap[bl]?=some (.cells arr T' (0,0)):=hhw
    simp only[World.cell?,hhd,Option.isSome_none,Bool.false_eq_true,if_false]
    rw[List.getElem?_take,if_pos hjl,List.getElem?_drop,Array.getElem?_toList]at hj
    exact hj
  obtain⟨olds,o1,o2,o3⟩:=holds
  have hg:cap<es.length+rows.length:=by omega
  have hrun:=run_append_grow_src (P:=P) w T U ty e i zv hT hi hzv (base.map fun x:Nat×Nat=>(⟨x.1,x.2,none⟩:Addr)) es.length cap olds o2 y rows.length news hsrc hg (by omega) (growslice_fits hg hb)
  have hge:=grownCap_ge w (es.length+rows.length) cap e
  generalize grownCap w (es.length+rows.length) cap e=nc at*
  let nv:NV:=⟨some (w.heap.size,0),es.length+rows.length,nc,z.length,false⟩
  let lab':Lab:=fun b=>if b=w.heap.size then some [t] else if lab b=some [t] then none else lab b
  let obj:Obj:=.cells ((olds++news).toArray++Builtin.zeroCells zv.cells (nc-(es.length+rows.length))) e
  have hsize:(w.drew.alloc obj).heap.size=w.heap.size+1:=by show (w.heap.push obj).size=_;simp
  have hlt:∀b,b≠w.heap.size→hp (w.drew.alloc obj) b=hp w b:=by
   intro b hb
   show (w.heap.push obj)[b]?=w.heap[b]?
   rw[Array.getElem?_push]
   simp[hb]
  have hself:hp (w.drew.alloc obj) w.heap.size=some obj:=by
   show (w.heap.push obj)[w.heap.size]?=_
   rw[Array.getElem?_push]
   simp
  have hzb:∀b,fz b→hp (w.drew.alloc obj) b=hp w b:=fun b hb=>hlt b (by have:=(hA.fzl b hb).1;omega)
  have hlk:∀c ρ,lab c=some ρ→ρ≠[t]→lab' c=some ρ:=by
   intro c ρ hc hne
   have:c≠w.heap.size:=by have:=(hA.own c ρ hc).1;omega
   simp[lab',this,hc,hne]
  refine⟨nv,lab',w.drew.alloc obj,rfl,by rw[hx];exact hrun,?_⟩
  refine at_set hA hpriv hF nv rfl z (es++rows) rfl hzb ?_ ?_ ?_ ?_ ?_ hnm
  ·intro k ch hk _ _ b ρ hb
   refine⟨hlk b _ hb ?_,hlt b (by have:=(hA.own b _ hb).1;omega)⟩
   intro h;simp at h;exact hk h.1
  ·intro b π hb
   simp only[lab']at hb
   split at hb
   ·rename_i h;rw[hsize];exact⟨by omega,.inl (by have:=hA.kept.size;omega)⟩
   ·split at hb
    ·cases hb
    ·have:=hA.own b π hb
     exact⟨by rw[hsize];omega,this.2⟩
  ·intro b hb
   have:=hA.fzl b hb
   exact⟨by rw[hsize];omega,by simp[lab',show b≠w.heap.size by omega,this.2]⟩
  ·refine⟨hA.kept.os,hA.kept.tape,hA.kept.output,by rw[hsize];have:=hA.kept.size;omega,fun b hb hm=>?_⟩
   have hss:=hA.kept.size
   rw[← hA.kept.block b hb hm]
   exact hlt b (by omega)
  ·refine .inr ⟨w.heap.size,0,nc,_,e,by simp[nv,NV.v],by simp[lab'],hself,⟨?_,zOK_self hzt⟩,by simpa using hge,fun i2 r hr=>?_⟩
   ·simp only[Array.size_append,List.size_toArray,List.length_append,size_zeroCells,hzl,o1,hnl,hs]
    have:(nc-(es.length+rows.length))*i.size+(es.length+rows.length)*i.size=nc*i.size:=by
     rw[← Nat.add_mul];congr 1;omega
    rw[Nat.add_mul]at this
    omega
   ·have hget:∀n,n<olds.length+news.length→((olds++news).toArray++Builtin.zeroCells zv.cells (nc-(es.length+rows.length)))[n]?=(olds++news)[n]?:=by
     intro n hn
     rw[Array.getElem?_append_left (by simpa using hn)]
     simp
    rw[List.getElem?_append]at hr
    split at hr
    ·rename_i hlt2
     obtain⟨q1,q2⟩:=hc i2 r hr
     refine⟨q1,fun j c hj=>?_⟩
     obtain⟨v,v1,v2⟩:=q2 j c hj
     have hjl:j<z.length:=by have:=(List.getElem?_eq_some_iff.1 hj).1;omega
     have hpos:i2*i.size+j<olds.length:=by
      have:(i2+1)*i.size≤es.length*i.size:=Nat.mul_le_mul_right _ hlt2
      rw[Nat.add_mul]at this
      omega
     refine⟨v,?_,den_mono (fun b hb=>⟨hb,hzb b hb⟩) v2 _ (fun b ρ hb=>⟨hlk b _ hb (by simp),hlt b (by have:=(hA.own b _ hb).1;omega)⟩) (hI2 nv c (hes i2 j r c hr hj).1)⟩
     rw[Nat.zero_add,hs,hget _ (by omega),List.getElem?_append_left hpos,o3 i2 j hlt2 (by omega)]
     rw[hs]at v1;exact v1
    ·rename_i hge2
     obtain⟨q1,q2⟩:=hrows _ r hr
     refine⟨q1.trans hs.symm,fun j c hj=>?_⟩
     obtain⟨c1,c2,c3,v,v1,v2⟩:=q2 j c hj
     refine⟨v,?_,den_flat (fun b hb=>⟨hb,hzb b hb⟩) (stor_flat c1) v2 (hI2 nv c c3)⟩
     have hjl:j<i.size:=by have:=(List.getElem?_eq_some_iff.1 hj).1;omega
     obtain⟨d,rfl⟩:∃d,i2=es.length+d:=⟨i2-es.length,by omega⟩
     rw[show es.length+d-es.length=d by omega]at v1 hr
     have hdl:d<rows.length:=(List.getElem?_eq_some_iff.1 hr).1
     have hd2:(d+1)*i.size≤rows.length*i.size:=Nat.mul_le_mul_right _ hdl
     rw[Nat.add_mul]at hd2
     rw[Nat.zero_add,hs,Nat.add_mul,hget _ (by rw[o1,hnl];omega),List.getElem?_append_right (by omega),← v1]
     congr 1
     omega
end
end Go.Sy
namespace Go.Sy
open Go.RowKit
mutual
def toD:C→Option D
 | .v x=>some (.v x)
 | .d x=>some x
 | .df z es=>some (.sl z es)
 | .dp cs=>some (.pt (some cs))
 | .ov z es=>match toDs z,toDss es with
  |some z',some es'=>some (.sl z' es')
  |_,_=>none
 |_=>none
def toDs:List C→Option (List D)
 |[]=>some []
 |c::r=>match toD c,toDs r with
  |some d,some l=>some (d::l)
  |_,_=>none
def toDss:List (List C)→Option (List (List D))
 |[]=>some []
 |c::r=>match toDs c,toDss r with
  |some d,some l=>some (d::l)
  |_,_=>none
end
theorem toDs_get:∀{l:List C} {l':List D},toDs l=some l'→l'.length=l.length∧∀(j:Nat) (d:D),l'[j]?=some d→∃c,l[j]?=some c∧toD c=some d
 |[],l',h=>by simp only[toDs,Option.some.injEq]at h;subst h;simp
 |c::r,l',h=>by
  simp only[toDs]at h
  split at h
  ·rename_i d l hd hl
   simp only[Option.some.injEq]at h
   subst h
   obtain⟨h1,h2⟩:=toDs_get hl
   refine⟨by simp[h1],fun j e hj=>?_⟩
   cases j with
   |zero=>simp only[List.getElem?_cons_zero,Option.some.injEq]at hj;subst hj;exact⟨c,rfl,hd⟩
   |succ j=>simp only[List.getElem?_cons_succ]at hj ⊢;exact h2 j e hj
  ·cases h
theorem toDss_get:∀{l:List (List C)} {l':List (List D)},toDss l=some l'→l'.length=l.length∧∀(j:Nat) (d:List D),l'[j]?=some d→∃c,l[j]?=some c∧toDs c=some d
 |[],l',h=>by simp only[toDss,Option.some.injEq]at h;subst h;simp
 |c::r,l',h=>by
  simp only[toDss]at h
  split at h
  ·rename_i d l hd hl
   simp only[Option.some.injEq]at h
   subst h
   obtain⟨h1,h2⟩:=toDss_get hl
   refine⟨by simp[h1],fun j e hj=>?_⟩
   cases j with
   |zero=>simp only[List.getElem?_cons_zero,Option.some.injEq]at hj;subst hj;exact⟨c,rfl,hd⟩
   |succ j=>simp only[List.getElem?_cons_succ]at hj ⊢;exact h2 j e hj
  ·cases h
theorem toD_names {c:C} {d:D} (h:toD c=some d):c.names=[]:=by
 cases c<;>first|rfl|(simp[toD]at h)
theorem den_rd {h:Heap} {fz fz':Nat→Prop} {lab:Lab} {I:Nm} {π:List Nat} {c:C} {x:Value} (r:Den h fz lab I π c x) (hz:∀b,fz b→fz' b) :
  ∀{d:D},toD c=some d→(∀b ρ,lab b=some (π++ρ)→fz' b)→Rd h fz' d x:=by
 have hz':∀b,fz b→fz' b∧h b=h b:=fun b hb=>⟨hz b hb,rfl⟩
 induction r with
 |any π x h1=>intro d hd;simp[toD]at hd
 |v π x h1=>intro d hd _;simp only[toD,Option.some.injEq]at hd;subst hd;exact .v x h1
 |p π k i j=>intro d hd;simp[toD]at hd
 |s π k=>intro d hd;simp[toD]at hd
 |d π x y r=>intro d hd _;simp only[toD,Option.some.injEq]at hd;subst hd;exact rd_mono hz' r
 |df π z es a r=>intro d hd _;simp only[toD,Option.some.injEq]at hd;subst hd;exact rd_mono hz' r
 |dp π cs y r=>intro d hd _;simp only[toD,Option.some.injEq]at hd;subst hd;exact rd_mono hz' r
 |nil π z=>
  intro d hd _
  simp only[toD,toDss]at hd
  split at hd
  ·rename_i z' es' h1 h2
   simp only[Option.some.injEq]at hd h2;subst hd;subst h2;exact .nil z' none 0 (fun _=>rfl)
  ·cases hd
 |ov π z es b off cap arr T val hb hh hsz hcap hl hn hc _ ih=>
  intro d hd hlab
  simp only[toD]at hd
  split at hd
  ·rename_i z' es' h1 h2
   simp only[Option.some.injEq]at hd
   subst hd
   obtain⟨g1,g2⟩:=toDs_get h1
   obtain⟨g3,g4⟩:=toDss_get h2
   rw[← g3]
   refine .sl z' es' b off cap arr T (0,0) val (hlab b [] (by simpa using hb)) hh (by omega) ?_ ?_ ?_
   ·intro i cs hi
    obtain⟨c,k1,k2⟩:=g4 i cs hi
    rw[(toDs_get k2).1,g1];exact hl i c k1
   ·intro i j cs d hi hj
    obtain⟨c,k1,k2⟩:=g4 i cs hi
    obtain⟨e,k3,k4⟩:=(toDs_get k2).2 j d hj
    rw[g1];exact hc i j c e k1 k3
   ·intro i j cs d hi hj
    obtain⟨c,k1,k2⟩:=g4 i cs hi
    obtain⟨e,k3,k4⟩:=(toDs_get k2).2 j d hj
    refine ih i j c e k1 k3 k4 fun b' ρ hb'=>hlab b' ([i,j]++ρ) ?_
    rw[← List.append_assoc];exact hb'
  ·cases hd
 |fn π f caps vals hv h1=>intro d hd;simp[toD]at hd
structure Spec (P:Program) (X:Ctx) (w0:World) where
 f:FuncId
 call:∀(args:Array Value) (w:World),(callFunc f args).run P w= .ok (.enter f args) w
 fn:Nat→List SV→Hp→Res
 ok:∀(w:World) (I:Nm) (lab:Lab) (fz:Nat→Prop) (H:Hp) (t:Nat) (args:List SV) (xs:List Value) (c:Prop) (e:Eff) (fp:List Nat),AtW X w0 I lab fz H w→H t=none→fn t args H=some (c,e,fp)→c→(∀v∈args,Dom H v.names)→
  args.length=xs.length→(∀(j:Nat) (v:SV) (x:Value),args[j]?=some v→xs[j]?=some x→SDen (hp w) fz lab I H v x)→
  Calls P f xs.toArray w (fun en w'=>(∃x,en= .returned x∧Post X w0 w I lab fz H (some e.val) e.upd x w')∨∃ch,en= .panicked ch∧PanW X w0 ch w')
 dom:∀(t:Nat) (args:List SV) (H:Hp) (c:Prop) (e:Eff) (fp:List Nat),H t=none→c→fn t args H=some (c,e,fp)→(∀v∈args,Dom H v.names)→Dom (updH H e.upd) e.val.names∧(∀p∈e.upd,p.1∈fp)
 loc:∀(t:Nat) (args:List SV) (H H':Hp) (c:Prop) (e:Eff) (fp:List Nat),fn t args H=some (c,e,fp)→(∀k∈fp,H' k=H k)→fn t args H'=some (c,e,fp)
def findS {P:Program} {X:Ctx} {w0:World} (f:FuncId):List (Spec P X w0)→Option (Spec P X w0)
 |[]=>none
 |s::r=>if s.f=f then some s else findS f r
def opCall {P:Program} {X:Ctx} {w0:World} (sp:List (Spec P X w0)) (E:Env) (H:Hp) (f:FuncId) (args:List Operand) (more:List SV) (t:Nat):Res:=
 match findS f sp,readA E args with
 |some s,some vs=>(s.fn t (vs++more) H).map fun r=>(readAG E args∧r.1,r.2)
 |_,_=>none
def fnSV:Option SV→Option (FuncId×List SV)
 |some (.one (.v (.func (.func f) a b)))=>if a.size=0∧b.size=0 then some (f,[]) else none
 |some (.one (.fn f caps))=>if caps.all okCap=true then some (f,caps.map .one) else none
 |_=>none
def opCallV {P:Program} {X:Ctx} {w0:World} (sp:List (Spec P X w0)) (E:Env) (H:Hp) (s:Nat) (args:List Operand) (t:Nat):Res:=
 match fnSV (rdv E (.tmp s)) with
 |some (f,caps)=>(opCall sp E H f args caps t).map fun r=>(rdg E (.tmp s)=true∧r.1,r.2)
 |none=>none
def tConc (P:Program) (T:TypeId):Bool:=P.concrete T
def opIface (P:Program) (E:Env) (T:TypeId) (x:Operand):Res:=
 match (rdv E x).bind clos,tConc P T with
 |some v,true=>some (rdg E x=true,⟨.one (.v (.iface T v)),[]⟩,[])
 |_,_=>none
theorem wkR_spec:∀{r r':List C},wkR r r'→r'.length=r.length∧∀(j:Nat) (c:C),r'[j]?=some c→r[j]?=some c∨(c= .any∧∃c0,r[j]?=some c0)
 |[],[],_=>⟨rfl,fun j c h=>by simp at h⟩
 |c0::r,c1::r',h=>by
  obtain⟨h1,h2⟩:=wkR_spec h.2
  refine⟨by simp[h1],fun j c hj=>?_⟩
  cases j with
  |zero=>
   simp only[List.getElem?_cons_zero,Option.some.injEq]at hj ⊢
   subst hj
   rcases h.1 with e|e
   ·exact .inr ⟨e,c0,rfl⟩
   ·exact .inl e.symm
  |succ j=>
   simp only[List.getElem?_cons_succ]at hj ⊢
   exact h2 j c hj
 |[],_::_,h=>h.elim
 |_::_,[],h=>h.elim
theorem wkL_weak:∀{es es':List (List C)},wkL es es'→Weak es es'
 |[],[],_=>⟨rfl,fun i r h=>by simp at h⟩
 |r0::es,r1::es',h=>by
  obtain⟨h1,h2⟩:=wkL_weak h.2
  obtain⟨h3,h4⟩:=wkR_spec h.1
  refine⟨by simp[h1],fun i r' hi=>?_⟩
  cases i with
  |zero=>
   simp only[List.getElem?_cons_zero,Option.some.injEq]at hi
   subst hi
   exact⟨r0,rfl,h3,h4⟩
  |succ i=>
   simp only[List.getElem?_cons_succ]at hi ⊢
   exact h2 i r' hi
 |[],_::_,h=>h.elim
 |_::_,[],h=>h.elim
def opPanic (X:Ctx) (E:Env) (H:Hp) (x:Operand) (t:Nat):Res:=
 match rdv E x with
 |some (.one (.v (.iface _ _)))=>some (rdg E x=true∧pnO X.pn H,⟨.one (.v (.bool false)),[(t,.fact False)]⟩,pnN X.pn)
 |_=>none
def fresh (H:Hp) (d:Option Nat) (f:Nat→Res):Res:=
 match H (d.getD 999999) with
 |none=>(f (d.getD 999999)).map fun r=>(r.1,r.2.1,d.getD 999999::r.2.2)
 |some _=>none
def flagN (t:Nat):Nat:=2000000+t
def addF (k:Nat):Res→Res
 |some (c,e,fp)=>some (c,e,k::fp)
 |none=>none
def opBsD (P:Program) (E:Env) (T:TypeId) (n:Nat) (ps:List (Nat×Operand)) (t:Nat):Res:=
 match tElem P T,reads E ps with
 |some e,some vs=>
  match tSize P e,tZero P e with
  |some s,some z=>
   (fillC (fun i=>some (i*s,s)) (repl n (ofV z).cells) vs).bind fun cs=>
    match toDs (ofV z).cells,toDss (chop s n cs) with
    |some z',some es'=>some (readG E ps∧okV z=true∧n*s≤16777216∧0<s∧(ofV z).cells.length=s∧cs.all C.stor=true,⟨.one (.d (.sl z' es')),[(t,.dead)]⟩,[t])
    |_,_=>none
  |_,_=>none
 |_,_=>none
def flB (H:Hp) (k:Nat):Bool:=match H k with
 |some (.fact _)=>true
 |_=>false
def opBs (P:Program) (E:Env) (H:Hp) (T:TypeId) (n:Nat) (ps:List (Nat×Operand)) (t:Nat):Res:=
 if flB H (flagN t)=true then addF (flagN t) (opBsD P E T n ps t) else addF (flagN t) (opBuildSlice P E T n ps t)
def opS {P:Program} {X:Ctx} {w0:World} (sp:List (Spec P X w0)) (o:Oper) (E:Env) (H:Hp):Res:=
 match o.op with
 | .move x=>opMove E x
 | .assign x=>opMove E x
 | .pick c a b=>opPick E c a b
 | .alloc T=>fresh H o.dst fun t=>opAlloc P T t
 | .box _ x=>fresh H o.dst fun t=>opBox E x t
 | .build T ps=>opBuild P E T ps.toList
 | .buildSlice T n ps=>fresh H o.dst fun t=>opBs P E H T n ps.toList t
 | .makeSlice T a b=>fresh H o.dst fun t=>opMakeSlice P E T a b t
 | .load T x=>opLoad P E H T x
 | .store T x y=>match o.dst with
  |none=>opStore P E H T x y
  |some _=>none
 | .binOp op T x y _=>opBin P E op T x y
 | .unOp op _ x=>opUn E op x
 | .fieldAddr T x f=>opFieldAddr P E H T x f
 | .field T x f=>opField P E T x f
 | .indexAddr T x i=>opIndexAddr P E H T x i
 | .index T x i=>opIndex P E T x i
 | .slice T x lo hi mx=>fresh H o.dst fun t=>opSlice P E H T x lo hi mx t
 | .extract x i=>opExtract E x i
 | .convert s d x=>match opConvert P E s d x with
  |some r=>some r
  |none=>opConvB P E H s d x
 | .nilCheck x=>opNil E H x
 | .makeInterface T x=>opIface P E T x
 | .makeMap T none=>fresh H o.dst fun t=>opMakeMap P T t
 | .lookup T x i ok=>opLookup P E H T x i ok
 | .mapUpdate T m k v=>match o.dst with
  |none=>opMapUpdate P E H T m k v
  |some _=>none
 | .insert T m k v=>match o.dst with
  |none=>opMapUpdate P E H T m k v
  |some _=>none
 | .makeFunc fn first caps=>match fn,first.toList with
  | .func f,[]=>opMakeFunc E f caps.toList
  |_,_=>none
 | .panic x=>fresh H o.dst fun t=>opPanic X E H x t
 | .call c=>
  match c.callee with
  | .builtin b=>match b,c.args.toList,c.argTypes.toList with
   | .append,[x,y],[T,U]=>fresh H o.dst fun t=>opAppend P E H x y T U t
   | .copy,[x,y],[T,U]=>opCopy P E H x y T U
   |_,_,_=>opBuiltin P E H b c.args.toList c.argTypes.toList
  | .value (.func f)=>fresh H o.dst fun t=>opCall sp E H f c.args.toList [] t
  | .value (.tmp s)=>fresh H o.dst fun t=>opCallV sp E H s c.args.toList t
  |_=>none
 |_=>none
def AtE (h:Heap) (fz:Nat→Prop) (lab:Lab) (I:Nm) (H:Hp) (E:Env) (a:Act):Prop:=
 ∀t g v,E t=some (g,v)→∃x,a.tmps[t]?=some x∧(if g then SDen h fz lab I H v x else x=undef)
def WFE (E:Env) (H:Hp):Prop:=∀t g v,E t=some (g,v)→g=true→Dom H v.names
def RunOK (P:Program) (o:Oper) (a:Act) (w:World) (X:Ctx) (w0:World) (I:Nm) (lab:Lab) (fz:Nat→Prop) (H:Hp) (e:Eff):Prop:=
 (∃x w',(execOp a.eval o).run P w= .ok (.value x) w'∧Post X w0 w I lab fz H (some e.val) e.upd x w')∨
 (∃w',(execOp a.eval o).run P w= .ok .skip w'∧o.dst=none∧Post X w0 w I lab fz H none e.upd undef w')∨
 (∃f args,(execOp a.eval o).run P w= .ok (.enter f args) w∧Calls P f args w (fun en w'=>(∃x,en= .returned x∧Post X w0 w I lab fz H (some e.val) e.upd x w')∨∃ch,en= .panicked ch∧PanW X w0 ch w'))∨
 (∃v,(execOp a.eval o).run P w= .halt (.panic v) w∧PanW X w0 [{ v,recovered:=false }] w)
section
variable {P:Program} {o:Oper} {a:Act} {w w0:World} {X:Ctx} {I:Nm} {lab:Lab} {fz:Nat→Prop} {E:Env} {H:Hp} {c:Prop} {e:Eff} {fp:List Nat}
theorem sd_v {x:Value} (h:oneV x=true):SDen (hp w) fz lab I H (.one (.v x)) x:=by
 show SC (hp w) fz lab I H (.v x) x
 exact sc_of rfl (.v _ _ h)
theorem sd_ofV {x:Value} (h:okV x=true):SDen (hp w) fz lab I H (ofV x) x:=by
 cases x with
 |agg cs=>
  refine⟨cs,rfl,by simp,fun j c hc=>?_⟩
  simp only[List.getElem?_map,Option.map_eq_some_iff,Array.getElem?_toList]at hc
  obtain⟨y,hy,rfl⟩:=hc
  simp only[okV,List.all_eq_true]at h
  exact⟨y,hy,sc_of (c:=.v y) rfl (.v _ _ (h y (Array.mem_toList_iff.2 (Array.mem_of_getElem? hy))))⟩
 |tuple vs=>simp[okV]at h
 |_=>exact sd_v rfl
theorem ofV_names {x:Value} (h:okV x=true):(ofV x).names=[]:=by
 cases x with
 |agg cs=>simp[ofV,SV.names,C.names]
 |tuple vs=>simp[okV]at h
 |_=>rfl
theorem ofV_tup {x:Value} (h:okV x=true):(ofV x).tupB=false:=by
 cases x with
 |tuple vs=>simp[okV]at h
 |_=>rfl
theorem eval_rd (hE:AtE (hp w) fz lab I H E a) {x:Operand} {v:SV} (hv:rdv E x=some v) (hg:rdg E x=true):SDen (hp w) fz lab I H v (a.eval x):=by
 cases x with
 |tmp t=>
  simp only[rdv,Option.map_eq_some_iff]at hv
  obtain⟨⟨g,u⟩,he,rfl⟩:=hv
  simp only[rdg,he,Option.map_some,Option.getD_some]at hg
  obtain⟨x,hx,hd⟩:=hE t g u he
  simp only[hg,if_true]at hd
  simpa [Act.eval,hx] using hd
 |const x=>simp only[rdv,Option.some.injEq]at hv;subst hv;exact sd_ofV hg
 |func f=>simp only[rdv,Option.some.injEq]at hv;subst hv;exact sd_v rfl
 |global g=>simp[rdv]at hv
theorem WFE.rd (hW:WFE E H) {x:Operand} {v:SV} (hv:rdv E x=some v) (hg:rdg E x=true):Dom H v.names:=by
 cases x with
 |tmp t=>
  simp only[rdv,Option.map_eq_some_iff]at hv
  obtain⟨⟨g,u⟩,he,rfl⟩:=hv
  exact hW t g u he (by simpa [rdg,he] using hg)
 |const x=>simp only[rdv,Option.some.injEq]at hv;subst hv;rw[ofV_names hg];intro k hk;cases hk
 |func f=>simp only[rdv,Option.some.injEq]at hv;subst hv;intro k hk;cases hk
 |global g=>simp[rdv]at hv
theorem sd_clos {v:SV} {x y:Value} (h:SDen (hp w) fz lab I H v x) (hc:clos v=some y):x=y:=by
 cases v with
 |one c=>
  cases c<;>simp[clos,clC]at hc
  subst hc
  have:=h.2
  cases this;rfl
 |agg l=>
  simp only[clos,Option.map_eq_some_iff]at hc
  obtain⟨vs,hvs,rfl⟩:=hc
  obtain⟨arr,rfl,h1,h2⟩:=h
  have key:∀(l:List C) (vs:List Value),clL l=some vs→vs.length=l.length∧∀(j:Nat) (v:Value),vs[j]?=some v→l[j]?=some (.v v):=by
   intro l
   induction l with
   |nil=>intro vs h;simp only[clL,Option.some.injEq]at h;subst h;simp
   |cons c r ih=>
    intro vs h
    simp only[clL]at h
    split at h
    ·rename_i v l' hv hl
     simp only[Option.some.injEq]at h
     subst h
     obtain⟨i1,i2⟩:=ih l' hl
     have:c= .v v:=by cases c<;>simp[clC]at hv;subst hv;rfl
     subst this
     refine⟨by simp[i1],fun j v' hj=>?_⟩
     cases j with
     |zero=>simp at hj;subst hj;rfl
     |succ j=>simp at hj ⊢;exact i2 j v' hj
    ·cases h
  obtain⟨k1,k2⟩:=key l vs hvs
  congr 1
  apply Array.ext'
  apply List.ext_getElem?
  intro j
  rw[Array.getElem?_toList]
  simp only[List.toList_toArray]
  cases hj:vs[j]? with
  |none=>
   rw[Array.getElem?_eq_none]
   have:=List.getElem?_eq_none_iff.1 hj
   omega
  |some v=>
   obtain⟨y,y1,y2⟩:=h2 j _ (k2 j v hj)
   have y2:=y2.2
   cases y2;exact y1
 |tup l=>simp[clos]at hc
theorem sd_int {k:IntKind} {n:Int} {x:Value} (h:SDen (hp w) fz lab I H (.one (.v (.int k n))) x):x= .int k n:=sd_clos h rfl
theorem sd_bool {b:Bool} {x:Value} (h:SDen (hp w) fz lab I H (.one (.v (.bool b))) x):x= .bool b:=sd_clos h rfl
theorem sd_str {b:ByteArray} {x:Value} (h:SDen (hp w) fz lab I H (.one (.v (.string b))) x):x= .string b:=sd_clos h rfl
theorem cells_den {v:SV} {x:Value} (h:SDen (hp w) fz lab I H v x) (ht:v.tupB=false):CsDen (hp w) fz lab I H v.cells x.cells:=by
 cases v with
 |one c=>
  have h1:=sc_one h
  have:x.cells = #[x]:=by cases x<;>first|rfl|(simp[oneV]at h1)
  rw[this]
  refine⟨rfl,fun j c' hj=>?_⟩
  cases j with
  |zero=>simp[SV.cells]at hj;subst hj;exact⟨x,rfl,h⟩
  |succ j=>simp[SV.cells]at hj
 |agg l=>obtain⟨arr,rfl,h⟩:=h;exact h
 |tup l=>simp[SV.tupB]at ht
theorem cells_names (v:SV) (ht:v.tupB=false):v.cells.flatMap C.names=v.names:=by
 cases v<;>first|(simp[SV.cells,SV.names];done)|cases ht
theorem opMove_ok (x:Operand) (ho:∀ρ,execOp ρ o=pure (.value (ρ x))) (hE:AtE (hp w) fz lab I H E a) (hA:AtW X w0 I lab fz H w) (h:opMove E x=some (c,e,fp)) (hc:c):RunOK P o a w X w0 I lab fz H e:=by
 simp only[opMove,Option.bind_eq_some_iff,rV,Option.some.injEq,Prod.mk.injEq]at h
 obtain⟨v,hv,rfl,rfl,rfl⟩:=h
 exact .inl ⟨a.eval x,w,by rw[ho];rfl,post_val hA (eval_rd hE hv hc)⟩
theorem run_val {x:Value} {v:SV} (hA:AtW X w0 I lab fz H w) (hr:(execOp a.eval o).run P w= .ok (.value x) w) (hv:SDen (hp w) fz lab I H v x):RunOK P o a w X w0 I lab fz H ⟨v,[]⟩:=
 .inl ⟨x,w,hr,post_val hA hv⟩
theorem opPick_ok (x y z:Operand) (ho:o.op= .pick x y z) (hE:AtE (hp w) fz lab I H E a) (hA:AtW X w0 I lab fz H w) (h:opPick E x y z=some (c,e,fp)) (hc:c):RunOK P o a w X w0 I lab fz H e:=by
 simp only[opPick]at h
 split at h
 ·rename_i b1 b2 b3 h1 h2 h3
  simp only[rV,Option.some.injEq,Prod.mk.injEq]at h
  obtain⟨rfl,rfl,rfl⟩:=h
  obtain⟨g1,g2,g3⟩:=hc
  have e1:=sd_bool (eval_rd hE h1 g1)
  refine run_val (x:=.bool (bsel b1 b2 b3)) hA ?_ (sd_v rfl)
  cases b1 with
  |true=>
   have e2:=sd_bool (eval_rd hE h2 (g2 rfl))
   simp[execOp,ho,e1,asBool,e2,bsel]
  |false=>
   have e3:=sd_bool (eval_rd hE h3 (g3 rfl))
   simp[execOp,ho,e1,asBool,e3,bsel]
 ·cases h
theorem any_row (n:Nat):(anyN n).length=n:=by induction n with|zero=>rfl|succ n ih=>simp[anyN,ih]
theorem tg_row (T:TypeId) (n:Nat):(tgN T n).length=n:=by cases n with|zero=>rfl|succ n=>simp[tgN,any_row]
theorem any_zT (n:Nat):zT (anyN n)=none:=by cases n<;>rfl
theorem tg_zOK (T:TypeId) (n:Nat):zOK (tgN T n) T 0:=by cases n with|zero=>exact zOK_none rfl|succ n=>exact zOK_self (.inr rfl)
theorem box_post (hA:AtW X w0 I lab fz H w) {t:Nat} (ht:H t=none) {v:SV} {x:Value} (hv:SDen (hp w) fz lab I H v x) (htup:v.tupB=false) (hst:v.cells.all C.stor=true) (hd:Dom H v.names) (T:TypeId) (zz:List C) (hz1:zz.length=v.cells.length) (hz2:zOK zz T 0) :
  Post X w0 w I lab fz H (some (.one (.p t 0 0))) [(t,.vec 0 zz [v.cells])] (.pointer (some ⟨w.heap.size,0,none⟩)) (w.alloc (.cells x.cells T)):=by
 obtain⟨c1,c2⟩:=cells_den hv htup
 refine post_new0 hA w rfl rfl rfl rfl t ht zz [v.cells] x.cells T 1 (by simp) (by rw[hz1,c1];omega) hz2 ?_ _ _ (.inl ⟨rfl,by simp[ptV]⟩)
 intro i cs hi
 cases i with
 |zero=>
  simp only[List.getElem?_cons_zero,Option.some.injEq]at hi
  subst hi
  refine⟨hz1.symm,fun j c hj=>?_⟩
  have hs:c.stor=true:=List.all_eq_true.1 hst c (List.mem_of_getElem? hj)
  obtain⟨y,y1,y2⟩:=c2 j c hj
  exact⟨hs,fun n hn=>hd n (by rw[← cells_names v htup];exact List.mem_flatMap.2 ⟨c,List.mem_of_getElem? hj,hn⟩),y,by simpa using y1,sc_stor hs y2⟩
 |succ i=>simp at hi
theorem opAlloc_ok (T:TypeId) (t:Nat) (ho:o.op= .alloc T) (hA:AtW X w0 I lab fz H w) (ht:H t=none) (h:opAlloc P T t=some (c,e,fp)) (hc:c):RunOK P o a w X w0 I lab fz H e:=by
 simp only[opAlloc,Option.bind_eq_some_iff,Option.some.injEq,Prod.mk.injEq]at h
 obtain⟨z,hz,rfl,rfl,rfl⟩:=h
 refine .inl ⟨_,_,?_,box_post hA ht (sd_ofV hc) (ofV_tup hc) ?_ (by rw[ofV_names hc];intro k hk;cases hk) T _ (tg_row T _) (tg_zOK T _)⟩
 ·simp only[execOp,ho,Instr.alloc,Sem.run_bind,run_zeroValue hz,Result.andThen_ok,newVar,newRow,run_newObj,Sem.run_pure,World.alloc_eq]
 ·cases z with
  |agg cs=>simp[ofV,SV.cells,C.stor]
  |tuple vs=>simp[okV]at hc
  |_=>rfl
theorem opBox_ok (T:TypeId) (x:Operand) (t:Nat) (ho:o.op= .box T x) (hE:AtE (hp w) fz lab I H E a) (hW:WFE E H) (hA:AtW X w0 I lab fz H w) (ht:H t=none) (h:opBox E x t=some (c,e,fp)) (hc:c):RunOK P o a w X w0 I lab fz H e:=by
 simp only[opBox,Option.bind_eq_some_iff,Option.some.injEq,Prod.mk.injEq]at h
 obtain⟨v,hv,rfl,rfl,rfl⟩:=h
 obtain⟨hg,h1,h2⟩:=hc
 refine .inl ⟨_,_,?_,box_post hA ht (eval_rd hE hv hg) h1 h2 (hW.rd hv hg) T _ (any_row _) (zOK_none (any_zT _))⟩
 simp only[execOp,ho,Instr.box,newVar,newRow,Sem.run_bind,run_newObj,Result.andThen_ok,Sem.run_pure,World.alloc_eq]
theorem binV_okV {op:BinOp} {T:TypeId} {x y v:Value} {c:Prop} (hr:binV P op T x y=some (c,v)):okV v=true:=by
 unfold binV at hr
 split at hr
 ·split at hr
  ·split at hr
   ·simp only[Option.some.injEq,Prod.mk.injEq]at hr;obtain⟨_,rfl⟩:=hr;rfl
   ·simp only[Option.map_eq_some_iff,Prod.mk.injEq]at hr;obtain⟨_,_,_,rfl⟩:=hr;rfl
  ·cases hr
 ·unfold strI at hr
  split at hr<;>simp only[Option.some.injEq,Prod.mk.injEq,reduceCtorEq]at hr
  all_goals (obtain⟨_,rfl⟩:=hr;rfl)
 ·split at hr<;>simp only[Option.some.injEq,Prod.mk.injEq,reduceCtorEq]at hr
  all_goals (obtain⟨_,rfl⟩:=hr;rfl)
 ·split at hr
  ·split at hr
   ·split at hr<;>simp only[Option.some.injEq,Prod.mk.injEq,reduceCtorEq]at hr
    all_goals (obtain⟨_,rfl⟩:=hr;rfl)
   ·cases hr
  ·cases hr
 ·cases hr
theorem nilC_ok {cc:C} {z:Bool} {x:Value} (hz:nilC cc=some z) (hs:SC (hp w) fz lab I H cc x):∃p:Option Addr,x= .pointer p∧p.isNone=z:=by
 unfold nilC at hz
 split at hz<;>simp only[Option.some.injEq,reduceCtorEq]at hz<;>subst hz
 ·have:=hs.2;cases this;exact⟨_,rfl,rfl⟩
 ·have:=hs.2;cases this;exact⟨_,rfl,rfl⟩
 ·have:=hs.2;cases this with|d _ _ _ r=>cases r;exact⟨_,rfl,rfl⟩
 ·have:=hs.2;cases this with|d _ _ _ r=>cases r;exact⟨_,rfl,rfl⟩
 ·have:=hs.2;cases this with|dp _ _ _ r=>cases r;exact⟨_,rfl,rfl⟩
theorem opBin_ok (op:BinOp) (T T':TypeId) (x y:Operand) (ho:o.op= .binOp op T x y T') (hE:AtE (hp w) fz lab I H E a) (hA:AtW X w0 I lab fz H w) (h:opBin P E op T x y=some (c,e,fp)) (hc:c):RunOK P o a w X w0 I lab fz H e:=by
 simp only[opBin]at h
 split at h
 ·rename_i u v h1 h2
  have key:∀z,nilBin P op T u v=some z→c=(rdg E x=true∧rdg E y=true)→e=⟨.one (.v (.bool z)),[]⟩→RunOK P o a w X w0 I lab fz H e:=by
   intro z hz hce hee
   subst hee
   rw[hce]at hc
   unfold nilBin at hz
   split at hz
   ·rename_i cc _ _
    have hut:∀e',tPtr P T=some e'→P.underlying T=some (.pointer e'):=by
     intro e' hp'
     unfold tPtr at hp'
     split at hp'
     ·rename_i q hq;simp only[Option.some.injEq]at hp';subst hp';exact hq
     ·cases hp'
    have e2:=sd_clos (eval_rd hE h2 hc.2) rfl
    have e1:=eval_rd hE h1 hc.1
    split at hz
    ·rename_i e' hp'
     obtain⟨p,p1,rfl⟩:=nilC_ok hz e1
     refine run_val (x:=.bool p.isNone) hA ?_ (sd_v rfl)
     have hok:=(nilcmp_ok (hut _ hp') p x y w).1
     simp only[execOp,ho,p1,e2,Sem.run_bind,Sem.run_pure]at hok ⊢
     rw[hok];rfl
    ·rename_i e' hp'
     simp only[Option.map_eq_some_iff]at hz
     obtain⟨z',hz,rfl⟩:=hz
     obtain⟨p,p1,rfl⟩:=nilC_ok hz e1
     refine run_val (x:=.bool (!p.isNone)) hA ?_ (sd_v rfl)
     have hok:=(nilcmp_ok (hut _ hp') p x y w).2
     simp only[execOp,ho,p1,e2,Sem.run_bind,Sem.run_pure]at hok ⊢
     rw[hok];rfl
    ·cases hz
   ·cases hz
  split at h
  ·rename_i u' v' hu hv
   split at h
   ·rename_i r hr
    simp only[rV,Option.some.injEq,Prod.mk.injEq]at h
    obtain⟨rfl,rfl,rfl⟩:=h
    obtain⟨g1,g2,hc⟩:=hc
    have e1:=sd_clos (eval_rd hE h1 g1) hu
    have e2:=sd_clos (eval_rd hE h2 g2) hv
    obtain⟨rc,rv⟩:=r
    have hok:=binV_ok hr hc x y w
    have hov:okV rv=true:=binV_okV hr
    refine run_val (x:=rv) hA ?_ (sd_ofV hov)
    simp only[execOp,ho,e1,e2,Sem.run_bind,Sem.run_pure]at hok ⊢
    rw[hok];rfl
   ·split at h
    ·rename_i z hz
     simp only[rV,Option.some.injEq,Prod.mk.injEq]at h
     obtain⟨h1',h2',_⟩:=h
     exact key z hz h1'.symm h2'.symm
    ·cases h
  ·split at h
   ·rename_i z hz
    simp only[rV,Option.some.injEq,Prod.mk.injEq]at h
    obtain⟨h1',h2',_⟩:=h
    exact key z hz h1'.symm h2'.symm
   ·cases h
 ·cases h
theorem opUn_ok (op:UnOp) (T:TypeId) (x:Operand) (ho:o.op= .unOp op T x) (hE:AtE (hp w) fz lab I H E a) (hA:AtW X w0 I lab fz H w) (h:opUn E op x=some (c,e,fp)) (hc:c):RunOK P o a w X w0 I lab fz H e:=by
 simp only[opUn]at h
 split at h
 ·rename_i u h1
  simp only[Option.bind_eq_some_iff,rV,Option.some.injEq,Prod.mk.injEq]at h
  obtain⟨r,hr,rfl,rfl,rfl⟩:=h
  have e1:=eval_rd hE h1 hc
  unfold unV at hr
  split at hr<;>simp only[Option.some.injEq,reduceCtorEq]at hr<;>subst hr
  ·have e1:=sd_bool e1
   exact run_val hA (by simp[execOp,ho,e1,Op.unary]) (sd_v rfl)
  ·have e1:=sd_int e1
   exact run_val hA (by simp[execOp,ho,e1,Op.unary,Op.intArith]) (sd_v rfl)
 ·cases h
theorem opConvert_ok (s d:TypeId) (x:Operand) (ho:o.op= .convert s d x) (hE:AtE (hp w) fz lab I H E a) (hA:AtW X w0 I lab fz H w) (h:opConvert P E s d x=some (c,e,fp)) (hc:c):RunOK P o a w X w0 I lab fz H e:=by
 simp only[opConvert]at h
 split at h
 ·rename_i k0 n k1 k h1 hs hd
  simp only[rV,Option.some.injEq,Prod.mk.injEq]at h
  obtain⟨rfl,rfl,rfl⟩:=h
  have e1:=sd_int (eval_rd hE h1 hc)
  have hu:∀t q,tInt P t=some q→P.underlying t=some (.int q):=by
   intro t q hq
   unfold tInt at hq
   split at hq
   ·rename_i k' hk';simp only[Option.some.injEq]at hq;subst hq;exact hk'
   ·simp at hq
  exact run_val hA (by simp[execOp,ho,e1,convert,run_underlying (hu _ _ hs),run_underlying (hu _ _ hd),Conv.intToInt]) (sd_v rfl)
 ·cases h
theorem opExtract_ok (x:Operand) (i:Nat) (ho:o.op= .extract x i) (hE:AtE (hp w) fz lab I H E a) (hA:AtW X w0 I lab fz H w) (h:opExtract E x i=some (c,e,fp)) (hc:c):RunOK P o a w X w0 I lab fz H e:=by
 simp only[opExtract]at h
 split at h
 ·rename_i l h1
  have key:∀p,l[i]?=some p→rdg E x=true→∃y,(execOp a.eval o).run P w= .ok (.value y) w∧PDen (hp w) fz lab I H p y:=by
   intro p hp' hg
   obtain⟨arr,e1,e2,e3⟩:=eval_rd hE h1 hg
   obtain⟨y,y1,y2⟩:=e3 i p hp'
   exact⟨y,by simp[execOp,ho,e1,Instr.extract,y1],y2⟩
  split at h
  ·rename_i cc hcc
   simp only[rV,Option.some.injEq,Prod.mk.injEq]at h
   obtain⟨rfl,rfl,rfl⟩:=h
   obtain⟨y,y1,y2⟩:=key _ hcc hc
   exact run_val hA y1 y2
  ·rename_i cs hcs
   simp only[rV,Option.some.injEq,Prod.mk.injEq]at h
   obtain⟨rfl,rfl,rfl⟩:=h
   obtain⟨y,y1,y2⟩:=key _ hcs hc
   exact run_val hA y1 y2
  ·cases h
 ·cases h
end
end Go.Sy
namespace Go.Sy
open Go.RowKit
section
variable {P:Program} {o:Oper} {a:Act} {w w0:World} {X:Ctx} {I:Nm} {lab:Lab} {fz:Nat→Prop} {E:Env} {H:Hp} {c:Prop} {e:Eff} {fp:List Nat}
theorem tU_slice {T e:TypeId} (h:tElem P T=some e):P.underlying T=some (.slice e):=by
 unfold tElem at h
 split at h
 ·rename_i q hq;simp only[Option.some.injEq]at h;subst h;exact hq
 ·cases h
theorem tU_arr {T:TypeId} {ae:Nat×TypeId} (h:tArr P T=some ae):P.underlying T=some (.array ae.1 ae.2):=by
 unfold tArr at h
 split at h
 ·rename_i q r hq;simp only[Option.some.injEq]at h;subst h;exact hq
 ·cases h
theorem tU_str {T:TypeId} (h:tStr P T=true):P.underlying T=some .string:=by
 unfold tStr at h
 split at h
 ·assumption
 ·cases h
theorem tField_ok {T:TypeId} {f off:Nat} {ft:TypeId} (h:tField P T f=some (off,ft)):∃fs x,P.underlying T=some (.struct fs)∧fs[f]?=some x∧x.offset=off∧x.type=ft:=by
 unfold tField at h
 split at h
 ·rename_i fs hu
  simp only[Option.map_eq_some_iff,Prod.mk.injEq]at h
  obtain⟨x,hx,h1,h2⟩:=h
  exact⟨fs,x,hu,hx,h1,h2⟩
 ·simp at h
theorem ld_ok {T:TypeId} {n b off:Nat} {l:List C} {v:SV} (hn:tSize P T=some n) (hv:ldV (tAgg P T) n l=some v)
  (hl:∀(j:Nat) (c:C),l[j]?=some c→∃y,w.cell? ⟨b,off+j,none⟩=some y∧SC (hp w) fz lab I H c y):∃x,(loadVar T ⟨b,off,none⟩).run P w= .ok x w∧SDen (hp w) fz lab I H v x:=by
 classical
 unfold ldV at hv
 split at hv
 ·rename_i ha
  split at hv
  ·rename_i hle
   simp only[Option.some.injEq]at hv
   subst hv
   let vs:List Value:=(List.range n).map fun j=>(w.cell? ⟨b,off+j,none⟩).getD undef
   have hvs:∀(j:Nat) (c:C),(l.take n)[j]?=some c→∃y,vs[j]?=some y∧SC (hp w) fz lab I H c y:=by
    intro j c hj
    have hjn:j<n:=by have:=(List.getElem?_eq_some_iff.1 hj).1;simp at this;omega
    rw[List.getElem?_take,if_pos hjn]at hj
    obtain⟨y,y1,y2⟩:=hl j c hj
    exact⟨y,by simp[vs,hjn,y1],y2⟩
   have hl':=run_loadCells_list (P:=P) w ⟨b,off,none⟩ vs (fun j v hv=>by
    have hjn:j<n:=by have:=(List.getElem?_eq_some_iff.1 hv).1;simpa [vs] using this
    have hjl:j<l.length:=by omega
    obtain⟨y,y1,y2⟩:=hl j l[j] (List.getElem?_eq_getElem hjl)
    simp[vs,hjn,y1]at hv
    subst hv
    rw[addr_add];exact y1)
   have hlen:vs.length=n:=by simp[vs]
   rw[hlen]at hl'
   refine⟨.agg vs.toArray,?_,vs.toArray,rfl,by simp[hlen];omega,fun j c hj=>?_⟩
   ·simp only[loadVar,Sem.run_bind,run_isAgg ha,if_true,run_sizeOf hn,Result.andThen_ok,hl',Sem.run_pure]
   ·obtain⟨y,y1,y2⟩:=hvs j c hj
    exact⟨y,by simpa using y1,y2⟩
  ·cases hv
 ·rename_i ha
  split at hv
  ·rename_i c r
   simp only[Option.some.injEq]at hv
   subst hv
   obtain⟨y,y1,y2⟩:=hl 0 c rfl
   refine⟨y,?_,y2⟩
   rw[Nat.add_zero]at y1
   simp only[loadVar,Sem.run_bind,run_isAgg ha,Bool.false_eq_true,if_false,Result.andThen_ok,run_load,y1]
  ·cases hv
 ·cases hv
theorem den_sc {π:List Nat} {cc:C} {y:Value} (h:Den (hp w) fz lab I π cc y) (hov:cc.flat=true):SC (hp w) fz lab I H cc y:=by
 have hs:cc.stor=true:=by
  cases h with
  |nil=>cases hov
  |ov=>cases hov
  |_=>rfl
 exact sc_of hs (den_flat (fun b hb=>⟨hb,rfl⟩) hov h fun _ _=>rfl)
theorem ldc_get (k u:Nat) (p:List (Nat×Nat)) (i:Nat):∀(l:List C) (j m:Nat) (c:C),(ldc k u p i j l)[m]?=some c→∃c0,l[m]?=some c0∧(c=c0∧c0.flat=true∨c= .vw k u (p++[(i,j+m)])∧∃z es,c0= .ov z es)
 |[],j,m,c,h=>by simp[ldc]at h
 |c0::r,j,m,c,h=>by
  cases m with
  |zero=>
   refine⟨c0,rfl,?_⟩
   cases c0<;>simp only[ldc,List.getElem?_cons_zero,Option.some.injEq]at h<;>subst h
   case ov z es=>exact .inr ⟨rfl,z,es,rfl⟩
   all_goals exact .inl ⟨rfl,rfl⟩
  |succ m=>
   have h':(ldc k u p i (j+1) r)[m]?=some c:=by cases c0<;>simpa [ldc] using h
   obtain⟨c1,g1,g2⟩:=ldc_get k u p i r (j+1) m c h'
   refine⟨c1,by simpa using g1,?_⟩
   rcases g2 with g2|⟨g2,g3⟩
   ·exact .inl g2
   ·exact .inr ⟨by rw[g2,show j+1+m=j+(m+1) by omega],g3⟩
theorem row_read (hA:AtW X w0 I lab fz H w) {k u i j:Nat} {z:List C} {es:List (List C)} (hk:H k=some (.vec u z es)) (hi:i<es.length) :
  ∃b off,(I k).p i j= .pointer (some ⟨b,off,none⟩)∧∀(m:Nat) (c:C),(ldc k u [] i j ((es.getD i z).drop j))[m]?=some c→∃y,w.cell? ⟨b,off+m,none⟩=some y∧SC (hp w) fz lab I H c y:=by
 obtain⟨b,off,cap,arr,T,hI,hlb,hh,hsz,hcap,hc⟩:=vec_open hA hk hi
 refine⟨b,off+(i*z.length+j),by simp[NV.p,hI,ptV],fun m c hm=>?_⟩
 obtain⟨c0,g1,g2⟩:=ldc_get k u [] i _ j m c hm
 rw[List.getElem?_drop]at g1
 obtain⟨_,q2⟩:=hc i _ (getD_get (d:=z) hi)
 obtain⟨y,y1,y2⟩:=q2 _ c0 g1
 have hhw:w.heap[b]?=some (.cells arr T (0,0)):=hh
 refine⟨y,?_,?_⟩
 ·simp only[World.cell?,hhw,Option.isSome_none,Bool.false_eq_true,if_false]
  rw[← y1];congr 1;omega
 ·rcases g2 with⟨rfl,g2⟩|⟨rfl,g2⟩
  ·exact den_sc y2 g2
  ·refine⟨den_one y2,fun u' z' es' hk'=>?_⟩
   rw[hk]at hk'
   simp only[Option.some.injEq,Ch.vec.injEq]at hk'
   obtain⟨rfl,rfl,rfl⟩:=hk'
   exact⟨Nat.le_refl _,fun _ _ _=>⟨b,off,arr,T,(0,0),by rw[hI],hh,y1⟩⟩
theorem vw_open (hA:AtW X w0 I lab fz H w) {k u:Nat} {p:List (Nat×Nat)} {z z':List C} {es es':List (List C)} {y:Value} (hk:H k=some (.vec u z es)) (hi:inP p z es) (hj:getP p z es=some (.ov z' es')) (hv:Vw (hp w) I H k u p y) :
  Den (hp w) fz lab I ([k]++flatP p) (.ov z' es') y∧AtP (hp w) p (I k).b z es y:=by
 obtain⟨hbv,hbase⟩:=vec_base hA hk
 have ha:=(hv.2 u z es hk).2 rfl hi (by simp[ovP,hj,ovC])
 exact⟨atp_open p hbv hi hj (by rw[hbase];exact ha),ha⟩
theorem rd_pt_read {cs:List D} {y:Value} (r:Rd (hp w) fz (.pt (some cs)) y) :
  ∃b off,y= .pointer (some ⟨b,off,none⟩)∧∀(m:Nat) (c:C),(cs.map oD)[m]?=some c→∃y,w.cell? ⟨b,off+m,none⟩=some y∧SC (hp w) fz lab I H c y:=by
 cases r with
 |pt _ b off arr T m val hz hb hc hr=>
  refine⟨b,off,rfl,fun j c hj=>?_⟩
  simp only[List.getElem?_map,Option.map_eq_some_iff]at hj
  obtain⟨d,hd,rfl⟩:=hj
  have hbw:w.heap[b]?=some (.cells arr T m):=hb
  refine⟨val j,?_,sc_of (oD_stor d) (den_oD (hr j d hd))⟩
  simp only[World.cell?,hbw,Option.isSome_none,Bool.false_eq_true,if_false]
  exact hc j d hd
theorem opLoad_ok (T:TypeId) (x:Operand) (ho:o.op= .load T x) (hE:AtE (hp w) fz lab I H E a) (hA:AtW X w0 I lab fz H w) (h:opLoad P E H T x=some (c,e,fp)) (hc:c):RunOK P o a w X w0 I lab fz H e:=by
 have fin:∀{b off:Nat} {l:List C} {n:Nat} {v:SV},a.eval x= .pointer (some ⟨b,off,none⟩)→tSize P T=some n→ldV (tAgg P T) n l=some v→
   (∀(j:Nat) (c:C),l[j]?=some c→∃y,w.cell? ⟨b,off+j,none⟩=some y∧SC (hp w) fz lab I H c y)→RunOK P o a w X w0 I lab fz H ⟨v,[]⟩:=by
  intro b off l n v hx hn hv hl
  obtain⟨y,y1,y2⟩:=ld_ok hn hv hl
  refine run_val hA ?_ y2
  simp only[execOp,ho,hx,Instr.loadAt,Instr.sureAddr,Sem.run_bind,Sem.run_pure,Result.andThen_ok,y1]
 simp only[opLoad]at h
 split at h
 ·rename_i k i j n h1 hn
  split at h
  ·rename_i u z es hk
   simp only[Option.bind_eq_some_iff,rV,Option.some.injEq,Prod.mk.injEq]at h
   obtain⟨v,hv,rfl,rfl,rfl⟩:=h
   obtain⟨hg,hi⟩:=hc
   have hs:=(eval_rd hE h1 hg).2
   obtain⟨b,off,hp',hl⟩:=row_read (j:=j) hA hk hi
   refine fin ?_ hn hv hl
   rw[← hp']
   generalize a.eval x=q at*
   cases hs;rfl
  ·cases h
 ·rename_i cs n h1 hn
  simp only[Option.bind_eq_some_iff,rV,Option.some.injEq,Prod.mk.injEq]at h
  obtain⟨v,hv,rfl,rfl,rfl⟩:=h
  have hs:=(eval_rd hE h1 hc).2
  generalize hq:a.eval x=q at*
  cases hs with
  |dp _ _ _ r=>
   obtain⟨b,off,rfl,hl⟩:=rd_pt_read (H:=H) (lab:=lab) (I:=I) r
   exact fin rfl hn hv hl
 ·rename_i cs n h1 hn
  simp only[Option.bind_eq_some_iff,rV,Option.some.injEq,Prod.mk.injEq]at h
  obtain⟨v,hv,rfl,rfl,rfl⟩:=h
  have hs:=(eval_rd hE h1 hc).2
  generalize hq:a.eval x=q at*
  cases hs with
  |d _ _ _ r=>
   obtain⟨b,off,rfl,hl⟩:=rd_pt_read (H:=H) (lab:=lab) (I:=I) r
   exact fin rfl hn hv hl
 ·rename_i k u p s m o' n h1 hn
  split at h
  ·rename_i u' z es hk
   split at h
   ·rename_i z' es' hj
    simp only[Option.bind_eq_some_iff,rV,Option.some.injEq,Prod.mk.injEq]at h
    obtain⟨v,hv,rfl,rfl,rfl⟩:=h
    obtain⟨hg,rfl,rfl,hi,hm⟩:=hc
    obtain⟨y,y1,y2⟩:=eval_rd hE h1 hg
    obtain⟨hden,hat⟩:=vw_open hA hk hi hj y1
    obtain⟨hvec,_⟩:=ov_vec hden
    rcases hvec with⟨rfl,_⟩|⟨b,off,cap,arr,T',rfl,hlb,hh,hsz,hcap,hcc⟩
    ·simp at hm
    ·refine fin (b:=b) (off:=off+(m*z'.length+o')) (by rw[y2];rfl) hn hv fun jj c hjj=>?_
     obtain⟨c0,g1,g2⟩:=ldc_get k _ p m _ o' jj c hjj
     rw[List.getElem?_drop]at g1
     obtain⟨_,q2⟩:=hcc m _ (getD_get (d:=z') hm)
     obtain⟨yy,yy1,yy2⟩:=q2 _ c0 g1
     have hhw:w.heap[b]?=some (.cells arr T' (0,0)):=hh
     refine⟨yy,?_,?_⟩
     ·simp only[World.cell?,hhw,Option.isSome_none,Bool.false_eq_true,if_false]
      rw[← yy1];congr 1;omega
     ·rcases g2 with⟨rfl,g2⟩|⟨rfl,g2⟩
      ·exact den_sc yy2 g2
      ·refine⟨den_one yy2,fun u2 z2 es2 hk'=>?_⟩
       rw[hk]at hk'
       simp only[Option.some.injEq,Ch.vec.injEq]at hk'
       obtain⟨rfl,rfl,rfl⟩:=hk'
       exact⟨Nat.le_refl _,fun _ _ _=>atp_snoc p hat hj (baseOf_slV _ _ _) hh yy1⟩
   ·cases h
  ·cases h
 ·cases h
theorem ptr_ok (hA:AtW X w0 I lab fz H w) {cc:C} {y:Value} (hs:SC (hp w) fz lab I H cc y) {g:Prop} {fp:List Nat} (hg:ptrG H cc=some (g,fp)) (h0:g) :
  ∃b off,y= .pointer (some ⟨b,off,none⟩)∧∀n,SC (hp w) fz lab I H (ptrA n cc) (.pointer (some ⟨b,off+n,none⟩)):=by
 have dcase:∀{cs:List D} {q:Value},Rd (hp w) fz (.pt (some cs)) q→∃b off,q= .pointer (some ⟨b,off,none⟩)∧∀n,SC (hp w) fz lab I H (.dp (cs.drop n)) (.pointer (some ⟨b,off+n,none⟩)):=by
  intro cs q r
  cases r with
  |pt _ b off arr T' m val hz hb hcc hr=>
   refine⟨b,off,rfl,fun n=>⟨rfl,.dp _ _ _ (.pt _ b (off+n) arr T' m (fun j=>val (n+j)) hz hb ?_ ?_)⟩⟩
   ·intro j d hd
    rw[List.getElem?_drop]at hd
    rw[Nat.add_assoc];exact hcc _ d hd
   ·intro j d hd
    rw[List.getElem?_drop]at hd
    exact hr _ d hd
 unfold ptrG at hg
 split at hg
 ·rename_i k i j
  split at hg
  ·rename_i u z es hk
   simp only[Option.some.injEq,Prod.mk.injEq]at hg
   obtain⟨rfl,rfl⟩:=hg
   obtain⟨b,off,cap,arr,T,hI,_⟩:=vec_open hA hk h0
   have:=hs.2
   cases this
   refine⟨b,off+(i*z.length+j),by simp[NV.p,ptV,hI],fun n=>?_⟩
   have e2:(.pointer (some ⟨b,off+(i*z.length+j)+n,none⟩):Value)=(I k).p i (j+n):=by
    simp[NV.p,ptV,hI]<;>omega
   rw[e2]
   exact⟨rfl,.p _ _ _ _⟩
  ·cases hg
 ·rename_i k u p s m o'
  split at hg
  ·rename_i u' z es hk
   split at hg
   ·rename_i z' es' hj
    simp only[Option.some.injEq,Prod.mk.injEq]at hg
    obtain⟨rfl,rfl⟩:=hg
    obtain⟨rfl,hi,hm⟩:=h0
    obtain⟨x,x1,x2⟩:=hs
    have hden:=(vw_open hA hk hi hj x1).1
    obtain⟨hvec,_⟩:=ov_vec hden
    rcases hvec with⟨rfl,_⟩|⟨b,off,cap,arr,T',rfl,_⟩
    ·simp at hm
    ·refine⟨b,off+(m*s+o'),x2,fun n=>⟨_,x1,?_⟩⟩
     simp[ptOf,slV]<;>omega
   ·cases hg
  ·cases hg
 ·have:=hs.2
  cases this with|dp _ _ _ r=>exact dcase r
 ·have:=hs.2
  cases this with|d _ _ _ r=>exact dcase r
 ·cases hg
theorem opFieldAddr_ok (T:TypeId) (x:Operand) (f:Nat) (ho:o.op= .fieldAddr T x f) (hE:AtE (hp w) fz lab I H E a) (hA:AtW X w0 I lab fz H w) (h:opFieldAddr P E H T x f=some (c,e,fp)) (hc:c):RunOK P o a w X w0 I lab fz H e:=by
 simp only[opFieldAddr]at h
 split at h
 ·rename_i cc fo ft h1 hf
  split at h
  ·rename_i n g fp' hn hg
   simp only[rV,Option.some.injEq,Prod.mk.injEq]at h
   obtain⟨rfl,rfl,rfl⟩:=h
   obtain⟨g1,g2,g3⟩:=hc
   obtain⟨b,off,hx,hv⟩:=ptr_ok hA (eval_rd hE h1 g1) hg g3
   obtain⟨fs,fx,hu,hx',rfl,rfl⟩:=tField_ok hf
   refine run_val hA ?_ (hv fx.offset)
   simp only[execOp,ho,hx,Instr.fieldAt,Sem.run_bind,run_underlying hu,Result.andThen_ok,hx',Instr.sureAddr,Sem.run_pure,fieldPlace,run_sizeOf hn,g2,if_false,addr_add]
  ·cases h
 ·cases h
theorem part_ok {T:TypeId} {n off:Nat} {l:List C} {arr:Array Value} {v:SV} (hl:CsDen (hp w) fz lab I H l arr) (hn:tSize P T=some n) (hv:ldV (tAgg P T) n (l.drop off)=some v) :
  ∃x,(part T arr off).run P w= .ok x w∧SDen (hp w) fz lab I H v x:=by
 unfold ldV at hv
 split at hv
 ·rename_i ha
  split at hv
  ·rename_i hle
   simp only[Option.some.injEq]at hv
   subst hv
   refine⟨.agg (arr.extract off (off+n)),by simp only[part,Sem.run_bind,run_isAgg ha,if_true,run_sizeOf hn,Result.andThen_ok,Sem.run_pure],_,rfl,?_,fun j c hj=>?_⟩
   ·simp only[List.length_drop]at hle
    simp[hl.1];omega
   ·have hjn:j<n:=by have:=(List.getElem?_eq_some_iff.1 hj).1;simp at this;omega
    rw[List.getElem?_take,if_pos hjn,List.getElem?_drop]at hj
    obtain⟨y,y1,y2⟩:=hl.2 _ c hj
    refine⟨y,?_,y2⟩
    rw[Array.getElem?_extract,if_pos (by have:=(Array.getElem?_eq_some_iff.1 y1).1;omega)]
    exact y1
  ·cases hv
 ·rename_i ha
  split at hv
  ·rename_i c r hd
   simp only[Option.some.injEq]at hv
   subst hv
   have:l[off]?=some c:=by
    have:=congrArg (fun q=>q[0]?) hd
    simpa using this
   obtain⟨y,y1,y2⟩:=hl.2 _ c this
   exact⟨y,by simp only[part,Sem.run_bind,run_isAgg ha,Bool.false_eq_true,if_false,Result.andThen_ok,y1,Sem.run_pure],y2⟩
  ·cases hv
 ·cases hv
theorem opField_ok (T:TypeId) (x:Operand) (f:Nat) (ho:o.op= .field T x f) (hE:AtE (hp w) fz lab I H E a) (hA:AtW X w0 I lab fz H w) (h:opField P E T x f=some (c,e,fp)) (hc:c):RunOK P o a w X w0 I lab fz H e:=by
 simp only[opField]at h
 split at h
 ·rename_i l fo ft h1 hf
  split at h
  ·rename_i n hn
   simp only[Option.bind_eq_some_iff,rV,Option.some.injEq,Prod.mk.injEq]at h
   obtain⟨v,hv,rfl,rfl,rfl⟩:=h
   obtain⟨arr,hx,hl⟩:=eval_rd hE h1 hc
   obtain⟨fs,fx,hu,hx',rfl,rfl⟩:=tField_ok hf
   obtain⟨y,y1,y2⟩:=part_ok hl hn hv
   refine run_val hA ?_ y2
   simp only[execOp,ho,hx,Instr.field,Sem.run_bind,run_underlying hu,Result.andThen_ok,hx',asAgg,Sem.run_pure,y1]
  ·cases h
 ·cases h
theorem rd_sl_at {z:List D} {es:List (List D)} {a:Option Addr} {len cap:Nat} (r:Rd (hp w) fz (.sl z es) (.slice a len cap)) {n:Nat} (hn:n<es.length) :
  ∃b off,a=some ⟨b,off,none⟩∧len=es.length∧Rd (hp w) fz (.pt (some (es.getD n z))) (.pointer (some ⟨b,off+n*z.length,none⟩)):=by
 cases r with
 |nil=>simp at hn
 |sl _ _ b off _ arr T m val hz hb hcap hl hcc hr=>
  refine⟨b,off,rfl,rfl,.pt _ b (off+n*z.length) arr T m (fun j=>val n j) hz hb ?_ ?_⟩
  ·intro j d hd;exact hcc n j _ d (getD_get hn) hd
  ·intro j d hd;exact hr n j _ d (getD_get hn) hd
theorem opIndexAddr_ok (T:TypeId) (x i:Operand) (ho:o.op= .indexAddr T x i) (hE:AtE (hp w) fz lab I H E a) (hA:AtW X w0 I lab fz H w) (h:opIndexAddr P E H T x i=some (c,e,fp)) (hc:c):RunOK P o a w X w0 I lab fz H e:=by
 have fin:∀{ad:Addr} {len cap s:Nat} {k:IntKind} {n:Int} {e':TypeId} {v:SV},a.eval x= .slice (some ad) len cap→a.eval i= .int k n→tElem P T=some e'→tSize P e'=some s→0≤n→n<len→
   SDen (hp w) fz lab I H v (.pointer (some (ad.add (n.toNat*s))))→RunOK P o a w X w0 I lab fz H ⟨v,[]⟩:=by
  intro ad len cap s k n e' v hx hi' he hs h1 h2 hv
  refine run_val hA ?_ hv
  simp[execOp,ho,hx,hi',Instr.indexAt,asIntOf,run_underlying (tU_slice he),h1,h2,run_sizeOf hs]
 simp only[opIndexAddr]at h
 split at h
 ·rename_i k kk n h1 h2
  split at h
  ·rename_i u z es e' hk he
   simp only[Option.bind_eq_some_iff,rV,Option.some.injEq,Prod.mk.injEq]at h
   obtain⟨s,hs,rfl,rfl,rfl⟩:=h
   obtain⟨g1,g2,b1,b2,rfl⟩:=hc
   have hsx:=(eval_rd hE h1 g1).2
   have e2:=sd_int (eval_rd hE h2 g2)
   have hlt:n.toNat<es.length:=by omega
   obtain⟨b,off,cap,arr,T',hI,_⟩:=vec_open hA hk hlt
   have hx:a.eval x= .slice (some ⟨b,off,none⟩) es.length cap:=by
    generalize a.eval x=q at*
    cases hsx;simp[NV.v,slV,hI]
   refine fin hx e2 he hs b1 b2 ?_
   have:(.pointer (some ((⟨b,off,none⟩:Addr).add (n.toNat*z.length))):Value)=(I k).p n.toNat 0:=by
    rw[addr_add];simp[NV.p,ptV,hI]
   rw[this]
   exact⟨rfl,.p _ _ _ _⟩
  ·cases h
 ·rename_i z es kk n h1 h2
  simp only[Option.bind_eq_some_iff,rV,Option.some.injEq,Prod.mk.injEq]at h
  obtain⟨e',he,s,hs,rfl,rfl,rfl⟩:=h
  obtain⟨g1,g2,b1,b2,rfl⟩:=hc
  have hsx:=(eval_rd hE h1 g1).2
  have e2:=sd_int (eval_rd hE h2 g2)
  have hlt:n.toNat<es.length:=by omega
  generalize hq:a.eval x=q at*
  cases hsx with
  |d _ _ _ r=>
   cases r with
   |nil=>simp at hlt
   |sl _ _ b off cap arr T' m val hz hb hcap hl hcc hr=>
    obtain⟨b',off',e3,_,e4⟩:=rd_sl_at (.sl z es b off cap arr T' m val hz hb hcap hl hcc hr) hlt
    simp only[Option.some.injEq,Addr.mk.injEq]at e3
    obtain⟨rfl,rfl,_⟩:=e3
    refine fin rfl e2 he hs b1 b2 ?_
    rw[addr_add]
    exact⟨rfl,.dp _ _ _ e4⟩
 ·rename_i z es kk n h1 h2
  simp only[Option.bind_eq_some_iff,rV,Option.some.injEq,Prod.mk.injEq]at h
  obtain⟨e',he,s,hs,rfl,rfl,rfl⟩:=h
  obtain⟨g1,g2,b1,b2,rfl⟩:=hc
  have hsx:=(eval_rd hE h1 g1).2
  have e2:=sd_int (eval_rd hE h2 g2)
  have hlt:n.toNat<es.length:=by omega
  generalize hq:a.eval x=q at*
  cases hsx with
  |df _ _ _ ad r=>
   obtain⟨b',off',rfl,_,e4⟩:=rd_sl_at r hlt
   refine fin rfl e2 he hs b1 b2 ?_
   rw[addr_add]
   exact⟨rfl,.dp _ _ _ e4⟩
 ·rename_i k u p kk n h1 h2
  split at h
  ·rename_i u' z es e' hk he
   split at h
   ·rename_i z' es' hj
    simp only[Option.bind_eq_some_iff,rV,Option.some.injEq,Prod.mk.injEq]at h
    obtain⟨s,hs,rfl,rfl,rfl⟩:=h
    obtain⟨g1,g2,rfl,hi,b1,b2,rfl⟩:=hc
    have hsx:=eval_rd hE h1 g1
    have e2:=sd_int (eval_rd hE h2 g2)
    have hden:=(vw_open hA hk hi hj hsx).1
    obtain⟨hvec,_⟩:=ov_vec hden
    rcases hvec with⟨rfl,_⟩|⟨b,off,cap,arr,T',hx,_⟩
    ·simp at b2;omega
    ·refine fin hx e2 he hs b1 b2 ⟨_,hsx,?_⟩
     rw[hx];simp[ptOf,slV,addr_add]
   ·cases h
  ·cases h
 ·rename_i cc kk n _ _ _ _ h1 h2
  split at h
  ·rename_i ae hae
   split at h
   ·rename_i s g fp' hs hg
    simp only[rV,Option.some.injEq,Prod.mk.injEq]at h
    obtain⟨rfl,rfl,rfl⟩:=h
    obtain⟨g1,g2,b1,b2,g3⟩:=hc
    obtain⟨b,off,hx,hv⟩:=ptr_ok hA (eval_rd hE h1 g1) hg g3
    have e2:=sd_int (eval_rd hE h2 g2)
    have hu:=tU_arr hae
    refine run_val hA ?_ (hv (n.toNat*s))
    simp[execOp,ho,hx,e2,Instr.indexAt,Instr.sureAddr,asIntOf,run_underlying hu,b1,b2,run_sizeOf hs,addr_add]
   ·cases h
  ·cases h
 ·cases h
theorem opIndex_ok (T:TypeId) (x i:Operand) (ho:o.op= .index T x i) (hE:AtE (hp w) fz lab I H E a) (hA:AtW X w0 I lab fz H w) (h:opIndex P E T x i=some (c,e,fp)) (hc:c):RunOK P o a w X w0 I lab fz H e:=by
 simp only[opIndex]at h
 split at h
 ·rename_i s kk n h1 h2
  split at h
  ·rename_i ht
   simp only[rV,Option.some.injEq,Prod.mk.injEq]at h
   obtain⟨rfl,rfl,rfl⟩:=h
   obtain⟨g1,g2,b1,b2⟩:=hc
   have e1:=sd_str (eval_rd hE h1 g1)
   have e2:=sd_int (eval_rd hE h2 g2)
   refine run_val (x:=.int .u8 (s.toList.getD n.toNat 0).toNat) hA ?_ (sd_v rfl)
   have hb:0≤n∧n<s.size:=⟨b1,by rw[size_toList];exact b2⟩
   have hrun:=run_index_string (P:=P) w T s kk n (tU_str ht)
   rw[dif_pos hb]at hrun
   simp only[execOp,ho,e1,e2,Sem.run_bind,hrun,Result.andThen_ok,Sem.run_pure]
   have hlt:n.toNat<s.toList.length:=by omega
   have:s[n.toNat]'(by omega)=s.toList.getD n.toNat 0:=by
    simp only[List.getD,List.getElem?_eq_getElem hlt,Option.getD_some]
    simp only[ByteArray.toList_eq,Array.getElem_toList]
    rfl
   rw[this]
  ·cases h
 ·rename_i l kk n h1 h2
  simp only[Option.bind_eq_some_iff,rV,Option.some.injEq,Prod.mk.injEq]at h
  obtain⟨ae,hae,s,hs,v,hv,rfl,rfl,rfl⟩:=h
  obtain⟨g1,g2,b1,b2⟩:=hc
  obtain⟨arr,e1,hl⟩:=eval_rd hE h1 g1
  have e2:=sd_int (eval_rd hE h2 g2)
  obtain⟨y,y1,y2⟩:=part_ok hl hs hv
  refine run_val hA ?_ y2
  simp[execOp,ho,e1,e2,Instr.index,asIntOf,run_underlying (tU_arr hae),b1,b2,run_sizeOf hs,y1]
 ·cases h
theorem opNil_ok (x:Operand) (ho:o.op= .nilCheck x) (hE:AtE (hp w) fz lab I H E a) (hA:AtW X w0 I lab fz H w) (h:opNil E H x=some (c,e,fp)) (hc:c):RunOK P o a w X w0 I lab fz H e:=by
 simp only[opNil]at h
 split at h
 ·rename_i k i j h1
  split at h
  ·rename_i u z es hk
   simp only[rV,Option.some.injEq,Prod.mk.injEq]at h
   obtain⟨rfl,rfl,rfl⟩:=h
   obtain⟨g1,g2⟩:=hc
   have hs:=eval_rd hE h1 g1
   obtain⟨b,off,cap,arr,T',hI,_⟩:=vec_open hA hk g2
   have hx:a.eval x= .pointer (some ⟨b,off+(i*z.length+j),none⟩):=by
    have:=hs.2
    generalize a.eval x=q at*
    cases this;simp[NV.p,ptV,hI]
   refine run_val (x:=a.eval x) hA ?_ hs
   simp[execOp,ho,hx]
  ·cases h
 ·rename_i k u p s m o' h1
  split at h
  ·rename_i g fp' hg
   simp only[rV,Option.some.injEq,Prod.mk.injEq]at h
   obtain⟨rfl,rfl,rfl⟩:=h
   obtain⟨g1,g2⟩:=hc
   have hs:=eval_rd hE h1 g1
   obtain⟨b,off,hx,_⟩:=ptr_ok hA (show SC (hp w) fz lab I H (.q k u p s m o') (a.eval x) from hs) hg g2
   refine run_val (x:=a.eval x) hA ?_ hs
   simp[execOp,ho,hx]
  ·cases h
 ·rename_i cc _ _ h1
  split at h
  ·rename_i hok
   simp only[rV,Option.some.injEq,Prod.mk.injEq]at h
   obtain⟨rfl,rfl,rfl⟩:=h
   have hs:=eval_rd hE h1 hc
   have hnn:(∃p,a.eval x= .pointer (some p))∨∃f u v,a.eval x= .func (.func f) u v:=by
    generalize a.eval x=q at*
    unfold okPtr at hok
    split at hok
    ·cases hok
    ·have:=hs.2;cases this with|d _ _ _ r=>cases r;exact .inl ⟨_,rfl⟩
    ·have:=hs.2;cases this with|dp _ _ _ r=>cases r;exact .inl ⟨_,rfl⟩
    ·have:=hs.2;cases this;exact .inr ⟨_,_,_,rfl⟩
    ·have:=hs.2;cases this;exact .inr ⟨_,_,_,rfl⟩
    ·cases hok
   refine run_val hA ?_ hs
   rcases hnn with⟨p,hx⟩|⟨f,u,v,hx⟩<;>simp[execOp,ho,hx]
  ·cases h
 ·cases h
end
end Go.Sy
namespace Go.Sy
open Go.RowKit
section
variable {P:Program} {o:Oper} {a:Act} {w w0:World} {X:Ctx} {I:Nm} {lab:Lab} {fz:Nat→Prop} {E:Env} {H:Hp} {c:Prop} {e:Eff} {fp:List Nat}
theorem run_places {w:World}:∀{fs:List Field} {pl:List (Nat×Nat)},tPlacesL P fs=some pl→(fs.mapM (fun f=>do pure (f.offset,← sizeOf f.type):Field→Sem (Nat×Nat))).run P w= .ok pl w
 |[],pl,h=>by simp only[tPlacesL,Option.some.injEq]at h;subst h;simp
 |f::fs,pl,h=>by
  simp only[tPlacesL]at h
  split at h
  ·rename_i n l hn hl
   simp only[Option.some.injEq]at h
   subst h
   have ih:=run_places (w:=w) hl
   simp only[List.mapM_cons,Sem.run_bind,run_sizeOf hn,Result.andThen_ok,Sem.run_pure,ih]
  ·simp at h
def VsDen (h:Heap) (fz:Nat→Prop) (lab:Lab) (I:Nm) (H:Hp):List (Nat×SV)→List (Nat×Value)→Prop
 |[],[]=>True
 |(i,v)::r,(j,x)::s=>i=j∧SDen h fz lab I H v x∧VsDen h fz lab I H r s
 |_,_=>False
theorem reads_ok (hE:AtE (hp w) fz lab I H E a) (hW:WFE E H):∀{xs:List (Nat×Operand)} {vs:List (Nat×SV)},reads E xs=some vs→readG E xs→
  VsDen (hp w) fz lab I H vs (xs.map fun x=>(x.1,a.eval x.2))∧∀v∈vs,Dom H v.2.names
 |[],vs,h,_=>by simp only[reads,Option.some.injEq]at h;subst h;exact⟨trivial,by simp⟩
 |(i,x)::xs,vs,h,hg=>by
  simp only[reads]at h
  split at h
  ·rename_i v l hv hl
   simp only[Option.some.injEq]at h
   subst h
   obtain⟨ih1,ih2⟩:=reads_ok hE hW hl hg.2
   refine⟨⟨rfl,eval_rd hE hv hg.1,ih1⟩,?_⟩
   intro u hu
   rcases List.mem_cons.1 hu with rfl|hu
   ·exact hW.rd hv hg.1
   ·exact ih2 u hu
  ·cases h
theorem readA_ok (hE:AtE (hp w) fz lab I H E a) (hW:WFE E H):∀{xs:List Operand} {vs:List SV},readA E xs=some vs→readAG E xs→
  vs.length=xs.length∧(∀(j:Nat) (v:SV) (x:Value),vs[j]?=some v→(xs.map a.eval)[j]?=some x→SDen (hp w) fz lab I H v x)∧∀v∈vs,Dom H v.names
 |[],vs,h,_=>by simp only[readA,Option.some.injEq]at h;subst h;simp
 |x::xs,vs,h,hg=>by
  simp only[readA]at h
  split at h
  ·rename_i v l hv hl
   simp only[Option.some.injEq]at h
   subst h
   obtain⟨ih1,ih2,ih3⟩:=readA_ok hE hW hl hg.2
   refine⟨by simp[ih1],fun j u y h1 h2=>?_,fun u hu=>?_⟩
   ·cases j with
    |zero=>simp at h1 h2;subst h1;subst h2;exact eval_rd hE hv hg.1
    |succ j=>exact ih2 j u y (by simpa using h1) (by simpa using h2)
   ·rcases List.mem_cons.1 hu with rfl|hu
    ·exact hW.rd hv hg.1
    ·exact ih3 u hu
  ·cases h
theorem csden_set {cells:List C} {arr:Array Value} (hc:CsDen (hp w) fz lab I H cells arr) {n:Nat} {cc:C} {x:Value} (hx:SC (hp w) fz lab I H cc x):CsDen (hp w) fz lab I H (cells.set n cc) (arr.setIfInBounds n x):=by
 refine⟨by simp[hc.1],fun j c hj=>?_⟩
 rw[List.getElem?_set]at hj
 split at hj
 ·rename_i e;subst e
  split at hj
  ·rename_i hl
   simp only[Option.some.injEq]at hj;subst hj
   exact⟨x,by rw[Array.getElem?_setIfInBounds_self_of_lt (by rw[hc.1];exact hl)],hx⟩
  ·cases hj
 ·rename_i e
  obtain⟨y,y1,y2⟩:=hc.2 j c hj
  exact⟨y,by rw[Array.getElem?_setIfInBounds_ne e];exact y1,y2⟩
theorem csden_all:∀(vs:List C) (vals:List Value) (off s:Nat) (cells:List C) (arr:Array Value),CsDen (hp w) fz lab I H cells arr→vals.length=vs.length→(∀(j:Nat) (c:C),vs[j]?=some c→∃y,vals[j]?=some y∧SC (hp w) fz lab I H c y)→
  CsDen (hp w) fz lab I H (setAll cells (off+s) vs) ((vals.zipIdx s).foldl (fun (cs:Array Value) (x:Value×Nat)=>cs.setIfInBounds (off+x.2) x.1) arr)
 |[],[],off,s,cells,arr,h,_,_=>h
 |v::vs,[],off,s,cells,arr,h,hl,_=>by simp at hl
 |[],x::vals,off,s,cells,arr,h,hl,_=>by simp at hl
 |v::vs,x::vals,off,s,cells,arr,h,hl,hp'=>by
  simp only[List.zipIdx_cons,List.foldl_cons,setAll]
  obtain⟨y,y1,y2⟩:=hp' 0 v rfl
  simp only[List.getElem?_cons_zero,Option.some.injEq]at y1
  subst y1
  exact csden_all vs vals off (s+1) _ _ (csden_set h y2) (by simpa using hl) (fun j c hj=>by have:=hp' (j+1) c (by simpa using hj);simpa using this)
theorem fill_ok (place:Nat→Option (Nat×Nat)):∀(vs:List (Nat×SV)) (xs:List (Nat×Value)) (cs cs':List C) (arr:Array Value),VsDen (hp w) fz lab I H vs xs→CsDen (hp w) fz lab I H cs arr→fillC place cs vs=some cs'→
  ∃arr',Instr.fill place arr xs=some arr'∧CsDen (hp w) fz lab I H cs' arr'
 |[],[],cs,cs',arr,_,hc,h=>by simp only[fillC,Option.some.injEq]at h;subst h;exact⟨arr,rfl,hc⟩
 |[],_::_,cs,cs',arr,hv,_,_=>hv.elim
 |_::_,[],cs,cs',arr,hv,_,_=>hv.elim
 |(i,v)::vs,(j,x)::xs,cs,cs',arr,hv,hc,h=>by
  obtain⟨rfl,hx,hr⟩:=hv
  simp only[fillC]at h
  split at h
  ·cases h
  ·rename_i off size hp'
   split at h
   ·rename_i hcond
    obtain⟨h0,h1,h2⟩:=hcond
    obtain⟨q1,q2⟩:=cells_den hx h0
    have hstep:=csden_all v.cells x.cells.toList off 0 cs arr hc (by simpa using q1) (fun j c hj=>by
     obtain⟨y,y1,y2⟩:=q2 j c hj
     exact⟨y,by rw[Array.getElem?_toList];exact y1,y2⟩)
    rw[Nat.add_zero]at hstep
    obtain⟨arr',g1,g2⟩:=fill_ok place vs xs _ cs' _ hr hstep h
    refine⟨arr',?_,g2⟩
    simp only[Instr.fill,hp']
    have hsz:x.cells.size=size:=by rw[q1,h1]
    have hcnd:(x.cells.size≠size||decide (off+x.cells.size > arr.size))=false:=by
     simp[hsz,hc.1];omega
    rw[if_neg (by rw[hcnd];simp),← g1]
    congr 1
    obtain⟨l,hl⟩:∃l:List Value,x.cells=l.toArray:=⟨x.cells.toList,by simp⟩
    rw[hl]
    simp[Array.zipIdx_toArray]
   ·cases h
theorem fillC_mem (place:Nat→Option (Nat×Nat)) {Q:C→Prop}:∀(vs:List (Nat×SV)) (cs cs':List C),fillC place cs vs=some cs'→(∀c∈cs,Q c)→(∀v∈vs,∀c∈v.2.cells,Q c)→∀c∈cs',Q c
 |[],cs,cs',h,hq,_=>by simp only[fillC,Option.some.injEq]at h;subst h;exact hq
 |(i,v)::vs,cs,cs',h,hq,hv=>by
  simp only[fillC]at h
  split at h
  ·cases h
  ·split at h
   ·refine fillC_mem place vs _ _ h ?_ (fun u hu=>hv u (List.mem_cons_of_mem _ hu))
    have:∀(r:List C) (o:Nat) (l:List C),(∀c∈l,Q c)→(∀c∈r,Q c)→∀c∈setAll l o r,Q c:=by
     intro r
     induction r with
     |nil=>intro o l h1 _;exact h1
     |cons x r ih=>
      intro o l h1 h2
      refine ih (o+1) (l.set o x) ?_ fun c hc=>h2 c (List.mem_cons_of_mem _ hc)
      intro c hc
      rcases List.mem_or_eq_of_mem_set hc with hc|rfl
      ·exact h1 c hc
      ·exact h2 _ (List.mem_cons_self ..)
    exact this _ _ _ hq (hv _ (List.mem_cons_self ..))
   ·cases h
theorem fillC_length (place:Nat→Option (Nat×Nat)):∀(vs:List (Nat×SV)) (cs cs':List C),fillC place cs vs=some cs'→cs'.length=cs.length
 |[],cs,cs',h=>by simp only[fillC,Option.some.injEq]at h;subst h;rfl
 |(i,v)::vs,cs,cs',h=>by
  simp only[fillC]at h
  split at h
  ·cases h
  ·split at h
   ·rw[fillC_length place vs _ _ h,setAll_length]
   ·cases h
theorem fillC_names (place:Nat→Option (Nat×Nat)) {vs:List (Nat×SV)} {cs cs':List C} (h:fillC place cs vs=some cs') (hc:Dom H (cs.flatMap C.names)) (hv:∀v∈vs,Dom H v.2.names):Dom H (cs'.flatMap C.names):=by
 intro n hn
 obtain⟨x,hx,hn⟩:=List.mem_flatMap.1 hn
 refine fillC_mem place (Q:=fun c=>∀n∈c.names,(H n).isSome=true) vs cs cs' h (fun c hc' n hn=>hc n (List.mem_flatMap.2 ⟨c,hc',hn⟩)) ?_ x hx n hn
 intro v hv' c hc' n hn
 refine hv v hv' n ?_
 obtain⟨i,v⟩:=v
 cases v with
 |one c0=>simp[SV.cells]at hc';subst hc';exact hn
 |agg l=>exact List.mem_flatMap.2 ⟨c,hc',hn⟩
 |tup l=>simp[SV.cells]at hc'
theorem opBuild_ok (T:TypeId) (ps:Array (Nat×Operand)) (ho:o.op= .build T ps) (hE:AtE (hp w) fz lab I H E a) (hW:WFE E H) (hA:AtW X w0 I lab fz H w) (h:opBuild P E T ps.toList=some (c,e,fp)) (hc:c):RunOK P o a w X w0 I lab fz H e:=by
 have hmap:(ps.map fun (x:Nat×Operand)=>(x.1,a.eval x.2)).toList=ps.toList.map fun x=>(x.1,a.eval x.2):=by rw[Array.toList_map]
 simp only[opBuild]at h
 split at h
 ·rename_i pl z vs hpl hz hr
  simp only[Option.bind_eq_some_iff,rV,Option.some.injEq,Prod.mk.injEq]at h
  obtain⟨cs,hf,rfl,rfl,rfl⟩:=h
  obtain⟨hg,hok⟩:=hc
  obtain⟨hm,hn⟩:=reads_ok hE hW hr hg
  unfold tPlaces at hpl
  split at hpl
  ·rename_i fs hu
   have hzc:=cells_den (w:=w) (fz:=fz) (lab:=lab) (I:=I) (H:=H) (sd_ofV hok) (ofV_tup hok)
   obtain⟨arr',hfill,hden⟩:=fill_ok (pl[·]?) vs _ _ cs _ hm hzc hf
   have hp':=run_places (w:=w) hpl
   have hmm:(fs.mapM (fun f=>do pure (f.offset,← sizeOf f.type):Field→Sem (Nat×Nat))).run P w= .ok pl.toArray w:=by
    rw[Array.mapM_eq_mapM_toList,Sem.run_map,hp'];rfl
   have hplace:(fun i:Nat=>(pl.toArray)[i]?)=fun i:Nat=>pl[i]?:=by funext i;simp
   refine run_val (x:=.agg arr') hA ?_ ⟨arr',rfl,hden⟩
   simp only[execOp,ho,Instr.build,Sem.run_bind,run_zeroValue hz,Result.andThen_ok,run_underlying hu,hmm,hmap,hplace,hfill,Sem.run_pure]
  ·cases hpl
 ·split at h
  ·rename_i n e' z vs hT hz hr
   split at h
   ·rename_i s hs
    simp only[Option.bind_eq_some_iff,rV,Option.some.injEq,Prod.mk.injEq]at h
    obtain⟨cs,hf,rfl,rfl,rfl⟩:=h
    obtain⟨hg,hok⟩:=hc
    obtain⟨hm,hn⟩:=reads_ok hE hW hr hg
    have hzc:=cells_den (w:=w) (fz:=fz) (lab:=lab) (I:=I) (H:=H) (sd_ofV hok) (ofV_tup hok)
    obtain⟨arr',hfill,hden⟩:=fill_ok (fun i=>some (i*s,s)) vs _ _ cs _ hm hzc hf
    refine run_val (x:=.agg arr') hA ?_ ⟨arr',rfl,hden⟩
    simp only[execOp,ho,Instr.build,Sem.run_bind,run_zeroValue hz,Result.andThen_ok,run_underlying (tU_arr hT),run_sizeOf hs,hmap,hfill,Sem.run_pure]
   ·cases h
  ·cases h
theorem chop_length (s:Nat):∀(n:Nat) (l:List C),(chop s n l).length=n
 |0,_=>rfl
 |n+1,l=>by simp[chop,chop_length s n]
theorem chop_get (s:Nat):∀(n:Nat) (l:List C) (i:Nat) (r:List C),(chop s n l)[i]?=some r→i<n∧r=(l.drop (i*s)).take s
 |0,l,i,r,h=>by simp[chop]at h
 |n+1,l,0,r,h=>by simp[chop]at h;subst h;simp
 |n+1,l,i+1,r,h=>by
  simp only[chop,List.getElem?_cons_succ]at h
  obtain⟨h1,h2⟩:=chop_get s n _ i r h
  refine⟨by omega,?_⟩
  rw[h2,List.drop_drop]
  congr 2
  rw[Nat.add_mul];omega
theorem repl_length {α:Type}:∀(n:Nat) (l:List α),(repl n l).length=n*l.length
 |0,l=>by simp[repl]
 |n+1,l=>by simp[repl,repl_length n l,Nat.add_mul];omega
theorem repl_get {α:Type}:∀(n:Nat) (l:List α) (i:Nat) (x:α),(repl n l)[i]?=some x→l[i % l.length]?=some x
 |0,l,i,x,h=>by simp[repl]at h
 |n+1,l,i,x,h=>by
  simp only[repl,List.getElem?_append]at h
  split at h
  ·rename_i hlt;rw[Nat.mod_eq_of_lt hlt];exact h
  ·rename_i hge
   have:=repl_get n l _ x h
   rwa [← Nat.mod_eq_sub_mod (by omega)]at this
theorem repl_mem {α:Type} {n:Nat} {l:List α} {x:α} (h:x∈repl n l):x∈l:=by
 obtain⟨i,hi⟩:=List.mem_iff_getElem?.1 h
 exact List.mem_of_getElem? (repl_get n l i x hi)
theorem made_den {z:Value} (hok:okV z=true) {s n:Nat} (hs:0<s) (hz:(ofV z).cells.length=s):z.cells.size=s∧CsDen (hp w) fz lab I H (repl n (ofV z).cells) (madeCells z.cells (n*s)):=by
 obtain⟨q1,q2⟩:=cells_den (w:=w) (fz:=fz) (lab:=lab) (I:=I) (H:=H) (sd_ofV hok) (ofV_tup hok)
 have hsz:z.cells.size=s:=by rw[q1,hz]
 refine⟨hsz,by rw[size_madeCells,repl_length,hz],fun j c hj=>?_⟩
 have hjl:j<n*s:=by have:=(List.getElem?_eq_some_iff.1 hj).1;rw[repl_length,hz]at this;exact this
 have h1:=repl_get n _ j c hj
 rw[hz]at h1
 obtain⟨y,y1,y2⟩:=q2 _ c h1
 refine⟨y,?_,y2⟩
 have hlt:j % s<z.cells.size:=by rw[hsz];exact Nat.mod_lt _ hs
 simp only[madeCells,Array.getElem?_map,Array.getElem?_range,hjl,if_true,Option.map_some,hsz]
 rw[getElem!_pos z.cells (j % s) hlt]
 rw[Array.getElem?_eq_getElem hlt]at y1
 exact y1
theorem rows_den {n s:Nat} {cs:List C} {arr:Array Value} (hd:CsDen (hp w) fz lab I H cs arr) (hl:cs.length=n*s) (hst:cs.all C.stor=true) (hdom:Dom H (cs.flatMap C.names)) :
  ∀(i:Nat) (r:List C),(chop s n cs)[i]?=some r→r.length=s∧∀(j:Nat) (c:C),r[j]?=some c→c.stor=true∧Dom H c.names∧∃y,arr[i*s+j]?=some y∧Den (hp w) fz lab I [] c y:=by
 intro i r hr
 obtain⟨h1,rfl⟩:=chop_get s n cs i r hr
 have:(i+1)*s≤n*s:=Nat.mul_le_mul_right s h1
 rw[Nat.add_mul]at this
 refine⟨by simp;omega,fun j c hj=>?_⟩
 have hjs:j<s:=by have:=(List.getElem?_eq_some_iff.1 hj).1;simp at this;omega
 rw[List.getElem?_take,if_pos hjs,List.getElem?_drop]at hj
 have hs:c.stor=true:=List.all_eq_true.1 hst c (List.mem_of_getElem? hj)
 obtain⟨y,y1,y2⟩:=hd.2 _ c hj
 exact⟨hs,fun m hm=>hdom m (List.mem_flatMap.2 ⟨c,List.mem_of_getElem? hj,hm⟩),y,y1,sc_stor hs y2⟩
theorem Pres.trans {h h' h'':Heap} {fz fz' fz'':Nat→Prop} {I I' I'':Nm} {H H' H'':Hp} (a:Pres h h' fz fz' I I' H H') (b:Pres h' h'' fz' fz'' I' I'' H' H'') (hd:∀k,(H k).isSome=true→(H' k).isSome=true):Pres h h'' fz fz'' I I'' H H'':=
 ⟨fun x hx=>⟨(b.z x (a.z x hx).1).1,((b.z x (a.z x hx).1).2).trans (a.z x hx).2⟩,fun k hk=>(b.n k (hd k hk)).trans (a.n k hk),fun k u p x hk hv=>b.w k u p x (hd k hk) (a.w k u p x hk hv)⟩
theorem at_fz (hA:AtW X w0 I lab fz H w) {k u:Nat} {z:List C} {es:List (List C)} (hk:H k=some (.vec u z es)) {z':List D} {es':List (List D)} (hz:toDs z=some z') (he:toDss es=some es') :
  ∃lab' fz',AtW X w0 I lab' fz' (upd H k .dead) w∧Pres (hp w) (hp w) fz fz' I I H (upd H k .dead)∧Rd (hp w) fz' (.sl z' es') (I k).v∧
   ∀i j,i<es'.length→Rd (hp w) fz' (.pt (some ((es'.getD i z').drop j))) ((I k).p i j):=by
 classical
 let lab':Lab:=fun b=>match lab b with
  |some (n::ρ)=>if n=k then none else some (n::ρ)
  |x=>x
 let fz':Nat→Prop:=fun b=>fz b∨∃ρ,lab b=some (k::ρ)
 obtain⟨m1,m2,m3⟩:=hA.h k _ hk
 have hlo:∀n,n≠k→∀b ρ,lab b=some ([n]++ρ)→lab' b=some ([n]++ρ):=by intro n h b ρ hb;simp[lab',hb,h]
 have hzz:∀b,fz b→fz' b∧hp w b=hp w b:=fun b hb=>⟨.inl hb,rfl⟩
 have hsub:∀b π,lab' b=some π→lab b=some π:=by
  intro b π hb
  simp only[lab']at hb
  split at hb
  ·rename_i n ρ h
   split at hb
   ·cases hb
   ·rw[h];exact hb
  ·exact hb
 have hcl:∀(i j:Nat) (cs:List C) (c:C),es[i]?=some cs→cs[j]?=some c→c.names=[]:=by
  intro i j cs c h1 h2
  obtain⟨g1,g2⟩:=toDss_get he
  have hi:i<es'.length:=by rw[g1];exact(List.getElem?_eq_some_iff.1 h1).1
  obtain⟨cs2,k1,k2⟩:=g2 i es'[i] (List.getElem?_eq_getElem hi)
  rw[h1]at k1;simp only[Option.some.injEq]at k1;subst k1
  obtain⟨g3,g4⟩:=toDs_get k2
  have hj:j<es'[i].length:=by rw[g3];exact(List.getElem?_eq_some_iff.1 h2).1
  obtain⟨c2,k3,k4⟩:=g4 j es'[i][j] (List.getElem?_eq_getElem hj)
  rw[h2]at k3;simp only[Option.some.injEq]at k3;subst k3
  exact toD_names k4
 have hrd:Rd (hp w) fz' (.sl z' es') (I k).v:=by
  refine den_rd (vec_ov m3 hcl) (fun b hb=>.inl hb) (by simp[toD,hz,he]) fun b ρ hb=>.inr ⟨ρ,by simpa using hb⟩
 refine⟨lab',fz',⟨fun k2 ch h=>?_,fun k2 ch h=>?_,fun b π hb=>hA.own b π (hsub b π hb),fun b hb=>?_,fun b hb=>?_,hA.kept,fun p hp'=>⟨?_,(hA.fix p hp').2⟩⟩,⟨hzz,fun _ _=>rfl,?_⟩,hrd,?_⟩
 ·by_cases e:k2=k
  ·subst e;rw[upd_self]at h;simp only[Option.some.injEq]at h;subst h;trivial
  ·rw[upd_ne _ _ e]at h
   have h0:=hA.h k2 ch h
   cases ch with
   |dead=>trivial
   |fact p=>exact h0
   |vec u2 z2 es2=>exact⟨h0.1,h0.2.1,vec_mono hzz h0.2.2 (fun b ρ hb=>⟨hlo k2 e b ρ hb,rfl⟩) fun _ _ _ _ _ _ _ _=>rfl⟩
   |mp ag es2=>exact mp_mono hzz h0 (fun b hb=>⟨hlo k2 e b [] (by simpa using hb),rfl⟩) rfl fun _ _=>rfl
 ·by_cases e:k2=k
  ·subst e;rw[upd_self]at h;simp only[Option.some.injEq]at h;subst h;intro n hn;cases hn
  ·rw[upd_ne _ _ e]at h;exact dom_upd (hA.wf k2 ch h) _ _
 ·rcases hb with hb|⟨ρ,hb⟩
  ·have:=hA.fzl b hb
   exact⟨this.1,by simp[lab',this.2]⟩
  ·exact⟨(hA.own b _ hb).1,by simp[lab',hb]⟩
 ·rcases hb with hb|⟨ρ,hb⟩
  ·exact hA.fzo b hb
  ·exact .inr (hA.own b _ hb).2
 ·exact dom_upd (l:=[p.1]) (by intro q hq;simp at hq;subst hq;exact(hA.fix p hp').1) k .dead p.1 (by simp)
 ·intro n u2 p x hn hv
  by_cases e:n=k
  ·subst e;exact vw_dead (upd_self _ _ _) hv
  ·exact vw_keep hA (upd_ne _ _ e) rfl (fun _ _ _=>rfl) hv
 ·intro i j hi
  have hvv:(I k).v=slV (I k).b (I k).len (I k).cap:=by simp[NV.v,m1]
  rw[hvv]at hrd
  generalize hD:D.sl z' es'=dd at hrd
  generalize hV:slV (I k).b (I k).len (I k).cap=vv at hrd
  cases hrd with
  |v x h1=>cases hD
  |nil zz _ _ _=>
   simp only[D.sl.injEq]at hD
   obtain⟨_,rfl⟩:=hD
   simp at hi
  |sl zz ees b off cap arr T m val hz hb hcap hl hc hr=>
   simp only[D.sl.injEq]at hD
   obtain⟨rfl,rfl⟩:=hD
   have hb2:(I k).b=some (b,off):=by
    cases hbb:(I k).b with
    |none=>simp[slV,hbb]at hV
    |some p=>
     obtain⟨b1,o1⟩:=p
     simp only[slV,hbb,Option.map_some,Value.slice.injEq,Option.some.injEq,Addr.mk.injEq]at hV
     rw[hV.1.1,hV.1.2.1]
   have hpv:(I k).p i j= .pointer (some ⟨b,off+(i*z'.length+j),none⟩):=by
    simp only[NV.p,ptV,hb2,Option.map_some,m2]
    rw[(toDs_get ‹toDs z=some z'›).1]
   rw[hpv]
   have hgi:es'[i]?=some (es'.getD i z'):=by simp[List.getD,List.getElem?_eq_getElem hi]
   refine .pt _ b _ arr T m (fun j'=>val i (j+j')) hz hb ?_ ?_
   ·intro j' d hd
    rw[List.getElem?_drop]at hd
    have:=hc i (j+j') _ d hgi hd
    rw[show off+(i*z'.length+j)+j'=off+i*z'.length+(j+j') by omega]
    exact this
   ·intro j' d hd
    rw[List.getElem?_drop]at hd
    exact hr i (j+j') _ d hgi hd
  |pnil=>cases hD
  |pt=>cases hD
  |mp=>cases hD
theorem post_fz {t:Nat} {z:List C} {es:List (List C)} {z':List D} {es':List (List D)} {x:Value} {w':World} (hz:toDs z=some z') (he:toDss es=some es') (h:Post X w0 w I lab fz H (some (.one (.s t))) [(t,.vec 0 z es)] x w') :
  Post X w0 w I lab fz H (some (.one (.d (.sl z' es')))) [(t,.dead)] x w':=by
 obtain⟨I',lab',fz',h1,h2,h3⟩:=h
 have hk:updH H [(t,.vec 0 z es)] t=some (.vec 0 z es):=by simp[updH,upd]
 obtain⟨lab2,fz2,q1,q2,q3,_⟩:=at_fz h1 hk hz he
 have e:upd (updH H [(t,.vec 0 z es)]) t .dead=updH H [(t,.dead)]:=by
  funext n;simp only[upd,updH];split<;>rfl
 rw[e]at q1 q2
 refine⟨I',lab2,fz2,q1,fun s hs=>?_,h3.trans q2 fun k hk=>?_⟩
 ·simp only[Option.some.injEq]at hs
  subst hs
  have:=(h2 _ rfl).2
  cases this
  exact⟨rfl,.d _ _ _ q3⟩
 ·simp only[updH,upd];split
  ·rfl
  ·exact hk
theorem opBuildSlice_ok (T:TypeId) (n:Nat) (ps:Array (Nat×Operand)) (t:Nat) (ho:o.op= .buildSlice T n ps) (hE:AtE (hp w) fz lab I H E a) (hW:WFE E H) (hA:AtW X w0 I lab fz H w) (ht:H t=none)
  (h:opBuildSlice P E T n ps.toList t=some (c,e,fp)) (hc:c):RunOK P o a w X w0 I lab fz H e:=by
 simp only[opBuildSlice]at h
 split at h
 ·rename_i e' vs he hr
  split at h
  ·rename_i s z hs hz
   simp only[Option.bind_eq_some_iff,Option.some.injEq,Prod.mk.injEq]at h
   obtain⟨cs,hf,rfl,rfl,rfl⟩:=h
   obtain⟨hg,hok,hmax,hs0,hzl,hst⟩:=hc
   obtain⟨hm,hn⟩:=reads_ok hE hW hr hg
   obtain⟨hzs,hbase⟩:=made_den (w:=w) (fz:=fz) (lab:=lab) (I:=I) (H:=H) (n:=n) hok hs0 hzl
   obtain⟨arr',hfill,hden⟩:=fill_ok (fun i=>some (i*s,s)) vs _ _ cs _ hm hbase hf
   have hcl:cs.length=n*s:=by rw[fillC_length _ vs _ _ hf,repl_length,hzl]
   have hdom:Dom H (cs.flatMap C.names):=fillC_names _ hf (by
    intro q hq
    obtain⟨x,hx,hq⟩:=List.mem_flatMap.1 hq
    have hx:=repl_mem hx
    have:=cells_names (ofV z) (ofV_tup hok)
    rw[ofV_names hok]at this
    have:q∈(ofV z).cells.flatMap C.names:=List.mem_flatMap.2 ⟨x,hx,hq⟩
    rw[‹(ofV z).cells.flatMap C.names=[]›]at this
    cases this) hn
   have hu:=tU_slice he
   have hmap:(ps.map fun (x:Nat×Operand)=>(x.1,a.eval x.2)).toList=ps.toList.map fun x=>(x.1,a.eval x.2):=by rw[Array.toList_map]
   have hbig:¬(n*s > 2 ^ 24):=by omega
   refine .inl ⟨_,_,?_,post_new0 hA w rfl rfl rfl rfl t ht (ofV z).cells (chop s n cs) arr' e' n (by rw[chop_length];exact Nat.le_refl _) (by rw[hzl,hden.1,hcl];exact Nat.le_refl _) (zOK_none (zT_ofV z)) (by rw[hzl];exact rows_den hden hcl hst hdom) (.one (.s t)) _ (.inr ⟨rfl,rfl⟩)⟩
   have hx:slV (some (w.heap.size,0)) (chop s n cs).length n= .slice (some ⟨w.heap.size,0,none⟩) n n:=by simp[slV,chop_length]
   rw[hx]
   unfold madeCells at hfill
   by_cases h0:n*s=0
   ·have hb0:(Array.range (n*s)).map (fun x=>(#[]:Array Value)[x % (#[]:Array Value).size]!)=(Array.range (n*s)).map (z.cells[· % z.cells.size]!):=by simp[h0]
    simp only[execOp,ho,Instr.buildSlice,Sem.run_bind,run_underlying hu,run_sizeOf hs,Result.andThen_ok,Sem.run_ite,hbig,if_false,if_pos h0,hmap,hb0,hfill,newRow,run_newObj,Sem.run_pure,World.alloc_eq]
   ·simp only[execOp,ho,Instr.buildSlice,Sem.run_bind,run_underlying hu,run_sizeOf hs,Result.andThen_ok,Sem.run_ite,hbig,if_false,if_neg h0,run_zeroValue hz,hmap,hfill,newRow,run_newObj,Sem.run_pure,World.alloc_eq]
  ·cases h
 ·cases h
theorem opBsD_ok (T:TypeId) (n:Nat) (ps:Array (Nat×Operand)) (t:Nat) (ho:o.op= .buildSlice T n ps) (hE:AtE (hp w) fz lab I H E a) (hW:WFE E H) (hA:AtW X w0 I lab fz H w) (ht:H t=none)
  (h:opBsD P E T n ps.toList t=some (c,e,fp)) (hc:c):RunOK P o a w X w0 I lab fz H e:=by
 simp only[opBsD]at h
 split at h
 ·rename_i e' vs he hr
  split at h
  ·rename_i s z hs hz
   simp only[Option.bind_eq_some_iff]at h
   obtain⟨cs,hf,h⟩:=h
   split at h
   case h_2=>cases h
   rename_i z' es' hzd hed
   simp only[Option.some.injEq,Prod.mk.injEq]at h
   obtain⟨rfl,rfl,rfl⟩:=h
   obtain⟨hg,hok,hmax,hs0,hzl,hst⟩:=hc
   obtain⟨hm,hn⟩:=reads_ok hE hW hr hg
   obtain⟨hzs,hbase⟩:=made_den (w:=w) (fz:=fz) (lab:=lab) (I:=I) (H:=H) (n:=n) hok hs0 hzl
   obtain⟨arr',hfill,hden⟩:=fill_ok (fun i=>some (i*s,s)) vs _ _ cs _ hm hbase hf
   have hcl:cs.length=n*s:=by rw[fillC_length _ vs _ _ hf,repl_length,hzl]
   have hdom:Dom H (cs.flatMap C.names):=fillC_names _ hf (by
    intro q hq
    obtain⟨x,hx,hq⟩:=List.mem_flatMap.1 hq
    have hx:=repl_mem hx
    have:=cells_names (ofV z) (ofV_tup hok)
    rw[ofV_names hok]at this
    have:q∈(ofV z).cells.flatMap C.names:=List.mem_flatMap.2 ⟨x,hx,hq⟩
    rw[‹(ofV z).cells.flatMap C.names=[]›]at this
    cases this) hn
   have hu:=tU_slice he
   have hmap:(ps.map fun (x:Nat×Operand)=>(x.1,a.eval x.2)).toList=ps.toList.map fun x=>(x.1,a.eval x.2):=by rw[Array.toList_map]
   have hbig:¬(n*s > 2 ^ 24):=by omega
   refine .inl ⟨_,_,?_,post_fz hzd hed (post_new0 hA w rfl rfl rfl rfl t ht (ofV z).cells (chop s n cs) arr' e' n (by rw[chop_length];exact Nat.le_refl _) (by rw[hzl,hden.1,hcl];exact Nat.le_refl _) (zOK_none (zT_ofV z)) (by rw[hzl];exact rows_den hden hcl hst hdom) (.one (.s t)) _ (.inr ⟨rfl,rfl⟩))⟩
   have hx:slV (some (w.heap.size,0)) (chop s n cs).length n= .slice (some ⟨w.heap.size,0,none⟩) n n:=by simp[slV,chop_length]
   rw[hx]
   unfold madeCells at hfill
   by_cases h0:n*s=0
   ·have hb0:(Array.range (n*s)).map (fun x=>(#[]:Array Value)[x % (#[]:Array Value).size]!)=(Array.range (n*s)).map (z.cells[· % z.cells.size]!):=by simp[h0]
    simp only[execOp,ho,Instr.buildSlice,Sem.run_bind,run_underlying hu,run_sizeOf hs,Result.andThen_ok,Sem.run_ite,hbig,if_false,if_pos h0,hmap,hb0,hfill,newRow,run_newObj,Sem.run_pure,World.alloc_eq]
   ·simp only[execOp,ho,Instr.buildSlice,Sem.run_bind,run_underlying hu,run_sizeOf hs,Result.andThen_ok,Sem.run_ite,hbig,if_false,if_neg h0,run_zeroValue hz,hmap,hfill,newRow,run_newObj,Sem.run_pure,World.alloc_eq]
  ·cases h
 ·cases h
theorem addF_some {k:Nat} {r:Res} (h:addF k r=some (c,e,fp)):∃f,r=some (c,e,f)∧fp=k::f:=by
 cases r with
 |none=>cases h
 |some p=>
  obtain⟨c',e',f⟩:=p
  simp only[addF,Option.some.injEq,Prod.mk.injEq]at h
  obtain⟨rfl,rfl,rfl⟩:=h
  exact⟨f,rfl,rfl⟩
theorem opBs_ok (T:TypeId) (n:Nat) (ps:Array (Nat×Operand)) (t:Nat) (ho:o.op= .buildSlice T n ps) (hE:AtE (hp w) fz lab I H E a) (hW:WFE E H) (hA:AtW X w0 I lab fz H w) (ht:H t=none)
  (h:opBs P E H T n ps.toList t=some (c,e,fp)) (hc:c):RunOK P o a w X w0 I lab fz H e:=by
 unfold opBs at h
 split at h
 ·obtain⟨f,h,_⟩:=addF_some h;exact opBsD_ok T n ps t ho hE hW hA ht h hc
 ·obtain⟨f,h,_⟩:=addF_some h;exact opBuildSlice_ok T n ps t ho hE hW hA ht h hc
theorem tInfo {T n:Nat} {z:Value} {y:Nat} (h1:tSize P T=some n) (h2:tZero P T=some z) (h3:tBytes P T=some y):∃i,P.info? T=some i∧i.size=n∧i.zero=some z∧i.bytes=y:=by
 unfold tSize at h1
 unfold tZero at h2
 unfold tBytes at h3
 simp only[Option.map_eq_some_iff]at h1 h3
 rw[Option.bind_eq_some_iff]at h2
 obtain⟨i,hi,rfl⟩:=h1
 obtain⟨j,hj,hz⟩:=h2
 obtain⟨k,hk,rfl⟩:=h3
 rw[hi]at hj hk
 simp only[Option.some.injEq]at hj hk
 subst hj;subst hk
 exact⟨i,hi,rfl,hz,rfl⟩
theorem opMakeSlice_ok (T:TypeId) (x y:Operand) (t:Nat) (ho:o.op= .makeSlice T x y) (hE:AtE (hp w) fz lab I H E a) (hA:AtW X w0 I lab fz H w) (ht:H t=none)
  (h:opMakeSlice P E T x y t=some (c,e,fp)) (hc:c):RunOK P o a w X w0 I lab fz H e:=by
 simp only[opMakeSlice]at h
 split at h
 ·rename_i e' n m he h1 h2
  split at h
  ·rename_i s z yb hs hz hy
   simp only[Option.some.injEq,Prod.mk.injEq]at h
   obtain⟨rfl,rfl,rfl⟩:=h
   obtain⟨g1,g2,rfl,hn,hb,h63,hok,hs0,hzl⟩:=hc
   have e1:=sd_int (eval_rd hE h1 g1)
   have e2:=sd_int (eval_rd hE h2 g2)
   obtain⟨i,hi,rfl,hz',rfl⟩:=tInfo hs hz hy
   have hrun:=run_make (P:=P) w T e' i z (tU_slice he) hi hz' .i64 .i64 m m hn (Int.le_refl _) (by rw[Int.mul_comm];exact hb) h63
   obtain⟨hzs,hbase⟩:=made_den (w:=w) (fz:=fz) (lab:=lab) (I:=I) (H:=H) (n:=m.toNat) hok hs0 hzl
   have hzst:(ofV z).cells.all C.stor=true:=by
    cases z with
    |agg cs=>simp[ofV,SV.cells,C.stor]
    |tuple vs=>simp[okV]at hok
    |_=>rfl
   have hzn:∀c∈(ofV z).cells,c.names=[]:=by
    intro c hc
    have:=cells_names (ofV z) (ofV_tup hok)
    rw[ofV_names hok]at this
    have hh:=List.flatMap_eq_nil_iff.1 this c hc
    exact hh
   refine .inl ⟨_,_,?_,post_new0 hA w rfl rfl rfl rfl t ht (ofV z).cells (List.replicate m.toNat (ofV z).cells) (madeCells z.cells (m.toNat*i.size)) e' m.toNat (by simp) (by rw[size_madeCells,hzl];exact Nat.le_refl _) (zOK_none (zT_ofV z)) ?_ (.one (.s t)) _ (.inr ⟨rfl,rfl⟩)⟩
   ·simp only[execOp,ho,e1,e2,Sem.run_bind,hrun,Result.andThen_ok,Sem.run_pure]
    simp[slV]
   ·intro i2 r hr
    rw[List.getElem?_replicate]at hr
    split at hr
    ·rename_i hlt
     simp only[Option.some.injEq]at hr
     subst hr
     refine⟨rfl,fun j c hj=>?_⟩
     have hcs:c.stor=true:=List.all_eq_true.1 hzst c (List.mem_of_getElem? hj)
     obtain⟨q1,q2⟩:=cells_den (w:=w) (fz:=fz) (lab:=lab) (I:=I) (H:=H) (sd_ofV hok) (ofV_tup hok)
     obtain⟨v,v1,v2⟩:=q2 j c hj
     have hjl:j<i.size:=by have:=(List.getElem?_eq_some_iff.1 hj).1;omega
     have hij:i2*i.size+j<m.toNat*i.size:=by
      have:(i2+1)*i.size≤m.toNat*i.size:=Nat.mul_le_mul_right _ hlt
      rw[Nat.add_mul]at this;omega
     have hmod:(i2*i.size+j) % i.size=j:=by
      rw[Nat.add_comm,Nat.mul_comm,Nat.add_mul_mod_self_left]
      exact Nat.mod_eq_of_lt hjl
     refine⟨hcs,(by rw[hzn c (List.mem_of_getElem? hj)];intro q hq;cases hq),v,?_,sc_stor hcs v2⟩
     rw[hzl]
     have hlt2:j<z.cells.size:=by rw[hzs];exact hjl
     simp only[madeCells,Array.getElem?_map,Array.getElem?_range,hij,if_true,Option.map_some,hzs,hmod]
     rw[getElem!_pos z.cells j hlt2]
     rw[Array.getElem?_eq_getElem hlt2]at v1
     exact v1
    ·cases hr
  ·cases h
 ·cases h
end
end Go.Sy
namespace Go.Sy
open Go.RowKit
theorem setAll_get {α:Type}:∀(r:List α) (l:List α) (o n:Nat),(setAll l o r)[n]?=if o≤n∧n<o+r.length∧n<l.length then r[n-o]? else l[n]?
 |[],l,o,n=>by rw[if_neg (by simp;omega)];rfl
 |c::r,l,o,n=>by
  rw[setAll,setAll_get r]
  simp only[List.length_set,List.length_cons]
  by_cases e:n=o
  ·subst e
   rw[if_neg (by omega)]
   by_cases hl:n<l.length
   ·rw[if_pos (by omega)];simp[hl]
   ·rw[if_neg (by omega),List.getElem?_eq_none (by simp;omega),List.getElem?_eq_none (by omega)]
  ·by_cases h:o+1≤n∧n<o+1+r.length∧n<l.length
   ·rw[if_pos h,if_pos (by omega)]
    obtain⟨d,rfl⟩:∃d,n=o+1+d:=⟨n-(o+1),by omega⟩
    rw[show o+1+d-(o+1)=d by omega,show o+1+d-o=d+1 by omega]
    simp
   ·rw[if_neg h,if_neg (by omega),List.getElem?_set_ne (Ne.symm e)]
section
variable {P:Program} {o:Oper} {a:Act} {w w0:World} {X:Ctx} {I:Nm} {lab:Lab} {fz:Nat→Prop} {E:Env} {H:Hp} {c:Prop} {e:Eff} {fp:List Nat}
theorem rows_set {w':World} {π:List Nat} {b off n m o:Nat} {z:List C} {es:List (List C)} {arr arr':Array Value} {vs:List C} {vals:List Value} (hlb:lab b=some π) (hzl:z.length=n) (hm:m<es.length) (ho:o+vs.length≤n)
  (hc:∀(i:Nat) (cs:List C),es[i]?=some cs→cs.length=n∧∀(j:Nat) (c:C),cs[j]?=some c→∃y,arr[off+i*n+j]?=some y∧Den (hp w) fz lab I (π++[i,j]) c y)
  (hvl:vals.length=vs.length) (hv:∀(j:Nat) (c:C),vs[j]?=some c→c.stor=true∧∃y,vals[j]?=some y∧Den (hp w) fz lab I [] c y)
  (hg:∀i,arr'[i]?=if off+m*n+o≤i∧i<off+m*n+o+vals.length then vals[i-(off+m*n+o)]? else arr[i]?)
  (hz:∀b,fz b→hp w' b=hp w b) (hne:∀c,c≠b→hp w' c=hp w c) :
  ∀(i:Nat) (cs:List C),(es.set m (setAll (es.getD m z) o vs))[i]?=some cs→cs.length=n∧∀(j:Nat) (c:C),cs[j]?=some c→∃y,arr'[off+i*n+j]?=some y∧Den (hp w') fz lab I (π++[i,j]) c y:=by
 have old:∀(i j:Nat) (cc:C) (y:Value),arr[off+i*n+j]?=some y→Den (hp w) fz lab I (π++[i,j]) cc y→(¬(off+m*n+o≤off+i*n+j∧off+i*n+j<off+m*n+o+vals.length))→∃y,arr'[off+i*n+j]?=some y∧Den (hp w') fz lab I (π++[i,j]) cc y:=by
  intro i j cc y h1 h2 h3
  refine⟨y,by rw[hg,if_neg h3];exact h1,den_mono (fun b hb=>⟨hb,hz b hb⟩) h2 _ (fun c ρ hc=>⟨hc,hne c ?_⟩) fun _ _=>rfl⟩
  rintro rfl
  rw[hlb]at hc
  simp only[Option.some.injEq]at hc
  have:=congrArg List.length hc
  simp at this
 intro i cs hi
 rw[List.getElem?_set]at hi
 split at hi
 ·rename_i e0;subst e0
  try rw[if_pos hm]at hi
  simp only[Option.some.injEq]at hi;subst hi
  obtain⟨q1,q2⟩:=hc m _ (getD_get (d:=z) hm)
  refine⟨by rw[setAll_length];exact q1,fun j c hj=>?_⟩
  rw[setAll_get]at hj
  split at hj
  ·rename_i hr
   obtain⟨d,rfl⟩:∃d,j=o+d:=⟨j-o,by omega⟩
   rw[show o+d-o=d by omega]at hj
   obtain⟨h1,y,h2,h3⟩:=hv d c hj
   refine⟨y,?_,den_flat (fun b hb=>⟨hb,hz b hb⟩) (stor_flat h1) h3 fun _ _=>rfl⟩
   rw[hg,if_pos (by rw[hvl];omega),← h2]
   congr 1;omega
  ·rename_i hr
   obtain⟨y,y1,y2⟩:=q2 j c hj
   have hjl:j<n:=by have:=(List.getElem?_eq_some_iff.1 hj).1;omega
   refine old m j c y y1 y2 ?_
   rw[hvl]
   intro hcon
   apply hr
   omega
 ·rename_i e0
  obtain⟨q1,q2⟩:=hc i cs hi
  refine⟨q1,fun j c hj=>?_⟩
  obtain⟨y,y1,y2⟩:=q2 j c hj
  have hjl:j<n:=by have:=(List.getElem?_eq_some_iff.1 hj).1;omega
  refine old i j c y y1 y2 ?_
  rw[hvl]
  intro hcon
  rcases Nat.lt_or_gt_of_ne e0 with h|h
  ·have:(m+1)*n≤i*n:=Nat.mul_le_mul_right n h
   rw[Nat.add_mul]at this;omega
  ·have:(i+1)*n≤m*n:=Nat.mul_le_mul_right n h
   rw[Nat.add_mul]at this;omega
theorem store_run {T n b off:Nat} {v:Value} {arr:Array Value} {T':TypeId} (hn:tSize P T=some n) (hb:w.heap[b]?=some (.cells arr T' (0,0))) (hsz:v.cells.size=n) (hfit:off+n≤arr.size) (hone:∀u∈v.cells.toList,u.oneCell'=true) :
  (storeVar T ⟨b,off,none⟩ v).run P w= .ok () (w.setCells b off v.cells.toList):=by
 have hst:=run_storeCells_cells (P:=P) b off v.cells.toList 0 w (fun j hj=>by
   simp only[Nat.zero_add,Nat.add_zero,World.cell?,hb,Option.isSome_none,Bool.false_eq_true,if_false]
   rw[Array.getElem?_eq_getElem (by simp at hj;omega)];rfl) (fun j hj=>by simp[World.frozen?,hb]) hone
 simp only[Nat.add_zero]at hst
 have hne:¬(v.cells.size≠n):=by simp[hsz]
 simp only[storeVar,Sem.run_bind,run_sizeOf hn,Result.andThen_ok]
 rw[if_neg hne]
 exact hst
theorem opStore_ok (T:TypeId) (x y:Operand) (ho:o.op= .store T x y) (hod:o.dst=none) (hE:AtE (hp w) fz lab I H E a) (hW:WFE E H) (hA:AtW X w0 I lab fz H w) (h:opStore P E H T x y=some (c,e,fp)) (hc:c):RunOK P o a w X w0 I lab fz H e:=by
 have src:∀{v:SV} {n:Nat},rdv E y=some v→rdg E y=true→v.tupB=false→v.cells.length=n→v.cells.all C.stor=true→
   (a.eval y).cells.size=n∧(∀u∈(a.eval y).cells.toList,u.oneCell'=true)∧(∀(j:Nat) (c:C),v.cells[j]?=some c→c.stor=true∧∃q,(a.eval y).cells.toList[j]?=some q∧Den (hp w) fz lab I [] c q):=by
  intro v n hv hg ht hl hst
  obtain⟨q1,q2⟩:=cells_den (eval_rd hE hv hg) ht
  refine⟨by rw[q1,hl],?_,?_⟩
  ·intro u hu
   obtain⟨j,hj⟩:=List.mem_iff_getElem?.1 hu
   rw[Array.getElem?_toList]at hj
   have hjl:j<v.cells.length:=by rw[← q1];exact(Array.getElem?_eq_some_iff.1 hj).1
   obtain⟨q,q3,q4⟩:=q2 j _ (List.getElem?_eq_getElem hjl)
   rw[q3]at hj
   simp only[Option.some.injEq]at hj;subst hj
   exact oneC (sc_one q4)
  ·intro j c hj
   have hs:c.stor=true:=List.all_eq_true.1 hst c (List.mem_of_getElem? hj)
   obtain⟨q,q3,q4⟩:=q2 j c hj
   exact⟨hs,q,by rw[Array.getElem?_toList];exact q3,sc_stor hs q4⟩
 simp only[opStore]at h
 split at h
 ·rename_i k i j v n h1 h2 hn
  split at h
  ·rename_i u z es hk
   simp only[Option.some.injEq,Prod.mk.injEq]at h
   obtain⟨rfl,rfl,rfl⟩:=h
   obtain⟨g1,g2,ht,hl,hn0,hi,hj,hst⟩:=hc
   obtain⟨s1,s2,s3⟩:=src h2 g2 ht hl hst
   obtain⟨b,off,cap,arr,T',hI,hlb,hh,hsz,hcap,hcc⟩:=vec_open hA hk hi
   have hx:a.eval x= .pointer (some ⟨b,off+(i*z.length+j),none⟩):=by
    have:=(eval_rd hE h1 g1).2
    generalize a.eval x=q at*
    cases this;simp[NV.p,ptV,hI]
   have hhw:w.heap[b]?=some (.cells arr T' (0,0)):=hh
   have hrow:(i+1)*z.length≤cap*z.length:=Nat.mul_le_mul_right _ (by omega)
   rw[Nat.add_mul]at hrow
   have hfit:off+(i*z.length+j)+n≤arr.size:=by have:=hsz.1;omega
   obtain⟨arr',r1,r2,r3,r4,r5,r6,r7,r8⟩:=setCells_heap b T' (0,0) (a.eval y).cells.toList (off+(i*z.length+j)) w arr hhw (by simp[s1];omega)
   have hrun:=store_run (P:=P) hn hhw s1 hfit s2
   refine .inr (.inl ⟨_,?_,hod,post_upd hA hk (b:=b) (ρ0:=[]) hlb r4 r5 r6 r7 r8 ?_ ?_ _⟩)
   ·simp only[execOp,ho,hx,Instr.storeAt,Instr.sureAddr,Sem.run_bind,Sem.run_pure,Result.andThen_ok,hrun]
   ·refine .inr ⟨b,off,cap,arr',T',by rw[hI];simp[NV.v],hlb,r1,⟨by rw[r2];exact hsz.1,hsz.2⟩,by simpa using hcap,?_⟩
    refine rows_set (o:=j) hlb rfl hi (by rw[hl];exact hj) hcc (by simp[s1,hl]) s3 (fun q=>by simpa only[← Nat.add_assoc] using r3 q) (fun b' hb'=>r8 b' (by rintro rfl;have:=(hA.fzl b' hb').2;rw[hlb]at this;cases this)) r8
   ·intro i2 j2 r c2 q1 q2 nn hnn
    rw[List.getElem?_set]at q1
    split at q1
    ·try rw[if_pos (by omega)]at q1
     simp only[Option.some.injEq]at q1;subst q1
     rw[setAll_get]at q2
     split at q2
     ·exact hW.rd h2 g2 nn (by rw[← cells_names v ht];exact List.mem_flatMap.2 ⟨c2,List.mem_of_getElem? q2,hnn⟩)
     ·exact hA.wf k _ hk nn (List.mem_flatMap.2 ⟨_,List.mem_of_getElem? (getD_get (d:=z) hi),List.mem_flatMap.2 ⟨c2,List.mem_of_getElem? q2,hnn⟩⟩)
    ·exact hA.wf k _ hk nn (List.mem_flatMap.2 ⟨_,List.mem_of_getElem? q1,List.mem_flatMap.2 ⟨c2,List.mem_of_getElem? q2,hnn⟩⟩)
  ·cases h
 ·rename_i k u p s m o' v n h1 h2 hn
  split at h
  ·rename_i u' z es hk
   split at h
   ·rename_i z' es' hj
    simp only[Option.some.injEq,Prod.mk.injEq]at h
    obtain⟨rfl,rfl,rfl⟩:=h
    obtain⟨g1,g2,rfl,rfl,ht,hl,hn0,hi,hm,ho',hst,hnm⟩:=hc
    obtain⟨s1,s2,s3⟩:=src h2 g2 ht hl hst
    obtain⟨yv,y1,y2⟩:=eval_rd hE h1 g1
    obtain⟨hden,hat⟩:=vw_open hA hk hi hj y1
    obtain⟨hbv,hbase⟩:=vec_base hA hk
    obtain⟨hvec,hcl⟩:=ov_vec hden
    rcases hvec with⟨rfl,_⟩|⟨b,off,cap,arr,T',rfl,hlb,hh,hsz,hcap,hcc⟩
    ·simp at hm
    have hx:a.eval x= .pointer (some ⟨b,off+(m*z'.length+o'),none⟩):=by rw[y2];rfl
    have hhw:w.heap[b]?=some (.cells arr T' (0,0)):=hh
    have hrow:(m+1)*z'.length≤cap*z'.length:=Nat.mul_le_mul_right _ (by omega)
    rw[Nat.add_mul]at hrow
    have hfit:off+(m*z'.length+o')+n≤arr.size:=by have:=hsz.1;omega
    obtain⟨arr',r1,r2,r3,r4,r5,r6,r7,r8⟩:=setCells_heap b T' (0,0) (a.eval y).cells.toList (off+(m*z'.length+o')) w arr hhw (by simp[s1];omega)
    have hrun:=store_run (P:=P) hn hhw s1 hfit s2
    have hzb:∀b',fz b'→hp (w.setCells b (off+(m*z'.length+o')) (a.eval y).cells.toList) b'=hp w b':=fun b' hb'=>r8 b' (by rintro rfl;have:=(hA.fzl b' hb').2;rw[hlb]at this;cases this)
    have hrows:=rows_set (w:=w) (w':=w.setCells b (off+(m*z'.length+o')) (a.eval y).cells.toList) (I:=I) (z:=z') (o:=o') hlb rfl hm (by rw[hl];exact ho') hcc (by simp[s1,hl]) s3 (fun q=>by simpa only[← Nat.add_assoc] using r3 q) hzb r8
    have hclose:∀(i2 j2:Nat) (cs:List C) (c2:C),(es'.set m (setAll (es'.getD m z') o' v.cells))[i2]?=some cs→cs[j2]?=some c2→c2.names=[]:=by
     intro i2 j2 cs c2 q1 q2
     rw[List.getElem?_set]at q1
     split at q1
     ·try rw[if_pos (by omega)]at q1
      simp only[Option.some.injEq]at q1;subst q1
      rw[setAll_get]at q2
      split at q2
      ·exact List.flatMap_eq_nil_iff.1 hnm c2 (List.mem_of_getElem? q2)
      ·exact hcl m _ _ c2 (getD_get (d:=z') hm) q2
     ·exact hcl i2 j2 cs c2 q1 q2
    have hnew:Den (hp (w.setCells b (off+(m*z'.length+o')) (a.eval y).cells.toList)) fz lab I ([k]++flatP p) (.ov z' (es'.set m (setAll (es'.getD m z') o' v.cells))) (slV (some (b,off)) es'.length cap):=by
     refine vec_ov (.inr ⟨b,off,cap,arr',T',by simp,hlb,r1,⟨by rw[r2];exact hsz.1,hsz.2⟩,by simpa using hcap,hrows⟩) hclose
    refine .inr (.inl ⟨_,?_,hod,post_upd hA hk (b:=b) (ρ0:=flatP p) hlb r4 r5 r6 r7 r8 ?_ ?_ _⟩)
    ·simp only[execOp,ho,hx,Instr.storeAt,Instr.sureAddr,Sem.run_bind,Sem.run_pure,Result.andThen_ok,hrun]
    ·refine vec_setP (fun b' hb'=>⟨hb',hzb b' hb'⟩) p hbv hi hj (by rw[hbase];exact hat) (fun b' ρ hb' hne=>⟨hb',r8 b' ?_⟩) (fun _ _ _ _ _ _ _ _=>rfl) hnew rfl
     rintro rfl
     rw[hlb]at hb'
     simp only[List.cons_append,List.nil_append,Option.some.injEq,List.cons.injEq,true_and]at hb'
     exact hne (by rw[hb'];exact List.prefix_refl _)
    ·intro i2 j2 r c2 q1 q2 nn hnn
     rcases setP_names p q1 q2 nn hnn with h|⟨r0,hr0,c0,hc0,h⟩
     ·cases h
     ·exact hA.wf k _ hk nn (List.mem_flatMap.2 ⟨r0,hr0,List.mem_flatMap.2 ⟨c0,hc0,h⟩⟩)
   ·cases h
  ·cases h
 ·cases h
end
end Go.Sy
namespace Go.Sy
open Go.RowKit
section
variable {P:Program} {o:Oper} {a:Act} {w w0:World} {X:Ctx} {I:Nm} {lab:Lab} {fz:Nat→Prop} {E:Env} {H:Hp} {c:Prop} {e:Eff} {fp:List Nat}
theorem bo_ok (hE:AtE (hp w) fz lab I H E a) {lo:Option Operand} {av:Option SV} {d i:Int} (h1:readO E lo=some av) (h2:readOG E lo) (h3:boI av d=some i):(lo.map a.eval=none∧i=d)∨∃k,lo.map a.eval=some (.int k i):=by
 cases lo with
 |none=>
  simp only[readO,Option.some.injEq]at h1
  subst h1
  simp only[boI,Option.some.injEq]at h3
  exact .inl ⟨rfl,h3.symm⟩
 |some x=>
  simp only[readO,Option.map_eq_some_iff]at h1
  obtain⟨v,hv,rfl⟩:=h1
  unfold boI at h3
  split at h3
  ·rename_i h;cases h
  ·rename_i k n h
   simp only[Option.some.injEq]at h h3
   subst h;subst h3
   exact .inr ⟨k,by simp[sd_int (eval_rd hE hv h2)]⟩
  ·cases h3
theorem sb (P:Program) (w:World) (k:IntKind) (n:Int) (y:Nat) (code:BoundsCode) (h:0≤n∧n≤(y:Int)):(Instr.sliceBound (.int k n) y code).run P w= .ok n.toNat w:=by
 simp[Instr.sliceBound,asIntOf,h]
theorem slb (P:Program) (w:World) (isS:Bool) (len cap:Nat) (lo hi:Option Value) (i j:Int) (hlo:(lo=none∧i=0)∨∃k,lo=some (.int k i)) (hhi:(hi=none∧j=len)∨∃k,hi=some (.int k j)) (h0:0≤i) (h1:i≤j) (h2:j≤cap) :
  (Instr.sliceBounds isS len cap lo hi none).run P w= .ok (i.toNat,j.toNat,cap) w:=by
 have hj:0≤j∧j≤(cap:Int):=⟨by omega,h2⟩
 have hi':0≤i∧i≤((j.toNat:Nat):Int):=⟨h0,by omega⟩
 rcases hlo with⟨rfl,rfl⟩|⟨k,rfl⟩<;>rcases hhi with⟨rfl,rfl⟩|⟨k',rfl⟩
 ·simp only[Instr.sliceBounds,Sem.run_bind,Sem.run_pure,Result.andThen_ok];simp
 ·simp only[Instr.sliceBounds,Sem.run_bind,Sem.run_pure,Result.andThen_ok,sb P w k' j cap _ hj];simp
 ·have hi2:0≤i∧i≤(len:Int):=⟨h0,h1⟩
  simp only[Instr.sliceBounds,Sem.run_bind,Sem.run_pure,Result.andThen_ok,sb P w k i len _ hi2];simp
 ·simp only[Instr.sliceBounds,Sem.run_bind,Sem.run_pure,Result.andThen_ok,sb P w k' j cap _ hj,sb P w k i j.toNat _ hi']
theorem slbm (P:Program) (w:World) (len cap:Nat) (lo:Option Value) (k k':IntKind) (i j:Int) (hlo:(lo=none∧i=0)∨∃k,lo=some (.int k i)) (h0:0≤i) (h1:i≤j) (h2:j≤cap) :
  (Instr.sliceBounds true len cap lo (some (.int k j)) (some (.int k' j))).run P w= .ok (i.toNat,j.toNat,j.toNat) w:=by
 have hj:0≤j∧j≤(cap:Int):=⟨by omega,h2⟩
 have hj2:0≤j∧j≤((j.toNat:Nat):Int):=⟨by omega,by omega⟩
 have hi':0≤i∧i≤((j.toNat:Nat):Int):=⟨h0,by omega⟩
 rcases hlo with⟨rfl,rfl⟩|⟨k2,rfl⟩
 ·simp only[Instr.sliceBounds,Sem.run_bind,Sem.run_pure,Result.andThen_ok,sb P w k' j cap _ hj,sb P w k j j.toNat _ hj2];simp
 ·simp only[Instr.sliceBounds,Sem.run_bind,Sem.run_pure,Result.andThen_ok,sb P w k' j cap _ hj,sb P w k j j.toNat _ hj2,sb P w k2 i j.toNat _ hi']
theorem rd_slice {z:List D} {es:List (List D)} {base:Option Addr} {len cap:Nat} (r:Rd (hp w) fz (.sl z es) (.slice base len cap)) {i j m:Nat} (hij:i≤j) (hj:j≤es.length) (hm:j≤m) (hmc:m≤cap) :
  len=es.length∧len≤cap∧Rd (hp w) fz (.sl z ((es.drop i).take (j-i))) (.slice (if m=i then base else base.map (·.add (i*z.length))) (j-i) (m-i)):=by
 have hl:((es.drop i).take (j-i)).length=j-i:=by simp;omega
 cases r with
 |nil _ _ _ h0=>
  simp at hj
  obtain rfl:j=0:=by omega
  obtain rfl:i=0:=by omega
  refine⟨rfl,Nat.zero_le _,?_⟩
  refine .nil z _ _ ?_
  cases base with
  |none=>intro _;have:=h0 rfl;omega
  |some a=>intro h;split at h<;>simp at h
 |sl _ _ b off _ arr T m' val hz hb hcap hl2 hcc hr=>
  refine⟨rfl,hcap,?_⟩
  by_cases e:m=i
  ·obtain rfl:j=i:=by omega
   rw[if_pos e]
   have h0:(es.drop j).take (j-j)=[]:=by simp
   rw[h0,Nat.sub_self]
   exact .sl z [] b off _ arr T m' val hz hb (by simp) (by simp) (by simp) (by simp)
  ·rw[if_neg e]
   simp only[Option.map_some,addr_add]
   have key:Rd (hp w) fz (.sl z ((es.drop i).take (j-i))) (.slice (some ⟨b,off+i*z.length,none⟩) ((es.drop i).take (j-i)).length (m-i)):=by
    refine .sl z _ b (off+i*z.length) (m-i) arr T m' (fun p q=>val (i+p) q) hz hb (by rw[hl];omega) ?_ ?_ ?_
    ·intro p cs hp'
     rw[List.getElem?_take]at hp'
     split at hp'
     ·rw[List.getElem?_drop]at hp';exact hl2 _ cs hp'
     ·cases hp'
    ·intro p q cs d hp' hq
     rw[List.getElem?_take]at hp'
     split at hp'
     ·rw[List.getElem?_drop]at hp'
      have:=hcc _ q cs d hp' hq
      rw[Nat.add_mul]at this
      rw[← this];congr 1;omega
     ·cases hp'
    ·intro p q cs d hp' hq
     rw[List.getElem?_take]at hp'
     split at hp'
     ·rw[List.getElem?_drop]at hp';exact hr _ q cs d hp' hq
     ·cases hp'
   rw[hl]at key
   exact key
theorem run_slice_str (T:TypeId) (s:ByteArray) (lo hi:Option Value) (i j:Int) (hT:P.underlying T=some .string) (hlo:(lo=none∧i=0)∨∃k,lo=some (.int k i)) (hhi:(hi=none∧j=s.size)∨∃k,hi=some (.int k j)) (h0:0≤i) (h1:i≤j) (h2:j≤s.size) :
  (Instr.sliceAt T (.string s) lo hi none).run P w= .ok (.string (s.extract i.toNat j.toNat)) w:=by
 simp[Instr.sliceAt,Instr.slice,run_underlying hT,slb P w false s.size s.size lo hi i j hlo hhi h0 h1 h2]
theorem run_slice_sl (T e':TypeId) (base:Option Addr) (len cap n:Nat) (lo hi:Option Value) (i j:Int) (hT:P.underlying T=some (.slice e')) (hn:tSize P e'=some n) (hlo:(lo=none∧i=0)∨∃k,lo=some (.int k i)) (hhi:(hi=none∧j=len)∨∃k,hi=some (.int k j)) (h0:0≤i) (h1:i≤j) (h2:j≤cap) :
  (Instr.sliceAt T (.slice base len cap) lo hi none).run P w= .ok (.slice (if cap=i.toNat then base else base.map (·.add (i.toNat*n))) (j.toNat-i.toNat) (cap-i.toNat)) w:=by
 simp[Instr.sliceAt,Instr.slice,run_underlying hT,slb P w true len cap lo hi i j hlo hhi h0 h1 h2,run_sizeOf hn]
theorem run_slice_sl3 (T e':TypeId) (base:Option Addr) (len cap n:Nat) (lo:Option Value) (k k':IntKind) (i j:Int) (hT:P.underlying T=some (.slice e')) (hn:tSize P e'=some n) (hlo:(lo=none∧i=0)∨∃k,lo=some (.int k i)) (h0:0≤i) (h1:i≤j) (h2:j≤cap) :
  (Instr.sliceAt T (.slice base len cap) lo (some (.int k j)) (some (.int k' j))).run P w= .ok (.slice (if j.toNat=i.toNat then base else base.map (·.add (i.toNat*n))) (j.toNat-i.toNat) (j.toNat-i.toNat)) w:=by
 simp[Instr.sliceAt,Instr.slice,run_underlying hT,slbm P w len cap lo k k' i j hlo h0 h1 h2,run_sizeOf hn]
theorem at_part (hA:AtW X w0 I lab fz H w) {t k u:Nat} (ht:H t=none) {z:List C} {es:List (List C)} (hk:H k=some (.vec u z es)) {i j cap:Nat} {base:Option Addr} (hI:(I k).v= .slice base es.length cap) (hij:i≤j) (hj:j≤es.length) (hst:rowsStor es) (hzt:zT z=none) :
  es.length≤cap∧∃nv lab',nv.v= .slice (if cap=i then base else base.map (·.add (i*z.length))) (j-i) (cap-i)∧AtW X w0 (fun n=>if n=t then nv else I n) lab' fz (upd (upd H k .dead) t (.vec 0 z ((es.drop i).take (j-i)))) w∧
   Pres (hp w) (hp w) fz fz I (fun n=>if n=t then nv else I n) H (upd (upd H k .dead) t (.vec 0 z ((es.drop i).take (j-i)))):=by
 obtain⟨lab1,hA1,hp1⟩:=at_rename hA ht hk
 have hkt:k≠t:=by rintro rfl;rw[ht]at hk;cases hk
 let I1:Nm:=fun n=>if n=t then I k else I n
 let H1:Hp:=upd (upd H k .dead) t (.vec 0 z es)
 have hH1:H1 t=some (.vec 0 z es):=upd_self _ _ _
 obtain⟨pr1,pr2⟩:=hA.priv ht
 have hpr:∀k2 ch,k2≠t→H1 k2=some ch→t∉chNames ch:=by
  intro k2 ch h1 h2
  rw[show H1 k2=upd H k .dead k2 from upd_ne _ _ h1]at h2
  by_cases e:k2=k
  ·subst e;rw[upd_self]at h2;simp only[Option.some.injEq]at h2;subst h2;intro h;cases h
  ·rw[upd_ne _ _ e]at h2;exact pr1 k2 ch h1 h2
 have hnt:∀(i j:Nat) (r:List C) (c:C),es[i]?=some r→r[j]?=some c→t∉c.names∧Dom H1 c.names:=by
  intro i j r c g1 g2
  have hm:∀n∈c.names,n∈chNames (.vec u z es):=fun n hn=>List.mem_flatMap.2 ⟨r,List.mem_of_getElem? g1,List.mem_flatMap.2 ⟨c,List.mem_of_getElem? g2,hn⟩⟩
  refine⟨fun h=>pr1 k _ hkt hk (hm t h),fun n hn=>?_⟩
  have:=hA.wf k _ hk n (hm n hn)
  exact dom_upd (dom_upd (l:=[n]) (by intro q hq;simp at hq;subst hq;exact this) k _) t _ n (by simp)
 obtain⟨m1,m2,m3⟩:=hA1.h t _ hH1
 simp only[if_true]at m1 m2 m3
 have fin:∀nv:NV,nv.mp=false→nv.s=z.length→VecAt (hp w) fz lab1 (fun n=>if n=t then nv else I1 n) [t] z ((es.drop i).take (j-i)) nv.v→
   ∃lab',AtW X w0 (fun n=>if n=t then nv else I n) lab' fz (upd (upd H k .dead) t (.vec 0 z ((es.drop i).take (j-i)))) w∧
   Pres (hp w) (hp w) fz fz I (fun n=>if n=t then nv else I n) H (upd (upd H k .dead) t (.vec 0 z ((es.drop i).take (j-i)))):=by
  intro nv g1 g2 g3
  obtain⟨r1,r2⟩:=at_set (lab':=lab1) (w':=w) hA1 hpr pr2 nv g1 z ((es.drop i).take (j-i)) g2 (fun _ _=>rfl) (fun _ _ _ _ _ b ρ hb=>⟨hb,rfl⟩) hA1.own hA1.fzl hA1.kept g3 (by
   intro p q cs c h1 h2
   rw[List.getElem?_take]at h1
   split at h1
   ·rw[List.getElem?_drop]at h1;exact(hnt _ q cs c h1 h2).2
   ·cases h1)
  have e1:(fun n=>if n=t then nv else if n=t then I k else I n)=fun n=>if n=t then nv else I n:=by funext n;split<;>simp_all
  have e2:upd H1 t (.vec 0 z ((es.drop i).take (j-i)))=upd (upd H k .dead) t (.vec 0 z ((es.drop i).take (j-i))):=by funext n;simp only[upd,H1];split<;>rfl
  simp only[e1,show upd (upd (upd H k Ch.dead) t (Ch.vec 0 z es)) t (.vec 0 z ((es.drop i).take (j-i)))=_ from e2]at r1 r2
  exact⟨lab1,r1,(hp1.comp r2).pres ht⟩
 have hIk:(I k).v=slV ((I k).b) (I k).len (I k).cap:=by unfold NV.v;rw[m1];rfl
 rcases m3 with⟨rfl,hx⟩|⟨b,off,cap',arr,T,hx,hlb,hh,hsz,hcap,hc⟩
 ·rw[hx]at hI
  simp only[slV,Option.map_none,Value.slice.injEq]at hI
  obtain⟨rfl,_,rfl⟩:=hI
  simp at hj
  obtain rfl:j=0:=hj
  obtain rfl:i=0:=by omega
  refine⟨Nat.le_refl _,⟨none,0,0,z.length,false⟩,?_⟩
  obtain⟨lab',q1,q2⟩:=fin ⟨none,0,0,z.length,false⟩ rfl rfl (.inl ⟨by simp,rfl⟩)
  exact⟨lab',rfl,q1,q2⟩
 ·rw[hx]at hI
  simp only[slV,Option.map_some,Value.slice.injEq]at hI
  obtain⟨rfl,_,rfl⟩:=hI
  refine⟨hcap,?_⟩
  have hl:((es.drop i).take (j-i)).length=j-i:=by simp;omega
  by_cases e:cap'=i
  ·have hji:j=i:=by omega
   obtain⟨lab',q1,q2⟩:=fin ⟨some (b,off),0,0,z.length,false⟩ rfl rfl (.inr ⟨b,off,0,arr,T,by rw[hl,hji,Nat.sub_self];rfl,hlb,hh,⟨by have:=hsz.1;simp;omega,hsz.2⟩,by rw[hl,hji,Nat.sub_self];exact Nat.le_refl _,by
    intro p cs h1
    rw[hji,Nat.sub_self]at h1
    simp at h1⟩)
   refine⟨_,lab',?_,q1,q2⟩
   rw[if_pos e,hji,Nat.sub_self,e,Nat.sub_self]
   rfl
  ·have hmul:cap'*z.length=i*z.length+(cap'-i)*z.length:=by rw[← Nat.add_mul];congr 1;omega
   obtain⟨lab',q1,q2⟩:=fin ⟨some (b,off+i*z.length),j-i,cap'-i,z.length,false⟩ rfl rfl (.inr ⟨b,off+i*z.length,cap'-i,arr,T,by rw[hl];rfl,hlb,hh,⟨by have:=hsz.1;omega,zOK_none hzt⟩,by rw[hl];omega,by
    intro p cs h1
    rw[List.getElem?_take]at h1
    split at h1
    ·rw[List.getElem?_drop]at h1
     obtain⟨g1,g2⟩:=hc _ cs h1
     refine⟨g1,fun q c h2=>?_⟩
     obtain⟨y,y1,y2⟩:=g2 q c h2
     refine⟨y,by rw[← y1,Nat.add_mul];congr 1;omega,?_⟩
     refine den_flat (fun b hb=>⟨hb,rfl⟩) (stor_flat (hst cs (List.mem_of_getElem? h1) c (List.mem_of_getElem? h2))) y2 fun n hn=>?_
     have:n≠t:=by rintro rfl;exact(hnt _ q cs c h1 h2).1 hn
     simp[this,I1]
    ·cases h1⟩)
   refine⟨_,lab',?_,q1,q2⟩
   rw[if_neg e]
   simp[NV.v,slV,addr_add]
theorem opSlice_ok (T:TypeId) (x:Operand) (lo hi mx:Option Operand) (t:Nat) (ho:o.op= .slice T x lo hi mx) (hE:AtE (hp w) fz lab I H E a) (hA:AtW X w0 I lab fz H w) (ht:H t=none) (h:opSlice P E H T x lo hi mx t=some (c,e,fp)) (hc:c):RunOK P o a w X w0 I lab fz H e:=by
 simp only[opSlice]at h
 split at h
 ·rename_i s av bv h1 h2 h3 h4
  have hmx:mx=none:=by
   cases mx with
   |none=>rfl
   |some q=>simp[readO]at h4
  subst hmx
  split at h
  ·rename_i i j hi' hj'
   split at h
   ·rename_i hT
    simp only[rV,Option.some.injEq,Prod.mk.injEq]at h
    obtain⟨rfl,rfl,rfl⟩:=h
    obtain⟨g1,g2,g3,b1,b2,b3⟩:=hc
    have e1:=sd_str (eval_rd hE h1 g1)
    have hb:=bo_ok hE h2 g2 hi'
    have hb2:=bo_ok hE h3 g3 hj'
    rw[← size_toList]at hb2 b3
    have hrun:=run_slice_str (P:=P) (w:=w) T s _ _ i j (tU_str hT) hb hb2 b1 b2 b3
    refine run_val (x:=.string (s.extract i.toNat j.toNat)) hA ?_ ?_
    ·simp only[execOp,ho,e1,Option.map_none,Sem.run_bind,hrun,Result.andThen_ok,Sem.run_pure]
    ·have:s.extract i.toNat j.toNat=bs ((s.toList.drop i.toNat).take (j.toNat-i.toNat)):=by
      conv=>lhs;rw[← bs_of s]
      unfold bs
      rw[ByteArray.extract_mk]
     rw[this]
     exact sd_v rfl
   ·cases h
  ·cases h
 ·rename_i z es av bv mv h1 h2 h3 h4
  split at h
  ·rename_i i j e' hi' hj' he
   have hsx:rdg E x=true→∃base cap,a.eval x= .slice base es.length cap∧es.length≤cap∧Rd (hp w) fz (.sl z es) (.slice base es.length cap):=by
    intro g1
    have:=(eval_rd hE h1 g1).2
    generalize a.eval x=q at*
    cases this with
    |d _ _ _ r=>
     cases r with
     |nil _ a cap h0=>exact⟨a,cap,rfl,Nat.zero_le _,.nil z a cap h0⟩
     |sl _ _ b off cap arr T' m val hz hb hcap hl hcc hr=>exact⟨_,cap,rfl,hcap,.sl z es b off cap arr T' m val hz hb hcap hl hcc hr⟩
   split at h
   ·rename_i hm
    have hmx:mx=none:=by
     cases mx with
     |none=>rfl
     |some q=>simp[readO]at h4
    subst hmx
    simp only[rV,Option.some.injEq,Prod.mk.injEq]at h
    obtain⟨rfl,rfl,rfl⟩:=h
    obtain⟨g1,g2,g3,b1,b2,b3,hn⟩:=hc
    obtain⟨base,cap,hx,hle,r⟩:=hsx g1
    have hb:=bo_ok hE h2 g2 hi'
    have hb2:=bo_ok hE h3 g3 hj'
    have hrun:=run_slice_sl (P:=P) (w:=w) T e' base es.length cap z.length _ _ i j (tU_slice he) hn hb hb2 b1 b2 (by omega)
    obtain⟨_,_,r'⟩:=rd_slice r (i:=i.toNat) (j:=j.toNat) (m:=cap) (by omega) (by omega) (by omega) (Nat.le_refl _)
    refine run_val hA ?_ ⟨rfl,.d _ _ _ r'⟩
    simp only[execOp,ho,hx,Option.map_none,Sem.run_bind,hrun,Result.andThen_ok,Sem.run_pure]
   ·rename_i mv' hm
    split at h
    ·rename_i q hq
     simp only[rV,Option.some.injEq,Prod.mk.injEq]at h
     obtain⟨rfl,rfl,rfl⟩:=h
     obtain⟨g1,g2,g3,g4,b1,b2,b3,rfl,hn⟩:=hc
     obtain⟨base,cap,hx,hle,r⟩:=hsx g1
     have hb:=bo_ok hE h2 g2 hi'
     have hb2:=bo_ok hE h3 g3 hj'
     have hb3:=bo_ok hE h4 g4 hq
     obtain⟨k',hk'⟩:∃k',mx.map a.eval=some (.int k' q):=by
      rcases hb3 with⟨hn0,_⟩|hk'
      ·cases mx with
       |none=>simp[readO]at h4
       |some q=>simp at hn0
      ·exact hk'
     have hjk:∃k,hi.map a.eval=some (.int k q):=by
      rcases hb2 with⟨hn0,_⟩|hk'
      ·cases hi with
       |none=>simp[readO]at h3
       |some q=>simp at hn0
      ·exact hk'
     obtain⟨k,hjk⟩:=hjk
     have hrun:=run_slice_sl3 (P:=P) (w:=w) T e' base es.length cap z.length _ k k' i q (tU_slice he) hn hb b1 b2 (by omega)
     obtain⟨_,_,r'⟩:=rd_slice r (i:=i.toNat) (j:=q.toNat) (m:=q.toNat) (by omega) (by omega) (Nat.le_refl _) (by omega)
     have hl:((es.drop i.toNat).take (q.toNat-i.toNat)).length=q.toNat-i.toNat:=by simp;omega
     refine run_val (x:=.slice (if q.toNat=i.toNat then base else base.map (·.add (i.toNat*z.length))) (q.toNat-i.toNat) (q.toNat-i.toNat)) hA ?_ ⟨rfl,?_⟩
     ·simp only[execOp,ho,hx,hjk,hk',Sem.run_bind,hrun,Result.andThen_ok,Sem.run_pure]
     ·have key:∀(l:List (List D)) (n:Nat) (b:Option Addr),l.length=n→Rd (hp w) fz (.sl z l) (.slice b n n)→Den (hp w) fz lab I [] (.df z l) (.slice b n n):=by
       rintro l n b rfl r
       exact .df _ _ _ _ r
      exact key _ _ _ hl r'
    ·cases h
  ·cases h
 ·rename_i k av bv h1 h2 h3 h4
  have hmx:mx=none:=by
   cases mx with
   |none=>rfl
   |some q=>simp[readO]at h4
  subst hmx
  split at h
  ·rename_i u z es e' hk he
   split at h
   ·rename_i i j hi' hj'
    simp only[Option.some.injEq,Prod.mk.injEq]at h
    obtain⟨rfl,rfl,rfl⟩:=h
    obtain⟨g1,g2,g3,b1,b2,b3,hn,hzt,hst⟩:=hc
    have hb:=bo_ok hE h2 g2 hi'
    have hb2:=bo_ok hE h3 g3 hj'
    have hsx:∃base cap,a.eval x= .slice base es.length cap∧(I k).v= .slice base es.length cap:=by
     have:=(eval_rd hE h1 g1).2
     obtain⟨m1,m2,m3⟩:=hA.h k _ hk
     have hv:(I k).v=a.eval x:=by generalize a.eval x=q at *;cases this;rfl
     rw[← hv]
     rcases m3 with⟨rfl,hx⟩|⟨b,off,cap',arr,T',hx,_⟩
     ·exact⟨none,0,hx,hx⟩
     ·exact⟨_,cap',hx,hx⟩
    obtain⟨base,cap,hx,hv⟩:=hsx
    obtain⟨hle,nv,lab',q1,q2,q3⟩:=at_part hA ht hk (i:=i.toNat) (j:=j.toNat) hv (by omega) (by omega) hst hzt
    have hrun:=run_slice_sl (P:=P) (w:=w) T e' base es.length cap z.length _ _ i j (tU_slice he) hn hb hb2 b1 b2 (by omega)
    have hkt:k≠t:=by rintro rfl;rw[ht]at hk;cases hk
    have hH:updH H [(t,.vec 0 z ((es.drop i.toNat).take (j.toNat-i.toNat))),(k,.dead)]=upd (upd H k .dead) t (.vec 0 z ((es.drop i.toNat).take (j.toNat-i.toNat))):=by
     funext n
     simp only[updH,upd]
     by_cases e1:n=k
     ·subst e1;simp[hkt]
     ·simp[e1]
    refine .inl ⟨nv.v,w,?_,fun n=>if n=t then nv else I n,lab',fz,?_,?_,?_⟩
    ·simp only[execOp,ho,hx,Option.map_none,Sem.run_bind,hrun,Result.andThen_ok,Sem.run_pure,q1]
    ·simp only[hH];exact q2
    ·intro s hs
     simp only[Option.some.injEq]at hs
     subst hs
     have:nv.v=((fun n=>if n=t then nv else I n) t).v:=by simp
     rw[this]
     exact⟨rfl,.s _ _⟩
    ·simp only[hH];exact q3
   ·cases h
  ·cases h
 ·cases h
end
end Go.Sy
namespace Go.Sy
open Go.RowKit
section
variable {P:Program} {o:Oper} {a:Act} {w w0:World} {X:Ctx} {I:Nm} {lab:Lab} {fz:Nat→Prop} {E:Env} {H:Hp} {c:Prop} {e:Eff} {fp:List Nat}
theorem at_nil (hA:AtW X w0 I lab fz H w) {t:Nat} (ht:H t=none) (z:List C) :
  AtW X w0 (fun n=>if n=t then ⟨none,0,0,z.length,false⟩ else I n) lab fz (upd H t (.vec 0 z [])) w∧PresB t (hp w) (hp w) fz fz I (fun n=>if n=t then ⟨none,0,0,z.length,false⟩ else I n) H (upd H t (.vec 0 z [])):=by
 obtain⟨p1,p2⟩:=hA.priv ht
 exact at_set (lab':=lab) (w':=w) hA p1 p2 ⟨none,0,0,z.length,false⟩ rfl z [] rfl (fun _ _=>rfl) (fun _ _ _ _ _ b ρ hb=>⟨hb,rfl⟩) hA.own hA.fzl hA.kept (.inl ⟨rfl,rfl⟩) (by simp)
theorem src_okA (hA:AtW X w0 I lab fz H w) {b:C} {y:Value} (hb:SC (hp w) fz lab I H b y) {z:List C} {rows:List (List C)} {f:List Nat} (hr:srcA H z b=some (rows,f)) {U:TypeId} (hU:tSrc P U (some (.one b))=some ()) {s:Nat} (hs:0<s)
  (hq:∀q,srcQ H b=some q→q=s) (hst:rowsStor rows) :
  ∃news,Src P s U y rows.length news w∧∀(i:Nat) (r:List C),rows[i]?=some r→r.length=s∧∀(j:Nat) (c:C),r[j]?=some c→Dom H c.names∧∃v,news[i*s+j]?=some v∧Den (hp w) fz lab I [] c v:=by
 by_cases hst2:∃st,b= .v (.string st)
 ·obtain⟨st,rfl⟩:=hst2
  obtain rfl:=hq 1 rfl
  have hd:=hb.2
  cases hd with
  |v=>
   have hk:P.underlying U=some .string:=by
    simp only[tSrc]at hU
    split at hU
    ·rename_i h;exact tU_str h
    ·cases hU
   simp only[srcA,Option.some.injEq,Prod.mk.injEq]at hr
   obtain⟨rfl,_⟩:=hr
   have h0:=Src.ofString (P:=P) w hk st
   refine⟨Go.byteCells st,?_,?_⟩
   ·rw[List.length_map,← size_toList];exact h0
   ·intro i r hi
    simp only[List.getElem?_map,Option.map_eq_some_iff]at hi
    obtain⟨b,hb,rfl⟩:=hi
    refine⟨rfl,fun j c hj=>?_⟩
    cases j with
    |zero=>
     simp only[List.getElem?_cons_zero,Option.some.injEq]at hj
     subst hj
     refine⟨(by intro n hn;cases hn),.int .u8 b.toNat,?_,.v _ _ rfl⟩
     rw[ByteArray.toList_eq]at hb
     simp[Go.byteCells,hb]
    |succ j=>simp at hj
 ·have h1:srcA H z b=srcR H z b:=by
   cases b<;>try rfl
   rename_i v
   cases v<;>first|rfl|exact absurd ⟨_,rfl⟩ hst2
  have h2:srcQ H b=srcZ H b:=by
   cases b<;>try rfl
   rename_i v
   cases v<;>first|rfl|exact absurd ⟨_,rfl⟩ hst2
  have h3:tSrc P U (some (.one b))=(tElem P U).map fun _=>():=by
   cases b<;>try rfl
   rename_i v
   cases v<;>first|rfl|exact absurd ⟨_,rfl⟩ hst2
  rw[h1]at hr
  rw[h2]at hq
  rw[h3]at hU
  simp only[Option.map_eq_some_iff]at hU
  obtain⟨e,he,_⟩:=hU
  exact src_ok hA hb hr (tU_slice he) hs hq hst
theorem grow_post (hA:AtW X w0 I lab fz H w) {t:Nat} (ht:H t=none) {I1:Nm} {lab1:Lab} {H1:Hp} (hA1:AtW X w0 I1 lab1 fz H1 w) (hp1:PresB t (hp w) (hp w) fz fz I I1 H H1) (hsub:∀k ch,H1 k=some ch→Dom H (chNames ch))
  {u:Nat} {z:List C} {es:List (List C)} (hH1:H1 t=some (.vec u z es))
  {T U ty e':TypeId} {i:TypeInfo} {zv:Value} (hT:P.underlying T=some (.slice e')) (hi:P.info? e'=some i) (hzv:i.zero=some zv) (hzl:zv.cells.size=i.size) (hs:z.length=i.size) (hzt:zT z=none∨zT z=some e') (hs0:0<i.size)
  {b:C} {y:Value} (hb:SC (hp w) fz lab I H b y) {z2:List C} {rows:List (List C)} {f:List Nat} (hr:srcA H z2 b=some (rows,f)) (hU:tSrc P U (some (.one b))=some ()) (hq:∀q,srcQ H b=some q→q=i.size) (hst:rowsStor rows)
  (hbd:(es.length+rows.length)*i.bytes≤140737488355328) (h63:es.length+rows.length≤9223372036854775807) :
  ∃x w',(Builtin.append_ #[T,U] ty #[(I1 t).v,y]).run P w= .ok x w'∧∃I' lab',AtW X w0 I' lab' fz (upd H1 t (.vec 0 z (es++rows))) w'∧SDen (hp w') fz lab' I' (upd H1 t (.vec 0 z (es++rows))) (.one (.s t)) x∧Pres (hp w) (hp w') fz fz I I' H (upd H1 t (.vec 0 z (es++rows))):=by
 obtain⟨news,hsrc,hrows⟩:=src_okA (P:=P) hA hb hr hU hs0 hq hst
 have hdt:∀l,Dom H l→t∉l:=by intro l hl h;have:=hl t h;rw[ht]at this;cases this
 have pF:=(hA.priv ht).2
 have hrows':∀(i2:Nat) (r:List C),rows[i2]?=some r→r.length=i.size∧∀(j:Nat) (c:C),r[j]?=some c→c.stor=true∧Dom H1 c.names∧t∉c.names∧∃v,news[i2*i.size+j]?=some v∧Den (hp w) fz lab1 I1 [] c v:=by
  intro i2 r h1
  obtain⟨g1,g2⟩:=hrows i2 r h1
  refine⟨g1,fun j c h2=>?_⟩
  obtain⟨g3,v,g4,g5⟩:=g2 j c h2
  have hcs:=hst r (List.mem_of_getElem? h1) c (List.mem_of_getElem? h2)
  have hnt:=hdt _ g3
  refine⟨hcs,fun n hn=>hp1.d n (by rintro rfl;exact hnt hn) (g3 n hn),hnt,v,g4,?_⟩
  exact den_flat hp1.z (stor_flat hcs) g5 fun n hn=>hp1.n n (by rintro rfl;exact hnt hn) (g3 n hn)
 obtain⟨nv,lab',w',m1,hrun,r1,r2⟩:=at_grow (P:=P) (ty:=ty) hA1 hH1 (fun k ch _ hk=>hdt _ (hsub k ch hk)) (hdt _ (hsub t _ hH1)) pF hT hi hzv hzl hs hs0 hsrc hzt hbd h63 hrows'
 refine⟨nv.v,w',hrun,_,lab',r1,?_,(hp1.comp r2).pres ht⟩
 have:nv.v=((fun n=>if n=t then nv else I1 n) t).v:=by simp
 rw[this]
 exact⟨rfl,.s _ _⟩
theorem src_slice (hA:AtW X w0 I lab fz H w) {b:C} {y:Value} (hb:SC (hp w) fz lab I H b y) {z:List C} {rows:List (List C)} {f:List Nat} (hr:srcR H z b=some (rows,f)):∃ad l c,y= .slice ad l c:=by
 unfold srcR at hr
 split at hr
 ·have:=hb.2
  cases this with|d _ _ _ r=>cases r<;>exact⟨_,_,_,rfl⟩
 ·have:=hb.2
  cases this with|df _ _ _ a r=>exact⟨_,_,_,rfl⟩
 ·have:=hb.2
  cases this;exact⟨_,_,_,rfl⟩
 ·rename_i k
  split at hr
  ·rename_i u z' es hk
   have:=hb.2
   cases this
   obtain⟨m1,_,_⟩:=hA.h k _ hk
   exact⟨_,_,_,by unfold NV.v;rw[m1];rfl⟩
  ·cases hr
 ·cases hr
theorem rowsN_ok:∀{rows:List (List C)} {ns:List Int},rowsN rows=some ns→rows=ns.map fun n=>[.v (.int .u8 n)]
 |[],ns,h=>by simp only[rowsN,Option.some.injEq]at h;subst h;rfl
 |r::rs,ns,h=>by
  unfold rowsN at h
  split at h
  ·rename_i hh;cases hh
  ·rename_i n r' hh
   simp only[List.cons.injEq]at hh
   obtain⟨rfl,rfl⟩:=hh
   simp only[Option.map_eq_some_iff]at h
   obtain⟨ns',h,rfl⟩:=h
   rw[rowsN_ok h];rfl
  ·cases h
theorem fold_push:∀(ns:List Int) (l:List UInt8),ns.foldl (fun r n=>r.push (UInt8.ofNat n.toNat)) (bs l)=bs (l++ns.map byN)
 |[],l=>by simp
 |n::ns,l=>by
  have:(bs l).push (UInt8.ofNat n.toNat)=bs (l++[byN n]):=by
   apply ByteArray.ext;simp[bs,byN,ByteArray.push]
  rw[List.foldl_cons,this,fold_push ns]
  simp
theorem opConvB_ok (s d:TypeId) (x:Operand) (ho:o.op= .convert s d x) (hE:AtE (hp w) fz lab I H E a) (hA:AtW X w0 I lab fz H w) (h:opConvB P E H s d x=some (c,e,fp)) (hc:c):RunOK P o a w X w0 I lab fz H e:=by
 unfold opConvB at h
 split at h
 ·rename_i cc e' h1 he hd
  split at h
  ·rename_i rows f hu hr
   simp only[Option.bind_eq_some_iff,rV,Option.some.injEq,Prod.mk.injEq]at h
   obtain⟨ns,hns,rfl,rfl,rfl⟩:=h
   obtain⟨g1,g2⟩:=hc
   have hsc:SC (hp w) fz lab I H cc (a.eval x):=eval_rd hE h1 g1
   have hrows:=rowsN_ok hns
   have hst:rowsStor rows:=by
    intro r hr c hc
    rw[hrows]at hr
    obtain⟨n,_,rfl⟩:=List.mem_map.1 hr
    simp only[List.mem_singleton]at hc
    subst hc;rfl
   obtain⟨news,hsrc,hrw⟩:=src_ok (P:=P) hA hsc hr (tU_slice he) Nat.one_pos g2 hst
   have hnews:news=ns.map (.int .u8):=by
    apply List.ext_getElem?
    intro i
    have hl:=hsrc.newsLen
    rw[Nat.mul_one,hrows,List.length_map]at hl
    cases hi:ns[i]? with
    |none=>
     have:=List.getElem?_eq_none_iff.1 hi
     rw[List.getElem?_eq_none (by omega)];simp[hi]
    |some n=>
     have hri:rows[i]?=some [.v (.int .u8 n)]:=by rw[hrows];simp[hi]
     obtain⟨_,v,v1,v2⟩:=(hrw i _ hri).2 0 _ rfl
     cases v2
     simp only[Nat.mul_one,Nat.add_zero]at v1
     rw[v1];simp[hi]
   obtain⟨ad,l,cp,hy⟩:=src_slice hA hsc hr
   rw[hy]at hsrc
   have hln:l=rows.length:=by
    have:=hsrc.len w
    simpa [Builtin.lenOf] using this
   have hui:P.underlying e'=some (.int .u8):=by
    unfold tInt at hu
    split at hu
    ·rename_i k hk;simp only[Option.some.injEq]at hu;subst hu;exact hk
    ·cases hu
   have hcv:=run_convert_bytes_string (P:=P) w s d e' ad l cp (tU_slice he) hui (tU_str hd)
   refine run_val (x:=.string (bs (ns.map byN))) hA ?_ (sd_v rfl)
   have hfin:(Conv.bytesToString (.slice ad l cp)).run P w= .ok (.string (bs (ns.map byN))) w:=by
    cases ad with
    |none=>
     have:=hsrc.cells
     have h0:news=[]:=by
      have h2:(Builtin.firstCells 1 rows.length (.slice none l cp)).run P w= .ok #[] w:=by simp[Builtin.firstCells]
      rw[h2]at this
      simpa using this
     rw[hnews]at h0
     have:ns=[]:=by simpa using h0
     subst this
     simp[Conv.bytesToString,bs];rfl
    |some ad=>
     have h2:=hsrc.cells
     simp only[Builtin.firstCells,Nat.mul_one]at h2
     rw[← hln,hnews]at h2
     rw[run_bytesToString w ad l cp ns h2]
     have:=fold_push ns []
     rw[show (bs []:ByteArray)=ByteArray.empty from rfl]at this
     rw[this];simp
   simp only[execOp,ho,hy,Sem.run_bind,hcv,hfin,Result.andThen_ok,Sem.run_pure]
  ·cases h
 ·cases h
theorem opAppend_ok (x y:Operand) (T U:TypeId) (t:Nat) (args:Array Operand) (ts:Array TypeId) (ho:o.op= .call { callee:=.builtin .append,args,argTypes:=ts }) (hargs:args.toList=[x,y]) (hts:ts.toList=[T,U]) (hE:AtE (hp w) fz lab I H E a) (hA:AtW X w0 I lab fz H w) (ht:H t=none)
  (h:opAppend P E H x y T U t=some (c,e,fp)) (hc:c):RunOK P o a w X w0 I lab fz H e:=by
 have hrun:∀q w',(Builtin.append_ #[T,U] o.type #[a.eval x,a.eval y]).run P w= .ok q w'→(execOp a.eval o).run P w= .ok (.value q) w':=by
  intro q w' hq
  have h1:args = #[x,y]:=by apply Array.ext';rw[hargs]
  have h2:ts = #[T,U]:=by apply Array.ext';rw[hts]
  subst h1;subst h2
  simp only[execOp,ho,resolve,invoke,Sem.run_bind,Sem.run_pure,Result.andThen_ok,builtin]
  have hm:(#[x,y]:Array Operand).map a.eval = #[a.eval x,a.eval y]:=by simp
  rw[hm,hq];rfl
 simp only[opAppend]at h
 split at h
 ·rename_i av bv e' e2 h1 h2 he he2
  have hU:tSrc P U (some (.one bv))=some ():=by rw[← h2];exact he2
  split at h
  ·rename_i s zv yb hs hz hy
   split at h
   ·rename_i rows f2 hr
    obtain⟨i,hi,rfl,hz',rfl⟩:=tInfo hs hz hy
    have hzs:(ofV zv).cells.length=i.size→0<i.size→zv.cells.size=i.size:=by
     intro hok hpos
     cases zv with
     |tuple vs=>rw[← hok]at hpos;simp[ofV,SV.cells]at hpos
     |agg cs=>rw[← hok];simp[ofV,SV.cells,Value.cells]
     |_=>rw[← hok];rfl
    split at h
    ·simp only[Option.some.injEq,Prod.mk.injEq]at h
     obtain⟨rfl,rfl,rfl⟩:=h
     obtain⟨g1,g2,hs0,hzl,hq,hst,hbd,h63⟩:=hc
     have e1:=sd_clos (eval_rd hE h1 g1) rfl
     obtain⟨hA1,hp1⟩:=at_nil hA ht (ofV zv).cells
     obtain⟨q,w',hrn,I',lab',r1,r2,r3⟩:=grow_post (P:=P) (T:=T) (U:=U) (ty:=o.type) hA ht hA1 hp1 (fun k ch hk=>by
       by_cases e0:k=t
       ·subst e0;rw[upd_self]at hk;simp only[Option.some.injEq]at hk;subst hk;intro n hn;simp[chNames]at hn
       ·rw[upd_ne _ _ e0]at hk;exact hA.wf k ch hk) (upd_self _ _ _) (tU_slice he) hi hz' (hzs hzl hs0) hzl (.inl (zT_ofV zv)) hs0 (eval_rd hE h2 g2) hr hU hq hst (by simpa using hbd) (by simpa using h63)
     have e3:upd (upd H t (.vec 0 (ofV zv).cells [])) t (.vec 0 (ofV zv).cells ([]++rows))=updH H [(t,.vec 0 (ofV zv).cells rows)]:=by
      funext n;simp only[upd,updH,List.nil_append];split<;>rfl
     rw[e3]at r1 r2 r3
     refine .inl ⟨q,w',hrun q w' ?_,I',lab',fz,r1,fun sv hsv=>by simp only[Option.some.injEq]at hsv;subst hsv;exact r2,r3⟩
     rw[e1]
     simpa [NV.v,slV] using hrn
    ·rename_i z' es'
     simp only[Option.some.injEq,Prod.mk.injEq]at h
     obtain⟨rfl,rfl,rfl⟩:=h
     obtain⟨g1,g2,hs0,hz1,hzl,hr0,hq,hst,hbd,h63⟩:=hc
     have hsx:SC (hp w) fz lab I H (.df z' es') (a.eval x):=eval_rd hE h1 g1
     obtain⟨olds,hso,hro⟩:=src_ok (P:=P) hA (b:=.df z' es') hsx (z:=(ofV zv).cells) rfl (tU_slice he) hs0 (fun q hq=>by simp only[srcZ,Option.some.injEq]at hq;omega) (fun r hr c hc=>by
      obtain⟨r0,_,rfl⟩:=List.mem_map.1 hr
      obtain⟨d,_,rfl⟩:=List.mem_map.1 hc
      exact oD_stor d)
     obtain⟨news,hsn,hrn⟩:=src_okA (P:=P) hA (eval_rd hE h2 g2) hr hU hs0 hq hst
     obtain⟨ad,hxe⟩:∃ad,a.eval x= .slice ad es'.length es'.length:=by
      have:=hsx.2
      generalize a.eval x=q at*
      cases this;exact⟨_,rfl⟩
     rw[List.length_map]at hso
     have hg:es'.length<es'.length+rows.length:=by omega
     have holds:=hso.cellsD
     rw[hxe]at holds
     have hrn2:=run_append_grow_src (P:=P) w T U o.type e' i zv (tU_slice he) hi hz' ad es'.length es'.length olds holds (a.eval y) rows.length news hsn hg (by omega) (growslice_fits hg hbd)
     have hge:=grownCap_ge w (es'.length+rows.length) es'.length e'
     generalize grownCap w (es'.length+rows.length) es'.length e'=nc at*
     have ho1:=hso.newsLen
     have hn1:=hsn.newsLen
     refine .inl ⟨_,_,hrun _ _ (by rw[hxe];exact hrn2),post_new0 hA w.drew rfl rfl rfl rfl t ht (ofV zv).cells (es'.map (fun r=>r.map oD)++rows) _ e' nc (by simpa using hge) ?_ (zOK_none (zT_ofV zv)) ?_ _ _ (.inr ⟨rfl,by simp[slV]⟩)⟩
     ·simp only[Array.size_append,List.size_toArray,List.length_append,size_zeroCells,hzs hzl hs0,hzl,ho1,hn1]
      have:(nc-(es'.length+rows.length))*i.size+(es'.length+rows.length)*i.size=nc*i.size:=by
       rw[← Nat.add_mul];congr 1;omega
      rw[Nat.add_mul]at this
      omega
     ·have hget:∀n,n<olds.length+news.length→((olds++news).toArray++Builtin.zeroCells zv.cells (nc-(es'.length+rows.length)))[n]?=(olds++news)[n]?:=by
       intro n hn
       rw[Array.getElem?_append_left (by simpa using hn)]
       simp
      intro i2 r hr
      rw[List.getElem?_append]at hr
      split at hr
      ·rename_i hlt2
       rw[List.length_map]at hlt2
       obtain⟨q1,q2⟩:=hro i2 r hr
       refine⟨q1.trans hzl.symm,fun j c hj=>?_⟩
       obtain⟨c2,v,v1,v2⟩:=q2 j c hj
       have hjl:j<i.size:=by have:=(List.getElem?_eq_some_iff.1 hj).1;omega
       have hpos:i2*i.size+j<olds.length:=by
        have:(i2+1)*i.size≤es'.length*i.size:=Nat.mul_le_mul_right _ hlt2
        rw[Nat.add_mul]at this
        omega
       refine⟨?_,c2,v,?_,v2⟩
       ·have hm:=List.mem_of_getElem? hr
        obtain⟨r0,_,rfl⟩:=List.mem_map.1 hm
        obtain⟨d,_,rfl⟩:=List.mem_map.1 (List.mem_of_getElem? hj)
        exact oD_stor d
       ·rw[hzl,hget _ (by omega),List.getElem?_append_left hpos];exact v1
      ·rename_i hge2
       rw[List.length_map]at hge2 hr
       obtain⟨q1,q2⟩:=hrn _ r hr
       refine⟨q1.trans hzl.symm,fun j c hj=>?_⟩
       obtain⟨c2,v,v1,v2⟩:=q2 j c hj
       have hjl:j<i.size:=by have:=(List.getElem?_eq_some_iff.1 hj).1;omega
       obtain⟨d,rfl⟩:∃d,i2=es'.length+d:=⟨i2-es'.length,by omega⟩
       rw[show es'.length+d-es'.length=d by omega]at v1 hr
       have hdl:d<rows.length:=(List.getElem?_eq_some_iff.1 hr).1
       have hd2:(d+1)*i.size≤rows.length*i.size:=Nat.mul_le_mul_right _ hdl
       rw[Nat.add_mul]at hd2
       refine⟨hst r (List.mem_of_getElem? hr) c (List.mem_of_getElem? hj),c2,v,?_,v2⟩
       rw[hzl,Nat.add_mul,hget _ (by rw[ho1,hn1];omega),List.getElem?_append_right (by omega),← v1]
       congr 1
       omega
    ·rename_i k
     split at h
     ·rename_i u z' es hk
      simp only[Option.some.injEq,Prod.mk.injEq]at h
      obtain⟨rfl,rfl,rfl⟩:=h
      obtain⟨g1,g2,hs0,hz1,hzl,hq,hst,_,hbd,h63⟩:=hc
      have hkt:k≠t:=by rintro rfl;rw[ht]at hk;cases hk
      obtain⟨lab1,hA1,hp1⟩:=at_rename hA ht hk
      obtain⟨q,w',hrn,I',lab',r1,r2,r3⟩:=grow_post (P:=P) (T:=T) (U:=U) (ty:=o.type) hA ht hA1 hp1 (fun k2 ch hk2=>by
       by_cases e0:k2=t
       ·subst e0;rw[upd_self]at hk2;simp only[Option.some.injEq]at hk2;subst hk2;show Dom H (chNames (.vec u z' es));exact hA.wf k _ hk
       ·rw[upd_ne _ _ e0]at hk2
        by_cases e4:k2=k
        ·subst e4;rw[upd_self]at hk2;simp only[Option.some.injEq]at hk2;subst hk2;intro n hn;cases hn
        ·rw[upd_ne _ _ e4]at hk2;exact hA.wf k2 ch hk2) (upd_self _ _ _) (tU_slice he) hi hz' (hzs hzl hs0) hz1.1 hz1.2 hs0 (eval_rd hE h2 g2) hr hU hq hst hbd h63
      have e3:upd (upd (upd H k .dead) t (.vec 0 z' es)) t (.vec 0 z' (es++rows))=updH H [(t,.vec 0 z' (es++rows)),(k,.dead)]:=by
       funext n
       simp only[upd,updH]
       by_cases e5:n=t
       ·subst e5;simp[Ne.symm hkt]
       ·simp[e5]
      rw[e3]at r1 r2 r3
      refine .inl ⟨q,w',hrun q w' ?_,I',lab',fz,r1,fun sv hsv=>by simp only[Option.some.injEq]at hsv;subst hsv;exact r2,r3⟩
      have e1:a.eval x=(I k).v:=by
       have:=(eval_rd hE h1 g1).2
       generalize a.eval x=q at*
       cases this;rfl
      rw[e1]
      simpa using hrn
     ·cases h
    ·rename_i k u p
     split at h
     ·rename_i u' zz es hk
      split at h
      ·rename_i z' es' hj
       simp only[Option.some.injEq,Prod.mk.injEq]at h
       obtain⟨rfl,rfl,rfl⟩:=h
       obtain⟨g1,g2,rfl,hii,hs0,hz1,hzl,hq,hst,_,hbd,h63⟩:=hc
       have hkt:k≠t:=by rintro rfl;rw[ht]at hk;cases hk
       obtain⟨hden,hat⟩:=vw_open hA hk hii hj (eval_rd hE h1 g1)
       obtain⟨lab1,nv,m1,e1,hA1,hp1⟩:=at_take hA ht hk hii hj hat
       obtain⟨q,w',hrn,I',lab',r1,r2,r3⟩:=grow_post (P:=P) (T:=T) (U:=U) (ty:=o.type) hA ht hA1 hp1 (fun k2 ch hk2=>by
        by_cases e0:k2=t
        ·subst e0;rw[upd_self]at hk2;simp only[Option.some.injEq]at hk2;subst hk2
         intro n hn
         obtain⟨r,q1,hn⟩:=List.mem_flatMap.1 hn
         obtain⟨cc,q2,hn⟩:=List.mem_flatMap.1 hn
         obtain⟨p1,q1⟩:=List.mem_iff_getElem?.1 q1
         obtain⟨p2,q2⟩:=List.mem_iff_getElem?.1 q2
         rw[(ov_vec hden).2 p1 p2 r cc q1 q2]at hn
         cases hn
        ·rw[upd_ne _ _ e0]at hk2
         by_cases e4:k2=k
         ·subst e4;rw[upd_self]at hk2;simp only[Option.some.injEq]at hk2;subst hk2
          intro n hn
          obtain⟨r,q1,hn1⟩:=List.mem_flatMap.1 hn
          clear hn
          obtain⟨cc,q2,hn⟩:=List.mem_flatMap.1 hn1
          clear hn1
          obtain⟨i2,q1⟩:=List.mem_iff_getElem?.1 q1
          obtain⟨j2,q2⟩:=List.mem_iff_getElem?.1 q2
          rcases setP_names p q1 q2 n hn with h|⟨r0,hr0,c0,hc0,h⟩
          ·cases h
          ·exact hA.wf k2 _ hk n (List.mem_flatMap.2 ⟨r0,hr0,List.mem_flatMap.2 ⟨c0,hc0,h⟩⟩)
         ·rw[upd_ne _ _ e4]at hk2;exact hA.wf k2 ch hk2) (upd_self _ _ _) (tU_slice he) hi hz' (hzs hzl hs0) hz1.1 hz1.2 hs0 (eval_rd hE h2 g2) hr hU hq hst hbd h63
       have e3:upd (upd (upd H k (.vec (u'+1) zz (setP p zz es .any))) t (.vec 0 z' es')) t (.vec 0 z' (es'++rows))=updH H [(t,.vec 0 z' (es'++rows)),(k,.vec (u'+1) zz (setP p zz es .any))]:=by
        funext n
        simp only[upd,updH]
        by_cases e5:n=t
        ·subst e5;simp[Ne.symm hkt]
        ·simp[e5]
       rw[e3]at r1 r2 r3
       refine .inl ⟨q,w',hrun q w' ?_,I',lab',fz,r1,fun sv hsv=>by simp only[Option.some.injEq]at hsv;subst hsv;exact r2,r3⟩
       rw[← e1]
       simpa using hrn
      ·cases h
     ·cases h
    ·cases h
   ·cases h
  ·cases h
 ·cases h
end
end Go.Sy
namespace Go.Sy
open Go.RowKit
theorem findS_f {P:Program} {X:Ctx} {w0:World} {f:FuncId}:∀{l:List (Spec P X w0)} {s:Spec P X w0},findS f l=some s→s.f=f
 |[],s,h=>by simp[findS]at h
 |s0::r,s,h=>by
  simp only[findS]at h
  split at h
  ·simp only[Option.some.injEq]at h;subst h;assumption
  ·exact findS_f h
section
variable {P:Program} {o:Oper} {a:Act} {w w0:World} {X:Ctx} {I:Nm} {lab:Lab} {fz:Nat→Prop} {E:Env} {H:Hp} {c:Prop} {e:Eff} {fp:List Nat}
theorem lenC_ok (hA:AtW X w0 I lab fz H w) {cc:C} {y:Value} (hs:SC (hp w) fz lab I H cc y) {p:Prop} {n:Int} {f:List Nat} (hl:lenC H cc=some (p,n,f)) (hp':p):∃b len cap,y= .slice b len cap∧n=len:=by
 unfold lenC at hl
 split at hl
 ·simp only[Option.some.injEq,Prod.mk.injEq]at hl
  obtain⟨_,rfl,_⟩:=hl
  have:=hs.2
  cases this with
  |d _ _ _ r=>cases r<;>exact⟨_,_,_,rfl,by simp⟩
 ·simp only[Option.some.injEq,Prod.mk.injEq]at hl
  obtain⟨_,rfl,_⟩:=hl
  have:=hs.2
  cases this with
  |df _ _ _ a r=>exact⟨_,_,_,rfl,rfl⟩
 ·simp only[Option.some.injEq,Prod.mk.injEq]at hl
  obtain⟨_,rfl,_⟩:=hl
  have:=hs.2
  cases this
  exact⟨_,_,_,rfl,rfl⟩
 ·rename_i k
  split at hl
  ·rename_i u z es hk
   simp only[Option.some.injEq,Prod.mk.injEq]at hl
   obtain⟨_,rfl,_⟩:=hl
   have:=hs.2
   cases this
   obtain⟨m1,m2,m3⟩:=hA.h k _ hk
   rcases m3 with⟨rfl,hx⟩|⟨b,off,cap',arr,T',hx,_⟩
   ·exact⟨_,_,_,hx,rfl⟩
   ·exact⟨_,_,_,hx,rfl⟩
  ·cases hl
 ·rename_i k u p
  split at hl
  ·rename_i u' z es hk
   split at hl
   ·rename_i z' es' hj
    simp only[Option.some.injEq,Prod.mk.injEq]at hl
    obtain⟨rfl,rfl,_⟩:=hl
    obtain⟨rfl,hi⟩:=hp'
    obtain⟨hvec,_⟩:=ov_vec (vw_open hA hk hi hj hs).1
    rcases hvec with⟨rfl,hx⟩|⟨b,off,cap',arr,T',hx,_⟩
    ·exact⟨_,_,_,hx,rfl⟩
    ·exact⟨_,_,_,hx,rfl⟩
   ·cases hl
  ·cases hl
 ·cases hl
theorem opBuiltin_ok (b:Builtin) (args:Array Operand) (ts:Array TypeId) (ho:o.op= .call { callee:=.builtin b,args,argTypes:=ts }) (hE:AtE (hp w) fz lab I H E a) (hW:WFE E H) (hA:AtW X w0 I lab fz H w)
  (h:opBuiltin P E H b args.toList ts.toList=some (c,e,fp)) (hc:c):RunOK P o a w X w0 I lab fz H e:=by
 obtain⟨cs,hrun⟩:∃cs,(execOp a.eval o).run P w=(builtin b ts o.type cs (args.map a.eval)).run P w:=⟨_,by
  simp only[execOp,ho,resolve,invoke,Sem.run_bind,Sem.run_pure,Result.andThen_ok];rfl⟩
 have two:∀{u v:SV},readA E args.toList=some [u,v]→readAG E args.toList→∃x y,args.map a.eval = #[x,y]∧SDen (hp w) fz lab I H u x∧SDen (hp w) fz lab I H v y:=by
  intro u v hr hg
  obtain⟨q1,q2,_⟩:=readA_ok hE hW hr hg
  match hargs:args.toList,q1 with
  |[p,q],_=>
   refine⟨a.eval p,a.eval q,?_,?_,?_⟩
   ·apply Array.ext';rw[Array.toList_map,hargs];rfl
   ·exact q2 0 u _ rfl (by rw[hargs];rfl)
   ·exact q2 1 v _ rfl (by rw[hargs];rfl)
 have four:∀{u v u2 v2:SV},readA E args.toList=some [u,v,u2,v2]→readAG E args.toList→∃x y x2 y2,args.map a.eval = #[x,y,x2,y2]∧SDen (hp w) fz lab I H u x∧SDen (hp w) fz lab I H v y∧SDen (hp w) fz lab I H u2 x2∧SDen (hp w) fz lab I H v2 y2:=by
  intro u v u2 v2 hr hg
  obtain⟨q1,q2,_⟩:=readA_ok hE hW hr hg
  match hargs:args.toList,q1 with
  |[p,q,p2,q3],_=>
   refine⟨a.eval p,a.eval q,a.eval p2,a.eval q3,?_,?_,?_,?_,?_⟩
   ·apply Array.ext';rw[Array.toList_map,hargs];rfl
   ·exact q2 0 u _ rfl (by rw[hargs];rfl)
   ·exact q2 1 v _ rfl (by rw[hargs];rfl)
   ·exact q2 2 u2 _ rfl (by rw[hargs];rfl)
   ·exact q2 3 v2 _ rfl (by rw[hargs];rfl)
 have one:∀{u:SV},readA E args.toList=some [u]→readAG E args.toList→∃x,args.map a.eval = #[x]∧SDen (hp w) fz lab I H u x:=by
  intro u hr hg
  obtain⟨q1,q2,_⟩:=readA_ok hE hW hr hg
  match hargs:args.toList,q1 with
  |[p],_=>
   refine⟨a.eval p,?_,?_⟩
   ·apply Array.ext';rw[Array.toList_map,hargs];rfl
   ·exact q2 0 u _ rfl (by rw[hargs];rfl)
 simp only[opBuiltin]at h
 split at h
 ·rename_i k x k' y hr
  simp only[rV,Option.some.injEq,Prod.mk.injEq]at h
  obtain⟨rfl,rfl,rfl⟩:=h
  obtain⟨p,q,h1,h2,h3⟩:=two hr hc
  have e1:=sd_int h2;have e2:=sd_int h3
  subst e1;subst e2
  exact run_val hA (by rw[hrun];simp[builtin,Builtin.min_,h1,Builtin.min2];rfl) (sd_v rfl)
 ·rename_i k x k' y hr
  simp only[rV,Option.some.injEq,Prod.mk.injEq]at h
  obtain⟨rfl,rfl,rfl⟩:=h
  obtain⟨p,q,h1,h2,h3⟩:=two hr hc
  have e1:=sd_int h2;have e2:=sd_int h3
  subst e1;subst e2
  exact run_val hA (by rw[hrun];simp[builtin,Builtin.max_,h1,Builtin.max2];rfl) (sd_v rfl)
 ·rename_i k x k2 y k3 z k4 u hr
  simp only[rV,Option.some.injEq,Prod.mk.injEq]at h
  obtain⟨rfl,rfl,rfl⟩:=h
  obtain⟨p,q,p2,q2,h1,h2,h3,h4,h5⟩:=four hr hc
  have e1:=sd_int h2;have e2:=sd_int h3;have e3:=sd_int h4;have e4:=sd_int h5
  subst e1;subst e2;subst e3;subst e4
  exact run_val hA (by rw[hrun];simp[builtin,Builtin.min_,h1,Builtin.min2];rfl) (sd_v rfl)
 ·rename_i k x k2 y k3 z k4 u hr
  simp only[rV,Option.some.injEq,Prod.mk.injEq]at h
  obtain⟨rfl,rfl,rfl⟩:=h
  obtain⟨p,q,p2,q2,h1,h2,h3,h4,h5⟩:=four hr hc
  have e1:=sd_int h2;have e2:=sd_int h3;have e3:=sd_int h4;have e4:=sd_int h5
  subst e1;subst e2;subst e3;subst e4
  exact run_val hA (by rw[hrun];simp[builtin,Builtin.max_,h1,Builtin.max2];rfl) (sd_v rfl)
 ·rename_i s hr
  split at h
  ·rename_i T hts
   split at h
   ·rename_i hT
    simp only[rV,Option.some.injEq,Prod.mk.injEq]at h
    obtain⟨rfl,rfl,rfl⟩:=h
    obtain⟨p,h1,h2⟩:=one hr hc
    have e1:=sd_str h2
    subst e1
    have h3:ts = #[T]:=by apply Array.ext';rw[hts]
    refine run_val hA ?_ (sd_v rfl)
    rw[hrun,h1,h3]
    have:=run_len_string (P:=P) w T o.type s (tU_str hT)
    simp only[builtin,Sem.run_bind,this,Result.andThen_ok,Sem.run_pure,goInt,size_toList]
   ·cases h
  ·cases h
 ·rename_i cc hr
  split at h
  ·rename_i T hts
   split at h
   ·rename_i el p n f hT hl
    simp only[rV,Option.some.injEq,Prod.mk.injEq]at h
    obtain⟨rfl,rfl,rfl⟩:=h
    obtain⟨hg,hp'⟩:=hc
    obtain⟨q,h1,h2⟩:=one hr hg
    obtain⟨b',len,cap,rfl,rfl⟩:=lenC_ok hA h2 hl hp'
    have h3:ts = #[T]:=by apply Array.ext';rw[hts]
    have hu:=tU_slice hT
    exact run_val hA (by rw[hrun];simp[builtin,Builtin.len_,h1,h3,run_underlying hu,goInt]) (sd_v rfl)
   ·cases h
  ·cases h
 ·cases h
theorem run_load_w {ad:Addr} {v:Value} {w1:World} (h:(load ad).run P w= .ok v w1):w1=w:=by
 rw[run_load]at h
 split at h
 ·simp only[Result.ok.injEq]at h;exact h.2.symm
 ·split at h
  ·simp only[Result.ok.injEq]at h;exact h.2.symm
  ·cases h
theorem run_loadFrom_inv (b:Addr):∀(n i:Nat) (acc arr:Array Value),(loadCellsFrom b i n acc).run P w= .ok arr w→∀n'≤n,(loadCellsFrom b i n' acc).run P w= .ok (arr.toList.take (acc.size+n')).toArray w∧acc.toList=arr.toList.take acc.size
 |0,i,acc,arr,h,n',hn=>by
  obtain rfl:n'=0:=by omega
  simp only[loadCellsFrom,Sem.run_pure,Result.ok.injEq,and_true]at h
  subst h
  have e:acc.toList.take acc.size=acc.toList:=List.take_of_length_le (by simp)
  exact⟨by simp[loadCellsFrom,e],e.symm⟩
 |n+1,i,acc,arr,h,n',hn=>by
  simp only[loadCellsFrom,Sem.run_bind]at h
  cases hl:(load (b.add i)).run P w with
  |ok v w1=>
   rw[hl]at h
   simp only[Result.andThen_ok]at h
   have hw:w1=w:=run_load_w hl
   rw[hw]at h hl
   clear hw w1
   have ih:=run_loadFrom_inv b n (i+1) (acc.push v) arr h
   have hacc:acc.toList=arr.toList.take acc.size:=by
    have:=(ih 0 (Nat.zero_le _)).2
    rw[Array.size_push,Array.toList_push]at this
    have h2:=congrArg (List.take acc.size) this
    rw[List.take_take,Nat.min_eq_left (Nat.le_succ _),List.take_append_of_le_length (by simp),List.take_of_length_le (by simp)]at h2
    exact h2
   cases n' with
   |zero=>exact⟨by simp only[loadCellsFrom,Sem.run_pure,Nat.add_zero];rw[← hacc],hacc⟩
   |succ m=>
    refine⟨?_,hacc⟩
    have:=(ih m (by omega)).1
    simp only[loadCellsFrom,Sem.run_bind,hl,Result.andThen_ok]
    rw[this,Array.size_push]
    congr 3
    omega
  |_=>rw[hl]at h;cases h
theorem run_first_take {s n m:Nat} {ad:Option Addr} {l c:Nat} {news:List Value} (h:(Builtin.firstCells s m (.slice ad l c)).run P w= .ok news.toArray w) (hn:n≤m) :
  (Builtin.firstCells s n (.slice ad l c)).run P w= .ok (news.take (n*s)).toArray w:=by
 cases ad with
 |none=>
  simp only[Builtin.firstCells,Sem.run_pure,Result.ok.injEq,and_true]at h ⊢
  have:news=[]:=by simpa using h.symm
  subst this;simp
 |some b=>
  simp only[Builtin.firstCells,loadCells]at h ⊢
  have:=(run_loadFrom_inv b (m*s) 0 #[] _ h (n*s) (Nat.mul_le_mul_right _ hn)).1
  simpa using this
theorem post_some {v:SV} {u:List (Nat×Ch)} {x x':Value} {w':World} (h:Post X w0 w I lab fz H none u x w') (hv:∀I' lab' fz',SDen (hp w') fz' lab' I' (updH H u) v x'):Post X w0 w I lab fz H (some v) u x' w':=by
 obtain⟨I',lab',fz',h1,_,h3⟩:=h
 exact⟨I',lab',fz',h1,fun s hs=>by simp only[Option.some.injEq]at hs;subst hs;exact hv _ _ _,h3⟩
theorem opCopy_ok (x y:Operand) (T U:TypeId) (args:Array Operand) (ts:Array TypeId) (ho:o.op= .call { callee:=.builtin .copy,args,argTypes:=ts }) (hargs:args.toList=[x,y]) (hts:ts.toList=[T,U]) (hE:AtE (hp w) fz lab I H E a) (hA:AtW X w0 I lab fz H w)
  (h:opCopy P E H x y T U=some (c,e,fp)) (hc:c):RunOK P o a w X w0 I lab fz H e:=by
 have hrun:∀q w',(Builtin.copy_ #[T,U] o.type #[a.eval x,a.eval y]).run P w= .ok q w'→(execOp a.eval o).run P w= .ok (.value q) w':=by
  intro q w' hq
  have h1:args = #[x,y]:=by apply Array.ext';rw[hargs]
  have h2:ts = #[T,U]:=by apply Array.ext';rw[hts]
  subst h1;subst h2
  simp only[execOp,ho,resolve,invoke,Sem.run_bind,Sem.run_pure,Result.andThen_ok,builtin]
  have hm:(#[x,y]:Array Operand).map a.eval = #[a.eval x,a.eval y]:=by simp
  rw[hm,hq];rfl
 simp only[opCopy]at h
 split at h
 ·rename_i k bv e' e2 h1 h2 he he2
  split at h
  ·rename_i u z es s hk hs
   split at h
   ·rename_i rows f hr
    simp only[Option.some.injEq,Prod.mk.injEq]at h
    obtain⟨rfl,rfl,rfl⟩:=h
    obtain⟨g1,g2,hs0,hzl,hes,hq,hst⟩:=hc
    have hsy:=eval_rd hE h2 g2
    obtain⟨news,hsrc,hrw⟩:=src_ok (P:=P) hA hsy hr (tU_slice he2) hs0 hq hst
    obtain⟨ad,ln,cp,hy⟩:=src_slice hA hsy hr
    have hx:a.eval x=(I k).v:=by
     have:=(eval_rd hE h1 g1).2
     generalize a.eval x=q at*
     cases this;rfl
    obtain⟨m1,m2,m3⟩:=hA.h k _ hk
    rcases m3 with⟨rfl,_⟩|⟨bl,off,cap,arr,T',hv,hlb,hh,hsz,hcap,hcc⟩
    ·exact absurd hes (by simp)
    obtain⟨n,hn⟩:∃n,min rows.length es.length=n:=⟨_,rfl⟩
    have hnl:=hsrc.newsLen
    have hfc:=run_first_take (P:=P) (n:=n) (by rw[← hy];exact hsrc.cells) (by omega)
    rw[← hy]at hfc
    have hhw:w.heap[bl]?=some (.cells arr T' (0,0)):=hh
    have htl:(news.take (n*s)).length=n*s:=by
     rw[List.length_take,hnl]
     exact Nat.min_eq_left (Nat.mul_le_mul_right _ (by omega))
    have hcs:es.length*s≤cap*s:=Nat.mul_le_mul_right _ hcap
    have hns:n*s≤es.length*s:=Nat.mul_le_mul_right _ (by omega)
    rw[hzl]at hsz
    have hfit:off+(news.take (n*s)).length≤arr.size:=by rw[htl];omega
    obtain⟨arr',q1,q2,q3,q4,q5,q6,q7,q8⟩:=setCells_heap bl T' (0,0) (news.take (n*s)) off w arr hhw hfit
    have hst2:=run_storeCells_cells (P:=P) bl off (news.take (n*s)) 0 w
     (fun j hj=>by simp only[World.cell?,hhw,Option.isSome_none,Bool.false_eq_true,if_false];rw[Array.getElem?_eq_getElem (by omega)];rfl)
     (fun j hj=>by simp[World.frozen?,hhw]) (fun v hv=>hsrc.one v (List.mem_of_mem_take hv))
    simp only[Nat.add_zero]at hst2
    have hrn:(Builtin.copy_ #[T,U] o.type #[a.eval x,a.eval y]).run P w= .ok (goInt n) (w.setCells bl off (news.take (n*s))):=by
     rw[hx,hv]
     have hlen:=hsrc.len w
     obtain⟨ti,hti⟩:∃ti,P.info? e'=some ti∧ti.size=s:=by
      unfold tSize at hs
      simpa using hs
     have hmn:Nat.min rows.length es.length=n:=hn
     simp only[Builtin.copy_,slV]
     simp[run_underlying (tU_slice he),sizeOf,typeInfo,hti.1,hti.2,hlen,hmn,hfc,hst2]
    refine .inl ⟨_,_,hrun _ _ hrn,post_some (post_upd hA hk hlb q4 q5 q6 q7 q8 ?_ ?_ undef) fun _ _ _=>?_⟩
    ·refine .inr ⟨bl,off,cap,arr',T',?_,hlb,q1,⟨by rw[q2,hzl];exact hsz.1,hsz.2⟩,by simp;omega,fun i2 r hr2=>?_⟩
     ·rw[hv];congr 1;simp;omega
     rw[List.getElem?_append]at hr2
     split at hr2
     ·rename_i hlt
      rw[List.length_take]at hlt
      rw[List.getElem?_take]at hr2
      split at hr2
      ·obtain⟨p1,p2⟩:=hrw i2 r hr2
       refine⟨p1.trans hzl.symm,fun j c hj=>?_⟩
       obtain⟨c2,v,v1,v2⟩:=p2 j c hj
       have hjl:j<s:=by have:=(List.getElem?_eq_some_iff.1 hj).1;omega
       refine⟨v,?_,den_flat (fun b hb=>⟨hb,q8 b (by rintro rfl;have:=(hA.fzl b hb).2;rw[hlb]at this;cases this)⟩) (stor_flat (hst r (List.mem_of_getElem? hr2) c (List.mem_of_getElem? hj))) v2 (fun _ _=>rfl)⟩
       have hd2:(i2+1)*s≤n*s:=Nat.mul_le_mul_right _ (by omega)
       rw[Nat.add_mul]at hd2
       rw[q3,hzl,if_pos (by rw[htl];omega),← v1,show off+i2*s+j-off=i2*s+j by omega,List.getElem?_take,if_pos (by omega)]
      ·cases hr2
     ·rename_i hge
      rw[List.length_take]at hge hr2
      rw[List.getElem?_drop]at hr2
      have hi3:rows.length+(i2-min es.length rows.length)=i2:=by
       have:=(List.getElem?_eq_some_iff.1 hr2).1
       omega
      rw[hi3]at hr2
      obtain⟨p1,p2⟩:=hcc i2 r hr2
      refine⟨p1,fun j c hj=>?_⟩
      obtain⟨v,v1,v2⟩:=p2 j c hj
      have hjl:j<s:=by have:=(List.getElem?_eq_some_iff.1 hj).1;omega
      refine⟨v,?_,den_mono (fun b hb=>⟨hb,q8 b (by rintro rfl;have:=(hA.fzl b hb).2;rw[hlb]at this;cases this)⟩) v2 _ (fun b ρ hb=>⟨hb,q8 b ?_⟩) (fun _ _=>rfl)⟩
      ·rw[q3,if_neg ?_];· exact v1
       intro hh2
       rw[htl]at hh2
       have hd2:n*s≤i2*s:=Nat.mul_le_mul_right _ (by omega)
       rw[hzl]at hh2
       omega
      ·rintro rfl;rw[hlb]at hb;simp at hb
    ·intro i2 j r c hr2 hj
     rw[List.getElem?_append]at hr2
     split at hr2
     ·rw[List.getElem?_take]at hr2
      split at hr2
      ·exact((hrw i2 r hr2).2 j c hj).1
      ·cases hr2
     ·rw[List.getElem?_drop]at hr2
      exact fun q hq=>hA.wf k _ hk q (List.mem_flatMap.2 ⟨r,List.mem_of_getElem? hr2,List.mem_flatMap.2 ⟨c,List.mem_of_getElem? hj,hq⟩⟩)
    ·subst hn
     exact⟨rfl,.v _ _ rfl⟩
   ·cases h
  ·cases h
 ·cases h
theorem opCall_ok (sp:List (Spec P X w0)) (f:FuncId) (x:Operand) (args:Array Operand) (ts:Array TypeId) (more:List SV) (vals:List Value) (t:Nat) (ho:o.op= .call { callee:=.value x,args,argTypes:=ts }) (hx:a.eval x= .func (.func f) #[] vals.toArray)
  (hml:more.length=vals.length) (hmore:∀(j:Nat) (v:SV) (y:Value),more[j]?=some v→vals[j]?=some y→SDen (hp w) fz lab I H v y) (hmd:∀v∈more,Dom H v.names)
  (hE:AtE (hp w) fz lab I H E a) (hW:WFE E H) (hA:AtW X w0 I lab fz H w) (ht:H t=none) (h:opCall sp E H f args.toList more t=some (c,e,fp)) (hc:c):RunOK P o a w X w0 I lab fz H e:=by
 simp only[opCall]at h
 split at h
 ·rename_i s vs hs hr
  simp only[Option.map_eq_some_iff,Prod.mk.injEq]at h
  obtain⟨⟨c',e',fp'⟩,hfn,rfl,rfl,rfl⟩:=h
  obtain⟨hg,hc'⟩:=hc
  obtain⟨q1,q2,q3⟩:=readA_ok hE hW hr hg
  have hf:=findS_f hs
  refine .inr (.inr (.inl ⟨f,(args.toList.map a.eval++vals).toArray,?_,?_⟩))
  ·have hcall:=s.call (args.toList.map a.eval++vals).toArray w
   rw[hf]at hcall
   simp only[execOp,ho,resolve,hx,Deferred.ofValue,invoke,Sem.run_bind,Sem.run_pure,Result.andThen_ok,Array.empty_append]
   have he:args.map a.eval++vals.toArray=(args.toList.map a.eval++vals).toArray:=by apply Array.ext';simp
   rw[he]
   exact hcall
  ·have:=s.ok w I lab fz H t (vs++more) (args.toList.map a.eval++vals) c' _ _ hA ht hfn hc' (by
    intro v hv
    rcases List.mem_append.1 hv with hv|hv
    ·exact q3 v hv
    ·exact hmd v hv) (by simp[q1,hml]) (by
    intro j v y h1 h2
    rw[List.getElem?_append]at h1 h2
    rw[List.length_map,← q1]at h2
    split at h1
    ·rename_i hlt;rw[if_pos hlt]at h2;exact q2 j v y h1 h2
    ·rename_i hlt;rw[if_neg hlt]at h2;exact hmore _ v y h1 h2)
   rw[hf]at this
   exact this
 ·cases h
theorem opCallV_ok (sp:List (Spec P X w0)) (s:Nat) (args:Array Operand) (ts:Array TypeId) (t:Nat) (ho:o.op= .call { callee:=.value (.tmp s),args,argTypes:=ts })
  (hE:AtE (hp w) fz lab I H E a) (hW:WFE E H) (hA:AtW X w0 I lab fz H w) (ht:H t=none) (h:opCallV sp E H s args.toList t=some (c,e,fp)) (hc:c):RunOK P o a w X w0 I lab fz H e:=by
 unfold opCallV at h
 split at h
 ·rename_i f caps hf
  simp only[Option.map_eq_some_iff,Prod.mk.injEq]at h
  obtain⟨⟨c',r⟩,h1,rfl,h2⟩:=h
  simp only at h2
  subst h2
  unfold fnSV at hf
  split at hf
  ·rename_i f' u v hv
   split at hf
   ·rename_i hsz
    simp only[Option.some.injEq,Prod.mk.injEq]at hf
    obtain⟨rfl,rfl⟩:=hf
    have hx:=sd_clos (eval_rd hE hv hc.1) rfl
    rw[Array.eq_empty_of_size_eq_zero hsz.1,Array.eq_empty_of_size_eq_zero hsz.2]at hx
    exact opCall_ok sp f' (.tmp s) args ts [] [] t ho hx rfl (by simp) (by simp) hE hW hA ht h1 hc.2
   ·cases hf
  ·rename_i f' cs hv
   split at hf
   ·simp only[Option.some.injEq,Prod.mk.injEq]at hf
    obtain⟨rfl,rfl⟩:=hf
    have hd:=(eval_rd hE hv hc.1).2
    have hdom:=hW.rd hv hc.1
    generalize hq:a.eval (.tmp s)=q at hd
    cases hd with
    |fn _ _ _ vals hvals hone=>
     have hlen:cs.length=vals.length:=by have:=congrArg List.length hvals;simpa using this
     refine opCall_ok sp f' (.tmp s) args ts (cs.map .one) vals t ho hq (by simp[hlen]) ?_ ?_ hE hW hA ht h1 hc.2
     ·intro j v y g1 g2
      simp only[List.getElem?_map,Option.map_eq_some_iff]at g1
      obtain⟨cc,g1,rfl⟩:=g1
      have:=congrArg (fun l=>l[j]?) hvals
      simp only[List.getElem?_map,g1,g2,Option.map_some,Option.some.injEq]at this
      cases cc<;>simp only[capV,Option.some.injEq,reduceCtorEq]at this<;>subst this
      ·exact sd_v (hone _ (List.mem_of_getElem? g2))
      ·exact⟨rfl,.p _ _ _ _⟩
      ·exact⟨rfl,.s _ _⟩
     ·intro v hv2
      obtain⟨cc,g1,rfl⟩:=List.mem_map.1 hv2
      intro n hn
      refine hdom n (List.mem_flatMap.2 ⟨cc,g1,?_⟩)
      obtain⟨j,hj⟩:=List.mem_iff_getElem?.1 g1
      have:=congrArg (fun l=>l[j]?) hvals
      simp only[List.getElem?_map,hj,Option.map_some]at this
      cases hvj:vals[j]? with
      |none=>rw[hvj]at this;simp at this
      |some q=>
       rw[hvj]at this
       simp only[Option.map_some,Option.some.injEq]at this
       cases cc<;>simp only[capV,reduceCtorEq]at this
       ·cases hn
       ·exact hn
       ·exact hn
   ·cases hf
  ·cases hf
 ·cases h
theorem fresh_some {d:Option Nat} {f:Nat→Res} (h:fresh H d f=some (c,e,fp)):∃fp',H (d.getD 999999)=none∧f (d.getD 999999)=some (c,e,fp')∧fp=d.getD 999999::fp':=by
 unfold fresh at h
 split at h
 ·rename_i hn
  simp only[Option.map_eq_some_iff,Prod.mk.injEq]at h
  obtain⟨⟨c',e',f'⟩,h1,h2,h3,h4⟩:=h
  simp only at h2 h3 h4
  subst h2;subst h3
  exact⟨f',hn,h1,h4.symm⟩
 ·cases h
theorem opIface_ok (T:TypeId) (x:Operand) (ho:o.op= .makeInterface T x) (hE:AtE (hp w) fz lab I H E a) (hA:AtW X w0 I lab fz H w) (h:opIface P E T x=some (c,e,fp)) (hc:c):RunOK P o a w X w0 I lab fz H e:=by
 unfold opIface at h
 split at h
 ·rename_i v hv ht
  simp only[Option.some.injEq,Prod.mk.injEq]at h
  obtain⟨rfl,rfl,rfl⟩:=h
  obtain⟨u,hu,hcl⟩:=Option.bind_eq_some_iff.1 hv
  have hx:=sd_clos (eval_rd hE hu hc) hcl
  refine .inl ⟨.iface T v,w,?_,post_val hA (sd_v rfl)⟩
  simp only[execOp,ho,hx,Sem.run_bind,run_makeInterface w T v (show P.concrete T=true from ht),Result.andThen_ok,Sem.run_pure]
 ·cases h
theorem opPanic_ok (x:Operand) (t:Nat) (ho:o.op= .panic x) (hE:AtE (hp w) fz lab I H E a) (hA:AtW X w0 I lab fz H w) (h:opPanic X E H x t=some (c,e,fp)) (hc:c):RunOK P o a w X w0 I lab fz H e:=by
 unfold opPanic at h
 split at h
 ·rename_i T y hv
  simp only[Option.some.injEq,Prod.mk.injEq]at h
  obtain⟨rfl,rfl,rfl⟩:=h
  have hx:=sd_clos (eval_rd hE hv hc.1) rfl
  refine .inr (.inr (.inr ⟨.iface T y,?_,⟨_,_,rfl⟩,I,lab,fz,H,hA,hc.2⟩))
  simp only[execOp,ho,Instr.panic,hx]
  rfl
 ·cases h
theorem find_str {α:Type} (key:ByteArray):∀(L:List MapEntry) (es:List (List UInt8×α)) (i:Nat),L.length=es.length→(∀(j:Nat) (p:List UInt8×α),es[j]?=some p→∃e,L[j]?=some e∧e.key= .string (bs p.1))→
  (mget es key.toList=none∧Instr.findNow .string (.string key) L i=some none∧∀x,mput es key.toList x=es++[(key.toList,x)])∨
  ∃(j:Nat) (p:List UInt8×α) (e:MapEntry),es[j]?=some p∧L[j]?=some e∧p.1=key.toList∧mget es key.toList=some p.2∧Instr.findNow .string (.string key) L i=some (some (i+j,e.val))∧∀x,mput es key.toList x=es.set j (key.toList,x)
 |[],[],i,_,_=>.inl ⟨rfl,rfl,fun _=>rfl⟩
 |[],_::_,i,h,_=>by simp at h
 |_::_,[],i,h,_=>by simp at h
 |e::L,p::es,i,hl,hk=>by
  obtain⟨e',h1,h2⟩:=hk 0 p rfl
  simp only[List.getElem?_cons_zero,Option.some.injEq]at h1
  subst h1
  have hs:Instr.sameNow .string (.string key) e.key=some (p.1==key.toList):=by
   rw[h2]
   simp only[Instr.sameNow,beq_bs,bs_toList]
   congr 1
   rw[Bool.eq_iff_iff,beq_iff_eq,beq_iff_eq]
   exact⟨Eq.symm,Eq.symm⟩
  cases hb:(p.1==key.toList) with
  |true=>
   refine .inr ⟨0,p,e,rfl,rfl,by simpa using hb,?_,?_,fun x=>?_⟩
   ·simp only[mget,hb,if_true]
   ·simp only[Instr.findNow,hs,hb,Nat.add_zero]
   ·simp only[mput,hb,if_true,List.set_cons_zero]
  |false=>
   have ih:=find_str key L es (i+1) (by simpa using hl) fun j q hq=>hk (j+1) q (by simpa using hq)
   rcases ih with⟨g1,g2,g3⟩|⟨j,q,e',g0,g1,g2,g3,g4,g5⟩
   ·refine .inl ⟨?_,?_,fun x=>?_⟩
    ·simp only[mget,hb,Bool.false_eq_true,if_false,g1]
    ·simp only[Instr.findNow,hs,hb,g2]
    ·simp only[mput,hb,Bool.false_eq_true,if_false,g3,List.cons_append]
   ·refine .inr ⟨j+1,q,e',by simpa using g0,by simpa using g1,g2,?_,?_,fun x=>?_⟩
    ·simp only[mget,hb,Bool.false_eq_true,if_false,g3]
    ·simp only[Instr.findNow,hs,hb,g4]
     congr 3;omega
    ·simp only[mput,hb,Bool.false_eq_true,if_false,g5,List.set_cons_succ]
theorem tMap_ok {T kt et:TypeId} (h:tMap P T=some (kt,et)):P.underlying T=some (.map kt et):=by
 unfold tMap at h
 split at h
 ·rename_i k e hu;simp only[Option.some.injEq,Prod.mk.injEq]at h;obtain⟨rfl,rfl⟩:=h;exact hu
 ·cases h
theorem post_newmap (hA:AtW X w0 I lab fz H w) (t:Nat) (ht:H t=none) (ag:Bool):Post X w0 w I lab fz H (some (.one (.s t))) [(t,.mp ag [])] (.map (some w.heap.size)) (w.alloc (.map #[] 0)):=by
 obtain⟨p1,p2⟩:=hA.priv ht
 let nv:NV:=⟨some (w.heap.size,0),0,0,0,true⟩
 let lab':Lab:=fun b=>if b=w.heap.size then some [t] else lab b
 let I':Nm:=fun n=>if n=t then nv else I n
 have hsize:(w.alloc (.map #[] 0)).heap.size=w.heap.size+1:=by
  show (w.heap.push _).size=_
  simp
 have hlt:∀b,b≠w.heap.size→hp (w.alloc (.map #[] 0)) b=hp w b:=by
  intro b hb
  show (w.heap.push _)[b]?=w.heap[b]?
  rw[Array.getElem?_push]
  simp[hb]
 have hself:hp (w.alloc (.map #[] 0)) w.heap.size=some (.map #[] 0):=by
  show (w.heap.push _)[w.heap.size]?=_
  rw[Array.getElem?_push]
  simp
 have hz:∀b,fz b→fz b∧hp (w.alloc (.map #[] 0)) b=hp w b:=fun b hb=>⟨hb,hlt b (by have:=(hA.fzl b hb).1;omega)⟩
 have hI:∀n,(H n).isSome=true→I' n=I n:=by
  intro n hn
  have:n≠t:=by rintro rfl;rw[ht]at hn;cases hn
  simp[I',this]
 have hl:∀k,∀b ρ,lab b=some ([k]++ρ)→lab' b=some ([k]++ρ)∧hp (w.alloc (.map #[] 0)) b=hp w b:=by
  intro k b ρ hb
  have:b≠w.heap.size:=by have:=(hA.own b _ hb).1;omega
  exact⟨by simp only[lab',this,if_false];exact hb,hlt b this⟩
 have hold:∀n,n≠t→updH H [(t,.mp ag [])] n=H n:=by intro n h;simp[updH,upd,h]
 have hnew:updH H [(t,.mp ag [])] t=some (.mp ag []):=by simp[updH,upd]
 refine⟨I',lab',fz,⟨fun n ch h=>?_,fun n ch h=>?_,fun b π hb=>?_,fun b hb=>?_,hA.fzo,?_,fun p hp'=>?_⟩,fun s hs=>?_,⟨hz,hI,fun k u p x hk hv=>?_⟩⟩
 ·by_cases e:n=t
  ·subst e
   rw[hnew]at h;simp only[Option.some.injEq]at h;subst h
   exact⟨w.heap.size,#[],0,by simp[I',nv],by simp[lab'],hself,rfl,by simp⟩
  ·rw[hold n e]at h
   exact ch_keep hA h hz hI (hl n)
 ·by_cases e:n=t
  ·subst e
   rw[hnew]at h;simp only[Option.some.injEq]at h;subst h
   intro q hq;cases hq
  ·rw[hold n e]at h
   exact dom_updH _ (hA.wf n ch h)
 ·by_cases e:b=w.heap.size
  ·rw[hsize];exact⟨by omega,.inl (by have:=hA.kept.size;omega)⟩
  ·simp only[lab',e,if_false]at hb
   have:=hA.own b π hb
   exact⟨by rw[hsize];omega,this.2⟩
 ·have:=hA.fzl b hb
  exact⟨by rw[hsize];omega,by simp[lab',show b≠w.heap.size by omega,this.2]⟩
 ·refine⟨hA.kept.os,hA.kept.tape,hA.kept.output,by rw[hsize];have:=hA.kept.size;omega,fun b hb hm=>?_⟩
  have hs:=hA.kept.size
  rw[← hA.kept.block b hb hm]
  exact hlt b (by omega)
 ·obtain⟨g1,g2⟩:=hA.fix p hp'
  exact⟨dom_updH (l:=[p.1]) _ (by intro q hq;simp at hq;subst hq;exact g1) p.1 (by simp),by rw[← g2];exact hI _ g1⟩
 ·simp only[Option.some.injEq]at hs
  subst hs
  have hx:(Value.map (some w.heap.size))=(I' t).v:=by simp[I',nv,NV.v]
  rw[hx]
  exact⟨rfl,.s _ _⟩
 ·have hkt:k≠t:=by rintro rfl;rw[ht]at hk;cases hk
  exact vw_keep hA (hold k hkt) (hI k hk) (fun b ρ hb=>(hl k b ρ hb).2) hv
theorem opMakeMap_ok (T:TypeId) (t:Nat) (ho:o.op= .makeMap T none) (hA:AtW X w0 I lab fz H w) (ht:H t=none) (h:opMakeMap P T t=some (c,e,fp)) (_hc:c):RunOK P o a w X w0 I lab fz H e:=by
 unfold opMakeMap at h
 split at h
 ·split at h
  ·rename_i ag _ _
   simp only[Option.some.injEq,Prod.mk.injEq]at h
   obtain⟨rfl,rfl,rfl⟩:=h
   refine .inl ⟨_,_,?_,post_newmap hA t ht ag⟩
   simp only[execOp,ho,Option.map_none]
   rfl
  ·cases h
 ·cases h
def EntOK (h:Heap) (fz:Nat→Prop) (lab:Lab) (I:Nm):Option Bool→List C→Value→Prop
 |some true,row,v=>∃arr,v= .agg arr∧arr.size=row.length∧∀(j:Nat) (c:C),row[j]?=some c→∃y,arr[j]?=some y∧c.stor=true∧Den h fz lab I [] c y
 |_,row,v=>∃c,row=[c]∧c.stor=true∧Den h fz lab I [] c v
theorem mapC_ok (hA:AtW X w0 I lab fz H w) {cc:C} {y:Value} (hs:SC (hp w) fz lab I H cc y) {ag:Option Bool} {es:List (List UInt8×List C)} {f:List Nat} (hm:mapC H cc=some (ag,es,f)) :
  ∃entries:Array MapEntry,((y= .map none∧entries = #[])∨∃r clock,y= .map (some r)∧w.heap[r]?=some (.map entries clock))∧entries.size=es.length∧
   ∀(i:Nat) (p:List UInt8×List C),es[i]?=some p→∃e,entries[i]?=some e∧e.key= .string (bs p.1)∧EntOK (hp w) fz lab I ag p.2 e.val:=by
 unfold mapC at hm
 split at hm
 ·rename_i k
  split at hm
  ·rename_i ag' es' hk
   simp only[Option.some.injEq,Prod.mk.injEq]at hm
   obtain⟨rfl,rfl,rfl⟩:=hm
   obtain⟨r,entries,clock,g1,g2,g3,g4,g5⟩:=hA.h k _ hk
   have hy:y= .map (some r):=by
    have:=hs.2
    cases this
    rw[g1];rfl
   refine⟨entries,.inr ⟨r,clock,hy,g3⟩,g4,fun i p hi=>?_⟩
   obtain⟨e,q1,q2,q3⟩:=g5 i p hi
   refine⟨e,q1,q2,?_⟩
   cases ag'<;>exact q3
  ·cases hm
 ·rename_i es0
  simp only[Option.some.injEq,Prod.mk.injEq]at hm
  obtain⟨rfl,rfl,rfl⟩:=hm
  have h2:=hs.2
  cases h2 with
  |d _ _ _ r=>
   cases r with
   |mp _ b entries clock hz hb hl hk=>
    refine⟨entries,.inr ⟨b,clock,rfl,hb⟩,by simpa using hl,fun i p hi=>?_⟩
    simp only[List.getElem?_map,Option.map_eq_some_iff]at hi
    obtain⟨q,hq,rfl⟩:=hi
    obtain⟨e,q1,q2,q3,q4⟩:=hk i q hq
    exact⟨e,q1,q2,.v q.2,rfl,rfl,by rw[q3];exact .v _ _ q4⟩
 ·simp only[Option.some.injEq,Prod.mk.injEq]at hm
  obtain⟨rfl,rfl,rfl⟩:=hm
  have hy:y= .map none:=by
   have:=hs.2
   cases this
   rfl
  exact⟨#[],.inl ⟨hy,rfl⟩,rfl,by simp⟩
 ·cases hm
theorem gobj {r:Nat} {es:Array MapEntry} {clock:Nat} (hb:w.heap[r]?=some (.map es clock)):(getObj r).run P w= .ok (.map es clock) w:=by
 simp[getObj,Sem.run,hb]
theorem run_lookup {T kt et:TypeId} {mv:Value} {entries:Array MapEntry} {key:ByteArray} {z:Value} (ok:Bool) (hu:P.underlying T=some (.map kt et)) (hks:P.underlying kt=some .string) (hz:tZero P et=some z)
  (hy:(mv= .map none∧entries = #[])∨∃r clock,mv= .map (some r)∧w.heap[r]?=some (.map entries clock)) (res:Option (Nat×Value)) (hf:Instr.findNow .string (.string key) entries.toList 0=some res) :
  (Instr.lookup T mv (.string key) ok).run P w= .ok (if ok=true then .tuple #[(res.map (·.2)).getD z,.bool res.isSome] else (res.map (·.2)).getD z) w:=by
 have hck:∀b,(Instr.checkKey b 10000 kt (.string key)).run P w= .ok () w:=fun b=>by
  unfold Instr.checkKey
  simp only[Sem.run_bind,run_underlying hks,Result.andThen_ok,Sem.run_pure]
 have hfk:(Instr.findKey kt (.string key) entries.toList).run P w= .ok res w:=by
  simp only[Instr.findKey,Sem.run_bind,run_underlying hks,Result.andThen_ok,hf,Sem.run_pure]
 unfold Instr.lookup
 rcases hy with⟨rfl,rfl⟩|⟨r,clock,rfl,hr⟩
 ·simp only[Sem.run_bind,run_underlying hu,Result.andThen_ok,Sem.run_pure,hck,hfk]
  cases res with
  |none=>simp only[Sem.run_bind,run_zeroValue hz,Result.andThen_ok,Sem.run_pure];cases ok<;>rfl
  |some p=>simp only[Sem.run_bind,Result.andThen_ok,Sem.run_pure];cases ok<;>rfl
 ·simp only[Sem.run_bind,run_underlying hu,Result.andThen_ok,Sem.run_pure,gobj hr,hck,hfk]
  cases res with
  |none=>simp only[Sem.run_bind,run_zeroValue hz,Result.andThen_ok,Sem.run_pure];cases ok<;>rfl
  |some p=>simp only[Sem.run_bind,Result.andThen_ok,Sem.run_pure];cases ok<;>rfl
theorem lkV_den {ag ok:Bool} {row:List C} {v:Value} {has:Bool} (h1:ag=true→∃arr,v= .agg arr∧CsDen (hp w) fz lab I H row arr) (h2:ag=false→∃c,row=[c]∧SC (hp w) fz lab I H c v) :
  SDen (hp w) fz lab I H (lkV ag ok row has) (if ok=true then .tuple #[v,.bool has] else v):=by
 have hb:SC (hp w) fz lab I H (.v (.bool has)) (.bool has):=⟨rfl,.v _ _ rfl⟩
 cases ag with
 |true=>
  obtain⟨arr,rfl,h3⟩:=h1 rfl
  cases ok with
  |true=>
   refine⟨#[.agg arr,.bool has],rfl,rfl,fun j p hj=>?_⟩
   match j,hj with
   |0,hj=>simp only[List.getElem?_cons_zero,Option.some.injEq]at hj;subst hj;exact⟨_,rfl,arr,rfl,h3⟩
   |1,hj=>simp only[List.getElem?_cons_succ,List.getElem?_cons_zero,Option.some.injEq]at hj;subst hj;exact⟨_,rfl,hb⟩
   |j+2,hj=>simp at hj
  |false=>exact⟨arr,rfl,h3⟩
 |false=>
  obtain⟨c,rfl,h3⟩:=h2 rfl
  cases ok with
  |true=>
   refine⟨#[v,.bool has],rfl,rfl,fun j p hj=>?_⟩
   match j,hj with
   |0,hj=>simp only[List.getElem?_cons_zero,Option.some.injEq]at hj;subst hj;exact⟨_,rfl,h3⟩
   |1,hj=>simp only[List.getElem?_cons_succ,List.getElem?_cons_zero,Option.some.injEq]at hj;subst hj;exact⟨_,rfl,hb⟩
   |j+2,hj=>simp at hj
  |false=>exact h3
theorem mapC_none {cc:C} {es:List (List UInt8×List C)} {f:List Nat} (hm:mapC H cc=some (none,es,f)):es=[]:=by
 unfold mapC at hm
 split at hm
 ·split at hm
  ·simp at hm
  ·cases hm
 ·simp at hm
 ·simp only[Option.some.injEq,Prod.mk.injEq]at hm;exact hm.2.1.symm
 ·cases hm
theorem opLookup_ok (T:TypeId) (x ix:Operand) (ok:Bool) (ho:o.op= .lookup T x ix ok) (hE:AtE (hp w) fz lab I H E a) (hA:AtW X w0 I lab fz H w) (h:opLookup P E H T x ix ok=some (c,e,fp)) (hc:c):RunOK P o a w X w0 I lab fz H e:=by
 unfold opLookup at h
 split at h
 ·rename_i cc key kt et h1 h2 hT
  split at h
  ·rename_i z ag ag' es f hk hz hag hm
   simp only[rV,Option.some.injEq,Prod.mk.injEq]at h
   obtain⟨rfl,rfl,rfl⟩:=h
   obtain⟨g1,g2,hok,hza,hag'⟩:=hc
   have e1:=eval_rd hE h1 g1
   have e2:=sd_str (eval_rd hE h2 g2)
   obtain⟨entries,hy,hlen,hent⟩:=mapC_ok hA e1 hm
   have hfind:=find_str key entries.toList es 0 (by simpa using hlen) fun j p hj=>by
    obtain⟨e,q1,q2,_⟩:=hent j p hj
    exact⟨e,by rw[Array.getElem?_toList];exact q1,q2⟩
   rcases hfind with⟨q1,q2,_⟩|⟨j,p,ee,q0,q1,q2,q3,q4,_⟩
   ·have hrun:=run_lookup (w:=w) ok (tMap_ok hT) (tU_str hk) hz hy none q2
    refine run_val hA (by simp only[execOp,ho,e2,Sem.run_bind,hrun,Result.andThen_ok,Sem.run_pure];rfl) ?_
    rw[q1]
    have hzd:=sd_ofV (w:=w) (fz:=fz) (lab:=lab) (I:=I) (H:=H) hok
    refine lkV_den (fun ha=>?_) fun ha=>?_
    ·rw[ha]at hza
     cases z with
     |agg cs=>obtain⟨arr,r1,r2⟩:=hzd;simp only[Value.agg.injEq]at r1;subst r1;exact⟨cs,rfl,r2⟩
     |tuple vs=>cases hza
     |_=>cases hza
    ·rw[ha]at hza
     cases z with
     |agg cs=>cases hza
     |tuple vs=>simp[okV]at hok
     |_=>exact⟨_,rfl,hzd⟩
   ·have hrun:=run_lookup (w:=w) ok (tMap_ok hT) (tU_str hk) hz hy (some (0+j,ee.val)) q4
    refine run_val hA (by simp only[execOp,ho,e2,Sem.run_bind,hrun,Result.andThen_ok,Sem.run_pure];rfl) ?_
    rw[q3]
    obtain⟨e',r1,r2,r3⟩:=hent j p q0
    rw[Array.getElem?_toList,r1]at q1
    simp only[Option.some.injEq]at q1
    subst q1
    have hag2:ag'=some ag:=by
     rcases hag' with e|e
     ·subst e;rw[mapC_none hm]at q0;simp at q0
     ·exact e
    subst hag2
    refine lkV_den (fun ha=>?_) fun ha=>?_
    ·subst ha
     obtain⟨arr,s1,s2,s3⟩:=r3
     exact⟨arr,s1,s2,fun j c hj=>by obtain⟨y,y1,y2,y3⟩:=s3 j c hj;exact⟨y,y1,sc_of y2 y3⟩⟩
    ·subst ha
     obtain⟨c,s1,s2,s3⟩:=r3
     exact⟨c,s1,sc_of s2 s3⟩
  ·cases h
 ·cases h
theorem entOK_mono {h h':Heap} {lab':Lab} (hz:∀b,fz b→fz b∧h' b=h b) {ag:Option Bool} {row:List C} {v:Value} (r:EntOK h fz lab I ag row v):EntOK h' fz lab' I ag row v:=by
 have fl:∀c:C,c.stor=true→c.flat=true:=by intro c hc;cases c<;>first|rfl|(simp[C.stor]at hc)
 cases ag with
 |none=>obtain⟨c,a1,a2,a3⟩:=r;exact⟨c,a1,a2,den_flat hz (fl c a2) a3 fun _ _=>rfl⟩
 |some b=>
  cases b with
  |false=>obtain⟨c,a1,a2,a3⟩:=r;exact⟨c,a1,a2,den_flat hz (fl c a2) a3 fun _ _=>rfl⟩
  |true=>
   obtain⟨arr,a1,a2,a3⟩:=r
   refine⟨arr,a1,a2,fun j c hc=>?_⟩
   obtain⟨y,b1,b2,b3⟩:=a3 j c hc
   exact⟨y,b1,b2,den_flat hz (fl c b2) b3 fun _ _=>rfl⟩
theorem post_mp (hA:AtW X w0 I lab fz H w) {k r clock clock':Nat} {ag:Bool} {es es':List (List UInt8×List C)} {entries entries':Array MapEntry} (hk:H k=some (.mp ag es)) (hI:I k=⟨some (r,0),0,0,0,true⟩) (hlr:lab r=some [k])
  (hb:w.heap[r]?=some (.map entries clock)) (hsz:entries'.size=es'.length) (hent:∀(i:Nat) (p:List UInt8×List C),es'[i]?=some p→∃e,entries'[i]?=some e∧e.key= .string (bs p.1)∧EntOK (hp w) fz lab I (some ag) p.2 e.val)
  (hn:∀p∈es',Dom H (p.2.flatMap C.names)) (x:Value):Post X w0 w I lab fz H none [(k,.mp ag es')] x { w with heap:=w.heap.setIfInBounds r (.map entries' clock') }:=by
 have hrl:r<w.heap.size:=(Array.getElem?_eq_some_iff.1 hb).1
 have hs:({ w with heap:=w.heap.setIfInBounds r (.map entries' clock') }:World).heap.size=w.heap.size:=by simp
 have hne:∀c,c≠r→hp { w with heap:=w.heap.setIfInBounds r (.map entries' clock') } c=hp w c:=by
  intro c hc
  show (w.heap.setIfInBounds r _)[c]?=w.heap[c]?
  rw[Array.getElem?_setIfInBounds]
  simp[Ne.symm hc]
 have hse:hp { w with heap:=w.heap.setIfInBounds r (.map entries' clock') } r=some (.map entries' clock'):=by
  show (w.heap.setIfInBounds r _)[r]?=_
  rw[Array.getElem?_setIfInBounds]
  simp[hrl]
 have hz:∀c,fz c→fz c∧hp { w with heap:=w.heap.setIfInBounds r (.map entries' clock') } c=hp w c:=fun c hc=>⟨hc,hne c (by rintro rfl;have:=(hA.fzl c hc).2;rw[hlr]at this;cases this)⟩
 have hl:∀k2,k2≠k→∀c ρ,lab c=some ([k2]++ρ)→lab c=some ([k2]++ρ)∧hp { w with heap:=w.heap.setIfInBounds r (.map entries' clock') } c=hp w c:=by
  intro k2 hk2 c ρ hc
  refine⟨hc,hne c ?_⟩
  rintro rfl
  rw[hlr]at hc
  simp at hc
  exact hk2 hc.1.symm
 have hself:updH H [(k,.mp ag es')] k=some (.mp ag es'):=by simp[updH,upd]
 have hoth:∀k2,k2≠k→updH H [(k,.mp ag es')] k2=H k2:=by intro k2 h;simp[updH,upd,h]
 refine⟨I,lab,fz,⟨?_,?_,?_,?_,hA.fzo,?_,?_⟩,(fun s hs=>by cases hs),hz,fun _ _=>rfl,?_⟩
 ·intro k2 ch h
  by_cases e:k2=k
  ·subst e
   rw[hself]at h;simp only[Option.some.injEq]at h;subst h
   refine⟨r,entries',clock',hI,hlr,hse,hsz,fun i p hp'=>?_⟩
   obtain⟨e,q1,q2,q3⟩:=hent i p hp'
   have q4:=entOK_mono (lab':=lab) hz q3
   refine⟨e,q1,q2,?_⟩
   cases ag<;>exact q4
  ·rw[hoth k2 e]at h
   exact ch_keep hA h hz (fun _ _=>rfl) (hl k2 e)
 ·intro k2 ch h
  by_cases e:k2=k
  ·subst e
   rw[hself]at h;simp only[Option.some.injEq]at h;subst h
   apply dom_updH
   intro n hn'
   obtain⟨p,hp',hn'⟩:=List.mem_flatMap.1 hn'
   exact hn p hp' n hn'
  ·rw[hoth k2 e]at h
   exact dom_updH _ (hA.wf k2 ch h)
 ·intro c π hc;rw[hs];exact hA.own c π hc
 ·intro c hc;rw[hs];exact hA.fzl c hc
 ·refine⟨hA.kept.os,hA.kept.tape,hA.kept.output,by rw[hs];exact hA.kept.size,fun c hc hm=>?_⟩
  rw[← hA.kept.block c hc hm]
  refine hne c ?_
  rintro rfl
  rcases (hA.own c _ hlr).2 with h|h
  ·omega
  ·exact hm h
 ·intro p hp'
  obtain⟨g1,g2⟩:=hA.fix p hp'
  exact⟨dom_updH (l:=[p.1]) _ (by intro q hq;simp at hq;subst hq;exact g1) p.1 (by simp),g2⟩
 ·intro k2 u2 p y hk2 hv2
  by_cases e:k2=k
  ·subst e;exact⟨hv2.1,fun u' z es2 h2=>by rw[hself]at h2;cases h2⟩
  ·exact vw_keep hA (hoth k2 e) rfl (fun c ρ hc=>(hl k2 e c ρ hc).2) hv2
theorem opMapUpdate_ok (T:TypeId) (x k v:Operand) (hrun0:∀(ρ:Operand→Value),execOp ρ o=(do Instr.mapUpdate T (ρ x) (ρ k) (ρ v);pure .skip)) (hod:o.dst=none) (hE:AtE (hp w) fz lab I H E a) (hW:WFE E H) (hA:AtW X w0 I lab fz H w)
  (h:opMapUpdate P E H T x k v=some (c,e,fp)) (hc:c):RunOK P o a w X w0 I lab fz H e:=by
 unfold opMapUpdate at h
 split at h
 ·rename_i n key sv kt et h1 h2 h3 hT
  split at h
  ·rename_i ag es hn hk
   simp only[Option.some.injEq,Prod.mk.injEq]at h
   obtain⟨rfl,rfl,rfl⟩:=h
   obtain⟨g1,g2,g3,htup,hag,hst⟩:=hc
   obtain⟨r,entries,clock,i1,i2,i3,i4,i5⟩:=hA.h n _ hn
   have e1:a.eval x= .map (some r):=by
    have:=(eval_rd hE h1 g1).2
    generalize a.eval x=q at this
    cases this
    rw[i1];rfl
   have e2:=sd_str (eval_rd hE h2 g2)
   have e3:=eval_rd hE h3 g3
   have hdv:=hW.rd h3 g3
   have hfind:=find_str key entries.toList es 0 (by simpa using i4) fun j p hj=>by
    obtain⟨e,q1,q2,_⟩:=i5 j p hj
    exact⟨e,by rw[Array.getElem?_toList];exact q1,q2⟩
   have hold:∀(i:Nat) (p:List UInt8×List C),es[i]?=some p→∃e,entries[i]?=some e∧e.key= .string (bs p.1)∧EntOK (hp w) fz lab I (some ag) p.2 e.val:=by
    intro i p hp'
    obtain⟨e,q1,q2,q3⟩:=i5 i p hp'
    refine⟨e,q1,q2,?_⟩
    cases ag<;>exact q3
   have hnold:∀p∈es,Dom H (p.2.flatMap C.names):=fun p hp' m hm=>hA.wf n _ hn m (List.mem_flatMap.2 ⟨p,hp',hm⟩)
   have hnv:Dom H (sv.cells.flatMap C.names):=by rw[cells_names sv htup];exact hdv
   have hval:EntOK (hp w) fz lab I (some ag) sv.cells (a.eval v):=by
    subst hag
    cases sv with
    |one c0=>exact⟨c0,rfl,List.all_eq_true.1 hst c0 (by simp[SV.cells]),sc_stor (List.all_eq_true.1 hst c0 (by simp[SV.cells])) e3⟩
    |agg l=>
     obtain⟨arr,s1,s2⟩:=e3
     refine⟨arr,s1,s2.1,fun j c0 hj=>?_⟩
     obtain⟨y,y1,y2⟩:=s2.2 j c0 hj
     have:=List.all_eq_true.1 hst c0 (List.mem_of_getElem? hj)
     exact⟨y,y1,this,sc_stor this y2⟩
    |tup l=>cases htup
   have hks:=tU_str hk
   have hu:=tMap_ok hT
   have hck:∀b,(Instr.checkKey b 10000 kt (.string key)).run P w= .ok () w:=fun b=>by
    unfold Instr.checkKey
    simp only[Sem.run_bind,run_underlying hks,Result.andThen_ok,Sem.run_pure]
   have hfk:∀res,Instr.findNow .string (.string key) entries.toList 0=some res→(Instr.findKey kt (.string key) entries.toList).run P w= .ok res w:=fun res hr=>by
    simp only[Instr.findKey,Sem.run_bind,run_underlying hks,Result.andThen_ok,hr,Sem.run_pure]
   have hkey:(.string key:Value)= .string (bs key.toList):=by rw[bs_of]
   rcases hfind with⟨q1,q2,q5⟩|⟨j,p,ee,q0,q1,q2,q3,q4,q5⟩
   ·have hr2:(Instr.mapUpdate T (.map (some r)) (.string key) (a.eval v)).run P w= .ok () { w with heap:=w.heap.setIfInBounds r (.map (entries.push { key:=.string key,val:=a.eval v,born:=clock }) (clock+1)) }:=by
     unfold Instr.mapUpdate
     simp only[Sem.run_bind,run_underlying hu,Result.andThen_ok,gobj i3,hck,hfk none q2]
     simp[setObj,Sem.run,i3]
    refine .inr (.inl ⟨{ w with heap:=w.heap.setIfInBounds r (.map (entries.push { key:=.string key,val:=a.eval v,born:=clock }) (clock+1)) },?_,hod,?_⟩)
    ·rw[hrun0];simp only[e1,e2,Sem.run_bind,hr2,Result.andThen_ok,Sem.run_pure]
    ·rw[q5]
     refine post_mp hA hn i1 i2 i3 (by simp[i4]) (fun i p hi=>?_) (fun p hp'=>?_) _
     ·by_cases hlt:i<es.length
      ·rw[List.getElem?_append_left hlt]at hi
       obtain⟨e,s1,s2,s3⟩:=hold i p hi
       refine⟨e,?_,s2,s3⟩
       rw[Array.getElem?_push]
       simp[show i≠entries.size by omega,s1]
      ·have hi0:i=es.length:=by
        have:=(List.getElem?_eq_some_iff.1 hi).1
        simp at this;omega
       subst hi0
       rw[List.getElem?_append_right (Nat.le_refl _)]at hi
       simp only[Nat.sub_self,List.getElem?_cons_zero,Option.some.injEq]at hi
       subst hi
       refine⟨{ key:=.string key,val:=a.eval v,born:=clock },?_,hkey,hval⟩
       rw[Array.getElem?_push]
       simp[i4]
     ·rcases List.mem_append.1 hp' with hp'|hp'
      ·exact hnold p hp'
      ·simp only[List.mem_singleton]at hp';subst hp';exact hnv
   ·rw[Array.getElem?_toList]at q1
    have hek:ee.key= .string key:=by
     obtain⟨e',s1,s2,_⟩:=i5 j p q0
     rw[q1]at s1;simp only[Option.some.injEq]at s1;subst s1
     rw[s2,q2,bs_of]
    have hkeep:(Instr.keyThatStays (.string key) (.string key)).run P w= .ok (.string key) w:=by
     unfold Instr.keyThatStays
     have:Instr.sameBits 10000 (.string key) (.string key)=true:=by
      unfold Instr.sameBits
      rw[beq_bs];simp
     rw[if_pos this];rfl
    have hr2:(Instr.mapUpdate T (.map (some r)) (.string key) (a.eval v)).run P w= .ok () { w with heap:=w.heap.setIfInBounds r (.map (entries.modify (0+j) fun e=>{ e with key:=.string key,val:=a.eval v }) clock) }:=by
     unfold Instr.mapUpdate
     simp only[Sem.run_bind,run_underlying hu,Result.andThen_ok,gobj i3,hck,hfk _ q4]
     have hold2:((entries[0+j]?).map (·.key)).getD (.string key)= .string key:=by rw[Nat.zero_add,q1];exact hek
     simp only[hold2,Sem.run_bind,hkeep,Result.andThen_ok]
     simp[setObj,Sem.run,i3]
    refine .inr (.inl ⟨{ w with heap:=w.heap.setIfInBounds r (.map (entries.modify (0+j) fun e=>{ e with key:=.string key,val:=a.eval v }) clock) },?_,hod,?_⟩)
    ·rw[hrun0];simp only[e1,e2,Sem.run_bind,hr2,Result.andThen_ok,Sem.run_pure]
    ·rw[q5]
     have hjl:j<es.length:=(List.getElem?_eq_some_iff.1 q0).1
     refine post_mp hA hn i1 i2 i3 (by simp[i4]) (fun i p hi=>?_) (fun p hp'=>?_) _
     ·rw[List.getElem?_set]at hi
      split at hi
      ·rename_i hij
       subst hij
       simp only[hjl,if_true,Option.some.injEq]at hi
       subst hi
       refine⟨{ ee with key:=.string key,val:=a.eval v },?_,hkey,hval⟩
       rw[Array.getElem?_modify,Nat.zero_add,q1]
       simp
      ·rename_i hij
       obtain⟨e,s1,s2,s3⟩:=hold i p hi
       refine⟨e,?_,s2,s3⟩
       rw[Array.getElem?_modify,Nat.zero_add,s1]
       simp[hij]
     ·rcases List.mem_or_eq_of_mem_set hp' with hp'|hp'
      ·exact hnold p hp'
      ·subst hp';exact hnv
  ·cases h
 ·cases h
theorem capsC_eq:∀{vs:List SV} {cs:List C},capsC vs=some cs→vs=cs.map .one
 |[],cs,h=>by simp only[capsC,Option.some.injEq]at h;subst h;rfl
 | .one c::r,cs,h=>by
  simp only[capsC,Option.map_eq_some_iff]at h
  obtain⟨cs',h1,rfl⟩:=h
  rw[List.map_cons,← capsC_eq h1]
 | .agg _::_,cs,h=>by simp[capsC]at h
 | .tup _::_,cs,h=>by simp[capsC]at h
theorem cap_val {cc:C} {x:Value} (ho:okCap cc=true) (hs:SC (hp w) fz lab I H cc x):capV I cc=some x:=by
 cases cc<;>simp only[okCap,Bool.false_eq_true]at ho
 case v=>have:=hs.2;cases this;rfl
 case p=>have:=hs.2;cases this;rfl
 case s=>have:=hs.2;cases this;rfl
theorem opMakeFunc_ok (f:FuncId) (first caps:Array Operand) (ho:o.op= .makeFunc (.func f) first caps) (hf:first.toList=[]) (hE:AtE (hp w) fz lab I H E a) (hW:WFE E H) (hA:AtW X w0 I lab fz H w)
  (h:opMakeFunc E f caps.toList=some (c,e,fp)) (hc:c):RunOK P o a w X w0 I lab fz H e:=by
 unfold opMakeFunc at h
 simp only[Option.bind_eq_some_iff,rV,Option.some.injEq,Prod.mk.injEq]at h
 obtain⟨vs,hv,cs,hcs,rfl,rfl,rfl⟩:=h
 obtain⟨hg,hok⟩:=hc
 obtain⟨q1,q2,q3⟩:=readA_ok hE hW hv hg
 have hvs:=capsC_eq hcs
 have hfe:first = #[]:=Array.eq_empty_of_size_eq_zero (by rw[← Array.length_toList,hf];rfl)
 have hlen:cs.length=caps.toList.length:=by rw[← q1,hvs];simp
 have hval:∀(j:Nat) (cc:C) (x:Value),cs[j]?=some cc→(caps.toList.map a.eval)[j]?=some x→capV I cc=some x∧oneV x=true:=by
  intro j cc x h1 h2
  have h3:=q2 j (.one cc) x (by rw[hvs];simp[h1]) h2
  exact⟨cap_val (List.all_eq_true.1 hok cc (List.mem_of_getElem? h1)) h3,sc_one h3⟩
 refine run_val hA (x:=.func (.func f) #[] (caps.toList.map a.eval).toArray) ?_ ⟨rfl,.fn [] f cs (caps.toList.map a.eval) ?_ ?_⟩
 ·have h1:(caps.map a.eval)=(caps.toList.map a.eval).toArray:=by apply Array.ext';simp
  have h2:(#[]:Array Operand).map a.eval = #[]:=by simp
  simp only[execOp,ho,hfe,h1,h2]
  rfl
 ·apply List.ext_getElem?
  intro j
  simp only[List.getElem?_map]
  cases hc1:cs[j]? with
  |none=>
   have:caps.toList[j]?=none:=by rw[List.getElem?_eq_none_iff]at hc1 ⊢;omega
   simp[this]
  |some cc=>
   have hj:j<caps.toList.length:=by rw[← hlen];exact(List.getElem?_eq_some_iff.1 hc1).1
   have h2:(caps.toList.map a.eval)[j]?=some (a.eval caps.toList[j]):=by rw[List.getElem?_map,List.getElem?_eq_getElem hj];rfl
   have:=(hval j cc _ hc1 h2).1
   simp only[List.getElem?_eq_getElem hj,Option.map_some]
   rw[this]
 ·intro x hx
  obtain⟨j,hj⟩:=List.mem_iff_getElem?.1 hx
  have hjl:j<cs.length:=by rw[hlen];have:=(List.getElem?_eq_some_iff.1 hj).1;simpa using this
  exact(hval j _ x (List.getElem?_eq_getElem hjl) hj).2
theorem opS_ok (sp:List (Spec P X w0)) (hE:AtE (hp w) fz lab I H E a) (hW:WFE E H) (hA:AtW X w0 I lab fz H w) (h:opS sp o E H=some (c,e,fp)) (hc:c):RunOK P o a w X w0 I lab fz H e:=by
 unfold opS at h
 split at h
 ·rename_i x ho;exact opMove_ok x (fun ρ=>by simp only[execOp,ho]) hE hA h hc
 ·rename_i x ho;exact opMove_ok x (fun ρ=>by simp only[execOp,ho]) hE hA h hc
 ·rename_i x y z ho;exact opPick_ok x y z ho hE hA h hc
 ·rename_i T ho;obtain⟨f,h1,h2,_⟩:=fresh_some h;exact opAlloc_ok T _ ho hA h1 h2 hc
 ·rename_i T x ho;obtain⟨f,h1,h2,_⟩:=fresh_some h;exact opBox_ok T x _ ho hE hW hA h1 h2 hc
 ·rename_i T ps ho;exact opBuild_ok T ps ho hE hW hA h hc
 ·rename_i T n ps ho;obtain⟨f,h1,h2,_⟩:=fresh_some h;exact opBs_ok T n ps _ ho hE hW hA h1 h2 hc
 ·rename_i T x y ho;obtain⟨f,h1,h2,_⟩:=fresh_some h;exact opMakeSlice_ok T x y _ ho hE hA h1 h2 hc
 ·rename_i T x ho;exact opLoad_ok T x ho hE hA h hc
 ·rename_i T x y ho
  split at h
  ·rename_i hd;exact opStore_ok T x y ho hd hE hW hA h hc
  ·cases h
 ·rename_i op T x y T' ho;exact opBin_ok op T T' x y ho hE hA h hc
 ·rename_i op T x ho;exact opUn_ok op T x ho hE hA h hc
 ·rename_i T x f ho;exact opFieldAddr_ok T x f ho hE hA h hc
 ·rename_i T x f ho;exact opField_ok T x f ho hE hA h hc
 ·rename_i T x i ho;exact opIndexAddr_ok T x i ho hE hA h hc
 ·rename_i T x i ho;exact opIndex_ok T x i ho hE hA h hc
 ·rename_i T x lo hi mx ho;obtain⟨f,h1,h2,_⟩:=fresh_some h;exact opSlice_ok T x lo hi mx _ ho hE hA h1 h2 hc
 ·rename_i x i ho;exact opExtract_ok x i ho hE hA h hc
 ·rename_i s d x ho
  split at h
  ·rename_i r hr;simp only[Option.some.injEq]at h;subst h;exact opConvert_ok s d x ho hE hA hr hc
  ·exact opConvB_ok s d x ho hE hA h hc
 ·rename_i x ho;exact opNil_ok x ho hE hA h hc
 ·rename_i T x ho;exact opIface_ok T x ho hE hA h hc
 ·rename_i T ho;obtain⟨f,h1,h2,_⟩:=fresh_some h;exact opMakeMap_ok T _ ho hA h1 h2 hc
 ·rename_i T x i ok ho;exact opLookup_ok T x i ok ho hE hA h hc
 ·rename_i T m k v ho
  split at h
  ·rename_i hd;exact opMapUpdate_ok T m k v (fun ρ=>by simp only[execOp,ho]) hd hE hW hA h hc
  ·cases h
 ·rename_i T m k v ho
  split at h
  ·rename_i hd;exact opMapUpdate_ok T m k v (fun ρ=>by simp only[execOp,ho]) hd hE hW hA h hc
  ·cases h
 ·rename_i fn first caps ho
  split at h
  ·rename_i f hf;exact opMakeFunc_ok f first caps ho hf hE hW hA h hc
  ·cases h
 ·rename_i x ho;obtain⟨f,h1,h2,_⟩:=fresh_some h;exact opPanic_ok x _ ho hE hA h2 hc
 ·rename_i cl ho
  obtain⟨ce,args,ts⟩:=cl
  split at h
  ·rename_i b hb
   simp only at hb;subst hb
   split at h
   ·rename_i b' l1 l2 x y T U h3 h4
    obtain⟨f,h1,h2,_⟩:=fresh_some h
    exact opAppend_ok x y T U _ args ts ho h3 h4 hE hA h1 h2 hc
   ·rename_i b' l1 l2 x y T U h3 h4
    exact opCopy_ok x y T U args ts ho h3 h4 hE hA h hc
   ·exact opBuiltin_ok _ args ts ho hE hW hA h hc
  ·rename_i f hf
   simp only at hf;subst hf
   obtain⟨fp',h1,h2,_⟩:=fresh_some h
   exact opCall_ok sp f (.func f) args ts [] [] _ ho rfl rfl (by simp) (by simp) hE hW hA h1 h2 hc
  ·rename_i t ht
   simp only at ht;subst ht
   obtain⟨fp',h1,h2,_⟩:=fresh_some h
   exact opCallV_ok sp t args ts _ ho hE hW hA h1 h2 hc
  ·cases h
 ·cases h
end
end Go.Sy
