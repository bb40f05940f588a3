/- Contracts of calls that work in memory that holds a pointer to itself. No conditions but those in each statement. -/
import Derived.Test.YtbiepiggmagfcaaGreatDoorSy28
set_option linter.unusedVariables false
set_option linter.unusedSimpArgs false
open List (nil_append cons_append mem_of_getElem? getElem?_map getElem?_eq_getElem mem_singleton mem_cons_of_mem)
namespace Go.Sy
open Go Go.RowKit
def sC (k:Nat):C→C
 | .p _ x y=>.p k x y
 |c=>c
def sR (k:Nat) (es:List (List C)):List (List C):=es.map fun r=>r.map (sC k)
def sI:Nat→Nat→List (List C)→List (List C)
 |0,k,es=>sR k es
 |_+1,_,es=>es
def cOK (i:Nat) (c:C):Prop:=c.names=[]∨i=0∧∃x y,c= .p 0 x y
theorem Po {i n:Nat} {c:C} (h:cOK i c) (hn:n∈c.names):n=0∧i=0:=by
 rcases h with h|⟨h,x,y,rfl⟩
 ·rw[h]at hn;cases hn
 ·simp only[C.names,mem_singleton]at hn;exact⟨hn,h⟩
theorem GH {k:Nat} {c:C} (h:c.names=[]):sC k c=c:=by cases c<;>first|rfl|cases h
theorem lM {i k n:Nat} {es:List (List C)} (h:∀r∈es,∀c∈r,cOK i c) {r:List C} {c:C} (hr:r∈sI i k es) (hc:c∈r) (hn:n∈c.names):n=k∧i=0:=by
 cases i with
 |zero=>
  obtain⟨r0,hr0,rfl⟩:=List.mem_map.1 hr
  obtain⟨c0,hc0,rfl⟩:=List.mem_map.1 hc
  rcases h r0 hr0 c0 hc0 with h|⟨_,x,y,rfl⟩
  ·rw[GH h,h]at hn;cases hn
  ·simp only[sC,C.names,mem_singleton]at hn;exact⟨hn,rfl⟩
 |succ i=>
  rcases h r hr c hc with h|⟨h,_⟩
  ·rw[h]at hn;cases hn
  ·cases h
theorem aT {h h':Aj} {fz fz':Nat→Prop} {lab lab':Lab} {I I':Nm} (hz:∀b,fz b→fz' b∧h' b=h b) {π π':List Nat} {z:List C} {es:List (List C)} {x:Value} (r:C0 h fz lab I π z es x)
  (hl:∀b ρ,lab b=some (π++ρ)→lab' b=some (π'++ρ)∧h' b=h b) (f:C→C) (hf:∀cs∈es,∀c∈cs,c.names=[]∧f c=c∨∃k k' x y,c= .p k x y∧f c= .p k' x y∧I' k'=I k) :
  C0 h' fz' lab' I' π' z (es.map fun r=>r.map f) x:=by
 rcases r with⟨rfl,h2⟩|⟨b,off,cap,arr,T,rfl,hb,hh,hsz,hcap,hc⟩
 ·exact .inl ⟨rfl,h2⟩
 ·have h0:=hl b [] (by simpa using hb)
  refine .inr ⟨b,off,cap,arr,T,by rw[List.length_map],by simpa using h0.1,h0.2.trans hh,hsz,by simpa using hcap,fun i cs' h1=>?_⟩
  simp only[getElem?_map,Option.map_eq_some_iff]at h1
  obtain⟨cs,h1,rfl⟩:=h1
  refine⟨by simpa using (hc i cs h1).1,fun j c' h2=>?_⟩
  simp only[getElem?_map,Option.map_eq_some_iff]at h2
  obtain⟨c,h2,rfl⟩:=h2
  obtain⟨y,hy,hd⟩:=(hc i cs h1).2 j c h2
  refine⟨y,hy,?_⟩
  rcases hf cs (mem_of_getElem? h1) c (mem_of_getElem? h2) with⟨g1,g2⟩|⟨k,k',x,y,rfl,g2,g3⟩
  ·rw[g2]
   refine H8 hz hd _ ?_ (fun k hk=>by rw[g1]at hk;cases hk)
   intro b' ρ hb'
   have:=hl b' ([i,j]++ρ) (by rw[← List.append_assoc];exact hb')
   rwa [← List.append_assoc]at this
  ·rw[g2]
   cases hd
   rw[← g3]
   exact .p _ _ _ _
theorem sO {i k:Nat} {es:List (List C)} (h:∀r∈es,∀c∈r,cOK i c):((sI i k es).map fun r=>r.map (sC 0))=es:=by
 have key:∀(g:C→C),(∀r∈es,∀c∈r,g c=c)→(es.map fun r=>r.map g)=es:=by
  intro g hg
  have:∀r∈es,r.map g=r:=fun r hr=>by rw[List.map_congr_left (g:=id) (fun c hc=>hg r hr c hc)];simp
  rw[List.map_congr_left (g:=id) this];simp
 cases i with
 |zero=>
  show (List.map _ (List.map _ es))=es
  rw[List.map_map]
  have:((fun r=>List.map (sC 0) r)∘fun r=>List.map (sC k) r)=fun r:List C=>r.map (sC 0∘sC k):=by funext r;simp
  rw[this]
  refine key _ fun r hr c hc=>?_
  rcases h r hr c hc with h|⟨_,x,y,rfl⟩
  ·show sC 0 (sC k c)=c
   rw[GH h,GH h]
  ·rfl
 |succ i=>
  refine key _ fun r hr c hc=>?_
  rcases h r hr c hc with h|⟨h,_⟩
  ·exact GH h
  ·cases h
theorem yU {h h':Aj} {fz fz':Nat→Prop} {lab lab':Lab} {I I':Nm} (hz:∀b,fz b→fz' b∧h' b=h b) {π π':List Nat} {z:List C} {i k:Nat} {es:List (List C)} {x:Value} (r:C0 h fz lab I π z (sI i k es) x)
  (hl:∀b ρ,lab b=some (π++ρ)→lab' b=some (π'++ρ)∧h' b=h b) (hn:∀r∈es,∀c∈r,cOK i c) (hI:i=0→I' 0=I k):C0 h' fz' lab' I' π' z es x:=by
 have:=aT hz r hl (I':=I') (sC 0) (fun cs hcs c hc=>by
  cases i with
  |zero=>
   obtain⟨r0,hr0,rfl⟩:=List.mem_map.1 hcs
   obtain⟨c0,hc0,rfl⟩:=List.mem_map.1 hc
   rcases hn r0 hr0 c0 hc0 with h|⟨_,x,y,rfl⟩
   ·exact .inl ⟨by rw[GH h];exact h,by rw[GH h,GH h]⟩
   ·exact .inr ⟨k,0,x,y,rfl,rfl,hI rfl⟩
  |succ i=>
   rcases hn cs hcs c hc with h|⟨h,_⟩
   ·exact .inl ⟨h,GH h⟩
   ·cases h)
 rwa [sO hn]at this
theorem sP {h h':Aj} {fz fz':Nat→Prop} {lab lab':Lab} {I I':Nm} (hz:∀b,fz b→fz' b∧h' b=h b) {π π':List Nat} {z:List C} {i k:Nat} {es:List (List C)} {x:Value} (r:C0 h fz lab I π z es x)
  (hl:∀b ρ,lab b=some (π++ρ)→lab' b=some (π'++ρ)∧h' b=h b) (hn:∀r∈es,∀c∈r,cOK i c) (hI:i=0→I' k=I 0):C0 h' fz' lab' I' π' z (sI i k es) x:=by
 cases i with
 |zero=>
  refine aT hz r hl (I':=I') (sC k) fun cs hcs c hc=>?_
  rcases hn cs hcs c hc with h|⟨_,x,y,rfl⟩
  ·exact .inl ⟨h,GH h⟩
  ·exact .inr ⟨0,k,x,y,rfl,rfl,hI rfl⟩
 |succ i=>
  refine S5 hz r hl fun r hr c hc=>?_
  rcases hn r hr c hc with h|⟨h,_⟩
  ·exact h
  ·cases h
def E0 (k:Nat):List (Option MV)→List (Option MV)
 |some m::r=>some (m.1,sR k m.2)::r
 |l=>l
theorem VW (k:Nat) (l:List (Option MV)):(E0 k l).length=l.length:=by
 match l with
 |[]=>rfl
 |none::_=>rfl
 |some _::_=>rfl
theorem TY (n k:Nat) (l:List (Option MV)):BA n (E0 k l)=BA n l:=by
 match n,l with
 |_,[]=>rfl
 |_,none::_=>rfl
 |0,[some _]=>rfl
 |0,some _::_::_=>rfl
 |_+1,some _::_=>rfl
theorem TZ {k i:Nat} {l:List (Option MV)} {q:MV} (h:(E0 k l)[i]?=some (some q)):∃q0,l[i]?=some (some q0)∧q=(q0.1,sI i k q0.2):=by
 match l,i with
 |[],i=>simp[E0]at h
 |none::r,0=>simp[E0]at h
 |none::r,i+1=>exact⟨q,by simpa [E0] using h,rfl⟩
 |some m::r,0=>
  simp only[E0,List.getElem?_cons_zero,jS]at h
  exact⟨m,rfl,h.symm⟩
 |some m::r,i+1=>exact⟨q,by simpa [E0] using h,rfl⟩
def Ft (P:Program) (f:FuncId) (T:World→Prop) (Bk:Nat→Prop) {A:Type} (args:A→List SV) (mem:A→List MV) (Cd:A→Prop) (res:A→SV) (mem':A→List (Option MV)):Prop:=
 ∀(a:A) (w:World) (M:Nat→Prop) (I:Nm) (lab:Lab) (fz:Nat→Prop) (xs:List Value),T w→(∀b,Bk b→b<w.heap.size∧¬M b)→Cd a→AtW (mX M fz I (mem a).length) w I lab fz (lkp (D3 0 (mem a))) w→xs.length=(args a).length→
  (∀(j:Nat) (v:SV) (x:Value),(args a)[j]?=some v→xs[j]?=some x→AU (hp w) fz lab I (lkp (D3 0 (mem a))) v x)→Calls P f xs.toArray w (Qy w M fz I (mem a).length (mem' a) (res a))
def BB (X:Ctx) (w0:World) (T:World→Prop) (Bk:Nat→Prop):Prop:=(∀w,Kept X.M w0 w→T w)∧∀b,Bk b→b<w0.heap.size∧¬X.M b
structure ArgN (A:Type) where
 d:Hp→List SV→Option (A×List Nat)
 args:A→List SV
 mem:A→List MV
 h:∀(H:Hp) (l:List SV) (a:A) (ks:List Nat),d H l=some (a,ks)→(args a).length=l.length∧ks.length=(mem a).length∧∀(i k:Nat),ks[i]?=some k→∃u z m,H k=some (.vec u z (sI i k m.2))∧(mem a)[i]?=some m∧z.length=m.1.length∧(zT m.1=none∨zT m.1=zT z)
 ha:∀(H:Hp) (l:List SV) (a:A) (ks:List Nat) (j:Nat) (v v':SV) (x:Value) {hh:Aj} {fz:Nat→Prop} {lab lab':Lab} {I I':Nm} {H0 H':Hp},d H l=some (a,ks)→l[j]?=some v→(args a)[j]?=some v'→(∀i k,ks[i]?=some k→I' i=I k)→AU hh fz lab I H0 v x→AU hh fz lab' I' H' v' x
 n:∀a (i:Nat) m,(mem a)[i]?=some m→∀r∈m.2,∀c∈r,cOK i c
 an:∀a,∀v∈args a,∀k∈v.names,k<(mem a).length
 l:∀(H H':Hp) (v:List SV) (a:A) (ks:List Nat),d H v=some (a,ks)→(∀k∈ks,H' k=H k)→d H' v=some (a,ks)
def spN {A:Type} (o:Option (A×List Nat)) (t:Nat) (H:Hp) (Cd:A→Prop) (res:A→SV) (mem':A→List (Option MV)):Res:=
 match o with
 |some (a,ks)=>some (Cd a∧ndB ks=true,⟨S4 (nmM ks t) (res a),CY H t ks (E0 (nmM ks t 0) (mem' a))⟩,t::ks)
 |none=>none
theorem B2I {A:Type} (a:A) (ks:List Nat) (t:Nat) (H:Hp) (Cd:A→Prop) (res:A→SV) (mem':A→List (Option MV)):spN (some (a,ks)) t H Cd res mem'=some (Cd a∧ndB ks=true,⟨S4 (nmM ks t) (res a),CY H t ks (E0 (nmM ks t 0) (mem' a))⟩,t::ks):=rfl
section
variable {P:Program}
def Gd {X:Ctx} {w0:World} (f:FuncId) (call:∀(args:Array Value) (w:World),(callFunc f args).run P w= .ok (.enter f args) w) {A:Type} (T:World→Prop) (Bk:Nat→Prop) (am:ArgN A) (Cd:A→Prop) (res:A→SV) (mem':A→List (Option MV))
  (hl:∀a,Cd a→BA (am.mem a).length (mem' a)=true) (ho:∀a,Cd a→AQ (mem' a).length (res a)=true) (hn:∀a,Cd a→∀(i:Nat) q,(mem' a)[i]?=some (some q)→∀r∈q.2,∀c∈r,cOK i c) (ok:Ft P f T Bk am.args am.mem Cd res mem') (hG:BB X w0 T Bk):Spec P X w0 where
 f:=f
 call:=call
 fn t args H:=spN (am.d H args) t H Cd res mem'
 ok w I lab fz H t args xs c e fp hA ht h hc hd hlx hx:=by
  unfold spN at h
  split at h
  ·rename_i a ks ha
   simp only[jS,jP]at h
   obtain⟨rfl,rfl,rfl⟩:=h
   obtain⟨hCd,hnd⟩:=hc
   obtain⟨g1,g2,g3⟩:=am.h H args a ks ha
   have hlm:=hl a hCd
   rw[← g2]at hlm
   obtain⟨l1,l2,l3⟩:=JW hlm
   have htk:t∉ks:=by
    intro hm
    obtain⟨i,hi⟩:=List.mem_iff_getElem?.1 hm
    obtain⟨u,z,m,e1,_⟩:=g3 i t hi
    rw[ht]at e1;cases e1
   let labc:Lab:=fun b=>match lab b with
    |some (n::ρ)=>match pos ks n with|some i=>some (i::ρ)|none=>none
    |_=>none
   let Mc:Nat→Prop:=fun b=>(labc b).isSome=true
   let Ic:Nm:=fun i=>I ((ks[i]?).getD 0)
   have hlc:∀(i k:Nat),ks[i]?=some k→∀b ρ,lab b=some ([k]++ρ)→labc b=some ([i]++ρ):=by
    intro i k hk b ρ hb
    have hp':=QC hnd hk
    simp only[labc,hb,cons_append,nil_append,hp']
   have hlcs:∀b π,labc b=some π→∃(k i:Nat) (ρ:List Nat),ks[i]?=some k∧lab b=some (k::ρ)∧π=i::ρ:=by
    intro b π hb
    simp only[labc]at hb
    split at hb
    ·rename_i n ρ hlb
     split at hb
     ·rename_i i hp'
      simp only[jS]at hb
      exact⟨n,i,ρ,DX hp',hlb,hb.symm⟩
     ·cases hb
    ·cases hb
   have hMc:∀b,Mc b→∃(k i:Nat) (ρ:List Nat),ks[i]?=some k∧lab b=some (k::ρ):=by
    intro b hb
    obtain⟨π,hπ⟩:=Option.isSome_iff_exists.1 hb
    obtain⟨k,i,ρ,e1,e2,_⟩:=hlcs b π hπ
    exact⟨k,i,ρ,e1,e2⟩
   have hMn:∀b,fz b→¬Mc b:=by
    intro b hb hm
    obtain⟨k,i,ρ,_,e2⟩:=hMc b hm
    rw[(hA.fzl b hb).2]at e2;cases e2
   have hAc:AtW (mX Mc fz Ic (am.mem a).length) w Ic labc fz (lkp (D3 0 (am.mem a))) w:=by
    refine⟨fun i ch hi=>?_,fun i ch hi=>?_,fun b π hb=>?_,fun b hb=>⟨(hA.fzl b hb).1,?_⟩,fun b hb=>.inl hb,Kept.refl _ _,fun p hp'=>?_⟩
    ·rw[D3,EG]at hi
     simp only[getElem?_map,Option.map_eq_some_iff]at hi
     obtain⟨o,⟨m,hm,rfl⟩,rfl⟩:=hi
     obtain⟨k,hk⟩:∃k,ks[i]?=some k:=⟨_,getElem?_eq_getElem (by rw[g2];exact(List.getElem?_eq_some_iff.1 hm).1)⟩
     obtain⟨u,z,m',e1,e2,e3,e4⟩:=g3 i k hk
     rw[hm]at e2;simp only[jS]at e2;subst e2
     obtain⟨q1,q2,q3⟩:=hA.h k _ e1
     have hIc:Ic i=I k:=by simp only[Ic,hk,Option.getD_some]
     refine⟨by rw[hIc];exact q1,by rw[hIc,q2,e3],?_⟩
     rw[hIc]
     have hv:=yU (I':=Ic) (fun b hb=>⟨hb,rfl⟩) q3 (fun b ρ hb=>⟨hlc i k hk b ρ hb,rfl⟩) (am.n a i m hm) (fun h0=>by subst h0;exact hIc)
     rcases hv with h3|⟨b,off,cap,arr,T,h3,h4,h5,h6,h7,h8⟩
     ·exact .inl h3
     ·rw[e3]at h6 h8
      exact .inr ⟨b,off,cap,arr,T,h3,h4,h5,⟨h6.1,Ug e4 h6.2⟩,h7,h8⟩
    ·rw[D3,EG]at hi
     simp only[getElem?_map,Option.map_eq_some_iff]at hi
     obtain⟨o,⟨m,hm,rfl⟩,rfl⟩:=hi
     intro n hn'
     obtain⟨r,hr,hn'⟩:=List.mem_flatMap.1 hn'
     obtain⟨c,hc,hn'⟩:=List.mem_flatMap.1 hn'
     obtain⟨rfl,rfl⟩:=Po (am.n a i m hm r hr c hc) hn'
     show (lkp (D3 0 (am.mem a)) 0).isSome=true
     rw[D3,EG];simp[hm]
    ·obtain⟨k,i,ρ,e1,e2,e3⟩:=hlcs b π hb
     exact⟨(hA.own b _ e2).1,.inr (by show (labc b).isSome=true;rw[hb];rfl)⟩
    ·have:=(hA.fzl b hb).2
     simp only[labc,this]
    ·obtain⟨q1,q2,q3⟩:=JV hp'
     refine⟨?_,q3.symm⟩
     rw[D3,EG]
     have:p.1<(am.mem a).length:=by omega
     simp[this]
   refine(ok a w Mc Ic labc fz xs (hG.1 w hA.kept) (fun b hb=>⟨Nat.lt_of_lt_of_le (hG.2 b hb).1 hA.kept.size,fun hm=>by
    obtain⟨k,i,ρ,_,e2⟩:=hMc b hm
    rcases (hA.own b _ e2).2 with h|h
    ·have:=(hG.2 b hb).1;omega
    ·exact(hG.2 b hb).2 h⟩) hCd hAc (by rw[g1,← hlx]) ?_).mono ?_
   ·intro j v' x hj hxj
    have hjl:j<args.length:=by rw[hlx];exact(List.getElem?_eq_some_iff.1 hxj).1
    refine am.ha H args a ks j _ v' x ha (getElem?_eq_getElem hjl) hj (fun i k hk=>?_) (hx j _ x (getElem?_eq_getElem hjl) hxj)
    simp only[Ic,hk,Option.getD_some]
   ·rintro en w' ⟨x,Ic',labc',fz',rfl,hB,hv⟩
    refine⟨x,rfl,?_⟩
    let nm:Nat→Nat:=nmM ks t
    let lab':Lab:=fun b=>match labc' b with
     |some (i::ρ)=>some (nm i::ρ)
     |some []=>some []
     |none=>if (labc b).isSome=true then none else lab b
    let I':Nm:=fun n=>if n=t then Ic' ks.length else I n
    let fz2:Nat→Prop:=fun b=>fz b∨fz' b
    have hIfix:∀i,i<ks.length→Ic' i=Ic i:=by
     intro i hi
     have:=(hB.fix (i,Ic i) (S3 (by omega) (by omega))).2
     exact this
    have hInm:∀i,i<(mem' a).length→I' (nm i)=Ic' i:=by
     intro i hi
     by_cases h1:i<ks.length
     ·obtain⟨k,hk⟩:∃k,ks[i]?=some k:=⟨_,getElem?_eq_getElem h1⟩
      have e1:nm i=k:=by simp only[nm,nmM,hk,Option.getD_some]
      have e2:k≠t:=by rintro rfl;exact htk (mem_of_getElem? hk)
      rw[e1,hIfix i h1]
      simp only[I',e2,if_false,Ic,hk,Option.getD_some]
     ·have e0:i=ks.length:=by omega
      have e1:nm i=t:=by simp only[nm,nmM,List.getElem?_eq_none (Nat.le_of_not_lt h1),Option.getD_none]
      rw[e1,e0];simp[I']
    have hkB:∀b,b<w.heap.size→¬Mc b→hp w' b=hp w b:=fun b h1 h2=>hB.kept.block b h1 h2
    have hfzk:∀b,fz b→hp w' b=hp w b:=fun b hb=>hkB b (hA.fzl b hb).1 (hMn b hb)
    have hkn:∀n,pos ks n=none→∀b ρ,lab b=some ([n]++ρ)→labc b=none:=by
     intro n hp' b ρ hb
     simp only[labc,hb,cons_append,nil_append,hp']
    have hlabc':∀b π,labc' b=some π→w.heap.size≤b∨Mc b:=fun b π hb=>(hB.own b π hb).2
    have hnl:∀b,w.heap.size≤b→lab b=none:=by
     intro b hb
     cases h:lab b with
     |none=>rfl
     |some π=>have:=(hA.own b π h).1;omega
    have hlk:∀i b ρ,labc' b=some ([i]++ρ)→lab' b=some ([nm i]++ρ):=by
     intro i b ρ hb;simp only[lab',hb,cons_append,nil_append]
    have hoth:∀n,pos ks n=none→∀b ρ,lab b=some ([n]++ρ)→lab' b=some ([n]++ρ)∧hp w' b=hp w b:=by
     intro n hp' b ρ hb
     have h1:=hkn n hp' b ρ hb
     have h2:¬Mc b:=by simp only[Mc,h1];simp
     have h3:=(hA.own b _ hb).1
     refine⟨?_,hkB b h3 h2⟩
     have h4:labc' b=none:=by
      cases h:labc' b with
      |none=>rfl
      |some π=>
       rcases hlabc' b π h with h|h
       ·omega
       ·exact absurd h h2
     simp only[lab',h4,h1,Option.isSome_none,jB,if_false];exact hb
    let md:List (Option MV):=E0 (nm 0) (mem' a)
    have hlmd:BA ks.length md=true:=by rw[show md=E0 (nm 0) (mem' a) from rfl,TY];exact hlm
    have hmdl:md.length=(mem' a).length:=VW _ _
    have hget:=MA H t ks md H
    have hmem:∀i o,(mem' a)[i]?=some o→lkp (memO 0 (mem' a)) i=some (chO o):=by intro i o hi;rw[EG,hi];rfl
    have hvec:∀i q,md[i]?=some (some q)→(I' (nm i)).mp=false∧(I' (nm i)).s=q.1.length∧C0 (hp w') fz2 lab' I' [nm i] q.1 q.2 (I' (nm i)).v:=by
     intro i q hi
     obtain⟨q0,hi0,rfl⟩:=TZ hi
     obtain⟨q1,q2,q3⟩:=hB.h i _ (hmem i _ hi0)
     have hlt:=(List.getElem?_eq_some_iff.1 hi0).1
     rw[hInm i hlt]
     exact⟨q1,q2,sP (fun b hb=>⟨.inr hb,rfl⟩) q3 (fun b ρ hb=>⟨hlk i b ρ hb,rfl⟩) (hn a hCd i q0 hi0) (fun h0=>by subst h0;exact hInm 0 hlt)⟩
    have hdomI:∀n,(H n).isSome=true→I' n=I n:=by
     intro n hn'
     have:n≠t:=by rintro rfl;rw[ht]at hn';cases hn'
     simp[I',this]
    have hsomeH:∀n,(H n).isSome=true→(updH H (CY H t ks md) n).isSome=true:=by
     intro n hn'
     exact HB (l:=[n]) _ (by intro q hq;simp at hq;subst hq;exact hn') n (by simp)
    have hclosed:∀i q u,md[i]?=some (some q)→∀n∈chNames (.vec u q.1 q.2),n=nm 0∧i=0:=by
     intro i q u hq n hn'
     obtain⟨q0,hq0,rfl⟩:=TZ hq
     obtain⟨r,hr,hn'⟩:=List.mem_flatMap.1 hn'
     obtain⟨c,hc,hn'⟩:=List.mem_flatMap.1 hn'
     exact lM (hn a hCd i q0 hq0) hr hc hn'
    have hbump:∀o0 i (o:Option MV),md[i]?=some o→∀n∈chNames (bumpC o0 o),n=nm 0∧i=0:=by
     intro o0 i o ho' n hn'
     cases o with
     |none=>cases o0 with
      |none=>cases hn'
      |some c=>cases c<;>cases hn'
     |some q=>
      cases o0 with
      |none=>exact hclosed i q 0 ho' n hn'
      |some c=>cases c<;>exact hclosed i q _ ho' n hn'
    have hbumpAt:∀n o0 (o:Option MV) i,md[i]?=some o→nm i=n→Uk (hp w') fz2 lab' I' n (bumpC o0 o):=by
     intro n o0 o i hi hni
     cases o with
     |none=>cases o0 with
      |none=>trivial
      |some c=>cases c<;>trivial
     |some q=>
      have:=hvec i q hi
      rw[hni]at this
      cases o0 with
      |none=>exact this
      |some c=>cases c<;>exact this
    refine⟨I',lab',fz2,⟨fun n ch h=>?_,fun n ch h=>?_,fun b π hb=>?_,fun b hb=>?_,fun b hb=>?_,Kept.trans hA.kept hB.kept ?_,fun p hp'=>?_⟩,?_,⟨fun b hb=>⟨.inl hb,hfzk b hb⟩,hdomI,?_⟩⟩
    ·rw[hget n hnd htk hlmd]at h
     split at h
     ·rename_i i hp'
      simp only[jS]at h
      subst h
      have hk:=DX hp'
      have hlt:=(List.getElem?_eq_some_iff.1 hk).1
      obtain⟨o,ho'⟩:∃o,md[i]?=some o:=⟨_,getElem?_eq_getElem (by omega)⟩
      rw[ho',Option.getD_some]
      exact hbumpAt n _ o i ho' (by simp only[nm,nmM,hk,Option.getD_some])
     ·rename_i hp'
      have old:H n=some ch→Uk (hp w') fz2 lab' I' n ch:=fun h=>
       Np hA h (fun b hb=>⟨.inl hb,hfzk b hb⟩) hdomI (hoth n hp')
      split at h
      ·rename_i e
       split at h
       ·rename_i q hq
        simp only[jS]at h
        subst h
        have:=hvec ks.length q hq
        have e1:nm ks.length=t:=by simp[nm,nmM]
        rw[e1,← e]at this
        exact this
       ·exact old h
      ·exact old h
    ·rw[hget n hnd htk hlmd]at h
     split at h
     ·rename_i i hp'
      simp only[jS]at h
      subst h
      have hk:=DX hp'
      have hlt:=(List.getElem?_eq_some_iff.1 hk).1
      obtain⟨o,ho'⟩:∃o,md[i]?=some o:=⟨_,getElem?_eq_getElem (by omega)⟩
      rw[ho',Option.getD_some]
      intro k hk2
      obtain⟨rfl,rfl⟩:=hbump _ i o ho' k hk2
      have e1:nm 0=n:=by simp only[nm,nmM,hk,Option.getD_some]
      rw[e1]
      obtain⟨u,z,m,e2,_⟩:=g3 0 n hk
      exact hsomeH n (by rw[e2];rfl)
     ·split at h
      ·split at h
       ·rename_i q hq
        simp only[jS]at h
        subst h
        intro k hk2
        obtain⟨rfl,e0⟩:=hclosed _ q 0 hq k hk2
        have e1:nm 0=t:=by simp only[nm,nmM];rw[List.getElem?_eq_none (by omega)];rfl
        rename_i e5
        rw[e1,hget t hnd htk hlmd]
        have:pos ks t=none:=by
         cases hp2:pos ks t with
         |none=>rfl
         |some j=>exact absurd (mem_of_getElem? (DX hp2)) htk
        rw[this];simp only[if_true];rw[hq];rfl
       ·exact fun k hk=>hsomeH k (hA.wf n ch h k hk)
      ·exact fun k hk=>hsomeH k (hA.wf n ch h k hk)
    ·simp only[lab']at hb
     split at hb
     ·rename_i i ρ hlb
      refine⟨(hB.own b _ hlb).1,?_⟩
      rcases hlabc' b _ hlb with h|h
      ·exact .inl (Nat.le_trans hA.kept.size h)
      ·obtain⟨k,i,ρ,_,e2⟩:=hMc b h
       exact(hA.own b _ e2).2
     ·rename_i hlb
      refine⟨(hB.own b _ hlb).1,?_⟩
      rcases hlabc' b _ hlb with h|h
      ·exact .inl (Nat.le_trans hA.kept.size h)
      ·obtain⟨k,i,ρ,_,e2⟩:=hMc b h
       exact(hA.own b _ e2).2
     ·split at hb
      ·cases hb
      ·have:=hA.own b π hb
       exact⟨Nat.lt_of_lt_of_le this.1 hB.kept.size,this.2⟩
    ·rcases hb with hb|hb
     ·have h1:=hA.fzl b hb
      have h2:=hMn b hb
      have h3:labc' b=none:=by
       cases h:labc' b with
       |none=>rfl
       |some π=>
        rcases hlabc' b π h with h|h
        ·omega
        ·exact absurd h h2
      refine⟨Nat.lt_of_lt_of_le h1.1 hB.kept.size,?_⟩
      simp only[lab',h3]
      split
      ·rfl
      ·exact h1.2
     ·have h1:=hB.fzl b hb
      refine⟨h1.1,?_⟩
      simp only[lab',h1.2]
      split
      ·rfl
      ·rename_i hm
       rcases hB.fzo b hb with h|h|h
       ·exact(hA.fzl b h).2
       ·exact hnl b h
       ·exact absurd h hm
    ·rcases hb with hb|hb
     ·exact hA.fzo b hb
     ·rcases hB.fzo b hb with h|h|h
      ·exact hA.fzo b h
      ·exact .inr (.inl (Nat.le_trans hA.kept.size h))
      ·obtain⟨k,i,ρ,_,e2⟩:=hMc b h
       exact .inr (hA.own b _ e2).2
    ·intro b hb hm
     obtain⟨k,i,ρ,_,e2⟩:=hMc b hm
     rcases (hA.own b _ e2).2 with h|h
     ·omega
     ·exact h
    ·obtain⟨q1,q2⟩:=hA.fix p hp'
     exact⟨hsomeH p.1 q1,by rw[hdomI p.1 q1];exact q2⟩
    ·intro s hs
     simp only[jS]at hs
     subst hs
     exact j9 (n:=(mem' a).length) (fun b hb=>.inr hb) hInm (ho a hCd) hv
    ·intro n u p y hn' hv'
     obtain⟨ch,hch⟩:=Option.isSome_iff_exists.1 hn'
     cases hp':pos ks n with
     |none=>
      have hnt:n≠t:=by rintro rfl;rw[ht]at hch;cases hch
      have hsame:updH H (CY H t ks md) n=H n:=by rw[hget n hnd htk hlmd,hp'];simp[hnt]
      by_cases hdd:ch= .dead
      ·exact Ha (by rw[hsame,hch,hdd]) hv'
      ·exact Dp hA hsame (hdomI n hn') (fun b ρ hb=>(hoth n hp' b ρ hb).2) hv'
     |some i=>
      have hk:=DX hp'
      obtain⟨u0,z,m,e1,_⟩:=g3 i n hk
      have hnew:updH H (CY H t ks md) n=some (bumpC (H n) ((md[i]?).getD none)):=by rw[hget n hnd htk hlmd,hp']
      cases hq:(md[i]?).getD none with
      |none=>
       rw[hq,e1]at hnew
       exact Ha hnew hv'
      |some q=>
       rw[hq,e1]at hnew
       exact HZ hA e1 hnew (by omega) hv'
  ·cases h
 dom t args H c e fp ht hc h hd:=by
  unfold spN at h
  split at h
  ·rename_i a ks ha
   simp only[jS,jP]at h
   obtain⟨rfl,rfl,rfl⟩:=h
   obtain⟨hCd,hnd⟩:=hc
   obtain⟨g1,g2,g3⟩:=am.h H args a ks ha
   have hlm:=hl a hCd
   rw[← g2]at hlm
   obtain⟨l1,l2,l3⟩:=JW hlm
   have htk:t∉ks:=by
    intro hm
    obtain⟨i,hi⟩:=List.mem_iff_getElem?.1 hm
    obtain⟨u,z,m,e1,_⟩:=g3 i t hi
    rw[ht]at e1;cases e1
   refine⟨fun k hk=>?_,fun p hp'=>?_⟩
   ·obtain⟨i,hi,rfl⟩:=Tq (ho a hCd) hk
    have hlmd:BA ks.length (E0 (nmM ks t 0) (mem' a))=true:=by rw[TY];exact hlm
    have hmdl:(E0 (nmM ks t 0) (mem' a)).length=(mem' a).length:=VW _ _
    obtain⟨l1,l2,l3⟩:=JW hlmd
    show (updH H (CY H t ks (E0 (nmM ks t 0) (mem' a))) (nmM ks t i)).isSome=true
    rw[MA H t ks (E0 (nmM ks t 0) (mem' a)) H _ hnd htk hlmd]
    by_cases h1:i<ks.length
    ·have hk:ks[i]?=some ks[i]:=getElem?_eq_getElem h1
     have e1:nmM ks t i=ks[i]:=by simp only[nmM,hk,Option.getD_some]
     rw[e1,QC hnd hk];rfl
    ·have e0:i=ks.length:=by omega
     have e1:nmM ks t i=t:=by simp only[nmM,List.getElem?_eq_none (Nat.le_of_not_lt h1),Option.getD_none]
     have hp':pos ks t=none:=by
      cases hp':pos ks t with
      |none=>rfl
      |some j=>exact absurd (mem_of_getElem? (DX hp')) htk
     rw[e1,hp']
     simp only[if_true]
     obtain⟨q,hq⟩:=l3 _ (getElem?_eq_getElem (by omega))
     rw[getElem?_eq_getElem (by omega),hq];rfl
   ·have key:∀(ks:List Nat) (m:List (Option MV)),p∈CY H t ks m→p.1∈t::ks:=by
     intro ks
     induction ks with
     |nil=>
      intro m h
      match m,h with
      |some q::r,h=>simp only[CY,mem_singleton]at h;subst h;simp
     |cons k r ih=>
      intro m h
      match m,h with
      |o::m,h=>
       simp only[CY]at h
       rcases List.mem_cons.1 h with rfl|h
       ·simp
       ·have:=ih m h
        simp only[List.mem_cons]at this ⊢
        rcases this with h|h
        ·exact .inl h
        ·exact .inr (.inr h)
    exact key ks _ hp'
  ·cases h
 loc t args H H' c e fp h hf:=by
  unfold spN at h ⊢
  split at h
  ·rename_i a ks ha
   simp only[jS,jP]at h
   obtain⟨rfl,rfl,rfl⟩:=h
   have:=am.l H H' args a ks ha (fun k hk=>hf k (mem_cons_of_mem _ hk))
   rw[this]
   have key:∀(ks:List Nat) (m:List (Option MV)),(∀k∈ks,H' k=H k)→CY H' t ks m=CY H t ks m:=by
    intro ks
    induction ks with
    |nil=>intro m _;match m with
     |[]=>rfl
     |some q::r=>rfl
     |none::r=>rfl
    |cons k r ih=>intro m hk;match m with
     |[]=>rfl
     |o::m=>simp only[CY,hk k (List.mem_cons_self ..),ih m fun q hq=>hk q (mem_cons_of_mem _ hq)]
   simp only[key ks _ fun k hk=>hf k (mem_cons_of_mem _ hk)]
  ·cases h
theorem sQ {X:Ctx} {w0:World} {A:Type} (f call) (T Bk) (am:ArgN A) (Cd res mem' hl ho hn ok hG):(Gd (P:=P) (X:=X) (w0:=w0) f call T Bk am Cd res mem' hl ho hn ok hG).f=f:=rfl
theorem lO {X:Ctx} {w0:World} {A:Type} (f call) (T Bk) (am:ArgN A) (Cd res mem' hl ho hn ok hG) (t:Nat) (args:List SV) (H:Hp):(Gd (P:=P) (X:=X) (w0:=w0) f call T Bk am Cd res mem' hl ho hn ok hG).fn t args H=spN (am.d H args) t H Cd res mem':=rfl
end
theorem MR {w:World} {T:World→Prop} {Bk:Nat→Prop} (hk:∀w w',T w→(∀b,Bk b→hp w' b=hp w b)→T w') {M fz:Nat→Prop} {I:Nm} {n:Nat} (hT:T w) (hB:∀b,Bk b→b<w.heap.size∧¬M b):BB (mX M fz I n) w T Bk:=
 ⟨fun w' h=>hk w w' hT fun b hb=>h.block b (hB b hb).1 (hB b hb).2,hB⟩
theorem Cj {w:World} {T:World→Prop} {Bk:Nat→Prop} (hk:∀w w',T w→(∀b,Bk b→hp w' b=hp w b)→T w') (hs:∀w b,T w→Bk b→b<w.heap.size) {fz:Nat→Prop} (hT:T w):BB (clX fz) w T Bk:=
 ⟨fun w' h=>hk w w' hT fun b hb=>h.block b (hs w b hT hb) (fun h=>h),fun b hb=>⟨hs w b hT hb,fun h=>h⟩⟩
theorem BB.stays {X:Ctx} {w0:World} {T:World→Prop} {Bk:Nat→Prop} (h:BB X w0 T Bk):Ou X w0 T:=h.1
abbrev T0:World→Prop:=fun _=>True
abbrev B0:Nat→Prop:=fun _=>False
theorem BC (X:Ctx) (w0:World):BB X w0 T0 B0:=⟨fun _ _=>trivial,fun _ h=>h.elim⟩
theorem Eb {P:Program} {f:FuncId} {fn:Func} {c:Code} (n:Nat) (hf:P.funcs[f]?=some fn) (hb:fn.body=some c) (mem:List MV) (hm:mem.length=n) (w:World) (M:Nat→Prop) (I:Nm) (lab:Lab) (fz:Nat→Prop) (sp:List (Spec P (mX M fz I n) w)) (g:Gh) (args:List SV) (mem':List (Option MV)) (R:SV) (xs:List Value)
  (hA:AtW (mX M fz I mem.length) w I lab fz (lkp (D3 0 mem)) w) (hlen:xs.length=args.length) (hx:∀(j:Nat) (v:SV) (x:Value),args[j]?=some v→xs[j]?=some x→AU (hp w) fz lab I (lkp (D3 0 mem)) v x)
  (hnm:∀v∈args,∀k∈v.names,k<mem.length) (hn:args.length≤fn.ntmps) (hl:mem.length≤mem'.length)
  (h:vc (mX M fz I n) w sp fn.ntmps g c ⟨HE 0 args,D3 0 mem⟩ (Mn P (mX M fz I n) fn.results.toList (WN R mem'))):Calls P f xs.toArray w (Qy w M fz I mem.length mem' R):=by
 subst hm
 exact AJ hf hb mem w M I lab fz sp g args mem' R xs hA hlen hx hnm hn hl h
structure RowB (B:Type) where
 z:List C
 d:Nat→List C→Option B
 e:B→List C
 h:∀k r b,d k r=some b→r=(e b).map (sC k)
 n:∀b,∀c∈e b,cOK 0 c
def Rr {B:Type} (c:RowB B) (H:Hp):SV→Option (B×Nat)
 | .one (.p k 0 0)=>match H k with
  |some (.vec _ z [r])=>if z.length=c.z.length∧(zT c.z=none∨zT c.z=zT z) then (c.d k r).map fun b=>(b,k) else none
  |_=>none
 |_=>none
theorem Ue {B:Type} {c:RowB B} {H:Hp} {v:SV} {b:B} {k:Nat} (h:Rr c H v=some (b,k)):v= .one (.p k 0 0)∧∃u z,H k=some (.vec u z (sR k [c.e b]))∧z.length=c.z.length∧(zT c.z=none∨zT c.z=zT z):=by
 unfold Rr at h
 split at h
 ·rename_i k'
  split at h
  ·rename_i u z r hk
   split at h
   ·rename_i hz
    simp only[Option.map_eq_some_iff,jP]at h
    obtain⟨b',hb,rfl,rfl⟩:=h
    refine⟨rfl,u,z,?_,hz⟩
    rw[hk,c.h _ r b' hb];rfl
   ·cases h
  ·cases h
 ·cases h
def amB {A B:Type} (c:RowB A) (r:ArgM B):ArgN (A×B) where
 d|_,[]=>none
  |H,v::l=>FJ (Rr c H v) (r.d H l)
 args p:=.one (.p 0 0 0)::r.args 1 p.2
 mem p:=(c.z,[c.e p.1])::r.mem p.2
 h H l a ks h:=by
  split at h
  ·cases h
  ·rename_i v l
   unfold FJ at h
   split at h
   ·rename_i x k y g hx hy
    simp only[jS,jP]at h
    obtain⟨rfl,rfl⟩:=h
    obtain⟨g1,g2,g3⟩:=r.h H l y g hy
    obtain⟨_,u,z,e1,e2,e3⟩:=Ue hx
    refine⟨by simp[g1],by simp[g2],fun i k' hk=>?_⟩
    cases i with
    |zero=>simp only[List.getElem?_cons_zero,jS]at hk;subst hk;exact⟨u,z,(c.z,[c.e x]),e1,rfl,e2,e3⟩
    |succ i=>
     obtain⟨u,z,m,q1,q2,q3⟩:=g3 i k' (by simpa using hk)
     exact⟨u,z,m,q1,by simpa using q2,q3,.inl (r.tz y m (mem_of_getElem? q2))⟩
   ·cases h
 ha H l a ks j v v' x hh fz lab lab' I I' H0 H' h g1 g2 g3 g4:=by
  split at h
  ·cases h
  ·rename_i u l
   unfold FJ at h
   split at h
   ·rename_i x0 k y g hx hy
    simp only[jS,jP]at h
    obtain⟨rfl,rfl⟩:=h
    cases j with
    |zero=>
     simp only[List.getElem?_cons_zero,jS]at g1 g2
     subst g1;subst g2
     rw[(Ue hx).1]at g4
     exact mF (g3 0 k rfl) g4
    |succ j=>
     refine r.ha H l y g 1 j v v' x hy (by simpa using g1) (by simpa using g2) (fun i k' hk=>?_) g4
     have:=g3 (i+1) k' (by simpa using hk)
     rw[← this];congr 1;omega
   ·cases h
 n a i m hm:=by
  cases i with
  |zero=>simp only[List.getElem?_cons_zero,jS]at hm;subst hm;intro r hr;simp only[mem_singleton]at hr;subst hr;exact c.n _
  |succ i=>exact fun r0 hr c0 hc=>.inl (r.n a.2 m (mem_of_getElem? (by simpa using hm)) r0 hr c0 hc)
 an a v hv k hk:=by
  rcases List.mem_cons.1 hv with e|e
  ·subst e;simp only[SV.names,C.names,mem_singleton]at hk;subst hk;simp
  ·have:=r.an 1 a.2 v e k hk
   simp only[List.length_cons];omega
 l H H' v a ks h hf:=by
  split at h
  ·cases h
  ·rename_i v0 l0
   unfold FJ at h
   split at h
   ·rename_i x k y g hx hy
    simp only[jS,jP]at h
    obtain⟨rfl,rfl⟩:=h
    have h1:Rr c H' v0=some (x,k):=by
     obtain⟨rfl,u,z,e1,e2,e3⟩:=Ue hx
     unfold Rr at hx ⊢
     simp only[hf k (List.mem_cons_self ..)]
     exact hx
    simp only[h1,r.l _ _ _ _ _ hy (fun q hq=>hf q (mem_cons_of_mem _ hq)),FJ]
   ·cases h
theorem A43 {A B:Type} (c:RowB A) (r:ArgM B) (H:Hp) (v:SV) (l:List SV):(amB c r).d H (v::l)=FJ (Rr c H v) (r.d H l):=rfl
theorem Kf {A B:Type} (c:RowB A) (r:ArgM B) (x:A) (y:B):(amB c r).args (x,y)= .one (.p 0 0 0)::r.args 1 y:=rfl
theorem Kg {A B:Type} (c:RowB A) (r:ArgM B) (x:A) (y:B):(amB c r).mem (x,y)=(c.z,[c.e x])::r.mem y:=rfl
end Go.Sy
