/- A body that may panic, over some places: a panic tells of the first alone. No conditions but those in each statement. -/
import Derived.Test.YtjnnmindcbgjhabPg1
import Derived.Test.YtjnnmindcbgjhabSy35
set_option linter.unusedVariables false
set_option linter.unusedSimpArgs false
namespace Go.Sy
open Go Go.RowKit
def offM:Bool→List MV→List (Option MV)
 |_,[]=>[]
 |b,m::r=>(if b=true then none else some m)::offM b r
theorem offM_n (b:Bool):offM b []=[]:=rfl
theorem offM_t (m:MV) (r:List MV):offM true (m::r)=none::offM true r:=rfl
theorem offM_f (m:MV) (r:List MV):offM false (m::r)=some m::offM false r:=rfl
section
variable {P:Program}
end
attribute [go_sem] offM_n offM_t offM_f
end Go.Sy
namespace Go.Sy
open Go Go.RowKit
def pnL:Nat→List (Option MV)→List (Nat×List C×List (List C))
 |_,[]=>[]
 |i,none::r=>pnL (i+1) r
 |i,some q::r=>(i,q)::pnL (i+1) r
theorem pnL_nil (i:Nat):pnL i []=[]:=rfl
theorem pnL_none (i:Nat) (r:List (Option MV)):pnL i (none::r)=pnL (i+1) r:=rfl
theorem pnL_some (i:Nat) (q:MV) (r:List (Option MV)):pnL i (some q::r)=(i,q)::pnL (i+1) r:=rfl
theorem pnL_mem:∀(l:List (Option MV)) (i k:Nat) (q:MV),l[k]?=some (some q)→(i+k,q)∈pnL i l
 |[],i,k,q,h=>by simp at h
 |o::r,i,0,q,h=>by
  simp only[List.getElem?_cons_zero,Option.some.injEq]at h
  subst h
  simp[pnL]
 |o::r,i,k+1,q,h=>by
  have h1:=pnL_mem r (i+1) k q (by simpa using h)
  have e:i+1+k=i+(k+1):=by omega
  rw[e]at h1
  cases o with
  |none=>exact h1
  |some q'=>exact List.mem_cons_of_mem _ h1
theorem pnAll_mem:∀{l:List (Nat×List C×List (List C))} {H:Hp} {k:Nat} {q:MV},pnAll l H→(k,q)∈l→pn1 (H k) q.1 q.2
 |[],_,_,_,_,h=>by cases h
 |(k0,z,es)::r,H,k,q,hp,h=>by
  obtain⟨h1,h2⟩:=hp
  rcases List.mem_cons.1 h with e|h
  ·simp only[Prod.mk.injEq]at e
   obtain⟨rfl,rfl⟩:=e
   exact h1
  ·exact pnAll_mem h2 h
def pnOL (b:Bool) (l:List (Option MV)):Option (List (Nat×List C×List (List C))):=if b=true then some (pnL 0 l) else none
theorem pnOL_t (l:List (Option MV)):pnOL true l=some (pnL 0 l):=rfl
theorem pnOL_f (l:List (Option MV)):pnOL false l=none:=rfl
def mlO (l:List (Option MV)):List (Option ML):=l.map fun o=>o.map fun q=>.vec q.1 q.2
theorem mlO_get (l:List (Option MV)) (k:Nat):(mlO l)[k]?=(l[k]?).map fun o=>o.map fun q=>ML.vec q.1 q.2:=by simp[mlO]
theorem mlO_nil:mlO []=[]:=rfl
theorem mlO_none (r:List (Option MV)):mlO (none::r)=none::mlO r:=rfl
theorem mlO_some (q:MV) (r:List (Option MV)):mlO (some q::r)=some (.vec q.1 q.2)::mlO r:=rfl
abbrev mXL (M fz:Nat→Prop) (I:Nm) (n:Nat) (b:Bool) (pa:List (Option MV)):Ctx:=⟨M,fz,memF I 0 n,pnOL b pa,[],[]⟩
def RESLL (r:SV) (m':List (Option ML)):St→List SV→Prop:=fun s vs=>leV (resV vs) r∧noVw (resV vs)=true∧∀p∈lmO 0 m',optCh (lkp s.h p.1) p.2∧domB (lmO 0 m') (chNames p.2)
def RESLP (b:Bool) (r:SV) (m':List (Option ML)):St→List SV→Prop:=fun s vs=>b=false∧RESLL r m' s vs
theorem e_RESLP (b:Bool) (r:SV) (m':List (Option ML)) (s:St) (vs:List SV):RESLP b r m' s vs=(b=false∧leV (resV vs) r∧noVw (resV vs)=true∧∀p∈lmO 0 m',optCh (lkp s.h p.1) p.2∧domB (lmO 0 m') (chNames p.2)):=rfl
def RESLQ (b:Bool) (k:Nat) (p:List (Nat×Nat)) (s m o:Nat) (m':List (Option ML)):St→List SV→Prop:=fun t vs=>
 b=false∧(∃u z es,resV vs= .one (.q k u p s m o)∧lkp t.h k=some (.vec u z es)∧m'[k]?=some (some (.vec z es)))∧∀p∈lmO 0 m',optCh (lkp t.h p.1) p.2∧domB (lmO 0 m') (chNames p.2)
theorem sd_qv {h:Heap} {fz:Nat→Prop} {lab:Lab} {I:Nm} {H H':Hp} {k u u':Nat} {z:List C} {es:List (List C)} {p:List (Nat×Nat)} {s m o:Nat} {x:Value} (h1:H k=some (.vec u z es)) (h2:H' k=some (.vec u' z es))
  (r:SDen h fz lab I H (.one (.q k u p s m o)) x):SDen h fz lab I H' (.one (.q k u' p s m o)) x:=by
 obtain⟨y,⟨y1,y2⟩,rfl⟩:=r
 refine⟨y,⟨y1,fun v z' es' hk=>?_⟩,rfl⟩
 rw[h2]at hk
 simp only[Option.some.injEq,Ch.vec.injEq]at hk
 obtain⟨rfl,rfl,rfl⟩:=hk
 exact⟨Nat.le_refl _,fun _ hp=>(y2 u z es h1).2 rfl hp⟩
section
variable {P:Program}
theorem calls_toLG {f:FuncId} {fn:Func} {c:Code} (hf:P.funcs[f]?=some fn) (hb:fn.body=some c) (ms:List ML) (w:World) (M:Nat→Prop) (I:Nm) (lab:Lab) (fz:Nat→Prop) (bad:Bool) (pa:List (Option MV)) (m':List (Option ML)) (sp:List (Spec P (mXL M fz I ms.length bad pa) w)) (g:Gh) (args:List SV) (R:SV) (RS:St→List SV→Prop)
  (hRS:∀s vs,RS s vs→bad=false∧(∀p∈lmO 0 m',optCh (lkp s.h p.1) p.2∧domB (lmO 0 m') (chNames p.2))∧∀(h:Heap) (fz:Nat→Prop) (lab:Lab) (I:Nm) (x:Value),SDen h fz lab I (lkp s.h) (resV vs) x→SDen h fz lab I (lkp (lmO 0 m')) R x)
  (xs:List Value) (hA:AtW (mX M fz I ms.length) w I lab fz (lkp (lmH 0 ms)) w) (hlen:xs.length=args.length) (hx:∀(j:Nat) (v:SV) (x:Value),args[j]?=some v→xs[j]?=some x→SDen (hp w) fz lab I (lkp (lmH 0 ms)) v x)
  (hnm:∀v∈args,∀k∈v.names,k<ms.length) (hn:args.length≤fn.ntmps) (hml:ms.length≤m'.length) (hpl:pa.length=ms.length) (hq:∀q,some q∈pa→∀r∈q.2,∀c∈r,c.names=[])
  (h:vc (mXL M fz I ms.length bad pa) w sp fn.ntmps g c ⟨argE 0 args,lmH 0 ms⟩ (retQ P (mXL M fz I ms.length bad pa) fn.results.toList RS)) :
  Calls P f xs.toArray w (fun en w'=>(bad=false∧LPost w M fz I ms.length m' R en w')∨(bad=true∧LPan w M fz I ms.length (mlO pa) en w')):=by
 refine calls_of_wp hf hb (Code.wp_mono ?_ (vc_ok sp g c _ _ h _ w ?_))
 ·rintro e a w' (⟨s,hq',hs⟩|⟨ch,rfl,hd,hch,I1,l1,f1,H1,hA1,hpn⟩)
  ·have fin:RetP P (mXL M fz I ms.length bad pa) fn.results.toList RS s→a.defers=[]∧∃v,(results fn a.tmps).run P w'= .ok v w'∧((bad=false∧LPost w M fz I ms.length m' R (Ending.returned v) w')∨(bad=true∧LPan w M fz I ms.length (mlO pa) (Ending.returned v) w')):=by
    rintro ⟨cs,s',vs,h1,h2,h3,h4⟩
    obtain⟨h0,h6,h5⟩:=hRS s' vs h4
    refine⟨hs.defers,?_⟩
    obtain⟨_,I',lab',fz',hA'⟩:=runCs_ent h1 a w' hs
    obtain⟨x,x1,x2⟩:=results_ok hA' h2 h3
    refine⟨x,x1,.inl ⟨h0,x,I',lab',fz',rfl,at_sub (at_ctx (X:=mXL M fz I ms.length bad pa) (X':=mX M fz I ms.length) rfl rfl rfl hA'.m) h6 (fun p hp'=>?_),h5 _ _ _ _ _ x2⟩⟩
    obtain⟨q1,q2,_⟩:=mem_memF hp'
    exact lmO_keys _ _ _ q1 (by omega)
   cases e with
   |normal=>exact fin hq'
   |ret=>exact fin hq'
   |_=>exact hq'.elim
  ·have hbt:bad=true:=by
    cases bad with
    |true=>rfl
    |false=>exact hpn.elim
   subst hbt
   have hpa:∀k q,pa[k]?=some (some q)→pn1 (H1 k) q.1 q.2:=fun k q hk=>pnAll_mem (show pnAll (pnL 0 pa) H1 from hpn) (by simpa using pnL_mem pa 0 k q hk)
   refine⟨hd.1,.inr ⟨rfl,ch,rfl,hch,I1,l1,f1,?_,?_,hA1.own,hA1.fzl,hA1.fzo,hA1.kept,fun p hp'=>⟨?_,(hA1.fix p hp').2⟩⟩⟩
   ·intro k ch hk2
    rw[lkp_lm0,mlO_get]at hk2
    simp only[Option.map_eq_some_iff]at hk2
    obtain⟨o,⟨o',ho,rfl⟩,rfl⟩:=hk2
    cases o' with
    |none=>exact trivial
    |some q=>
     have hk0:=hpa k q ho
     cases hk:H1 k with
     |none=>rw[hk]at hk0;exact hk0.elim
     |some ch0=>
     rw[hk]at hk0
     cases ch0 with
     |dead=>exact hk0.elim
     |mp=>exact hk0.elim
     |fact=>exact hk0.elim
     |vec u z es=>
     obtain⟨hz,hw⟩:=hk0
     obtain⟨c1,c2,c3⟩:=hA1.h k _ hk
     exact⟨c1,by rw[c2,← hz],by rw[← hz];exact vec_weak c3 (wkL_weak hw)⟩
   ·intro k ch hk2 n hn'
    rw[lkp_lm0,mlO_get]at hk2
    simp only[Option.map_eq_some_iff]at hk2
    obtain⟨o,⟨o',ho,rfl⟩,rfl⟩:=hk2
    cases o' with
    |none=>cases hn'
    |some q=>
     obtain⟨r,hr,hn'⟩:=List.mem_flatMap.1 hn'
     obtain⟨c,hc,hn'⟩:=List.mem_flatMap.1 hn'
     rw[hq q (List.mem_of_getElem? ho) r hr c hc]at hn';cases hn'
   ·obtain⟨q1,q2,_⟩:=mem_memF hp'
    rw[lkp_lm0,mlO_get]
    have:p.1<pa.length:=by omega
    rw[List.getElem?_eq_getElem this];rfl
 ·refine⟨?_,I,lab,fz,?_,⟨rfl,fun p hp=>by cases hp⟩,?_,at_ctx (X:=mX M fz I ms.length) (X':=mXL M fz I ms.length bad pa) rfl rfl rfl hA⟩
  ·intro t g v ht _ k hk
   rw[argE_lkp]at ht
   simp only[Nat.zero_le,if_true,Nat.sub_zero,Option.map_eq_some_iff,Prod.mk.injEq]at ht
   obtain⟨u,hu,rfl,rfl⟩:=ht
   have:=hnm u (List.mem_of_getElem? hu) k hk
   show (lkp (lmH 0 ms) k).isSome=true
   rw[lmH,lkp_lm0]
   simp[this]
  ·simp[hlen];omega
  ·intro t g v ht
   rw[argE_lkp]at ht
   simp only[Nat.zero_le,if_true,Nat.sub_zero,Option.map_eq_some_iff,Prod.mk.injEq]at ht
   obtain⟨u,hu,rfl,rfl⟩:=ht
   have hlt:t<args.length:=(List.getElem?_eq_some_iff.1 hu).1
   have hlt2:t<xs.length:=by omega
   refine⟨xs[t],?_,?_⟩
   ·rw[Array.getElem?_append_left (by simpa using hlt2)]
    simp[hlt2]
   ·simp only[if_true]
    exact hx t u _ hu (List.getElem?_eq_getElem hlt2)
theorem calls_toLM {f:FuncId} {fn:Func} {c:Code} (hf:P.funcs[f]?=some fn) (hb:fn.body=some c) (ms:List ML) (w:World) (M:Nat→Prop) (I:Nm) (lab:Lab) (fz:Nat→Prop) (bad:Bool) (pa:List (Option MV)) (m':List (Option ML)) (sp:List (Spec P (mXL M fz I ms.length bad pa) w)) (g:Gh) (args:List SV) (R:SV)
  (xs:List Value) (hA:AtW (mX M fz I ms.length) w I lab fz (lkp (lmH 0 ms)) w) (hlen:xs.length=args.length) (hx:∀(j:Nat) (v:SV) (x:Value),args[j]?=some v→xs[j]?=some x→SDen (hp w) fz lab I (lkp (lmH 0 ms)) v x)
  (hnm:∀v∈args,∀k∈v.names,k<ms.length) (hn:args.length≤fn.ntmps) (hml:ms.length≤m'.length) (hpl:pa.length=ms.length) (hq:∀q,some q∈pa→∀r∈q.2,∀c∈r,c.names=[])
  (h:vc (mXL M fz I ms.length bad pa) w sp fn.ntmps g c ⟨argE 0 args,lmH 0 ms⟩ (retQ P (mXL M fz I ms.length bad pa) fn.results.toList (RESLP bad R m'))) :
  Calls P f xs.toArray w (fun en w'=>(bad=false∧LPost w M fz I ms.length m' R en w')∨(bad=true∧LPan w M fz I ms.length (mlO pa) en w')):=
 calls_toLG hf hb ms w M I lab fz bad pa m' sp g args R _ (fun s vs h=>⟨h.1,h.2.2.2,fun _ _ _ _ _ r=>sd_le h.2.1 (sd_noVw h.2.2.1 r)⟩) xs hA hlen hx hnm hn hml hpl hq h
theorem calls_toLQ {f:FuncId} {fn:Func} {c:Code} (hf:P.funcs[f]?=some fn) (hb:fn.body=some c) (ms:List ML) (w:World) (M:Nat→Prop) (I:Nm) (lab:Lab) (fz:Nat→Prop) (bad:Bool) (pa:List (Option MV)) (m':List (Option ML)) (sp:List (Spec P (mXL M fz I ms.length bad pa) w)) (g:Gh) (args:List SV) (k:Nat) (p:List (Nat×Nat)) (so mo oo:Nat)
  (xs:List Value) (hA:AtW (mX M fz I ms.length) w I lab fz (lkp (lmH 0 ms)) w) (hlen:xs.length=args.length) (hx:∀(j:Nat) (v:SV) (x:Value),args[j]?=some v→xs[j]?=some x→SDen (hp w) fz lab I (lkp (lmH 0 ms)) v x)
  (hnm:∀v∈args,∀k∈v.names,k<ms.length) (hn:args.length≤fn.ntmps) (hml:ms.length≤m'.length) (hpl:pa.length=ms.length) (hq:∀q,some q∈pa→∀r∈q.2,∀c∈r,c.names=[])
  (h:vc (mXL M fz I ms.length bad pa) w sp fn.ntmps g c ⟨argE 0 args,lmH 0 ms⟩ (retQ P (mXL M fz I ms.length bad pa) fn.results.toList (RESLQ bad k p so mo oo m'))) :
  Calls P f xs.toArray w (fun en w'=>(bad=false∧LPost w M fz I ms.length m' (.one (.q k 0 p so mo oo)) en w')∨(bad=true∧LPan w M fz I ms.length (mlO pa) en w')):=
 calls_toLG hf hb ms w M I lab fz bad pa m' sp g args _ _ (fun t vs hh=>by
  obtain⟨h0,⟨u,z,es,h4,h5,h7⟩,h6⟩:=hh
  refine⟨h0,h6,fun _ _ _ _ _ r=>?_⟩
  rw[h4]at r
  exact sd_qv h5 (by rw[lkp_lm0,h7];rfl) r) xs hA hlen hx hnm hn hml hpl hq h
end
end Go.Sy
