/- A body that may panic, over some places: a panic tells of the first, and that the others have their shape. No conditions but those in each statement. -/
import Derived.Test.YtlaggppdgoknjaaGreatDoorSy38
import Derived.Test.YtlaggppdgoknjaaGreatDoorPq12
set_option linter.unusedVariables false
set_option linter.unusedSimpArgs false
namespace Go.Sy
open Go Go.RowKit
def anyM (m:MV):MV:=(m.1,m.2.map fun r=>r.map fun _=>C.any)
def offA (b:Bool) (l:List MV):List (Option MV):=l.map fun m=>some (if b=true then anyM m else m)
theorem offA_n (b:Bool):offA b []=[]:=rfl
theorem offA_t (z:List C) (es:List (List C)) (r:List MV):offA true ((z,es)::r)=some (z,es.map fun r=>r.map fun _=>C.any)::offA true r:=rfl
theorem offA_f (m:MV) (r:List MV):offA false (m::r)=some m::offA false r:=rfl
theorem offA_len (b:Bool) (l:List MV):(offA b l).length=l.length:=by simp[offA]
theorem offA_nm {l:List MV} {q:MV} (h:some q∈offA true l):∀r∈q.2,∀c∈r,c.names=[]:=by
 obtain⟨m,_,e⟩:=List.mem_map.1 h
 simp only[if_true,Option.some.injEq]at e
 subst e
 intro r hr c hc
 obtain⟨r',_,rfl⟩:=List.mem_map.1 hr
 obtain⟨c',_,rfl⟩:=List.mem_map.1 hc
 rfl
section
variable {P:Program}
theorem calls_toMA {f:FuncId} {fn:Func} {c:Code} (hf:P.funcs[f]?=some fn) (hb:fn.body=some c) (ms:List MV) (w:World) (M:Nat→Prop) (I:Nm) (lab:Lab) (fz:Nat→Prop) (bad:Bool) (q:MV) (l:List MV) (sp:List (Spec P (mXL M fz I ms.length bad (some q::offA true l)) w)) (g:Gh) (args:List SV) (R:SV)
  (xs:List Value) (hA:AtW (mX M fz I ms.length) w I lab fz (lkp (memH 0 ms)) w) (hlen:xs.length=args.length) (hx:∀(j:Nat) (v:SV) (x:Value),args[j]?=some v→xs[j]?=some x→SDen (hp w) fz lab I (lkp (memH 0 ms)) v x)
  (hnm:∀v∈args,∀k∈v.names,k<ms.length) (hn:args.length≤fn.ntmps) (hml:l.length+1=ms.length) (hq:∀r∈q.2,∀c∈r,c.names=[])
  (h:vc (mXL M fz I ms.length bad (some q::offA true l)) w sp fn.ntmps g c ⟨argE 0 args,memH 0 ms⟩ (retQ P (mXL M fz I ms.length bad (some q::offA true l)) fn.results.toList (RESMP bad R (some q::offA bad l)))) :
  Calls P f xs.toArray w (fun en w'=>(bad=false∧MPost w M fz I ms.length (some q::offA bad l) R en w')∨(bad=true∧∃ch,en= .panicked ch∧okCh ch∧∃I' lab' fz',AtW (mX M fz I ms.length) w I' lab' fz' (lkp (memO 0 (some q::offA bad l))) w')):=by
 refine calls_of_wp hf hb (Code.wp_mono ?_ (vc_ok sp g c _ _ h _ w ?_))
 ·rintro e a w' (⟨s,hq',hs⟩|⟨ch,rfl,hd,hch,I1,l1,f1,H1,hA1,hpn⟩)
  ·have fin:RetP P (mXL M fz I ms.length bad (some q::offA true l)) fn.results.toList (RESMP bad R (some q::offA bad l)) s→a.defers=[]∧∃v,(results fn a.tmps).run P w'= .ok v w'∧((bad=false∧MPost w M fz I ms.length (some q::offA bad l) R (Ending.returned v) w')∨(bad=true∧∃ch,Ending.returned v= .panicked ch∧okCh ch∧∃I' lab' fz',AtW (mX M fz I ms.length) w I' lab' fz' (lkp (memO 0 (some q::offA bad l))) w')):=by
    rintro ⟨cs,s',vs,h1,h2,h3,h0,h4,h5,h6⟩
    refine⟨hs.defers,?_⟩
    obtain⟨_,I',lab',fz',hA'⟩:=runCs_ent h1 a w' hs
    obtain⟨x,x1,x2⟩:=results_ok hA' h2 h3
    refine⟨x,x1,.inl ⟨h0,x,I',lab',fz',rfl,at_sub (at_ctx (X:=mXL M fz I ms.length bad (some q::offA true l)) (X':=mX M fz I ms.length) rfl rfl rfl hA'.m) h6 (fun p hp'=>?_),sd_le h4 (sd_noVw h5 x2)⟩⟩
    obtain⟨q1,q2,_⟩:=mem_memF hp'
    exact memO_keys _ _ _ q1 (by rw[List.length_cons,offA_len,hml];simpa using q2)
   cases e with
   |normal=>exact fin hq'
   |ret=>exact fin hq'
   |_=>exact hq'.elim
  ·have hbt:bad=true:=by
    cases bad with
    |true=>rfl
    |false=>exact hpn.elim
   subst hbt
   have hpa:∀k q',(some q::offA true l)[k]?=some (some q')→pn1 (H1 k) q'.1 q'.2:=fun k q' hk=>pnAll_mem (show pnAll (pnL 0 (some q::offA true l)) H1 from hpn) (by simpa using pnL_mem (some q::offA true l) 0 k q' hk)
   refine⟨hd.1,.inr ⟨rfl,ch,rfl,hch,I1,l1,f1,?_,?_,hA1.own,hA1.fzl,hA1.fzo,hA1.kept,fun p hp'=>⟨?_,(hA1.fix p hp').2⟩⟩⟩
   ·intro k ch hk2
    rw[lkp_mem0]at hk2
    simp only[Option.map_eq_some_iff]at hk2
    obtain⟨o,ho,rfl⟩:=hk2
    cases o with
    |none=>exact trivial
    |some q'=>
     have hk0:=hpa k q' ho
     cases hk:H1 k with
     |none=>rw[hk]at hk0;exact hk0.elim
     |some ch0=>
     rw[hk]at hk0
     cases ch0 with
     |dead=>exact hk0.elim
     |mp=>exact hk0.elim
     |fact=>exact hk0.elim
     |vec u z es=>
     obtain⟨hz,hw⟩:=hk0
     obtain⟨c1,c2,c3⟩:=hA1.h k _ hk
     exact⟨c1,by rw[c2,← hz],by rw[← hz];exact vec_weak c3 (wkL_weak hw)⟩
   ·intro k ch hk2 n hn'
    rw[lkp_mem0]at hk2
    simp only[Option.map_eq_some_iff]at hk2
    obtain⟨o,ho,rfl⟩:=hk2
    cases o with
    |none=>cases hn'
    |some q'=>
     obtain⟨r,hr,hn'⟩:=List.mem_flatMap.1 hn'
     obtain⟨c,hc,hn'⟩:=List.mem_flatMap.1 hn'
     rcases List.mem_cons.1 (List.mem_of_getElem? ho) with e|hm
     ·simp only[Option.some.injEq]at e
      subst e
      rw[hq r hr c hc]at hn';cases hn'
     ·rw[offA_nm hm r hr c hc]at hn';cases hn'
   ·obtain⟨q1,q2,_⟩:=mem_memF hp'
    rw[lkp_mem0]
    have hl0:(some q::offA true l).length=ms.length:=by rw[List.length_cons,offA_len,hml]
    have:p.1<(some q::offA true l).length:=by omega
    rw[List.getElem?_eq_getElem this];rfl
 ·refine⟨?_,I,lab,fz,?_,⟨rfl,fun p hp=>by cases hp⟩,?_,at_ctx (X:=mX M fz I ms.length) (X':=mXL M fz I ms.length bad (some q::offA true l)) rfl rfl rfl hA⟩
  ·intro t g v ht _ k hk
   rw[argE_lkp]at ht
   simp only[Nat.zero_le,if_true,Nat.sub_zero,Option.map_eq_some_iff,Prod.mk.injEq]at ht
   obtain⟨u,hu,rfl,rfl⟩:=ht
   have:=hnm u (List.mem_of_getElem? hu) k hk
   show (lkp (memH 0 ms) k).isSome=true
   rw[memH,lkp_mem0]
   simp[this]
  ·simp[hlen];omega
  ·intro t g v ht
   rw[argE_lkp]at ht
   simp only[Nat.zero_le,if_true,Nat.sub_zero,Option.map_eq_some_iff,Prod.mk.injEq]at ht
   obtain⟨u,hu,rfl,rfl⟩:=ht
   have hlt:t<args.length:=(List.getElem?_eq_some_iff.1 hu).1
   have hlt2:t<xs.length:=by omega
   refine⟨xs[t],?_,?_⟩
   ·rw[Array.getElem?_append_left (by simpa using hlt2)]
    simp[hlt2]
   ·simp only[if_true]
    exact hx t u _ hu (List.getElem?_eq_getElem hlt2)
end
attribute [go_sem] offA_n offA_t offA_f pnOL_t pnOL_f pnL_some pnL_none pnL_nil
end Go.Sy
