/- A body that may panic, over some places: a panic tells of the first alone. No conditions but those in each statement. -/
import Derived.Test.YtlaggppdgoknjaaGreatDoorSy33
set_option linter.unusedVariables false
set_option linter.unusedSimpArgs false
namespace Go.Sy
open Go Go.RowKit
def offM:Bool→List MV→List (Option MV)
 |_,[]=>[]
 |b,m::r=>(if b=true then none else some m)::offM b r
theorem offM_n (b:Bool):offM b []=[]:=rfl
theorem offM_t (m:MV) (r:List MV):offM true (m::r)=none::offM true r:=rfl
theorem offM_f (m:MV) (r:List MV):offM false (m::r)=some m::offM false r:=rfl
theorem offM_get:∀(l:List MV) (k:Nat) (o:Option MV),(offM true l)[k]?=some o→o=none
 |[],k,o,h=>by simp[offM]at h
 |m::r,0,o,h=>by simp only[offM_t,List.getElem?_cons_zero,Option.some.injEq]at h;exact h.symm
 |m::r,k+1,o,h=>offM_get r k o (by simpa only[offM_t,List.getElem?_cons_succ] using h)
theorem offM_bad (b:Bool) (q:MV) (l:List MV):b=true→∀k o,(some q::offM b l)[k+1]?=some o→o=none:=by
 intro h k o ho
 subst h
 exact offM_get l k o (by simpa only[List.getElem?_cons_succ] using ho)
section
variable {P:Program}
theorem calls_toMN {f:FuncId} {fn:Func} {c:Code} (hf:P.funcs[f]?=some fn) (hb:fn.body=some c) (ms:List MV) (w:World) (M:Nat→Prop) (I:Nm) (lab:Lab) (fz:Nat→Prop) (bad:Bool) (q:MV) (m':List (Option MV)) (sp:List (Spec P (mXP M fz I ms.length bad q) w)) (g:Gh) (args:List SV) (R:SV)
  (xs:List Value) (hA:AtW (mX M fz I ms.length) w I lab fz (lkp (memH 0 ms)) w) (hlen:xs.length=args.length) (hx:∀(j:Nat) (v:SV) (x:Value),args[j]?=some v→xs[j]?=some x→SDen (hp w) fz lab I (lkp (memH 0 ms)) v x)
  (hnm:∀v∈args,∀k∈v.names,k<ms.length) (hn:args.length≤fn.ntmps) (h00:m'[0]?=some (some q)) (hml:m'.length=ms.length) (hbd:bad=true→∀k o,m'[k+1]?=some o→o=none) (hq:∀r∈q.2,∀c∈r,c.names=[])
  (h:vc (mXP M fz I ms.length bad q) w sp fn.ntmps g c ⟨argE 0 args,memH 0 ms⟩ (retQ P (mXP M fz I ms.length bad q) fn.results.toList (RESMP bad R m'))) :
  Calls P f xs.toArray w (fun en w'=>(bad=false∧MPost w M fz I ms.length m' R en w')∨(bad=true∧∃ch,en= .panicked ch∧okCh ch∧∃I' lab' fz',AtW (mX M fz I ms.length) w I' lab' fz' (lkp (memO 0 m')) w')):=by
 refine calls_of_wp hf hb (Code.wp_mono ?_ (vc_ok sp g c _ _ h _ w ?_))
 ·rintro e a w' (⟨s,hq',hs⟩|⟨ch,rfl,hd,hch,I1,l1,f1,H1,hA1,hpn⟩)
  ·have fin:RetP P (mXP M fz I ms.length bad q) fn.results.toList (RESMP bad R m') s→a.defers=[]∧∃v,(results fn a.tmps).run P w'= .ok v w'∧((bad=false∧MPost w M fz I ms.length m' R (Ending.returned v) w')∨(bad=true∧∃ch,Ending.returned v= .panicked ch∧okCh ch∧∃I' lab' fz',AtW (mX M fz I ms.length) w I' lab' fz' (lkp (memO 0 m')) w')):=by
    rintro ⟨cs,s',vs,h1,h2,h3,h0,h4,h5,h6⟩
    refine⟨hs.defers,?_⟩
    obtain⟨_,I',lab',fz',hA'⟩:=runCs_ent h1 a w' hs
    obtain⟨x,x1,x2⟩:=results_ok hA' h2 h3
    refine⟨x,x1,.inl ⟨h0,x,I',lab',fz',rfl,at_sub (at_ctx (X:=mXP M fz I ms.length bad q) (X':=mX M fz I ms.length) rfl rfl rfl hA'.m) h6 (fun p hp'=>?_),sd_le h4 (sd_noVw h5 x2)⟩⟩
    obtain⟨q1,q2,_⟩:=mem_memF hp'
    exact memO_keys _ _ _ q1 (by rw[hml];simpa using q2)
   cases e with
   |normal=>exact fin hq'
   |ret=>exact fin hq'
   |_=>exact hq'.elim
  ·have hbt:bad=true:=by
    cases bad with
    |true=>rfl
    |false=>exact hpn.elim
   subst hbt
   obtain⟨hk0,_⟩:=(show pnAll [(0,q)] H1 from hpn)
   cases hk:H1 0 with
   |none=>rw[hk]at hk0;exact hk0.elim
   |some ch0=>
   rw[hk]at hk0
   cases ch0 with
   |dead=>exact hk0.elim
   |mp=>exact hk0.elim
   |fact=>exact hk0.elim
   |vec u z es=>
   obtain⟨hz,hw⟩:=hk0
   have hc0:=hA1.h 0 _ hk
   refine⟨hd.1,.inr ⟨rfl,ch,rfl,hch,I1,l1,f1,?_,?_,hA1.own,hA1.fzl,hA1.fzo,hA1.kept,fun p hp'=>⟨?_,(hA1.fix p hp').2⟩⟩⟩
   ·intro k ch hk2
    rw[lkp_mem0]at hk2
    match k,hk2 with
    |0,hk2=>
     rw[h00]at hk2;simp only[Option.map_some,chO,Option.some.injEq]at hk2
     subst hk2
     obtain⟨c1,c2,c3⟩:=hc0
     exact⟨c1,by rw[c2,← hz],by rw[← hz];exact vec_weak c3 (wkL_weak hw)⟩
    |k+1,hk2=>
     simp only[Option.map_eq_some_iff]at hk2
     obtain⟨o,ho,rfl⟩:=hk2
     rw[hbd rfl k o ho];exact trivial
   ·intro k ch hk2 n hn'
    rw[lkp_mem0]at hk2
    match k,hk2 with
    |0,hk2=>
     rw[h00]at hk2;simp only[Option.map_some,chO,Option.some.injEq]at hk2
     subst hk2
     obtain⟨r,hr,hn'⟩:=List.mem_flatMap.1 hn'
     obtain⟨c,hc,hn'⟩:=List.mem_flatMap.1 hn'
     rw[hq r hr c hc]at hn';cases hn'
    |k+1,hk2=>
     simp only[Option.map_eq_some_iff]at hk2
     obtain⟨o,ho,rfl⟩:=hk2
     rw[hbd rfl k o ho]at hn';cases hn'
   ·obtain⟨q1,q2,_⟩:=mem_memF hp'
    rw[lkp_mem0]
    have:p.1<m'.length:=by omega
    rw[List.getElem?_eq_getElem this];rfl
 ·refine⟨?_,I,lab,fz,?_,⟨rfl,fun p hp=>by cases hp⟩,?_,at_ctx (X:=mX M fz I ms.length) (X':=mXP M fz I ms.length bad q) rfl rfl rfl hA⟩
  ·intro t g v ht _ k hk
   rw[argE_lkp]at ht
   simp only[Nat.zero_le,if_true,Nat.sub_zero,Option.map_eq_some_iff,Prod.mk.injEq]at ht
   obtain⟨u,hu,rfl,rfl⟩:=ht
   have:=hnm u (List.mem_of_getElem? hu) k hk
   show (lkp (memH 0 ms) k).isSome=true
   rw[memH,lkp_mem0]
   simp[this]
  ·simp[hlen];omega
  ·intro t g v ht
   rw[argE_lkp]at ht
   simp only[Nat.zero_le,if_true,Nat.sub_zero,Option.map_eq_some_iff,Prod.mk.injEq]at ht
   obtain⟨u,hu,rfl,rfl⟩:=ht
   have hlt:t<args.length:=(List.getElem?_eq_some_iff.1 hu).1
   have hlt2:t<xs.length:=by omega
   refine⟨xs[t],?_,?_⟩
   ·rw[Array.getElem?_append_left (by simpa using hlt2)]
    simp[hlt2]
   ·simp only[if_true]
    exact hx t u _ hu (List.getElem?_eq_getElem hlt2)
theorem calls_triMN {f:FuncId} {fn:Func} {c:Code} (hf:P.funcs[f]?=some fn) (hb:fn.body=some c) (ms:List MV) (w:World) (M:Nat→Prop) (I:Nm) (lab:Lab) (fz:Nat→Prop) (bad:Bool) (q:MV) (m':List (Option MV)) (args:List SV) (R:SV)
  (xs:List Value) (hA:AtW (mX M fz I ms.length) w I lab fz (lkp (memH 0 ms)) w) (hlen:xs.length=args.length) (hx:∀(j:Nat) (v:SV) (x:Value),args[j]?=some v→xs[j]?=some x→SDen (hp w) fz lab I (lkp (memH 0 ms)) v x)
  (hnm:∀v∈args,∀k∈v.names,k<ms.length) (hn:args.length≤fn.ntmps) (h00:m'[0]?=some (some q)) (hml:m'.length=ms.length) (hbd:bad=true→∀k o,m'[k+1]?=some o→o=none) (hq:∀r∈q.2,∀c∈r,c.names=[])
  (h:Tri (P:=P) (mXP M fz I ms.length bad q) w fn.ntmps c ⟨argE 0 args,memH 0 ms⟩ (retQ P (mXP M fz I ms.length bad q) fn.results.toList (RESMP bad R m'))) :
  Calls P f xs.toArray w (fun en w'=>(bad=false∧MPost w M fz I ms.length m' R en w')∨(bad=true∧∃ch,en= .panicked ch∧okCh ch∧∃I' lab' fz',AtW (mX M fz I ms.length) w I' lab' fz' (lkp (memO 0 m')) w')):=by
 refine calls_of_wp hf hb (Code.wp_mono ?_ (h _ w ?_))
 ·rintro e a w' (⟨s,hq',hs⟩|⟨ch,rfl,hd,hch,I1,l1,f1,H1,hA1,hpn⟩)
  ·have fin:RetP P (mXP M fz I ms.length bad q) fn.results.toList (RESMP bad R m') s→a.defers=[]∧∃v,(results fn a.tmps).run P w'= .ok v w'∧((bad=false∧MPost w M fz I ms.length m' R (Ending.returned v) w')∨(bad=true∧∃ch,Ending.returned v= .panicked ch∧okCh ch∧∃I' lab' fz',AtW (mX M fz I ms.length) w I' lab' fz' (lkp (memO 0 m')) w')):=by
    rintro ⟨cs,s',vs,h1,h2,h3,h0,h4,h5,h6⟩
    refine⟨hs.defers,?_⟩
    obtain⟨_,I',lab',fz',hA'⟩:=runCs_ent h1 a w' hs
    obtain⟨x,x1,x2⟩:=results_ok hA' h2 h3
    refine⟨x,x1,.inl ⟨h0,x,I',lab',fz',rfl,at_sub (at_ctx (X:=mXP M fz I ms.length bad q) (X':=mX M fz I ms.length) rfl rfl rfl hA'.m) h6 (fun p hp'=>?_),sd_le h4 (sd_noVw h5 x2)⟩⟩
    obtain⟨q1,q2,_⟩:=mem_memF hp'
    exact memO_keys _ _ _ q1 (by rw[hml];simpa using q2)
   cases e with
   |normal=>exact fin hq'
   |ret=>exact fin hq'
   |_=>exact hq'.elim
  ·have hbt:bad=true:=by
    cases bad with
    |true=>rfl
    |false=>exact hpn.elim
   subst hbt
   obtain⟨hk0,_⟩:=(show pnAll [(0,q)] H1 from hpn)
   cases hk:H1 0 with
   |none=>rw[hk]at hk0;exact hk0.elim
   |some ch0=>
   rw[hk]at hk0
   cases ch0 with
   |dead=>exact hk0.elim
   |mp=>exact hk0.elim
   |fact=>exact hk0.elim
   |vec u z es=>
   obtain⟨hz,hw⟩:=hk0
   have hc0:=hA1.h 0 _ hk
   refine⟨hd.1,.inr ⟨rfl,ch,rfl,hch,I1,l1,f1,?_,?_,hA1.own,hA1.fzl,hA1.fzo,hA1.kept,fun p hp'=>⟨?_,(hA1.fix p hp').2⟩⟩⟩
   ·intro k ch hk2
    rw[lkp_mem0]at hk2
    match k,hk2 with
    |0,hk2=>
     rw[h00]at hk2;simp only[Option.map_some,chO,Option.some.injEq]at hk2
     subst hk2
     obtain⟨c1,c2,c3⟩:=hc0
     exact⟨c1,by rw[c2,← hz],by rw[← hz];exact vec_weak c3 (wkL_weak hw)⟩
    |k+1,hk2=>
     simp only[Option.map_eq_some_iff]at hk2
     obtain⟨o,ho,rfl⟩:=hk2
     rw[hbd rfl k o ho];exact trivial
   ·intro k ch hk2 n hn'
    rw[lkp_mem0]at hk2
    match k,hk2 with
    |0,hk2=>
     rw[h00]at hk2;simp only[Option.map_some,chO,Option.some.injEq]at hk2
     subst hk2
     obtain⟨r,hr,hn'⟩:=List.mem_flatMap.1 hn'
     obtain⟨c,hc,hn'⟩:=List.mem_flatMap.1 hn'
     rw[hq r hr c hc]at hn';cases hn'
    |k+1,hk2=>
     simp only[Option.map_eq_some_iff]at hk2
     obtain⟨o,ho,rfl⟩:=hk2
     rw[hbd rfl k o ho]at hn';cases hn'
   ·obtain⟨q1,q2,_⟩:=mem_memF hp'
    rw[lkp_mem0]
    have:p.1<m'.length:=by omega
    rw[List.getElem?_eq_getElem this];rfl
 ·refine⟨?_,I,lab,fz,?_,⟨rfl,fun p hp=>by cases hp⟩,?_,at_ctx (X:=mX M fz I ms.length) (X':=mXP M fz I ms.length bad q) rfl rfl rfl hA⟩
  ·intro t g v ht _ k hk
   rw[argE_lkp]at ht
   simp only[Nat.zero_le,if_true,Nat.sub_zero,Option.map_eq_some_iff,Prod.mk.injEq]at ht
   obtain⟨u,hu,rfl,rfl⟩:=ht
   have:=hnm u (List.mem_of_getElem? hu) k hk
   show (lkp (memH 0 ms) k).isSome=true
   rw[memH,lkp_mem0]
   simp[this]
  ·simp[hlen];omega
  ·intro t g v ht
   rw[argE_lkp]at ht
   simp only[Nat.zero_le,if_true,Nat.sub_zero,Option.map_eq_some_iff,Prod.mk.injEq]at ht
   obtain⟨u,hu,rfl,rfl⟩:=ht
   have hlt:t<args.length:=(List.getElem?_eq_some_iff.1 hu).1
   have hlt2:t<xs.length:=by omega
   refine⟨xs[t],?_,?_⟩
   ·rw[Array.getElem?_append_left (by simpa using hlt2)]
    simp[hlt2]
   ·simp only[if_true]
    exact hx t u _ hu (List.getElem?_eq_getElem hlt2)
end
attribute [go_sem] offM_n offM_t offM_f
end Go.Sy
