/- A symbolic executor, further. No conditions but those in each statement. -/
import Derived.Test.YtjnnmindcbgjhabSyB
set_option linter.unusedVariables false
set_option linter.unusedSimpArgs false
namespace Go.Sy
open Go.RowKit
section
variable {P:Program} {o:Oper} {a:Act} {w w0:World} {X:Ctx} {I:Nm} {lab:Lab} {fz:Nat→Prop} {E E':Env} {H H':Hp} {c:Prop} {e:Eff} {fp:List Nat}
theorem ldV_names {g:Option Bool} {n:Nat} {l:List C} {v:SV} (h:ldV g n l=some v) {k:Nat} (hk:k∈v.names):k∈l.flatMap C.names:=by
 unfold ldV at h
 split at h
 ·split at h
  ·simp only[Option.some.injEq]at h;subst h
   obtain⟨c,h1,h2⟩:=List.mem_flatMap.1 hk
   exact List.mem_flatMap.2 ⟨c,List.mem_of_mem_take h1,h2⟩
  ·cases h
 ·split at h
  ·simp only[Option.some.injEq]at h;subst h
   exact List.mem_flatMap.2 ⟨_,List.mem_cons_self ..,hk⟩
  ·cases h
 ·cases h
theorem ldc_names (k u:Nat) (p:List (Nat×Nat)) (i:Nat):∀(l:List C) (j n:Nat),n∈(ldc k u p i j l).flatMap C.names→n∈l.flatMap C.names∨n=k
 |[],j,n,h=>by simp[ldc]at h
 |c::r,j,n,h=>by
  have:(ldc k u p i j (c::r))=(match c with| .ov _ _=>.vw k u (p++[(i,j)])|c=>c)::ldc k u p i (j+1) r:=by cases c<;>rfl
  rw[this,List.flatMap_cons,List.mem_append]at h
  rcases h with h|h
  ·cases c with
   |ov z es=>right;simpa [C.names] using h
   |_=>left;exact List.mem_append_left _ h
  ·rcases ldc_names k u p i r (j+1) n h with h|h
   ·left;rw[List.flatMap_cons];exact List.mem_append_right _ h
   ·exact .inr h
theorem mem_drop_flat {l:List C} {j n:Nat} (h:n∈(l.drop j).flatMap C.names):n∈l.flatMap C.names:=by
 obtain⟨c,h1,h2⟩:=List.mem_flatMap.1 h
 exact List.mem_flatMap.2 ⟨c,List.mem_of_mem_drop h1,h2⟩
theorem oDs_names (cs:List D):(cs.map oD).flatMap C.names=[]:=by
 rw[List.flatMap_eq_nil_iff]
 intro c hc
 obtain⟨d,_,rfl⟩:=List.mem_map.1 hc
 exact oD_names d
theorem row_dom (hA:AtW X w0 I lab fz H w) {k u i:Nat} {z:List C} {es:List (List C)} (hk:H k=some (.vec u z es)) (hi:i<es.length):Dom H ((es.getD i z).flatMap C.names):=
 fun n hn=>hA.wf k _ hk n (List.mem_flatMap.2 ⟨_,List.mem_of_getElem? (getD_get (d:=z) hi),hn⟩)
theorem ptrA_names (n:Nat) (c:C):∀k∈(ptrA n c).names,k∈c.names:=by
 cases c with
 |d x=>
  cases x with
  |pt o=>cases o<;>(intro k hk;exact hk)
  |_=>intro k hk;exact hk
 |_=>intro k hk;exact hk
theorem dom_one {k:Nat} (h:(H k).isSome=true):Dom H [k]:=by intro q hq;simp at hq;subst hq;exact h
theorem dom_new {t:Nat} {ch:Ch} {r:List (Nat×Ch)}:Dom (updH H ((t,ch)::r)) [t]:=by
 have:Dom (upd H t ch) [t]:=by intro q hq;simp at hq;subst hq;simp[upd]
 exact dom_updH r this
theorem opS_dom (sp:List (Spec P X w0)) (hW:WFE E H) (hA:AtW X w0 I lab fz H w) (h:opS sp o E H=some (c,e,fp)) (hc:c):Dom (updH H e.upd) e.val.names∧∀p∈e.upd,p.1∈fp:=by
 have val:∀{v:SV},Dom H v.names→Dom (updH H (⟨v,[]⟩:Eff).upd) (⟨v,[]⟩:Eff).val.names∧∀p∈(⟨v,[]⟩:Eff).upd,p.1∈fp:=fun hv=>⟨hv,by simp⟩
 have nil:∀{v:SV},v.names=[]→Dom H v.names:=by intro v hv;rw[hv];intro k hk;cases hk
 have sub:∀{x:Operand} {u:SV} {v:SV},rdv E x=some u→rdg E x=true→(∀k∈v.names,k∈u.names)→Dom H v.names:=fun h1 h2 h3 k hk=>hW.rd h1 h2 k (h3 k hk)
 unfold opS at h
 split at h
 ·rename_i x ho
  simp only[opMove,Option.bind_eq_some_iff,rV,Option.some.injEq,Prod.mk.injEq]at h
  obtain⟨v,hv,rfl,rfl,rfl⟩:=h
  exact val (hW.rd hv hc)
 ·rename_i x ho
  simp only[opMove,Option.bind_eq_some_iff,rV,Option.some.injEq,Prod.mk.injEq]at h
  obtain⟨v,hv,rfl,rfl,rfl⟩:=h
  exact val (hW.rd hv hc)
 ·simp only[opPick]at h
  split at h
  ·simp only[rV,Option.some.injEq,Prod.mk.injEq]at h
   obtain⟨rfl,rfl,rfl⟩:=h
   exact val (nil rfl)
  ·cases h
 ·obtain⟨f,h1,h2,rfl⟩:=fresh_some h
  simp only[opAlloc,Option.bind_eq_some_iff,Option.some.injEq,Prod.mk.injEq]at h2
  obtain⟨z,hz,rfl,rfl,rfl⟩:=h2
  exact⟨dom_new,by simp⟩
 ·obtain⟨f,h1,h2,rfl⟩:=fresh_some h
  simp only[opBox,Option.bind_eq_some_iff,Option.some.injEq,Prod.mk.injEq]at h2
  obtain⟨z,hz,rfl,rfl,rfl⟩:=h2
  exact⟨dom_new,by simp⟩
 ·rename_i T ps ho
  have fin:∀{place:Nat→Option (Nat×Nat)} {z:Value} {vs:List (Nat×SV)} {cs:List C},reads E ps.toList=some vs→readG E ps.toList→okV z=true→fillC place (ofV z).cells vs=some cs→Dom H (cs.flatMap C.names):=by
   intro place z vs cs hr hg hok hf
   refine fillC_names _ hf ?_ ?_
   ·rw[cells_names _ (ofV_tup hok),ofV_names hok];intro k hk;cases hk
   ·have:∀{xs:List (Nat×Operand)} {vs:List (Nat×SV)},reads E xs=some vs→readG E xs→∀v∈vs,Dom H v.2.names:=by
     intro xs
     induction xs with
     |nil=>intro vs h _;simp only[reads,Option.some.injEq]at h;subst h;simp
     |cons p xs ih=>
      intro vs h hg
      obtain⟨i,x⟩:=p
      simp only[reads]at h
      split at h
      ·rename_i v l hv hl
       simp only[Option.some.injEq]at h
       subst h
       intro u hu
       rcases List.mem_cons.1 hu with rfl|hu
       ·exact hW.rd hv hg.1
       ·exact ih hl hg.2 u hu
      ·cases h
    exact this hr hg
  simp only[opBuild]at h
  split at h
  ·rename_i pl z vs hpl hz hr
   simp only[Option.bind_eq_some_iff,rV,Option.some.injEq,Prod.mk.injEq]at h
   obtain⟨cs,hf,rfl,rfl,rfl⟩:=h
   exact val (fin hr hc.1 hc.2 hf)
  ·split at h
   ·rename_i n e' z vs hT hz hr
    split at h
    ·simp only[Option.bind_eq_some_iff,rV,Option.some.injEq,Prod.mk.injEq]at h
     obtain⟨cs,hf,rfl,rfl,rfl⟩:=h
     exact val (fin hr hc.1 hc.2 hf)
    ·cases h
   ·cases h
 ·obtain⟨f,h1,h2,rfl⟩:=fresh_some h
  unfold opBs at h2
  split at h2
  ·obtain⟨f3,h3,rfl⟩:=addF_some h2
   clear h2
   unfold opBsD at h3
   revert h3;intro h2
   split at h2
   ·split at h2
    ·simp only[Option.bind_eq_some_iff]at h2
     obtain⟨cs,hf,h2⟩:=h2
     split at h2
     ·simp only[Option.some.injEq,Prod.mk.injEq]at h2
      obtain⟨rfl,rfl,rfl⟩:=h2
      exact⟨(fun k hk=>by cases hk),by simp⟩
     ·cases h2
    ·cases h2
   ·cases h2
  obtain⟨f3,h3,rfl⟩:=addF_some h2
  clear h2
  unfold opBuildSlice at h3
  revert h3;intro h2
  split at h2
  ·split at h2
   ·simp only[Option.bind_eq_some_iff,Option.some.injEq,Prod.mk.injEq]at h2
    obtain⟨cs,hf,rfl,rfl,rfl⟩:=h2
    exact⟨dom_new,by simp⟩
   ·cases h2
  ·cases h2
 ·obtain⟨f,h1,h2,rfl⟩:=fresh_some h
  simp only[opMakeSlice]at h2
  split at h2
  ·split at h2
   ·simp only[Option.some.injEq,Prod.mk.injEq]at h2
    obtain⟨rfl,rfl,rfl⟩:=h2
    exact⟨dom_new,by simp⟩
   ·cases h2
  ·cases h2
 ·simp only[opLoad]at h
  split at h
  ·split at h
   ·rename_i u z es hk
    simp only[Option.bind_eq_some_iff,rV,Option.some.injEq,Prod.mk.injEq]at h
    obtain⟨v,hv,rfl,rfl,rfl⟩:=h
    refine val fun n hn=>?_
    rcases ldc_names _ _ _ _ _ _ n (ldV_names hv hn) with h1|rfl
    ·exact row_dom hA hk hc.2 n (mem_drop_flat h1)
    ·simp[hk]
   ·cases h
  ·simp only[Option.bind_eq_some_iff,rV,Option.some.injEq,Prod.mk.injEq]at h
   obtain⟨v,hv,rfl,rfl,rfl⟩:=h
   exact val fun n hn=>by have:=ldV_names hv hn;rw[oDs_names]at this;cases this
  ·simp only[Option.bind_eq_some_iff,rV,Option.some.injEq,Prod.mk.injEq]at h
   obtain⟨v,hv,rfl,rfl,rfl⟩:=h
   exact val fun n hn=>by have:=ldV_names hv hn;rw[oDs_names]at this;cases this
  ·split at h
   ·rename_i u' z es hk
    split at h
    ·rename_i z' es' hj
     simp only[Option.bind_eq_some_iff,rV,Option.some.injEq,Prod.mk.injEq]at h
     obtain⟨v,hv,rfl,rfl,rfl⟩:=h
     obtain⟨_,_,_,hi,hm⟩:=hc
     refine val fun n hn=>?_
     rcases ldc_names _ _ _ _ _ _ n (ldV_names hv hn) with h1|rfl
     ·have h1:=mem_drop_flat h1
      obtain⟨c,g1,g2⟩:=List.mem_flatMap.1 h1
      obtain⟨hbv,_⟩:=vec_base hA hk
      rw[getP_clos _ hbv hi hj _ (List.mem_of_getElem? (getD_get (d:=z') hm)) c g1]at g2
      cases g2
     ·simp[hk]
    ·cases h
   ·cases h
  ·cases h
 ·split at h
  ·simp only[opStore]at h
   split at h
   ·split at h
    ·simp only[Option.some.injEq,Prod.mk.injEq]at h
     obtain⟨rfl,rfl,rfl⟩:=h
     exact⟨(fun k hk=>by cases hk),by simp⟩
    ·cases h
   ·split at h
    ·split at h
     ·simp only[Option.some.injEq,Prod.mk.injEq]at h
      obtain⟨rfl,rfl,rfl⟩:=h
      exact⟨(fun k hk=>by cases hk),by simp⟩
     ·cases h
    ·cases h
   ·cases h
  ·cases h
 ·simp only[opBin]at h
  split at h
  ·split at h
   ·split at h
    ·rename_i r hr
     simp only[rV,Option.some.injEq,Prod.mk.injEq]at h
     obtain⟨rfl,rfl,rfl⟩:=h
     obtain⟨rc,rv⟩:=r
     exact val (nil (ofV_names (binV_okV hr)))
    ·split at h
     ·simp only[rV,Option.some.injEq,Prod.mk.injEq]at h
      obtain⟨rfl,rfl,rfl⟩:=h
      exact val (nil rfl)
     ·cases h
   ·split at h
    ·simp only[rV,Option.some.injEq,Prod.mk.injEq]at h
     obtain⟨rfl,rfl,rfl⟩:=h
     exact val (nil rfl)
    ·cases h
  ·cases h
 ·simp only[opUn]at h
  split at h
  ·simp only[Option.bind_eq_some_iff,rV,Option.some.injEq,Prod.mk.injEq]at h
   obtain⟨r,hr,rfl,rfl,rfl⟩:=h
   unfold unV at hr
   split at hr<;>simp only[Option.some.injEq,reduceCtorEq]at hr<;>subst hr<;>exact val (nil rfl)
  ·cases h
 ·simp only[opFieldAddr]at h
  split at h
  ·rename_i cc fo ft h1 hf
   split at h
   ·simp only[rV,Option.some.injEq,Prod.mk.injEq]at h
    obtain⟨rfl,rfl,rfl⟩:=h
    exact val (sub h1 hc.1 (ptrA_names _ _))
   ·cases h
  ·cases h
 ·simp only[opField]at h
  split at h
  ·rename_i l fo ft h1 hf
   split at h
   ·simp only[Option.bind_eq_some_iff,rV,Option.some.injEq,Prod.mk.injEq]at h
    obtain⟨v,hv,rfl,rfl,rfl⟩:=h
    exact val (sub h1 hc fun k hk=>mem_drop_flat (ldV_names hv hk))
   ·cases h
  ·cases h
 ·simp only[opIndexAddr]at h
  split at h
  ·rename_i k kk n h1 h2
   split at h
   ·rename_i u z es e' hk he
    simp only[Option.bind_eq_some_iff,rV,Option.some.injEq,Prod.mk.injEq]at h
    obtain⟨s,hs,rfl,rfl,rfl⟩:=h
    exact val (dom_one (by simp[hk]))
   ·cases h
  ·simp only[Option.bind_eq_some_iff,rV,Option.some.injEq,Prod.mk.injEq]at h
   obtain⟨e',he,s,hs,rfl,rfl,rfl⟩:=h
   exact val (nil rfl)
  ·simp only[Option.bind_eq_some_iff,rV,Option.some.injEq,Prod.mk.injEq]at h
   obtain⟨e',he,s,hs,rfl,rfl,rfl⟩:=h
   exact val (nil rfl)
  ·split at h
   ·rename_i u' z es e' hk he
    split at h
    ·simp only[Option.bind_eq_some_iff,rV,Option.some.injEq,Prod.mk.injEq]at h
     obtain⟨s,hs,rfl,rfl,rfl⟩:=h
     exact val (dom_one (by simp[hk]))
    ·cases h
   ·cases h
  ·rename_i cc kk n _ _ _ _ h1 h2
   split at h
   ·split at h
    ·simp only[rV,Option.some.injEq,Prod.mk.injEq]at h
     obtain⟨rfl,rfl,rfl⟩:=h
     exact val (sub h1 hc.1 (ptrA_names _ _))
    ·cases h
   ·cases h
  ·cases h
 ·simp only[opIndex]at h
  split at h
  ·split at h
   ·simp only[rV,Option.some.injEq,Prod.mk.injEq]at h
    obtain⟨rfl,rfl,rfl⟩:=h
    exact val (nil rfl)
   ·cases h
  ·rename_i l kk n h1 h2
   simp only[Option.bind_eq_some_iff,rV,Option.some.injEq,Prod.mk.injEq]at h
   obtain⟨ae,hae,s,hs,v,hv,rfl,rfl,rfl⟩:=h
   exact val (sub h1 hc.1 fun k hk=>mem_drop_flat (ldV_names hv hk))
  ·cases h
 ·obtain⟨f,g1,h2,rfl⟩:=fresh_some h
  simp only[opSlice]at h2
  split at h2
  ·split at h2
   ·split at h2
    ·simp only[rV,Option.some.injEq,Prod.mk.injEq]at h2
     obtain⟨rfl,rfl,rfl⟩:=h2
     exact⟨nil rfl,by simp⟩
    ·cases h2
   ·cases h2
  ·split at h2
   ·split at h2
    ·simp only[rV,Option.some.injEq,Prod.mk.injEq]at h2
     obtain⟨rfl,rfl,rfl⟩:=h2
     exact⟨nil rfl,by simp⟩
    ·split at h2
     ·simp only[rV,Option.some.injEq,Prod.mk.injEq]at h2
      obtain⟨rfl,rfl,rfl⟩:=h2
      exact⟨nil rfl,by simp⟩
     ·cases h2
   ·cases h2
  ·split at h2
   ·split at h2
    ·simp only[Option.some.injEq,Prod.mk.injEq]at h2
     obtain⟨rfl,rfl,rfl⟩:=h2
     exact⟨dom_new,by simp⟩
    ·cases h2
   ·cases h2
  ·cases h2
 ·simp only[opExtract]at h
  split at h
  ·rename_i l h1
   split at h
   ·rename_i cc hcc
    simp only[rV,Option.some.injEq,Prod.mk.injEq]at h
    obtain⟨rfl,rfl,rfl⟩:=h
    exact val (sub h1 hc fun k hk=>List.mem_flatMap.2 ⟨_,List.mem_of_getElem? hcc,hk⟩)
   ·rename_i cs hcs
    simp only[rV,Option.some.injEq,Prod.mk.injEq]at h
    obtain⟨rfl,rfl,rfl⟩:=h
    exact val (sub h1 hc fun k hk=>List.mem_flatMap.2 ⟨_,List.mem_of_getElem? hcs,hk⟩)
   ·cases h
  ·cases h
 ·split at h
  ·rename_i r hr
   simp only[Option.some.injEq]at h
   subst h
   simp only[opConvert]at hr
   split at hr
   ·simp only[rV,Option.some.injEq,Prod.mk.injEq]at hr
    obtain⟨rfl,rfl,rfl⟩:=hr
    exact val (nil rfl)
   ·cases hr
  ·simp only[opConvB]at h
   split at h
   ·split at h
    ·simp only[Option.bind_eq_some_iff,rV,Option.some.injEq,Prod.mk.injEq]at h
     obtain⟨ns,hns,rfl,rfl,rfl⟩:=h
     exact val (nil rfl)
    ·cases h
   ·cases h
 ·simp only[opNil]at h
  split at h
  ·rename_i k i j h1
   split at h
   ·simp only[rV,Option.some.injEq,Prod.mk.injEq]at h
    obtain⟨rfl,rfl,rfl⟩:=h
    exact val (hW.rd h1 hc.1)
   ·cases h
  ·rename_i k u p s m o' h1
   split at h
   ·simp only[rV,Option.some.injEq,Prod.mk.injEq]at h
    obtain⟨rfl,rfl,rfl⟩:=h
    exact val (hW.rd h1 hc.1)
   ·cases h
  ·rename_i cc _ _ h1
   split at h
   ·simp only[rV,Option.some.injEq,Prod.mk.injEq]at h
    obtain⟨rfl,rfl,rfl⟩:=h
    exact val (hW.rd h1 hc)
   ·cases h
  ·cases h
 ·simp only[opIface]at h
  split at h
  ·simp only[Option.some.injEq,Prod.mk.injEq]at h
   obtain⟨rfl,rfl,rfl⟩:=h
   exact val (nil rfl)
  ·cases h
 ·obtain⟨fp',g1,h2,rfl⟩:=fresh_some h
  simp only[opMakeMap]at h2
  split at h2
  ·split at h2
   ·simp only[Option.some.injEq,Prod.mk.injEq]at h2
    obtain⟨rfl,rfl,rfl⟩:=h2
    exact⟨dom_new,by simp⟩
   ·cases h2
  ·cases h2
 ·rename_i T x ix ok ho
  simp only[opLookup]at h
  split at h
  ·rename_i cc key kt et h1 h2 hT
   split at h
   ·rename_i z ag ag' es f hk hz hag hm
    simp only[rV,Option.some.injEq,Prod.mk.injEq]at h
    obtain⟨rfl,rfl,rfl⟩:=h
    have hrow:∀row,mget es key.toList=some row→Dom H (row.flatMap C.names):=by
     intro row hrow n hn
     have hmem:∃p∈es,p.2=row:=by
      have:∀{l:List (List UInt8×List C)},mget l key.toList=some row→∃p∈l,p.2=row:=by
       intro l
       induction l with
       |nil=>intro h;cases h
       |cons q l ih=>
        intro h
        obtain⟨k',x⟩:=q
        simp only[mget]at h
        split at h
        ·simp only[Option.some.injEq]at h;subst h;exact⟨_,List.mem_cons_self ..,rfl⟩
        ·obtain⟨p,h1,h2⟩:=ih h;exact⟨p,List.mem_cons_of_mem _ h1,h2⟩
      exact this hrow
     obtain⟨p,hp1,rfl⟩:=hmem
     unfold mapC at hm
     split at hm
     ·rename_i k
      split at hm
      ·rename_i ag2 es2 hk2
       simp only[Option.some.injEq,Prod.mk.injEq]at hm
       obtain⟨_,rfl,_⟩:=hm
       exact hA.wf k _ hk2 n (List.mem_flatMap.2 ⟨p,hp1,hn⟩)
      ·cases hm
     ·simp only[Option.some.injEq,Prod.mk.injEq]at hm
      obtain⟨_,rfl,_⟩:=hm
      obtain⟨q,_,rfl⟩:=List.mem_map.1 hp1
      cases hn
     ·simp only[Option.some.injEq,Prod.mk.injEq]at hm
      obtain⟨_,rfl,_⟩:=hm
      cases hp1
     ·cases hm
    have hall:Dom H (((mget es key.toList).getD (ofV z).cells).flatMap C.names):=by
     cases hg:mget es key.toList with
     |some row=>exact hrow row hg
     |none=>rw[Option.getD_none,cells_names _ (ofV_tup hc.2.2.1),ofV_names hc.2.2.1];intro k hk;cases hk
    generalize (mget es key.toList).getD (ofV z).cells=row at hall
    have hhead:Dom H (headC row).names:=by
     intro n hn
     cases row with
     |nil=>cases hn
     |cons c r=>exact hall n (List.mem_flatMap.2 ⟨c,List.mem_cons_self ..,hn⟩)
    refine val ?_
    cases ag<;>cases ok
    ·exact hhead
    ·intro n hn
     simp only[lkV,SV.names,List.flatMap_cons,List.flatMap_nil,pNames,C.names,List.append_nil]at hn
     exact hhead n hn
    ·exact hall
    ·intro n hn
     simp only[lkV,SV.names,List.flatMap_cons,List.flatMap_nil,pNames,C.names,List.append_nil]at hn
     exact hall n hn
   ·cases h
  ·cases h
 ·split at h
  ·simp only[opMapUpdate]at h
   split at h
   ·split at h
    ·simp only[Option.some.injEq,Prod.mk.injEq]at h
     obtain⟨rfl,rfl,rfl⟩:=h
     exact⟨fun k hk=>(by cases hk),by simp⟩
    ·cases h
   ·cases h
  ·cases h
 ·split at h
  ·simp only[opMapUpdate]at h
   split at h
   ·split at h
    ·simp only[Option.some.injEq,Prod.mk.injEq]at h
     obtain⟨rfl,rfl,rfl⟩:=h
     exact⟨fun k hk=>(by cases hk),by simp⟩
    ·cases h
   ·cases h
  ·cases h
 ·rename_i fn first caps ho
  split at h
  ·simp only[opMakeFunc,Option.bind_eq_some_iff,rV,Option.some.injEq,Prod.mk.injEq]at h
   obtain⟨vs,hv,cs,hcs,rfl,rfl,rfl⟩:=h
   have hdv:∀{xs:List Operand} {vs:List SV},readA E xs=some vs→readAG E xs→∀v∈vs,Dom H v.names:=by
    intro xs
    induction xs with
    |nil=>intro vs h _;simp only[readA,Option.some.injEq]at h;subst h;simp
    |cons x xs ih=>
     intro vs h hg
     simp only[readA]at h
     split at h
     ·rename_i v l hv hl
      simp only[Option.some.injEq]at h
      subst h
      intro u hu
      rcases List.mem_cons.1 hu with rfl|hu
      ·exact hW.rd hv hg.1
      ·exact ih hl hg.2 u hu
     ·cases h
   have hd2:=hdv hv hc.1
   rw[capsC_eq hcs]at hd2
   refine val ?_
   intro n hn
   have hn2:n∈cs.flatMap capN:=by simpa [SV.names,C.names] using hn
   obtain⟨cc,hcc,hn3⟩:=List.mem_flatMap.1 hn2
   refine hd2 (.one cc) (List.mem_map.2 ⟨cc,hcc,rfl⟩) n ?_
   cases cc<;>first|exact hn3|cases hn3
  ·cases h
 ·obtain⟨fp',g1,h2,rfl⟩:=fresh_some h
  simp only[opPanic]at h2
  split at h2
  ·simp only[Option.some.injEq,Prod.mk.injEq]at h2
   obtain⟨rfl,rfl,rfl⟩:=h2
   exact⟨fun k hk=>(by cases hk),by simp⟩
  ·cases h2
 ·have call:∀{f:FuncId} {args:List Operand} {more:List SV} {t:Nat} {c:Prop} {e:Eff} {fp:List Nat},H t=none→(∀v∈more,Dom H v.names)→opCall sp E H f args more t=some (c,e,fp)→c→Dom (updH H e.upd) e.val.names∧∀p∈e.upd,p.1∈fp:=by
   intro f args more t c e fp ht hm h hc
   simp only[opCall]at h
   split at h
   ·rename_i s vs hs hr
    simp only[Option.map_eq_some_iff,Prod.mk.injEq]at h
    obtain⟨⟨c',r⟩,hfn,rfl,h2⟩:=h
    simp only at h2
    subst h2
    refine s.dom _ _ _ _ _ _ ht hc.2 hfn fun v hv=>?_
    rcases List.mem_append.1 hv with hv|hv
    ·have:∀{xs:List Operand} {vs:List SV},readA E xs=some vs→readAG E xs→∀v∈vs,Dom H v.names:=by
      intro xs
      induction xs with
      |nil=>intro vs h _;simp only[readA,Option.some.injEq]at h;subst h;simp
      |cons x xs ih=>
       intro vs h hg
       simp only[readA]at h
       split at h
       ·rename_i v l hv hl
        simp only[Option.some.injEq]at h
        subst h
        intro u hu
        rcases List.mem_cons.1 hu with rfl|hu
        ·exact hW.rd hv hg.1
        ·exact ih hl hg.2 u hu
       ·cases h
     exact this hr hc.1 v hv
    ·exact hm v hv
   ·cases h
  rename_i cl ho
  obtain⟨ce,args,ts⟩:=cl
  split at h
  ·split at h
   ·obtain⟨f,g1,h2,rfl⟩:=fresh_some h
    simp only[opAppend]at h2
    split at h2
    ·split at h2
     ·split at h2
      ·split at h2
       ·simp only[Option.some.injEq,Prod.mk.injEq]at h2
        obtain⟨rfl,rfl,rfl⟩:=h2
        exact⟨dom_new,by simp⟩
       ·simp only[Option.some.injEq,Prod.mk.injEq]at h2
        obtain⟨rfl,rfl,rfl⟩:=h2
        exact⟨dom_new,by simp⟩
       ·split at h2
        ·simp only[Option.some.injEq,Prod.mk.injEq]at h2
         obtain⟨rfl,rfl,rfl⟩:=h2
         exact⟨dom_new,by simp⟩
        ·cases h2
       ·split at h2
        ·split at h2
         ·simp only[Option.some.injEq,Prod.mk.injEq]at h2
          obtain⟨rfl,rfl,rfl⟩:=h2
          exact⟨dom_new,by simp⟩
         ·cases h2
        ·cases h2
       ·cases h2
      ·cases h2
     ·cases h2
    ·cases h2
   ·simp only[opCopy]at h
    split at h
    ·split at h
     ·split at h
      ·simp only[Option.some.injEq,Prod.mk.injEq]at h
       obtain⟨rfl,rfl,rfl⟩:=h
       exact⟨(fun k hk=>by cases hk),by simp⟩
      ·cases h
     ·cases h
    ·cases h
   ·simp only[opBuiltin]at h
    split at h
    ·simp only[rV,Option.some.injEq,Prod.mk.injEq]at h
     obtain⟨rfl,rfl,rfl⟩:=h
     exact val (nil rfl)
    ·simp only[rV,Option.some.injEq,Prod.mk.injEq]at h
     obtain⟨rfl,rfl,rfl⟩:=h
     exact val (nil rfl)
    ·simp only[rV,Option.some.injEq,Prod.mk.injEq]at h
     obtain⟨rfl,rfl,rfl⟩:=h
     exact val (nil rfl)
    ·simp only[rV,Option.some.injEq,Prod.mk.injEq]at h
     obtain⟨rfl,rfl,rfl⟩:=h
     exact val (nil rfl)
    ·split at h
     ·split at h
      ·simp only[rV,Option.some.injEq,Prod.mk.injEq]at h
       obtain⟨rfl,rfl,rfl⟩:=h
       exact val (nil rfl)
      ·cases h
     ·cases h
    ·split at h
     ·split at h
      ·simp only[rV,Option.some.injEq,Prod.mk.injEq]at h
       obtain⟨rfl,rfl,rfl⟩:=h
       exact val (nil rfl)
      ·cases h
     ·cases h
    ·cases h
  ·obtain⟨f,g1,h2,rfl⟩:=fresh_some h
   obtain⟨q1,q2⟩:=call g1 (by simp) h2 hc
   exact⟨q1,fun p hp'=>List.mem_cons_of_mem _ (q2 p hp')⟩
  ·rename_i s _
   obtain⟨f,g1,h2,rfl⟩:=fresh_some h
   unfold opCallV at h2
   split at h2
   ·rename_i f' caps hf
    simp only[Option.map_eq_some_iff,Prod.mk.injEq]at h2
    obtain⟨⟨c',r⟩,h1,rfl,h2⟩:=h2
    simp only at h2
    subst h2
    have hcaps:∀v∈caps,Dom H v.names:=by
     unfold fnSV at hf
     split at hf
     ·split at hf
      ·simp only[Option.some.injEq,Prod.mk.injEq]at hf;obtain⟨_,rfl⟩:=hf;simp
      ·cases hf
     ·rename_i f2 cs hv
      split at hf
      ·rename_i hok
       simp only[Option.some.injEq,Prod.mk.injEq]at hf
       obtain⟨rfl,rfl⟩:=hf
       intro v hv2
       obtain⟨cc,g1,rfl⟩:=List.mem_map.1 hv2
       intro n hn
       refine hW.rd hv hc.1 n (List.mem_flatMap.2 ⟨cc,g1,?_⟩)
       have:=List.all_eq_true.1 hok cc g1
       cases cc<;>first|exact hn|(simp[okCap]at this)
      ·cases hf
     ·cases hf
    obtain⟨q1,q2⟩:=call g1 hcaps h1 hc.2
    exact⟨q1,fun p hp'=>List.mem_cons_of_mem _ (q2 p hp')⟩
   ·cases h2
  ·cases h
 ·cases h
end
end Go.Sy
namespace Go.Sy
open Go.RowKit
section
variable {P:Program} {o:Oper} {E E':Env} {H H':Hp} {c:Prop} {e:Eff} {fp:List Nat}
theorem opLoad_h {T:TypeId} {x:Operand} (h:opLoad P E H T x=some (c,e,fp)) (hf:∀k∈fp,H' k=H k):opLoad P E H' T x=some (c,e,fp):=by
 unfold opLoad at*
 split at h
 ·rename_i k i j n h1 hn
  split at h
  ·rename_i u z es hk
   simp only[Option.bind_eq_some_iff,rV,Option.some.injEq,Prod.mk.injEq]at h
   obtain⟨v,hv,rfl,rfl,rfl⟩:=h
   have hk':=(hf k (by simp)).trans hk
   simp only[hk',hv,Option.bind_some,rV]
  ·cases h
 ·exact h
 ·exact h
 ·rename_i k u p s m o n h1 hn
  split at h
  ·rename_i u z es hk
   split at h
   ·rename_i z' es' hj
    simp only[Option.bind_eq_some_iff,rV,Option.some.injEq,Prod.mk.injEq]at h
    obtain⟨v,hv,rfl,rfl,rfl⟩:=h
    have hk':=(hf k (by simp)).trans hk
    simp only[hk',hj,hv,Option.bind_some,rV]
   ·cases h
  ·cases h
 ·cases h
theorem opStore_h {T:TypeId} {x y:Operand} (h:opStore P E H T x y=some (c,e,fp)) (hf:∀k∈fp,H' k=H k):opStore P E H' T x y=some (c,e,fp):=by
 unfold opStore at*
 split at h
 ·rename_i k i j v n h1 h2 hn
  split at h
  ·rename_i u z es hk
   simp only[Option.some.injEq,Prod.mk.injEq]at h
   obtain⟨rfl,rfl,rfl⟩:=h
   have hk':=(hf k (by simp)).trans hk
   simp only[hk']
  ·cases h
 ·rename_i k u p s m o v n h1 h2 hn
  split at h
  ·rename_i u z es hk
   split at h
   ·rename_i z' es' hj
    simp only[Option.some.injEq,Prod.mk.injEq]at h
    obtain⟨rfl,rfl,rfl⟩:=h
    have hk':=(hf k (by simp)).trans hk
    simp only[hk',hj]
   ·cases h
  ·cases h
 ·cases h
theorem ptrG_h {cc:C} {g:Prop} (h:ptrG H cc=some (g,fp)) (hf:∀k∈fp,H' k=H k):ptrG H' cc=some (g,fp):=by
 unfold ptrG at*
 split at h
 ·rename_i k i j
  split at h
  ·rename_i u z es hk
   simp only[Option.some.injEq,Prod.mk.injEq]at h
   obtain⟨rfl,rfl⟩:=h
   have hk':=(hf k (by simp)).trans hk
   simp only[hk']
  ·cases h
 ·rename_i k u p s m o
  split at h
  ·rename_i u' z es hk
   split at h
   ·rename_i z' es' hj
    simp only[Option.some.injEq,Prod.mk.injEq]at h
    obtain⟨rfl,rfl⟩:=h
    have hk':=(hf k (by simp)).trans hk
    simp only[hk',hj]
   ·cases h
  ·cases h
 ·exact h
 ·exact h
 ·cases h
theorem opFieldAddr_h {T:TypeId} {x:Operand} {f:Nat} (h:opFieldAddr P E H T x f=some (c,e,fp)) (hf:∀k∈fp,H' k=H k):opFieldAddr P E H' T x f=some (c,e,fp):=by
 unfold opFieldAddr at*
 split at h
 ·split at h
  ·rename_i n g fp' hn hg
   simp only[rV,Option.some.injEq,Prod.mk.injEq]at h
   obtain⟨rfl,rfl,rfl⟩:=h
   simp only[hn,ptrG_h hg hf,rV]
  ·cases h
 ·cases h
theorem opIndexAddr_h {T:TypeId} {x i:Operand} (h:opIndexAddr P E H T x i=some (c,e,fp)) (hf:∀k∈fp,H' k=H k):opIndexAddr P E H' T x i=some (c,e,fp):=by
 unfold opIndexAddr at*
 split at h
 ·rename_i k kk n h1 h2
  split at h
  ·rename_i u z es e' hk he
   simp only[Option.bind_eq_some_iff,rV,Option.some.injEq,Prod.mk.injEq]at h
   obtain⟨s,hs,rfl,rfl,rfl⟩:=h
   have hk':=(hf k (by simp)).trans hk
   simp only[hk',he,hs,Option.bind_some,rV]
  ·cases h
 ·exact h
 ·exact h
 ·rename_i k u p kk n h1 h2
  split at h
  ·rename_i u' z es e' hk he
   split at h
   ·rename_i z' es' hj
    simp only[Option.bind_eq_some_iff,rV,Option.some.injEq,Prod.mk.injEq]at h
    obtain⟨s,hs,rfl,rfl,rfl⟩:=h
    have hk':=(hf k (by simp)).trans hk
    simp only[hk',he,hj,hs,Option.bind_some,rV]
   ·cases h
  ·cases h
 ·split at h
  ·rename_i ae hae
   split at h
   ·rename_i s g fp' hs hg
    simp only[rV,Option.some.injEq,Prod.mk.injEq]at h
    obtain⟨rfl,rfl,rfl⟩:=h
    simp only[hs,ptrG_h hg hf,rV]
   ·cases h
  ·cases h
 ·cases h
theorem opSlice_h {T:TypeId} {x:Operand} {lo hi mx:Option Operand} {t:Nat} (h:opSlice P E H T x lo hi mx t=some (c,e,fp)) (hf:∀k∈fp,H' k=H k):opSlice P E H' T x lo hi mx t=some (c,e,fp):=by
 unfold opSlice at*
 split at h
 ·exact h
 ·exact h
 ·rename_i k av bv h1 h2 h3 h4
  split at h
  ·rename_i u z es e' hk he
   split at h
   ·rename_i i j hi' hj'
    simp only[Option.some.injEq,Prod.mk.injEq]at h
    obtain⟨rfl,rfl,rfl⟩:=h
    have hk':=(hf k (by simp)).trans hk
    simp only[hk',he,hi',hj']
   ·cases h
  ·cases h
 ·cases h
theorem opNil_h {x:Operand} (h:opNil E H x=some (c,e,fp)) (hf:∀k∈fp,H' k=H k):opNil E H' x=some (c,e,fp):=by
 unfold opNil at*
 split at h
 ·rename_i k i j h1
  split at h
  ·rename_i u z es hk
   simp only[rV,Option.some.injEq,Prod.mk.injEq]at h
   obtain⟨rfl,rfl,rfl⟩:=h
   have hk':=(hf k (by simp)).trans hk
   simp only[hk',rV]
  ·cases h
 ·rename_i k u p s m o' h1
  split at h
  ·rename_i g fp' hg
   simp only[rV,Option.some.injEq,Prod.mk.injEq]at h
   obtain⟨rfl,rfl,rfl⟩:=h
   have hg':=ptrG_h hg hf
   simp only[hg',rV]
  ·cases h
 ·exact h
 ·cases h
theorem opPanic_h {X:Ctx} {x:Operand} {t:Nat} (h:opPanic X E H x t=some (c,e,fp)) (hf:∀k∈fp,H' k=H k):opPanic X E H' x t=some (c,e,fp):=by
 unfold opPanic at*
 split at h
 ·rename_i T y h1
  simp only[Option.some.injEq,Prod.mk.injEq]at h
  obtain⟨rfl,rfl,rfl⟩:=h
  simp only[pnO_congr hf]
 ·cases h
theorem opLookup_h {T:TypeId} {x ix:Operand} {ok:Bool} (h:opLookup P E H T x ix ok=some (c,e,fp)) (hf:∀k∈fp,H' k=H k):opLookup P E H' T x ix ok=some (c,e,fp):=by
 unfold opLookup at*
 split at h
 ·rename_i cc key kt et h1 h2 hT
  split at h
  ·rename_i z ag ag' es f hk hz hag hm
   have hm':mapC H' cc=some (ag',es,f):=by
    simp only[rV,Option.some.injEq,Prod.mk.injEq]at h
    obtain⟨_,_,rfl⟩:=h
    unfold mapC at hm ⊢
    split at hm
    ·rename_i k
     split at hm
     ·rename_i ag2 es2 hk2
      simp only[Option.some.injEq,Prod.mk.injEq]at hm
      obtain⟨rfl,rfl,rfl⟩:=hm
      have:=(hf k (by simp)).trans hk2
      simp only[this]
     ·cases hm
    ·exact hm
    ·exact hm
    ·cases hm
   simp only[hk,hz,hag,hm']
   exact h
  ·cases h
 ·cases h
theorem opMapUpdate_h {T:TypeId} {x k v:Operand} (h:opMapUpdate P E H T x k v=some (c,e,fp)) (hf:∀k∈fp,H' k=H k):opMapUpdate P E H' T x k v=some (c,e,fp):=by
 unfold opMapUpdate at*
 split at h
 ·split at h
  ·rename_i n key sv kt et h1 h2 h3 hT _ _ ag es hn hk
   simp only[Option.some.injEq,Prod.mk.injEq]at h
   obtain⟨rfl,rfl,rfl⟩:=h
   have:=(hf n (by simp)).trans hn
   simp only[this,hk]
  ·cases h
 ·cases h
theorem lenC_h {cc:C} {p:Prop} {n:Int} (h:lenC H cc=some (p,n,fp)) (hf:∀k∈fp,H' k=H k):lenC H' cc=some (p,n,fp):=by
 unfold lenC at*
 split at h
 ·exact h
 ·exact h
 ·exact h
 ·rename_i k
  split at h
  ·rename_i u z es hk
   simp only[Option.some.injEq,Prod.mk.injEq]at h
   obtain⟨rfl,rfl,rfl⟩:=h
   have hk':=(hf k (by simp)).trans hk
   simp only[hk']
  ·cases h
 ·rename_i k u p
  split at h
  ·rename_i u' z es hk
   split at h
   ·rename_i z' es' hj
    simp only[Option.some.injEq,Prod.mk.injEq]at h
    obtain⟨rfl,rfl,rfl⟩:=h
    have hk':=(hf k (by simp)).trans hk
    simp only[hk',hj]
   ·cases h
  ·cases h
 ·cases h
theorem opBuiltin_h {b:Builtin} {args:List Operand} {ts:List TypeId} (h:opBuiltin P E H b args ts=some (c,e,fp)) (hf:∀k∈fp,H' k=H k):opBuiltin P E H' b args ts=some (c,e,fp):=by
 unfold opBuiltin at*
 split at h
 ·exact h
 ·exact h
 ·exact h
 ·exact h
 ·exact h
 ·split at h
  ·split at h
   ·rename_i el p n f hT hl
    simp only[rV,Option.some.injEq,Prod.mk.injEq]at h
    obtain⟨rfl,rfl,rfl⟩:=h
    simp only[hT,lenC_h hl hf,rV]
   ·cases h
  ·cases h
 ·cases h
theorem srcR_h {z:List C} {b:C} {rows:List (List C)} {f:List Nat} (h:srcR H z b=some (rows,f)) (hf:∀k∈f,H' k=H k):srcR H' z b=some (rows,f)∧srcZ H' b=srcZ H b:=by
 unfold srcR at*
 split at h
 ·exact⟨h,rfl⟩
 ·exact⟨h,rfl⟩
 ·exact⟨h,rfl⟩
 ·rename_i k
  split at h
  ·rename_i u z' es hk
   simp only[Option.some.injEq,Prod.mk.injEq]at h
   obtain⟨rfl,rfl⟩:=h
   have hk':=(hf k (by simp)).trans hk
   simp only[hk',srcZ,hk,and_self]
  ·cases h
 ·cases h
theorem srcA_h {z:List C} {b:C} {rows:List (List C)} {f:List Nat} (h:srcA H z b=some (rows,f)) (hf:∀k∈f,H' k=H k):srcA H' z b=some (rows,f)∧srcQ H' b=srcQ H b:=by
 by_cases hst2:∃st,b= .v (.string st)
 ·obtain⟨st,rfl⟩:=hst2;exact⟨h,rfl⟩
 ·have h1:∀H,srcA H z b=srcR H z b:=by
   intro H
   cases b<;>try rfl
   rename_i v
   cases v<;>first|rfl|exact absurd ⟨_,rfl⟩ hst2
  have h2:∀H,srcQ H b=srcZ H b:=by
   intro H
   cases b<;>try rfl
   rename_i v
   cases v<;>first|rfl|exact absurd ⟨_,rfl⟩ hst2
  rw[h1]at h
  rw[h1,h2,h2]
  exact srcR_h h hf
theorem opBs_h {T:TypeId} {n:Nat} {ps:List (Nat×Operand)} {t:Nat} (h:opBs P E H T n ps t=some (c,e,fp)) (hf:∀k∈fp,H' k=H k):opBs P E H' T n ps t=some (c,e,fp):=by
 unfold opBs at*
 have hk:H' (flagN t)=H (flagN t):=by
  split at h
  all_goals
   obtain⟨f,_,rfl⟩:=addF_some h
   exact hf _ (List.mem_cons_self ..)
 have:flB H' (flagN t)=flB H (flagN t):=by unfold flB;rw[hk]
 rw[this];exact h
theorem opCopy_h {x y:Operand} {T U:TypeId} (h:opCopy P E H x y T U=some (c,e,fp)) (hf:∀k∈fp,H' k=H k):opCopy P E H' x y T U=some (c,e,fp):=by
 unfold opCopy at*
 split at h
 ·rename_i k b e' e2 h1 h2 he he2
  split at h
  ·rename_i u z es s hk hs
   split at h
   ·rename_i rows f hr
    simp only[Option.some.injEq,Prod.mk.injEq]at h
    obtain⟨rfl,rfl,rfl⟩:=h
    have hk':=(hf k (by simp)).trans hk
    obtain⟨r1,r2⟩:=srcR_h hr (fun j hj=>hf j (by simp[hj]))
    simp only[hk',hs,r1,r2]
   ·cases h
  ·cases h
 ·cases h
theorem opAppend_h {x y:Operand} {T U:TypeId} {t:Nat} (h:opAppend P E H x y T U t=some (c,e,fp)) (hf:∀k∈fp,H' k=H k):opAppend P E H' x y T U t=some (c,e,fp):=by
 unfold opAppend at*
 split at h
 ·split at h
  ·split at h
   ·rename_i rows f2 hr
    split at h
    ·simp only[Option.some.injEq,Prod.mk.injEq]at h
     obtain⟨rfl,rfl,rfl⟩:=h
     obtain⟨r1,r2⟩:=srcA_h hr fun k hk=>hf k (by simp[hk])
     simp only[r1,r2]
    ·simp only[Option.some.injEq,Prod.mk.injEq]at h
     obtain⟨rfl,rfl,rfl⟩:=h
     obtain⟨r1,r2⟩:=srcA_h hr fun k hk=>hf k (by simp[hk])
     simp only[r1,r2]
    ·rename_i k hx
     split at h
     ·rename_i u z' es hk
      simp only[Option.some.injEq,Prod.mk.injEq]at h
      obtain⟨rfl,rfl,rfl⟩:=h
      obtain⟨r1,r2⟩:=srcA_h hr fun k hk=>hf k (by simp[hk])
      have hk':=(hf k (by simp)).trans hk
      simp only[r1,r2,hk']
     ·cases h
    ·rename_i k u p hx
     split at h
     ·rename_i u' zz es hk
      split at h
      ·rename_i z' es' hj
       simp only[Option.some.injEq,Prod.mk.injEq]at h
       obtain⟨rfl,rfl,rfl⟩:=h
       obtain⟨r1,r2⟩:=srcA_h hr fun k hk=>hf k (by simp[hk])
       have hk':=(hf k (by simp)).trans hk
       simp only[r1,r2,hk',hj]
      ·cases h
     ·cases h
    ·cases h
   ·cases h
  ·cases h
 ·cases h
theorem opCall_h {X:Ctx} {w0:World} {sp:List (Spec P X w0)} {f:FuncId} {args:List Operand} {more:List SV} {t:Nat} (h:opCall sp E H f args more t=some (c,e,fp)) (hf:∀k∈fp,H' k=H k):opCall sp E H' f args more t=some (c,e,fp):=by
 unfold opCall at*
 split at h
 ·rename_i s vs hs hr
  simp only[Option.map_eq_some_iff,Prod.mk.injEq]at h
  obtain⟨⟨c',e',fp'⟩,hfn,h1,h2⟩:=h
  simp only[Prod.mk.injEq]at h2
  obtain⟨rfl,rfl⟩:=h2
  have:=s.loc t (vs++more) H H' c' _ _ hfn hf
  simp only[this,Option.map_some,h1]
 ·cases h
theorem opCallV_h {X:Ctx} {w0:World} {sp:List (Spec P X w0)} {s:Nat} {args:List Operand} {t:Nat} (h:opCallV sp E H s args t=some (c,e,fp)) (hf:∀k∈fp,H' k=H k):opCallV sp E H' s args t=some (c,e,fp):=by
 unfold opCallV at*
 split at h
 ·simp only[Option.map_eq_some_iff,Prod.mk.injEq]at h
  obtain⟨⟨c',e',fp'⟩,hfn,h1,h2⟩:=h
  simp only[Prod.mk.injEq]at h2
  obtain⟨rfl,rfl⟩:=h2
  simp only[opCall_h hfn hf,Option.map_some,h1]
 ·cases h
theorem fresh_h {d:Option Nat} {f f':Nat→Res} (h:fresh H d f=some (c,e,fp)) (hf:∀k∈fp,H' k=H k) (hff:∀{fp'},f (d.getD 999999)=some (c,e,fp')→(∀k∈fp',H' k=H k)→f' (d.getD 999999)=some (c,e,fp')):fresh H' d f'=some (c,e,fp):=by
 obtain⟨fp',h1,h2,rfl⟩:=fresh_some h
 have h3:H' (d.getD 999999)=none:=(hf _ (List.mem_cons_self ..)).trans h1
 unfold fresh
 rw[h3]
 simp only[hff h2 fun k hk=>hf k (List.mem_cons_of_mem _ hk),Option.map_some]
theorem opConvB_h {s d:TypeId} {x:Operand} (h:opConvB P E H s d x=some (c,e,fp)) (hf:∀k∈fp,H' k=H k):opConvB P E H' s d x=some (c,e,fp):=by
 unfold opConvB at*
 split at h
 ·rename_i cc e' h1 h2 h3
  split at h
  ·rename_i rows f hu hr
   simp only[Option.bind_eq_some_iff,rV,Option.some.injEq,Prod.mk.injEq]at h
   obtain⟨ns,hns,rfl,rfl,rfl⟩:=h
   obtain⟨r1,r2⟩:=srcR_h hr hf
   simp only[hu,r1,r2,hns,Option.bind_some,rV]
  ·cases h
 ·cases h
theorem opS_h {X:Ctx} {w0:World} {sp:List (Spec P X w0)} (h:opS sp o E H=some (c,e,fp)) (hf:∀k∈fp,H' k=H k):opS sp o E H'=some (c,e,fp):=by
 unfold opS at*
 split at h
 ·exact h
 ·exact h
 ·exact h
 ·exact fresh_h h hf fun h _=>h
 ·exact fresh_h h hf fun h _=>h
 ·exact h
 ·exact fresh_h h hf fun h hf=>opBs_h h hf
 ·exact fresh_h h hf fun h _=>h
 ·exact opLoad_h h hf
 ·split at h
  ·exact opStore_h h hf
  ·cases h
 ·exact h
 ·exact h
 ·exact opFieldAddr_h h hf
 ·exact h
 ·exact opIndexAddr_h h hf
 ·exact h
 ·exact fresh_h h hf fun h hf=>opSlice_h h hf
 ·exact h
 ·split at h
  ·exact h
  ·exact opConvB_h h hf
 ·exact opNil_h h hf
 ·exact h
 ·exact fresh_h h hf fun h _=>h
 ·exact opLookup_h h hf
 ·split at h
  ·exact opMapUpdate_h h hf
  ·cases h
 ·split at h
  ·exact opMapUpdate_h h hf
  ·cases h
 ·exact h
 ·exact fresh_h h hf fun h hf=>opPanic_h h hf
 ·split at h
  ·split at h
   ·exact fresh_h h hf fun h hf=>opAppend_h h hf
   ·exact opCopy_h h hf
   ·exact opBuiltin_h h hf
  ·exact fresh_h h hf fun h hf=>opCall_h h hf
  ·exact fresh_h h hf fun h hf=>opCallV_h h hf
  ·cases h
 ·cases h
theorem reads_congr:∀{ps:List (Nat×Operand)},(∀p∈ps,rdv E' p.2=rdv E p.2∧rdg E' p.2=rdg E p.2)→reads E' ps=reads E ps∧readG E' ps=readG E ps
 |[],_=>⟨rfl,rfl⟩
 |(i,x)::ps,h=>by
  have h0:=h (i,x) (List.mem_cons_self ..)
  have ih:=reads_congr (ps:=ps) fun p hp=>h p (List.mem_cons_of_mem _ hp)
  simp only[reads,readG,h0.1,h0.2,ih.1,ih.2,and_self]
theorem readA_congr:∀{ps:List Operand},(∀p∈ps,rdv E' p=rdv E p∧rdg E' p=rdg E p)→readA E' ps=readA E ps∧readAG E' ps=readAG E ps
 |[],_=>⟨rfl,rfl⟩
 |x::ps,h=>by
  have h0:=h x (List.mem_cons_self ..)
  have ih:=readA_congr (ps:=ps) fun p hp=>h p (List.mem_cons_of_mem _ hp)
  simp only[readA,readAG,h0.1,h0.2,ih.1,ih.2,and_self]
theorem readO_congr {x:Option Operand} (h:∀p,x=some p→rdv E' p=rdv E p∧rdg E' p=rdg E p):readO E' x=readO E x∧readOG E' x=readOG E x:=by
 cases x with
 |none=>exact⟨rfl,rfl⟩
 |some p=>simp only[readO,readOG,(h p rfl).1,(h p rfl).2,and_self]
theorem opS_e {X:Ctx} {w0:World} {sp:List (Spec P X w0)} (hr:∀x∈o.op.operands,rdv E' x=rdv E x∧rdg E' x=rdg E x):opS sp o E' H=opS sp o E H:=by
 obtain⟨dst,op,type,pos,after,guard⟩:=o
 cases op<;>simp only[opS,Op.operands]at hr ⊢
 case move x=>have h1:=hr x (by simp);simp only[opMove,h1.1,h1.2]
 case assign x=>have h1:=hr x (by simp);simp only[opMove,h1.1,h1.2]
 case pick x y z=>
  have h1:=hr x (by simp);have h2:=hr y (by simp);have h3:=hr z (by simp)
  simp only[opPick,h1.1,h1.2,h2.1,h2.2,h3.1,h3.2]
 case box T x=>have h1:=hr x (by simp);simp only[opBox,h1.1,h1.2]
 case build T ps=>
  have h1:=reads_congr (E:=E) (E':=E') (ps:=ps.toList) fun p hp=>hr p.2 (by simp;exact⟨p.1,by simpa using hp⟩)
  simp only[opBuild,h1.1,h1.2]
 case buildSlice T n ps=>
  have h1:=reads_congr (E:=E) (E':=E') (ps:=ps.toList) fun p hp=>hr p.2 (by simp;exact⟨p.1,by simpa using hp⟩)
  simp only[opBs,opBsD,opBuildSlice,h1.1,h1.2]
 case makeSlice T x y=>have h1:=hr x (by simp);have h2:=hr y (by simp);simp only[opMakeSlice,h1.1,h1.2,h2.1,h2.2]
 case load T x=>have h1:=hr x (by simp);simp only[opLoad,h1.1,h1.2]
 case store T x y=>have h1:=hr x (by simp);have h2:=hr y (by simp);simp only[opStore,h1.1,h1.2,h2.1,h2.2]
 case binOp op T x y T'=>have h1:=hr x (by simp);have h2:=hr y (by simp);simp only[opBin,h1.1,h1.2,h2.1,h2.2]
 case unOp op T x=>have h1:=hr x (by simp);simp only[opUn,h1.1,h1.2]
 case fieldAddr T x f=>have h1:=hr x (by simp);simp only[opFieldAddr,h1.1,h1.2]
 case field T x f=>have h1:=hr x (by simp);simp only[opField,h1.1,h1.2]
 case indexAddr T x y=>have h1:=hr x (by simp);have h2:=hr y (by simp);simp only[opIndexAddr,h1.1,h1.2,h2.1,h2.2]
 case index T x y=>have h1:=hr x (by simp);have h2:=hr y (by simp);simp only[opIndex,h1.1,h1.2,h2.1,h2.2]
 case slice T x lo hi mx=>
  have h1:=hr x (by simp)
  have h2:=readO_congr (E:=E) (E':=E') (x:=lo) fun p hp=>hr p (by simp[hp])
  have h3:=readO_congr (E:=E) (E':=E') (x:=hi) fun p hp=>hr p (by simp[hp])
  have h4:=readO_congr (E:=E) (E':=E') (x:=mx) fun p hp=>hr p (by simp[hp])
  simp only[opSlice,h1.1,h1.2,h2.1,h2.2,h3.1,h3.2,h4.1,h4.2]
 case extract x i=>have h1:=hr x (by simp);simp only[opExtract,h1.1,h1.2]
 case convert s d x=>have h1:=hr x (by simp);simp only[opConvert,opConvB,h1.1,h1.2]
 case nilCheck x=>have h1:=hr x (by simp);simp only[opNil,h1.1,h1.2]
 case makeInterface T x=>have h1:=hr x (by simp);simp only[opIface,h1.1,h1.2]
 case panic x=>have h1:=hr x (by simp);simp only[opPanic,h1.1,h1.2]
 case makeMap T r=>cases r<;>rfl
 case lookup T x i ok=>have h1:=hr x (by simp);have h2:=hr i (by simp);simp only[opLookup,h1.1,h1.2,h2.1,h2.2]
 case mapUpdate T m k v=>have h1:=hr m (by simp);have h2:=hr k (by simp);have h3:=hr v (by simp);simp only[opMapUpdate,h1.1,h1.2,h2.1,h2.2,h3.1,h3.2]
 case insert T m k v=>have h1:=hr m (by simp);have h2:=hr k (by simp);have h3:=hr v (by simp);simp only[opMapUpdate,h1.1,h1.2,h2.1,h2.2,h3.1,h3.2]
 case makeFunc fn first caps=>
  have hargs:=readA_congr (E:=E) (E':=E') (ps:=caps.toList) fun p hp=>hr p (by simp;exact .inr (by simpa using hp))
  simp only[opMakeFunc,hargs.1,hargs.2]
 case call cl=>
  obtain⟨ce,args,ts⟩:=cl
  have hargs:=readA_congr (E:=E) (E':=E') (ps:=args.toList) fun p hp=>hr p (by simp[Call.operands];exact .inr (by simpa using hp))
  cases ce with
  |builtin b=>
   simp only
   split
   ·rename_i x y T U h1 h2
    have hx:=hr x (by simp[Call.operands];rw[← Array.mem_toList_iff,h1];simp)
    have hy:=hr y (by simp[Call.operands];rw[← Array.mem_toList_iff,h1];simp)
    simp only[opAppend,hx.1,hx.2,hy.1,hy.2]
   ·rename_i x y T U h1 h2
    have hx:=hr x (by simp[Call.operands];rw[← Array.mem_toList_iff,h1];simp)
    have hy:=hr y (by simp[Call.operands];rw[← Array.mem_toList_iff,h1];simp)
    simp only[opCopy,hx.1,hx.2,hy.1,hy.2]
   ·simp only[opBuiltin,hargs.1,hargs.2]
  |invoke r m=>rfl
  |value f=>
   cases f with
   |func f=>simp only[opCall,hargs.1,hargs.2]
   |tmp t=>
    have h0:=hr (.tmp t) (by simp[Call.operands])
    simp only[opCallV,opCall,hargs.1,hargs.2,h0.1,h0.2]
   |_=>rfl
end
end Go.Sy
namespace Go.Sy
open Go.RowKit
def guardOf (ops:Array Oper) (o:Oper) (E:Env):Option Bool:=
 match o.guard with
 |none=>some true
 |some (j,want)=>
  match (ops[j]?).bind (·.dst) with
  |some t=>match E t with
   |some (g,.one (.v (.bool b)))=>some (g&&(if want then b else !b))
   |_=>none
  |none=>none
structure Wr where
 slot:Option (Nat×Bool×SV)
 us:List (Nat×Ch)
abbrev dumV:SV:=.one (.v (.bool false))
def slotOf (d:Option Nat) (g:Bool) (v:SV):Option (Nat×Bool×SV):=
 match d with
 |some t=>some (t,g,v)
 |none=>none
def dstLt (n:Nat):Option Nat→Bool
 |some t=>decide (t<n)
 |none=>true
def dstK:List (Nat×Value)→Nat→Option Nat→Bool
 |[],n,d=>dstLt n d
 |p::kp,n,d=>(match d with|some t=>!(p.1==t)|none=>true)&&dstK kp n d
theorem dstK_lt:∀{kp:List (Nat×Value)} {n:Nat} {d:Option Nat},dstK kp n d=true→dstLt n d=true
 |[],_,_,h=>h
 |_::_,_,_,h=>dstK_lt (Bool.and_eq_true_iff.1 h).2
theorem dstK_ne:∀{kp:List (Nat×Value)} {n t:Nat},dstK kp n (some t)=true→∀p∈kp,p.1≠t
 |[],_,_,_,_,h=>by cases h
 |q::kp,_,t,h,p,hp=>by
  obtain⟨h1,h2⟩:=Bool.and_eq_true_iff.1 h
  rcases List.mem_cons.1 hp with rfl|hp
  ·simpa using h1
  ·exact dstK_ne h2 p hp
def guarded (d:Option Nat) (g:Bool):Res→Option (Prop×Wr×List Nat)
 |some (c,⟨v,[]⟩,fp)=>some (g=true→c,⟨slotOf d g v,[]⟩,fp)
 |some (c,⟨v,p::u⟩,fp)=>if g=true then some (c,⟨slotOf d true v,p::u⟩,fp) else some (True,⟨slotOf d false dumV,[]⟩,[])
 |none=>if g=true then none else some (True,⟨slotOf d false dumV,[]⟩,[])
def opG {P:Program} {X:Ctx} {w0:World} (sp:List (Spec P X w0)) (n:Nat) (ops:Array Oper) (o:Oper) (E:Env) (H:Hp):Option (Prop×Wr×List Nat):=
 match dstK X.kp n o.dst,guardOf ops o E with
 |true,some g=>guarded o.dst g (opS sp o E H)
 |_,_=>none
def GR {P:Program} {X:Ctx} {w0:World} (sp:List (Spec P X w0)) (n:Nat) (ops:Array Oper) (o:Oper) (E:Env) (H:Hp) (x:Wr) (f:List Nat):Prop:=
 dstK X.kp n o.dst=true∧∃g,guardOf ops o E=some g∧
  ((∃c e,opS sp o E H=some (c,e,f)∧(g=true→c)∧(e.upd=[]∨g=true)∧x=⟨slotOf o.dst g e.val,e.upd⟩)∨(g=false∧x=⟨slotOf o.dst false dumV,[]⟩∧f=[]))
def Wr.E (x:Wr) (E:Env):Env:=match x.slot with|some (t,e)=>upd E t e|none=>E
def Wr.H (x:Wr) (H:Hp):Hp:=updH H x.us
section
variable {P:Program} {X:Ctx} {w0:World} {sp:List (Spec P X w0)} {n:Nat} {ops:Array Oper} {o:Oper} {E E':Env} {H H':Hp} {x:Wr} {f:List Nat}
theorem opG_GR {c:Prop} (h:opG sp n ops o E H=some (c,x,f)) (hc:c):GR sp n ops o E H x f:=by
 unfold opG at h
 split at h
 ·rename_i g hd hg
  refine⟨hd,g,hg,?_⟩
  unfold guarded at h
  split at h
  ·rename_i c1 v fp hs
   simp only[Option.some.injEq,Prod.mk.injEq]at h
   obtain⟨rfl,rfl,rfl⟩:=h
   exact .inl ⟨c1,⟨v,[]⟩,hs,hc,.inl rfl,rfl⟩
  ·rename_i c1 v p u fp hs
   split at h
   ·rename_i hgt
    simp only[Option.some.injEq,Prod.mk.injEq]at h
    obtain⟨rfl,rfl,rfl⟩:=h
    exact .inl ⟨c1,⟨v,p::u⟩,hs,fun _=>hc,.inr hgt,by rw[hgt]⟩
   ·rename_i hgt
    simp only[Option.some.injEq,Prod.mk.injEq]at h
    obtain⟨rfl,rfl,rfl⟩:=h
    exact .inr ⟨by simpa using hgt,rfl,rfl⟩
  ·split at h
   ·cases h
   ·rename_i hgt
    simp only[Option.some.injEq,Prod.mk.injEq]at h
    obtain⟨rfl,rfl,rfl⟩:=h
    exact .inr ⟨by simpa using hgt,rfl,rfl⟩
 ·cases h
theorem guardOf_local (h:∀t∈o.looksAt ops,E' t=E t):guardOf ops o E'=guardOf ops o E:=by
 unfold guardOf
 cases hg:o.guard with
 |none=>rfl
 |some gw=>
  obtain⟨j,want⟩:=gw
  simp only
  cases ht:(ops[j]?).bind (·.dst) with
  |none=>rfl
  |some t=>
   have:=h t (by simp[Oper.looksAt,hg,ht])
   simp only[this]
theorem rd_congr {x:Operand} (h:∀t,x= .tmp t→E' t=E t):rdv E' x=rdv E x∧rdg E' x=rdg E x:=by
 cases x with
 |tmp t=>simp[rdv,rdg,h t rfl]
 |_=>exact⟨rfl,rfl⟩
theorem GR_local (hE:∀t∈o.looksAt ops,E' t=E t) (h:GR sp n ops o E H x f) (hf:∀k∈f,H' k=H k):GR sp n ops o E' H' x f:=by
 obtain⟨hd,g,hg,h⟩:=h
 refine⟨hd,g,by rw[guardOf_local hE];exact hg,?_⟩
 have hr:∀y∈o.op.operands,rdv E' y=rdv E y∧rdg E' y=rdg E y:=fun y hy=>rd_congr fun t ht=>hE t (by
  subst ht
  exact List.mem_append_left _ (List.mem_filterMap.2 ⟨.tmp t,by simpa using hy,rfl⟩))
 rcases h with⟨c,e,h1,h2⟩|h
 ·exact .inl ⟨c,e,by rw[opS_e hr];exact opS_h h1 hf,h2⟩
 ·exact .inr h
theorem GR_dst (h:GR sp n ops o E H x f):∀t e,x.slot=some (t,e)→o.dst=some t:=by
 obtain⟨hd,g,hg,h⟩:=h
 intro t e hs
 have key:∀g v,slotOf o.dst g v=some (t,e)→o.dst=some t:=by
  intro g v h1
  unfold slotOf at h1
  split at h1
  ·rename_i t' ht;simp only[Option.some.injEq,Prod.mk.injEq]at h1;rw[ht,h1.1]
  ·cases h1
 rcases h with⟨c,e',h1,h2,h3,rfl⟩|⟨h1,rfl,_⟩
 ·exact key _ _ hs
 ·exact key _ _ hs
end
def keepA (X:Ctx) (a:Act):Prop:=a.defers=X.dfs∧∀p∈X.kp,a.tmps[p.1]?=some p.2
structure At (X:Ctx) (w0:World) (n:Nat) (I:Nm) (lab:Lab) (fz:Nat→Prop) (E:Env) (H:Hp) (a:Act) (w:World):Prop where
 n:a.tmps.size=n
 d:keepA X a
 e:AtE (hp w) fz lab I H E a
 m:AtW X w0 I lab fz H w
theorem put_size (a:Act) (d:Option Nat) (v:Value):(a.put d v).tmps.size=a.tmps.size:=by
 cases d<;>simp[Act.put]
theorem put_defers (a:Act) (d:Option Nat) (v:Value):(a.put d v).defers=a.defers:=by
 cases d<;>rfl
theorem put_get (a:Act) (t j:Nat) (v:Value) (ht:t<a.tmps.size):(a.put (some t) v).tmps[j]?=if j=t then some v else a.tmps[j]?:=by
 simp only[Act.put]
 rw[Array.getElem?_setIfInBounds]
 by_cases h:t=j
 ·subst h;simp[ht]
 ·simp[h,Ne.symm h]
theorem keep_put {X:Ctx} {a:Act} {n:Nat} {d:Option Nat} (h:keepA X a) (hd:dstK X.kp n d=true) (v:Value):keepA X (a.put d v):=by
 cases d with
 |none=>exact h
 |some t=>
  refine⟨by rw[put_defers];exact h.1,fun p hp=>?_⟩
  have h1:=dstK_ne hd p hp
  have h2:=h.2 p hp
  simp only[Act.put]
  rw[Array.getElem?_setIfInBounds,if_neg (Ne.symm h1)]
  exact h2
section
variable {P:Program} {X:Ctx} {w0:World} {n:Nat} {I:Nm} {lab:Lab} {fz:Nat→Prop} {E:Env} {H:Hp} {a:Act} {w:World}
theorem AtE.put (h:AtE (hp w) fz lab I H E a) {t:Nat} {g:Bool} {v:SV} {u:Value} (ht:t<a.tmps.size) (hu:if g then SDen (hp w) fz lab I H v u else u=undef):AtE (hp w) fz lab I H (upd E t (g,v)) (a.put (some t) u):=by
 intro j g' v' hj
 rw[put_get a t j u ht]
 unfold upd at hj
 split at hj
 ·rename_i he
  simp only[Option.some.injEq,Prod.mk.injEq]at hj
  obtain⟨rfl,rfl⟩:=hj
  rw[if_pos he]
  exact⟨u,rfl,hu⟩
 ·rename_i he
  rw[if_neg he]
  exact h j g' v' hj
theorem WFE.put (h:WFE E H) {t:Nat} {g:Bool} {v:SV} (hv:g=true→Dom H v.names):WFE (upd E t (g,v)) H:=fun j g' v' hj hg=>by
 unfold upd at hj
 split at hj
 ·simp only[Option.some.injEq,Prod.mk.injEq]at hj
  obtain⟨rfl,rfl⟩:=hj
  exact hv hg
 ·exact h j g' v' hj hg
theorem WFE.updH (h:WFE E H) (u:List (Nat×Ch)):WFE E (updH H u):=fun t g v ht hg=>dom_updH u (h t g v ht hg)
theorem AtE.mono (h:AtE (hp w) fz lab I H E a) (hW:WFE E H) {w':World} {I':Nm} {lab':Lab} {fz':Nat→Prop} {H':Hp} (hP:Pres (hp w) (hp w') fz fz' I I' H H'):AtE (hp w') fz' lab' I' H' E a:=by
 intro t g v ht
 obtain⟨x,hx,hd⟩:=h t g v ht
 refine⟨x,hx,?_⟩
 cases g with
 |false=>exact hd
 |true=>exact sden_mono hP hd (hW t true v ht rfl)
theorem guard_ok {ops:Array Oper} {o:Oper} {g:Bool} (hE:AtE (hp w) fz lab I H E a) (h:guardOf ops o E=some g):Region.wanted o (yielded ops a.tmps)=g:=by
 unfold guardOf at h
 unfold Region.wanted
 split at h
 ·rename_i hg;simp only[Option.some.injEq]at h;subst h;simp[hg]
 ·rename_i j want hg
  simp only[hg]
  split at h
  ·rename_i t ht
   split at h
   ·rename_i g0 b hb
    simp only[Option.some.injEq]at h
    subst h
    obtain⟨x,hx,hd⟩:=hE t g0 _ hb
    unfold yielded
    rw[ht]
    simp only[Option.bind_some,hx]
    cases g0 with
    |false=>
     simp only[Bool.false_eq_true,if_false]at hd
     subst hd
     cases want<;>simp[undef]
    |true=>
     simp only[if_true]at hd
     have:=sd_bool hd
     subst this
     cases b<;>cases want<;>simp
   ·simp at h
  ·simp at h
theorem opG_ok {Q:Exit→Act→World→Prop} {ops:Array Oper} {sp:List (Spec P X w0)} {i:Nat} {o:Oper} {x:Wr} {f:List Nat} (hi:ops[i]?=some o)
  (hP:∀ch a w,keepA X a→PanW X w0 ch w→Q (.panic ch) a w) (hA:At X w0 n I lab fz E H a w) (hW:WFE E H) (h:GR sp n ops o E H x f) :
  wpOp P ops Q i (fun a' w'=>WFE (x.E E) (x.H H)∧∃I' lab' fz',At X w0 n I' lab' fz' (x.E E) (x.H H) a' w') a w:=by
 obtain⟨hd,g,hg,h⟩:=h
 have hwant:=guard_ok hA.e hg
 have hdl:∀t,o.dst=some t→t<a.tmps.size:=by
  intro t ht
  have hd':=dstK_lt hd
  rw[ht]at hd'
  simp only[dstLt,decide_eq_true_eq]at hd'
  rw[hA.n];exact hd'
 have hkp:∀v,keepA X (a.put o.dst v):=keep_put hA.d hd
 unfold wpOp
 simp only[hi,hwant]
 have skip:∀v:SV,WFE (Wr.E ⟨slotOf o.dst false v,[]⟩ E) (Wr.H ⟨slotOf o.dst false v,[]⟩ H)∧∃I' lab' fz',At X w0 n I' lab' fz' (Wr.E ⟨slotOf o.dst false v,[]⟩ E) (Wr.H ⟨slotOf o.dst false v,[]⟩ H) (a.put o.dst undef) w:=by
  intro v
  cases hdst:o.dst with
  |none=>exact⟨hW,I,lab,fz,by rw[show a.put none undef=a from rfl];exact hA⟩
  |some t=>exact⟨hW.put (by simp),I,lab,fz,by rw[put_size];exact hA.n,by rw[← hdst];exact hkp _,hA.e.put (hdl t hdst) (by simp),hA.m⟩
 rcases h with⟨c,e,hop,hc,hu,rfl⟩|⟨rfl,rfl,_⟩
 ·cases g with
  |false=>
   simp only[Bool.false_eq_true,or_false]at hu
   simp only[Bool.false_eq_true,if_false]
   rw[hu]
   have:=skip e.val
   cases hdst:o.dst with
   |none=>rw[hdst]at this;simpa [slotOf,Act.put] using this
   |some t=>rw[hdst]at this;simpa [slotOf] using this
  |true=>
   simp only[if_true]
   left
   have hrun:=opS_ok sp hA.e hW hA.m hop (hc rfl)
   have hdom:=(opS_dom sp hW hA.m hop (hc rfl)).1
   unfold Oper.wp
   have fin:∀y w',Post X w0 w I lab fz H (some e.val) e.upd y w'→WFE (Wr.E ⟨slotOf o.dst true e.val,e.upd⟩ E) (Wr.H ⟨slotOf o.dst true e.val,e.upd⟩ H)∧∃I' lab' fz',At X w0 n I' lab' fz' (Wr.E ⟨slotOf o.dst true e.val,e.upd⟩ E) (Wr.H ⟨slotOf o.dst true e.val,e.upd⟩ H) (a.put o.dst y) w':=by
    rintro y w' ⟨I',lab',fz',h1,h2,h3⟩
    have hE':=hA.e.mono (lab':=lab') hW h3
    have h2:=h2 _ rfl
    cases hdst:o.dst with
    |none=>exact⟨hW.updH _,I',lab',fz',hA.n,hA.d,hE',h1⟩
    |some t=>exact⟨(hW.updH _).put (fun _=>hdom),I',lab',fz',by rw[put_size];exact hA.n,by rw[← hdst];exact hkp _,hE'.put (hdl t hdst) h2,h1⟩
   rcases hrun with⟨y,w',hr,hp'⟩|⟨w',hr,hdst,hp'⟩|⟨fn,args,hr,hcall⟩|⟨v,hr,hpan⟩
   ·rw[hr]
    exact fin y w' hp'
   ·rw[hr]
    obtain⟨I',lab',fz',h1,_,h3⟩:=hp'
    have hE':=hA.e.mono (lab':=lab') hW h3
    simp only[hdst,slotOf]
    exact⟨hW.updH _,I',lab',fz',by rw[put_size];exact hA.n,hkp _,by rw[hdst];exact hE',h1⟩
   ·rw[hr]
    refine hcall.mono ?_
    rintro en w' (⟨y,rfl,hp'⟩|⟨ch,rfl,hp'⟩)
    ·exact fin y w' hp'
    ·exact hP ch a w' hA.d hp'
   ·rw[hr]
    exact hP _ a w hA.d hpan
 ·simp only[Bool.false_eq_true,if_false]
  have:=skip dumV
  cases hdst:o.dst with
  |none=>rw[hdst]at this;simpa [slotOf,Act.put] using this
  |some t=>rw[hdst]at this;simpa [slotOf] using this
end
end Go.Sy
namespace Go.Sy
open Go.RowKit
def RunL {P:Program} {X:Ctx} {w0:World} (sp:List (Spec P X w0)) (n:Nat) (ops:Array Oper):List Oper→Env→Hp→List Wr→List (List Nat)→Prop
 |[],_,_,[],[]=>True
 |o::r,E,H,x::xs,f::fs=>GR sp n ops o E H x f∧RunL sp n ops r (x.E E) (x.H H) xs fs
 |_,_,_,_,_=>False
def foldE:List Wr→Nat→(Nat→Bool)→Env→Env
 |[],_,_,E=>E
 |x::xs,i,D,E=>foldE xs (i+1) D (if D i then x.E E else E)
def foldH:List Wr→Nat→(Nat→Bool)→Hp→Hp
 |[],_,_,H=>H
 |x::xs,i,D,H=>foldH xs (i+1) D (if D i then x.H H else H)
theorem foldE_agree (t:Nat):∀(xs:List Wr) (i:Nat) (D D':Nat→Bool) (E E':Env),E t=E' t→
  (∀j x e,xs[j]?=some x→x.slot=some (t,e)→D (i+j)=D' (i+j))→foldE xs i D E t=foldE xs i D' E' t
 |[],i,D,D',E,E',h,_=>h
 |x::xs,i,D,D',E,E',h,hD=>by
  simp only[foldE]
  refine foldE_agree t xs (i+1) D D' _ _ ?_ (fun j y e hy he=>by have:=hD (j+1) y e (by simpa using hy) he;rwa [show i+(j+1)=i+1+j by omega]at this)
  cases hs:x.slot with
  |none=>simp only[Wr.E,hs];(repeat' split)<;>exact h
  |some p=>
   obtain⟨t',e⟩:=p
   by_cases ht:t'=t
   ·subst ht
    have:=hD 0 x e (by simp) hs
    rw[Nat.add_zero]at this
    rw[this]
    split
    ·simp[Wr.E,hs,upd]
    ·exact h
   ·have hne:x.E E t=E t:=by simp only[Wr.E,hs,upd];rw[if_neg (Ne.symm ht)]
    have hne':x.E E' t=E' t:=by simp only[Wr.E,hs,upd];rw[if_neg (Ne.symm ht)]
    (repeat' split)<;>simp only[hne,hne',h]
theorem updH_agree {t:Nat}:∀(u:List (Nat×Ch)) {A B:Hp},A t=B t→updH A u t=updH B u t
 |[],_,_,h=>h
 |(k,c)::r,A,B,h=>updH_agree r (by unfold upd;split<;>first|rfl|exact h)
theorem updH_not {t:Nat}:∀(u:List (Nat×Ch)) {A:Hp},t∉u.map (·.1)→updH A u t=A t
 |[],_,_=>rfl
 |(k,c)::r,A,h=>by
  simp only[List.map_cons,List.mem_cons,not_or]at h
  simp only[updH]
  rw[updH_not r h.2,upd_ne _ _ h.1]
theorem updH_mem {t:Nat}:∀(u:List (Nat×Ch)) {A B:Hp},t∈u.map (·.1)→updH A u t=updH B u t
 |[],_,_,h=>by cases h
 |(k,c)::r,A,B,h=>by
  simp only[updH]
  by_cases hr:t∈r.map (·.1)
  ·exact updH_mem r hr
  ·simp only[List.map_cons,List.mem_cons,hr,or_false]at h
   subst h
   rw[updH_not r hr,updH_not r hr,upd_self,upd_self]
theorem foldH_agree (t:Nat):∀(xs:List Wr) (i:Nat) (D D':Nat→Bool) (E E':Hp),E t=E' t→
  (∀j x,xs[j]?=some x→t∈x.us.map (·.1)→D (i+j)=D' (i+j))→foldH xs i D E t=foldH xs i D' E' t
 |[],i,D,D',E,E',h,_=>h
 |x::xs,i,D,D',E,E',h,hD=>by
  simp only[foldH]
  refine foldH_agree t xs (i+1) D D' _ _ ?_ (fun j y hy he=>by have:=hD (j+1) y (by simpa using hy) he;rwa [show i+(j+1)=i+1+j by omega]at this)
  by_cases hs:t∈x.us.map (·.1)
  ·have:=hD 0 x (by simp) hs
   rw[Nat.add_zero]at this
   rw[this]
   split
   ·exact updH_mem _ hs
   ·exact h
  ·have hne:x.H E t=E t:=updH_not _ hs
   have hne':x.H E' t=E' t:=updH_not _ hs
   (repeat' split)<;>simp only[hne,hne',h]
theorem foldE_last (t:Nat) (e:Bool×SV):∀(xs:List Wr) (i:Nat) (D:Nat→Bool) (E:Env) (j:Nat) (x:Wr),xs[j]?=some x→x.slot=some (t,e)→D (i+j)=true→
  (∀k y e',j<k→xs[k]?=some y→y.slot=some (t,e')→D (i+k)=false)→foldE xs i D E t=some e
 |[],i,D,E,j,x,hx,_,_,_=>by simp at hx
 |x0::xs,i,D,E,0,x,hx,hs,hD,hl=>by
  simp only[List.getElem?_cons_zero,Option.some.injEq]at hx
  subst hx
  simp only[foldE]
  rw[Nat.add_zero]at hD
  rw[hD]
  simp only[if_true]
  rw[foldE_agree t xs (i+1) D (fun _=>false) (x0.E E) (x0.E E) rfl (fun k y e' hy he=>by have:=hl (k+1) y e' (by omega) (by simpa using hy) he;rwa [show i+(k+1)=i+1+k by omega]at this)]
  have:∀(ys:List Wr) (i:Nat) (E:Env),foldE ys i (fun _=>false) E=E:=by
   intro ys
   induction ys with
   |nil=>intro i E;rfl
   |cons y ys ih=>intro i E;simp[foldE,ih]
  rw[this]
  simp[Wr.E,hs,upd]
 |x0::xs,i,D,E,j+1,x,hx,hs,hD,hl=>by
  simp only[foldE]
  exact foldE_last t e xs (i+1) D _ j x (by simpa using hx) hs (by rwa [show i+1+j=i+(j+1) by omega]) (fun k y e' hk hy he=>by
   have:=hl (k+1) y e' (by omega) (by simpa using hy) he
   rwa [show i+(k+1)=i+1+k by omega]at this)
theorem foldH_last (t:Nat) (A:Hp):∀(xs:List Wr) (i:Nat) (D:Nat→Bool) (E:Hp) (j:Nat) (x:Wr),xs[j]?=some x→t∈x.us.map (·.1)→D (i+j)=true→
  (∀k y,j<k→xs[k]?=some y→t∈y.us.map (·.1)→D (i+k)=false)→foldH xs i D E t=updH A x.us t
 |[],i,D,E,j,x,hx,_,_,_=>by simp at hx
 |x0::xs,i,D,E,0,x,hx,hs,hD,hl=>by
  simp only[List.getElem?_cons_zero,Option.some.injEq]at hx
  subst hx
  simp only[foldH]
  rw[Nat.add_zero]at hD
  rw[hD]
  simp only[if_true]
  rw[foldH_agree t xs (i+1) D (fun _=>false) (x0.H E) (x0.H E) rfl (fun k y hy he=>by have:=hl (k+1) y (by omega) (by simpa using hy) he;rwa [show i+(k+1)=i+1+k by omega]at this)]
  have:∀(ys:List Wr) (i:Nat) (E:Hp),foldH ys i (fun _=>false) E=E:=by
   intro ys
   induction ys with
   |nil=>intro i E;rfl
   |cons y ys ih=>intro i E;simp[foldH,ih]
  rw[this]
  exact updH_mem _ hs
 |x0::xs,i,D,E,j+1,x,hx,hs,hD,hl=>by
  simp only[foldH]
  exact foldH_last t A xs (i+1) D _ j x (by simpa using hx) hs (by rwa [show i+1+j=i+(j+1) by omega]) (fun k y hk hy he=>by
   have:=hl (k+1) y (by omega) (by simpa using hy) he
   rwa [show i+(k+1)=i+1+k by omega]at this)
def maskOf (o:Oper) (acc:List Nat):Nat:=
 o.after.toList.foldr (fun e m=>if Region.binds .any e then m ||| (2 ^ e.on ||| acc.getD e.on 0) else m) 0
def ancL:List Oper→List Nat→List Nat
 |[],acc=>acc
 |o::r,acc=>ancL r (acc++[maskOf o acc])
def Dep (ops:Array Oper) (j k:Nat):Prop:=∃o,ops[j]?=some o∧∃e∈o.after,Region.binds .any e=true∧e.on=k
def Closed (ops:Array Oper) (D:Nat→Bool):Prop:=∀j k,D j=true→Dep ops j k→D k=true
theorem mask_ok {ops:Array Oper} {D:Nat→Bool} (hc:Closed ops D) (acc:List Nat) (hacc:∀j m k,acc[j]?=some m→m.testBit k=true→D j=true→D k=true) (o:Oper) (i:Nat) (ho:ops[i]?=some o) (hi:D i=true) (k:Nat)
  (hk:(maskOf o acc).testBit k=true):D k=true:=by
 have:∀(l:List Edge),(∀e∈l,e∈o.after)→(l.foldr (fun e m=>if Region.binds .any e then m ||| (2 ^ e.on ||| acc.getD e.on 0) else m) 0).testBit k=true→D k=true:=by
  intro l
  induction l with
  |nil=>intro _ h;simp at h
  |cons e l ih=>
   intro hl h
   simp only[List.foldr_cons]at h
   split at h
   ·rename_i hb
    simp only[Nat.testBit_or,Bool.or_eq_true]at h
    have hon:D e.on=true:=hc i e.on hi ⟨o,ho,e,hl e (List.mem_cons_self ..),hb,rfl⟩
    rcases h with h|h|h
    ·exact ih (fun e' he'=>hl e' (List.mem_cons_of_mem _ he')) h
    ·rw[Nat.testBit_two_pow]at h
     simp only[decide_eq_true_eq]at h
     rw[← h];exact hon
    ·cases hg:acc[e.on]? with
     |none=>simp[List.getD,hg]at h
     |some m=>simp only[List.getD,hg,Option.getD_some]at h;exact hacc e.on m k hg h hon
   ·exact ih (fun e' he'=>hl e' (List.mem_cons_of_mem _ he')) h
 exact this o.after.toList (fun e he=>Array.mem_toList_iff.1 he) hk
theorem anc_ok {ops:Array Oper} {D:Nat→Bool} (hc:Closed ops D):∀(l:List Oper) (acc:List Nat),(∀j,l[j]?=ops[acc.length+j]?)→
  (∀j m k,acc[j]?=some m→m.testBit k=true→D j=true→D k=true)→∀j m k,(ancL l acc)[j]?=some m→m.testBit k=true→D j=true→D k=true
 |[],acc,_,h=>h
 |o::l,acc,hl,h=>by
  refine anc_ok hc l (acc++[maskOf o acc]) (fun j=>by have:=hl (j+1);simp only[List.getElem?_cons_succ]at this;rw[this];congr 1;simp;omega) ?_
  intro j m k hj hm hD
  rw[List.getElem?_append]at hj
  split at hj
  ·exact h j m k hj hm hD
  ·rename_i hge
   have hj0:j=acc.length:=by
    rcases Nat.lt_or_ge acc.length j with h'|h'
    ·rw[List.getElem?_eq_none (by simp;omega)]at hj;simp at hj
    ·omega
   subst hj0
   simp only[Nat.sub_self,List.getElem?_cons_zero,Option.some.injEq]at hj
   subst hj
   have ho:ops[acc.length]?=some o:=by have:=hl 0;simp only[List.getElem?_cons_zero,Nat.add_zero]at this;exact this.symm
   exact mask_ok hc acc h o acc.length ho hD k hm
structure Tch where
 d:Option Nat
 r:List Nat
 wb:List Nat
 fp:List Nat
def tch (ops:Array Oper):List Oper→List Wr→List (List Nat)→List Tch
 |o::l,x::xs,f::fs=>⟨o.dst,o.looksAt ops,x.us.map (·.1),f⟩::tch ops l xs fs
 |_,_,_=>[]
def apartS (x y:Tch):Bool:=
 match x.d with
 |some d=>!(y.r.contains d)&&y.d != some d
 |none=>true
def apartB (x y:Tch):Bool:=x.wb.all fun b=>!(y.wb.contains b)&&!(y.fp.contains b)
def indep (x y:Tch):Bool:=apartS x y&&apartS y x&&apartB x y&&apartB y x
def chkRow (x:Tch) (i:Nat):List Tch→List Nat→Bool
 |y::ys,m::ms=>(m.testBit i||indep x y)&&chkRow x i ys ms
 |_,_=>true
def chkAll (i:Nat):List Tch→List Nat→Bool
 |x::xs,_::ms=>chkRow x i xs ms&&chkAll (i+1) xs ms
 |_,_=>true
def fwdM (md:Region.Mode) (m:Nat) (rk:Nat→Nat) (i:Nat):List Oper→Bool
 |[]=>true
 |o::l=>o.after.toList.all (fun e=>!Region.binds md e||(decide (e.on<m)&&decide (rk e.on<rk i)))&&fwdM md m rk (i+1) l
def rkOf (l:List Nat) (i:Nat):Nat:=l.idxOf i
def fwd (ops:Array Oper):Bool:=
 fwdM .any ops.size id 0 ops.toList&&fwdM .text ops.size id 0 ops.toList&&fwdM .gc ops.size (rkOf (Region.linearise .gc ops 0)) 0 ops.toList
def chk (ops:Array Oper) (xs:List Wr) (fs:List (List Nat)):Bool:=
 fwd ops&&chkAll 0 (tch ops ops.toList xs fs) (ancL ops.toList [])
theorem chkRow_spec {x:Tch} {i:Nat}:∀{ys:List Tch} {ms:List Nat},chkRow x i ys ms=true→∀(j:Nat) (y:Tch) (m:Nat),ys[j]?=some y→ms[j]?=some m→m.testBit i=true∨indep x y=true
 |[],_,_,j,y,m,hy,_=>by simp at hy
 |y0::ys,[],_,j,y,m,_,hm=>by simp at hm
 |y0::ys,m0::ms,h,0,y,m,hy,hm=>by
  simp only[List.getElem?_cons_zero,Option.some.injEq]at hy hm
  subst hy;subst hm
  simp only[chkRow,Bool.and_eq_true,Bool.or_eq_true]at h
  exact h.1
 |y0::ys,m0::ms,h,j+1,y,m,hy,hm=>by
  simp only[chkRow,Bool.and_eq_true]at h
  exact chkRow_spec h.2 j y m (by simpa using hy) (by simpa using hm)
theorem chkAll_spec:∀{xs:List Tch} {ms:List Nat} {s:Nat},chkAll s xs ms=true→∀(i j:Nat) (x y:Tch) (m:Nat),i<j→xs[i]?=some x→xs[j]?=some y→ms[j]?=some m→m.testBit (s+i)=true∨indep x y=true
 |[],_,_,_,i,j,x,y,m,_,hx,_,_=>by simp at hx
 |x0::xs,[],_,_,i,j,x,y,m,_,_,_,hm=>by simp at hm
 |x0::xs,m0::ms,s,h,0,j+1,x,y,m,_,hx,hy,hm=>by
  simp only[List.getElem?_cons_zero,Option.some.injEq]at hx
  subst hx
  simp only[chkAll,Bool.and_eq_true]at h
  exact chkRow_spec h.1 j y m (by simpa using hy) (by simpa using hm)
 |x0::xs,m0::ms,s,h,i+1,j+1,x,y,m,hij,hx,hy,hm=>by
  simp only[chkAll,Bool.and_eq_true]at h
  have:=chkAll_spec h.2 i j x y m (by omega) (by simpa using hx) (by simpa using hy) (by simpa using hm)
  rwa [show s+(i+1)=s+1+i by omega]
theorem ancL_length:∀(l:List Oper) (acc:List Nat),(ancL l acc).length=acc.length+l.length
 |[],acc=>rfl
 |o::l,acc=>by simp only[ancL,ancL_length l,List.length_append,List.length_nil,List.length_cons];omega
theorem fwdM_spec {md:Region.Mode} {m:Nat} {rk:Nat→Nat}:∀{l:List Oper} {s:Nat},fwdM md m rk s l=true→∀i o,l[i]?=some o→∀e∈o.after,Region.binds md e=true→e.on<m∧rk e.on<rk (s+i)
 |[],_,_,i,o,ho=>by simp at ho
 |o0::l,s,h,0,o,ho=>by
  simp only[List.getElem?_cons_zero,Option.some.injEq]at ho
  subst ho
  simp only[fwdM,Bool.and_eq_true,List.all_eq_true,Bool.or_eq_true,Bool.not_eq_true',decide_eq_true_eq]at h
  intro e he hb
  rcases h.1 e (Array.mem_toList_iff.2 he) with h1|h1
  ·rw[hb]at h1;simp at h1
  ·exact h1
 |o0::l,s,h,i+1,o,ho=>by
  simp only[fwdM,Bool.and_eq_true]at h
  intro e he hb
  have:=fwdM_spec h.2 i o (by simpa using ho) e he hb
  rwa [show s+(i+1)=s+1+i by omega]
theorem fwd_rank {ops:Array Oper} (h:fwd ops=true) (md:Region.Mode):∃rk:Nat→Nat,∀i o,ops[i]?=some o→∀e∈o.after,Region.binds md e=true→e.on<ops.size∧rk e.on<rk i:=by
 simp only[fwd,Bool.and_eq_true]at h
 obtain⟨⟨h1,h2⟩,h3⟩:=h
 have key:∀(md:Region.Mode) (rk:Nat→Nat),fwdM md ops.size rk 0 ops.toList=true→∀i o,ops[i]?=some o→∀e∈o.after,Region.binds md e=true→e.on<ops.size∧rk e.on<rk i:=by
  intro md rk hm i o ho e he hb
  have:=fwdM_spec hm i o (by rw[Array.getElem?_toList];exact ho) e he hb
  rwa [Nat.zero_add]at this
 cases md with
 |any=>exact⟨id,key _ _ h1⟩
 |text=>exact⟨id,key _ _ h2⟩
 |gc=>exact⟨_,key _ _ h3⟩
theorem plain_lt {ops:Array Oper} (h:fwd ops=true) {i:Nat} {o:Oper} (ho:ops[i]?=some o) {e:Edge} (he:e∈o.after) (hb:Region.binds .any e=true):e.on<ops.size:=by
 obtain⟨rk,hrk⟩:=fwd_rank h .any
 exact(hrk i o ho e he hb).1
theorem tch_spec (ops:Array Oper):∀(l:List Oper) (xs:List Wr) (fs:List (List Nat)) (i:Nat) (o:Oper) (x:Wr) (f:(List Nat)),l[i]?=some o→xs[i]?=some x→fs[i]?=some f→
  (tch ops l xs fs)[i]?=some ⟨o.dst,o.looksAt ops,x.us.map (·.1),f⟩
 |o::l,x::xs,f::fs,0,o',x',f',h1,h2,h3=>by
  simp only[List.getElem?_cons_zero,Option.some.injEq]at h1 h2 h3
  subst h1;subst h2;subst h3
  simp[tch]
 |o::l,x::xs,f::fs,i+1,o',x',f',h1,h2,h3=>by
  simp only[tch,List.getElem?_cons_succ]
  exact tch_spec ops l xs fs i o' x' f' (by simpa using h1) (by simpa using h2) (by simpa using h3)
 |[],_,_,i,_,_,_,h1,_,_=>by simp at h1
 |_::_,[],_,i,_,_,_,_,h2,_=>by simp at h2
 |_::_,_::_,[],i,_,_,_,_,_,h3=>by simp at h3
section
variable {P:Program} {X:Ctx} {w0:World} {sp:List (Spec P X w0)} {n:Nat} {ops:Array Oper}
theorem RunL_len:∀{l:List Oper} {E:Env} {H:Hp} {xs:List Wr} {fs:List (List Nat)},RunL sp n ops l E H xs fs→xs.length=l.length∧fs.length=l.length
 |[],_,_,[],[],_=>⟨rfl,rfl⟩
 |o::l,E,H,x::xs,f::fs,h=>by
  obtain⟨_,hr⟩:=h
  have:=RunL_len hr
  simp[this.1,this.2]
 |[],_,_,_::_,_,h=>by simp[RunL]at h
 |[],_,_,[],_::_,h=>by simp[RunL]at h
 |_::_,_,_,[],_,h=>by simp[RunL]at h
 |_::_,_,_,_::_,[],h=>by simp[RunL]at h
theorem foldE_false (xs:List Wr):∀(i:Nat) (D:Nat→Bool) (E:Env),(∀j,D (i+j)=false)→foldE xs i D E=E:=by
 induction xs with
 |nil=>intro i D E _;rfl
 |cons x xs ih=>
  intro i D E h
  simp only[foldE]
  rw[show D i=false from h 0]
  exact ih (i+1) D E (fun j=>by have:=h (j+1);rwa [show i+(j+1)=i+1+j by omega]at this)
theorem foldH_false (xs:List Wr):∀(i:Nat) (D:Nat→Bool) (E:Hp),(∀j,D (i+j)=false)→foldH xs i D E=E:=by
 induction xs with
 |nil=>intro i D E _;rfl
 |cons x xs ih=>
  intro i D E h
  simp only[foldH]
  rw[show D i=false from h 0]
  exact ih (i+1) D E (fun j=>by have:=h (j+1);rwa [show i+(j+1)=i+1+j by omega]at this)
theorem RunL_at:∀{l:List Oper} {E:Env} {H:Hp} {xs:List Wr} {fs:List (List Nat)} (s:Nat),RunL sp n ops l E H xs fs→∀(i:Nat) (o:Oper) (x:Wr) (f:(List Nat)),l[i]?=some o→xs[i]?=some x→fs[i]?=some f→
  GR sp n ops o (foldE xs s (fun j=>decide (j<s+i)) E) (foldH xs s (fun j=>decide (j<s+i)) H) x f
 |o::l,E,H,x::xs,f::fs,s,h,0,o',x',f',h1,h2,h3=>by
  simp only[List.getElem?_cons_zero,Option.some.injEq]at h1 h2 h3
  subst h1;subst h2;subst h3
  obtain⟨hs,hr⟩:=h
  rw[foldE_false _ s _ E (fun j=>by simp),foldH_false _ s _ H (fun j=>by simp)]
  exact hs
 |o::l,E,H,x::xs,f::fs,s,h,i+1,o',x',f',h1,h2,h3=>by
  obtain⟨hs,hr⟩:=h
  have ih:=RunL_at (s+1) hr i o' x' f' (by simpa using h1) (by simpa using h2) (by simpa using h3)
  have e:(fun j=>decide (j<s+1+i))=fun j=>decide (j<s+(i+1)):=by funext j;congr 1;rw[Nat.add_right_comm,Nat.add_assoc]
  rw[e]at ih
  have h0:decide (s<s+(i+1))=true:=by simp
  simp only[foldE,foldH,h0,if_true]
  simpa only[List.getElem?_cons_succ] using ih
 |[],_,_,_,_,_,_,i,_,_,_,h1,_,_=>by simp at h1
 |_::_,_,_,[],_,_,_,i,_,_,_,_,h2,_=>by simp at h2
 |_::_,_,_,_::_,[],_,_,i,_,_,_,_,_,h3=>by simp at h3
def stFinE (xs:List Wr) (E:Env):Env:=foldE xs 0 (fun _=>true) E
def stFinH (xs:List Wr) (H:Hp):Hp:=foldH xs 0 (fun _=>true) H
variable {E:Env} {H:Hp} {xs:List Wr} {fs:List (List Nat)} {Q:Exit→Act→World→Prop}
theorem any_step (hP:∀ch a w,keepA X a→PanW X w0 ch w→Q (.panic ch) a w) (hrun:RunL sp n ops ops.toList E H xs fs) (hchk:chk ops xs fs=true) {D:Nat→Bool} (hcl:Closed ops D) {i:Nat} {o:Oper} (ho:ops[i]?=some o) (hi:D i=false) (hdep:∀k,Dep ops i k→D k=true)
  {I:Nm} {lab:Lab} {fz:Nat→Prop} {a:Act} {w:World} (hW:WFE (foldE xs 0 D E) (foldH xs 0 D H)) (hA:At X w0 n I lab fz (foldE xs 0 D E) (foldH xs 0 D H) a w) :
  wpOp P ops Q i (fun a' w'=>WFE (foldE xs 0 (fun j=>D j||j==i) E) (foldH xs 0 (fun j=>D j||j==i) H)∧∃I' lab' fz',At X w0 n I' lab' fz' (foldE xs 0 (fun j=>D j||j==i) E) (foldH xs 0 (fun j=>D j||j==i) H) a' w') a w:=by
 have hlt:i<ops.size:=(Array.getElem?_eq_some_iff.1 ho).1
 obtain⟨hl1,hl2⟩:=RunL_len hrun
 have hsz:ops.toList.length=ops.size:=Array.length_toList
 rw[hsz]at hl1 hl2
 obtain⟨x,hx⟩:∃x,xs[i]?=some x:=⟨_,List.getElem?_eq_getElem (by omega)⟩
 obtain⟨f,hf⟩:∃f,fs[i]?=some f:=⟨_,List.getElem?_eq_getElem (by omega)⟩
 have hol:ops.toList[i]?=some o:=by rw[Array.getElem?_toList];exact ho
 have hs:=RunL_at 0 hrun i o x f hol hx hf
 simp only[chk,Bool.and_eq_true]at hchk
 obtain⟨_,hall⟩:=hchk
 have hcl':Closed ops (fun j=>D j||j==i):=by
  intro j k hj hd
  simp only[Bool.or_eq_true,beq_iff_eq]at hj ⊢
  rcases hj with hj|rfl
  ·exact .inl (hcl j k hj hd)
  ·exact .inl (hdep k hd)
 have pair:∀(j:Nat) (y:Wr) (g:(List Nat)) (oj:Oper),ops[j]?=some oj→xs[j]?=some y→fs[j]?=some g→j≠i→D j=decide (j<i)∨
   indep ⟨o.dst,o.looksAt ops,x.us.map (·.1),f⟩ ⟨oj.dst,oj.looksAt ops,y.us.map (·.1),g⟩=true∨indep ⟨oj.dst,oj.looksAt ops,y.us.map (·.1),g⟩ ⟨o.dst,o.looksAt ops,x.us.map (·.1),f⟩=true:=by
  intro j y g oj hoj hy hg hne
  have hjl:ops.toList[j]?=some oj:=by rw[Array.getElem?_toList];exact hoj
  have hjs:j<ops.size:=(Array.getElem?_eq_some_iff.1 hoj).1
  have t1:=tch_spec ops ops.toList xs fs i o x f hol hx hf
  have t2:=tch_spec ops ops.toList xs fs j oj y g hjl hy hg
  have hlen:=ancL_length ops.toList []
  simp only[List.length_nil,Nat.zero_add,Array.length_toList]at hlen
  have hanc:=fun (D':Nat→Bool) (h:Closed ops D')=>anc_ok h ops.toList [] (fun j=>by simp[Array.getElem?_toList]) (by simp)
  rcases Nat.lt_or_ge j i with hji|hij
  ·obtain⟨m,hm⟩:∃m,(ancL ops.toList [])[i]?=some m:=⟨_,List.getElem?_eq_getElem (by omega)⟩
   rcases chkAll_spec hall j i _ _ m hji t2 t1 hm with hb|hb
   ·rw[Nat.zero_add]at hb
    have:=hanc _ hcl' i m j hm hb (by simp)
    simp only[Bool.or_eq_true,beq_iff_eq,hne,or_false]at this
    exact .inl (by rw[this];simp[hji])
   ·exact .inr (.inr hb)
  ·have hij':i<j:=by omega
   obtain⟨m,hm⟩:∃m,(ancL ops.toList [])[j]?=some m:=⟨_,List.getElem?_eq_getElem (by omega)⟩
   rcases chkAll_spec hall i j _ _ m hij' t1 t2 hm with hb|hb
   ·rw[Nat.zero_add]at hb
    cases hD:D j with
    |false=>exact .inl (by simp;omega)
    |true=>
     have:=hanc _ hcl j m i hm hb hD
     rw[hi]at this;simp at this
   ·exact .inr (.inl hb)
 have ops_at:∀(j:Nat) (y:Wr),xs[j]?=some y→∃oj g,ops[j]?=some oj∧fs[j]?=some g:=by
  intro j y hy
  have:j<xs.length:=(List.getElem?_eq_some_iff.1 hy).1
  exact⟨_,_,Array.getElem?_eq_getElem (by omega),List.getElem?_eq_getElem (by omega)⟩
 have slot_dst:∀(j:Nat) (y:Wr) (oj:Oper) (g:(List Nat)),ops[j]?=some oj→xs[j]?=some y→fs[j]?=some g→∀t e,y.slot=some (t,e)→oj.dst=some t:=by
  intro j y oj g hoj hy hg t e he
  exact GR_dst (RunL_at 0 hrun j oj y g (by rw[Array.getElem?_toList];exact hoj) hy hg) t e he
 have hEq:∀t∈o.looksAt ops,foldE xs 0 D E t=foldE xs 0 (fun j=>decide (j<0+i)) E t:=by
  intro t ht
  refine foldE_agree t xs 0 D _ E E rfl (fun j y e hy he=>?_)
  simp only[Nat.zero_add]
  by_cases hne:j=i
  ·subst hne;rw[hi];simp
  ·obtain⟨oj,g,hoj,hg⟩:=ops_at j y hy
   have hdj:=slot_dst j y oj g hoj hy hg t e he
   rcases pair j y g oj hoj hy hg hne with h|h|h
   ·exact h
   ·simp only[indep,apartS,hdj,Bool.and_eq_true]at h
    have:=h.1.1.2.1
    simp[ht]at this
   ·simp only[indep,apartS,hdj,Bool.and_eq_true]at h
    have:=h.1.1.1.1
    simp[ht]at this
 have apB:∀{p q:Tch} {k:Nat},apartB p q=true→k∈p.wb→k∉q.wb∧k∉q.fp:=by
  intro p q k h hk
  simp only[apartB,List.all_eq_true]at h
  have:=h k hk
  simp only[Bool.and_eq_true,Bool.not_eq_true',List.contains_eq_mem,decide_eq_false_iff_not]at this
  exact this
 have hFp:∀k∈f,foldH xs 0 D H k=foldH xs 0 (fun j=>decide (j<0+i)) H k:=by
  intro k hkf
  refine foldH_agree k xs 0 D _ H H rfl (fun j y hy he=>?_)
  simp only[Nat.zero_add]
  by_cases hne:j=i
  ·subst hne;rw[hi];simp
  ·obtain⟨oj,g,hoj,hg⟩:=ops_at j y hy
   rcases pair j y g oj hoj hy hg hne with h|h|h
   ·exact h
   ·simp only[indep,Bool.and_eq_true]at h
    exact absurd hkf (apB h.2 he).2
   ·simp only[indep,Bool.and_eq_true]at h
    exact absurd hkf (apB h.1.2 he).2
 have hs':=GR_local hEq hs hFp
 have hE':x.E (foldE xs 0 D E)=foldE xs 0 (fun j=>D j||j==i) E:=by
  funext t
  cases hsl:x.slot with
  |none=>
   simp only[Wr.E,hsl]
   refine foldE_agree t xs 0 D _ E E rfl (fun j y e hy he=>?_)
   by_cases hne:j=i
   ·subst hne;rw[hx]at hy;simp only[Option.some.injEq]at hy;subst hy;rw[hsl]at he;simp at he
   ·simp[hne]
  |some p=>
   obtain⟨t',e'⟩:=p
   simp only[Wr.E,hsl,upd]
   by_cases ht:t=t'
   ·subst ht
    rw[if_pos rfl]
    refine(foldE_last t e' xs 0 _ E i x hx hsl (by simp) (fun k y e2 hk hy he=>?_)).symm
    simp only[Nat.zero_add]
    have hne:k≠i:=by omega
    obtain⟨oj,g,hoj,hg⟩:=ops_at k y hy
    have hdj:=slot_dst k y oj g hoj hy hg t e2 he
    have hdi:=slot_dst i x o f ho hx hf t e' hsl
    rcases pair k y g oj hoj hy hg hne with h|h|h
    ·rw[h];simp[hne];omega
    ·simp[indep,apartS,hdj,hdi]at h
    ·simp[indep,apartS,hdj,hdi]at h
   ·rw[if_neg ht]
    refine foldE_agree t xs 0 D _ E E rfl (fun j y e hy he=>?_)
    by_cases hne:j=i
    ·subst hne;rw[hx]at hy;simp only[Option.some.injEq]at hy;subst hy;rw[hsl]at he;simp at he;exact absurd he.1.symm ht
    ·simp[hne]
 have hH':x.H (foldH xs 0 D H)=foldH xs 0 (fun j=>D j||j==i) H:=by
  funext t
  by_cases ht:t∈x.us.map (·.1)
  ·refine(foldH_last t (foldH xs 0 D H) xs 0 _ H i x hx ht (by simp) (fun k y hk hy he=>?_)).symm
   simp only[Nat.zero_add]
   have hne:k≠i:=by omega
   obtain⟨oj,g,hoj,hg⟩:=ops_at k y hy
   rcases pair k y g oj hoj hy hg hne with h|h|h
   ·rw[h];simp[hne];omega
   ·simp only[indep,Bool.and_eq_true]at h
    exact absurd ht (apB h.2 he).1
   ·simp only[indep,Bool.and_eq_true]at h
    exact absurd ht (apB h.1.2 he).1
  ·rw[show x.H (foldH xs 0 D H) t=foldH xs 0 D H t from updH_not _ ht]
   refine foldH_agree t xs 0 D _ H H rfl (fun j y hy he=>?_)
   by_cases hne:j=i
   ·subst hne;rw[hx]at hy;simp only[Option.some.injEq]at hy;subst hy;exact absurd he ht
   ·simp[hne]
 rw[← hE',← hH']
 exact opG_ok ho hP hA hW hs'
end
def cnt (D:Nat→Bool):Nat→Nat
 |0=>0
 |k+1=>cnt D k+if D k then 0 else 1
theorem cnt_zero {D:Nat→Bool}:∀{m:Nat},cnt D m=0→∀i,i<m→D i=true
 |m+1,h,i,hi=>by
  simp only[cnt]at h
  by_cases he:i=m
  ·subst he
   cases hD:D i with
   |true=>rfl
   |false=>simp[hD]at h
  ·exact cnt_zero (m:=m) (by omega) i (by omega)
theorem cnt_congr {D D':Nat→Bool}:∀{m:Nat},(∀i,i<m→D i=D' i)→cnt D m=cnt D' m
 |0,_=>rfl
 |m+1,h=>by simp only[cnt];rw[cnt_congr (m:=m) (fun i hi=>h i (by omega)),h m (by omega)]
theorem cnt_set {D:Nat→Bool} {i:Nat} (hD:D i=false):∀{m:Nat},i<m→cnt (fun j=>D j||j==i) m+1=cnt D m
 |m+1,hi=>by
  simp only[cnt]
  by_cases he:i=m
  ·subst he
   rw[cnt_congr (D:=fun j=>D j||j==i) (D':=D) (m:=i) (fun j hj=>by
    have hji:(j==i)=false:=by simp;omega
    simp[hji])]
   simp[hD]
  ·have:=cnt_set hD (m:=m) (by omega)
   have h2:(m==i)=false:=by simp;omega
   simp only[h2,Bool.or_false]
   omega
section
variable {P:Program} {X:Ctx} {w0:World} {sp:List (Spec P X w0)} {n:Nat} {ops:Array Oper} {E:Env} {H:Hp} {xs:List Wr} {fs:List (List Nat)} {Q:Exit→Act→World→Prop}
theorem binds_any {e:Edge} (h:Region.binds .any e=true) (md:Region.Mode):Region.binds md e=true:=by
 unfold Region.binds at*
 split at h<;>simp_all
theorem any_wpAny (hP:∀ch a w,keepA X a→PanW X w0 ch w→Q (.panic ch) a w) (hrun:RunL sp n ops ops.toList E H xs fs) (hchk:chk ops xs fs=true)
  (hQ:∀a w I lab fz,WFE (stFinE xs E) (stFinH xs H)→At X w0 n I lab fz (stFinE xs E) (stFinH xs H) a w→Q .normal a w) (md:Region.Mode) :
  ∀(fuel:Nat) (listed:Array Bool) (D:Nat→Bool) (a:Act) (w:World) (I:Nm) (lab:Lab) (fz:Nat→Prop),listed.size=ops.size→(∀i,i<ops.size→listed.getD i false=D i)→cnt D ops.size=fuel→Closed ops D→
   WFE (foldE xs 0 D E) (foldH xs 0 D H)→At X w0 n I lab fz (foldE xs 0 D E) (foldH xs 0 D H) a w→wpAny P md ops Q fuel listed a w:=by
 have hfwd:fwd ops=true:=by simp only[chk,Bool.and_eq_true]at hchk;exact hchk.1
 obtain⟨hl1,hl2⟩:=RunL_len hrun
 have hsz:ops.toList.length=ops.size:=Array.length_toList
 rw[hsz]at hl1 hl2
 have fin:∀(D:Nat→Bool),(∀i,i<ops.size→D i=true)→foldE xs 0 D E=stFinE xs E∧foldH xs 0 D H=stFinH xs H:=by
  intro D hD
  constructor
  ·funext t
   exact foldE_agree t xs 0 D _ E E rfl (fun j y e hy _=>by
    have:j<xs.length:=(List.getElem?_eq_some_iff.1 hy).1
    rw[Nat.zero_add];exact hD j (by omega))
  ·funext t
   exact foldH_agree t xs 0 D _ H H rfl (fun j y hy _=>by
    have:j<xs.length:=(List.getElem?_eq_some_iff.1 hy).1
    rw[Nat.zero_add];exact hD j (by omega))
 have ready_nil:∀(listed:Array Bool) (D:Nat→Bool),listed.size=ops.size→(∀i,i<ops.size→listed.getD i false=D i)→Region.ready md ops listed=[]→∀i,i<ops.size→D i=true:=by
  intro listed D hls hL hnil
  obtain⟨rk,hrk⟩:=fwd_rank hfwd md
  have:∀k i,rk i=k→i<ops.size→D i=true:=by
   intro k
   induction k using Nat.strongRecOn with
   |_ k ih=>
    intro i hk hi
    cases hDi:D i with
    |true=>rfl
    |false=>
     have:i∈Region.ready md ops listed:=by
      rw[mem_ready]
      refine⟨?_,ops[i],Array.getElem?_eq_getElem hi,fun e he hb=>?_⟩
      ·have h1:=hL i hi
       rw[hDi]at h1
       have hil:i<listed.size:=by omega
       simp only[Array.getD_eq_getD_getElem?,Array.getElem?_eq_getElem hil,Option.getD_some]at h1 ⊢
       exact h1
      ·obtain⟨hon,hlt⟩:=hrk i ops[i] (Array.getElem?_eq_getElem hi) e he hb
       rw[hL e.on hon]
       exact ih (rk e.on) (by omega) e.on rfl hon
     rw[hnil]at this
     simp at this
  exact fun i hi=>this _ i rfl hi
 intro fuel
 induction fuel with
 |zero=>
  intro listed D a w I lab fz hls hL hcnt hcl hW hA
  have hall:=cnt_zero hcnt
  obtain⟨f1,f2⟩:=fin D hall
  rw[f1,f2]at hW hA
  refine⟨?_,hQ a w I lab fz hW hA⟩
  cases hr:Region.ready md ops listed with
  |nil=>rfl
  |cons i r=>
   have hi:i∈Region.ready md ops listed:=by rw[hr];exact List.mem_cons_self ..
   rw[mem_ready]at hi
   obtain⟨h1,o,ho,_⟩:=hi
   have hlt:i<ops.size:=(Array.getElem?_eq_some_iff.1 ho).1
   have h2:=hL i hlt
   have hil:i<listed.size:=by omega
   simp only[Array.getD_eq_getD_getElem?,Array.getElem?_eq_getElem hil,Option.getD_some]at h1 h2
   rw[h1]at h2
   rw[hall i hlt]at h2
   simp at h2
 |succ fuel ih=>
  intro listed D a w I lab fz hls hL hcnt hcl hW hA
  constructor
  ·intro hnil
   have hall:=ready_nil listed D hls hL hnil
   obtain⟨f1,f2⟩:=fin D hall
   rw[f1,f2]at hW hA
   exact hQ a w I lab fz hW hA
  ·intro i hi
   rw[mem_ready]at hi
   obtain⟨h1,o,ho,hdeps⟩:=hi
   have hlt:i<ops.size:=(Array.getElem?_eq_some_iff.1 ho).1
   have hil:i<listed.size:=by omega
   have hDi:D i=false:=by
    have h2:=hL i hlt
    simp only[Array.getD_eq_getD_getElem?,Array.getElem?_eq_getElem hil,Option.getD_some]at h1 h2
    rw[← h2];exact h1
   have hdep:∀k,Dep ops i k→D k=true:=by
    rintro k ⟨o',ho',e,he,hb,rfl⟩
    rw[ho]at ho'
    simp only[Option.some.injEq]at ho'
    subst ho'
    have h3:=hdeps e he (binds_any hb md)
    rw[← hL e.on (plain_lt hfwd ho he hb)]
    exact h3
   refine wpOp_mono ?_ (any_step hP hrun hchk hcl ho hDi hdep hW hA)
   rintro a' w' ⟨hW',I',lab',fz',hA'⟩
   refine ih (listed.setIfInBounds i true) (fun j=>D j||j==i) a' w' I' lab' fz' (by simp[hls]) ?_ ?_ ?_ hW' hA'
   ·intro j hj
    by_cases hji:j=i
    ·subst hji;simp[hil]
    ·have:=hL j hj
     rw[getD_set_ne false (Ne.symm hji),this]
     simp[hji]
   ·have:=cnt_set hDi hlt
    omega
   ·intro j k hj hd
    simp only[Bool.or_eq_true,beq_iff_eq]at hj ⊢
    rcases hj with hj|rfl
    ·exact .inl (hcl j k hj hd)
    ·exact .inl (hdep k hd)
theorem At.drawn {I:Nm} {lab:Lab} {fz:Nat→Prop} {a:Act} {w:World} (h:At X w0 n I lab fz E H a w) (k:Nat):At X w0 n I lab fz E H a { w with drawn:=k }:=
 ⟨h.n,h.d,h.e,h.m.drew _ rfl rfl rfl rfl⟩
theorem region_draw {id:Nat} {a:Act} {w:World} {I:Nm} {lab:Lab} {fz:Nat→Prop} (hP:∀ch a w,keepA X a→PanW X w0 ch w→Q (.panic ch) a w) (hrun:RunL sp n ops ops.toList E H xs fs) (hchk:chk ops xs fs=true) (hW:WFE E H) (hA:At X w0 n I lab fz E H a w)
  (hQ:∀a w I lab fz,WFE (stFinE xs E) (stFinH xs H)→At X w0 n I lab fz (stFinE xs E) (stFinH xs H) a w→Q .normal a w):(Code.region id ops true).wp P Q a w:=by
 refine wp_region_draw fun t=>?_
 have key:∀md t,wpOps P ops Q (Region.linearise md ops t) a { w with drawn:=w.drawn+1 }:=by
  intro md t
  refine wpAny_sound ops.size t (Array.replicate ops.size false) a _ ?_
  refine any_wpAny hP hrun hchk hQ md ops.size _ (fun _=>false) a _ I lab fz (by simp) (by intro i hi;simp[hi]) ?_ ?_ ?_ ?_
  ·have:∀m,cnt (fun _=>false) m=m:=by
    intro m
    induction m with
    |zero=>rfl
    |succ m ih=>simp[cnt,ih]
   exact this _
  ·intro j k hj;simp at hj
  ·rw[foldE_false _ _ _ _ (fun _=>rfl),foldH_false _ _ _ _ (fun _=>rfl)];exact hW
  ·rw[foldE_false _ _ _ _ (fun _=>rfl),foldH_false _ _ _ _ (fun _=>rfl)];exact hA.drawn _
 unfold Region.schedule
 split
 ·exact key _ _
 ·exact key _ _
theorem text_ops (hP:∀ch a w,keepA X a→PanW X w0 ch w→Q (.panic ch) a w):∀(l:List Oper) (s:Nat) (E:Env) (H:Hp) (xs:List Wr) (fs:List (List Nat)) (a:Act) (w:World) (I:Nm) (lab:Lab) (fz:Nat→Prop),(∀j,l[j]?=ops[s+j]?)→RunL sp n ops l E H xs fs→WFE E H→At X w0 n I lab fz E H a w→
  (∀a w I lab fz,WFE (foldE xs 0 (fun _=>true) E) (foldH xs 0 (fun _=>true) H)→At X w0 n I lab fz (foldE xs 0 (fun _=>true) E) (foldH xs 0 (fun _=>true) H) a w→Q .normal a w)→wpOps P ops Q (List.range' s l.length) a w
 |[],s,E,H,xs,fs,a,w,I,lab,fz,hl,hrun,hW,hA,hQ=>by
  have:=(RunL_len hrun).1
  simp only[List.length_nil,List.length_eq_zero_iff]at this
  subst this
  exact hQ a w I lab fz hW hA
 |o::l,s,E,H,x::xs,f::fs,a,w,I,lab,fz,hl,hrun,hW,hA,hQ=>by
  obtain⟨hs,hr⟩:=hrun
  have ho:ops[s]?=some o:=by have:=hl 0;simp only[List.getElem?_cons_zero,Nat.add_zero]at this;exact this.symm
  rw[List.length_cons,List.range'_succ,wpOps_cons]
  refine wpOp_mono ?_ (opG_ok ho hP hA hW hs)
  rintro a' w' ⟨hW',I',lab',fz',hA'⟩
  have gen:∀(ys:List Wr) (i j:Nat) (E:Env),foldE ys i (fun _=>true) E=foldE ys j (fun _=>true) E:=by
   intro ys
   induction ys with
   |nil=>intro i j E;rfl
   |cons y ys ih=>intro i j E;simp only[foldE];exact ih _ _ _
  have genH:∀(ys:List Wr) (i j:Nat) (E:Hp),foldH ys i (fun _=>true) E=foldH ys j (fun _=>true) E:=by
   intro ys
   induction ys with
   |nil=>intro i j E;rfl
   |cons y ys ih=>intro i j E;simp only[foldH];exact ih _ _ _
  refine text_ops hP l (s+1) _ _ xs fs a' w' I' lab' fz' (fun j=>by have:=hl (j+1);simp only[List.getElem?_cons_succ]at this;rw[this];congr 1;omega) hr hW' hA' ?_
  intro a2 w2 I2 lab2 fz2 hW2 hA2
  refine hQ a2 w2 I2 lab2 fz2 ?_ ?_
  ·simp only[foldE,foldH,if_true];rw[gen xs (0+1) 0,genH xs (0+1) 0];exact hW2
  ·simp only[foldE,foldH,if_true];rw[gen xs (0+1) 0,genH xs (0+1) 0];exact hA2
 |_::_,_,_,_,[],_,_,_,_,_,_,_,hrun,_,_,_=>by simp[RunL]at hrun
 |_::_,_,_,_,_::_,[],_,_,_,_,_,_,hrun,_,_,_=>by simp[RunL]at hrun
theorem region_text {id:Nat} {a:Act} {w:World} {I:Nm} {lab:Lab} {fz:Nat→Prop} (hP:∀ch a w,keepA X a→PanW X w0 ch w→Q (.panic ch) a w) (hrun:RunL sp n ops ops.toList E H xs fs) (hW:WFE E H) (hA:At X w0 n I lab fz E H a w)
  (hQ:∀a w I lab fz,WFE (stFinE xs E) (stFinH xs H)→At X w0 n I lab fz (stFinE xs E) (stFinH xs H) a w→Q .normal a w):(Code.region id ops false).wp P Q a w:=by
 refine wp_region ?_
 have:=text_ops (Q:=Q) hP ops.toList 0 E H xs fs a w I lab fz (fun j=>by simp[Array.getElem?_toList]) hrun hW hA hQ
 rwa [Array.length_toList,← List.range_eq_range']at this
end
end Go.Sy
namespace Go.Sy
open Go.RowKit
section
variable {X:Ctx} {w0 w:World} {I:Nm} {lab:Lab} {fz:Nat→Prop} {H:Hp}
def mapCh (σ:C→C):Ch→Ch
 | .dead=>.dead
 | .vec u z es=>.vec u z (es.map fun r=>r.map σ)
 | .mp ag es=>.mp ag (es.map fun p=>(p.1,p.2.map σ))
 | .fact p=>.fact p
def mapV (σ:C→C):SV→SV
 | .one c=>.one (σ c)
 | .agg l=>.agg (l.map σ)
 | .tup l=>.tup (l.map fun| .inl c=>.inl (σ c)| .inr l=>.inr (l.map σ))
def mapHp (σ:C→C) (H:Hp):Hp:=fun k=>(H k).map (mapCh σ)
theorem mapHp_some {σ:C→C} {H:Hp} (k:Nat):(mapHp σ H k).isSome=(H k).isSome:=by simp[mapHp]
structure OvS (σ:C→C):Prop where
 to:∀z es,σ (.ov z es)= .ov z es
 of:∀c z es,σ c= .ov z es→c= .ov z es
theorem getD_map' {A B:Type} (f:A→B) (l:List A) (i:Nat) (d:A) (h:i<l.length) (d':B):(l.map f).getD i d'=f (l.getD i d):=by
 simp[List.getD,h]
theorem atp_map {h:Heap} {σ:C→C} (hs:OvS σ) {p:List (Nat×Nat)} {a:Option (Nat×Nat)} {z:List C} {es:List (List C)} {x:Value} (hi:inP p z (es.map fun r=>r.map σ)):inP p z es∧(AtP h p a z es x→AtP h p a z (es.map fun r=>r.map σ) x):=by
 match p,hi with
 |[(i,j)],hi=>exact⟨by simpa [inP] using hi,fun h=>h⟩
 |(i,j)::q::r,hi=>
  obtain⟨h1,h2⟩:=hi
  have h1':i<es.length:=by simpa using h1
  rw[getD_map' _ es i z h1']at h2
  split at h2
  ·rename_i z' es' hg
   simp only[List.getElem?_map,Option.map_eq_some_iff]at hg
   obtain⟨c,hc,hg⟩:=hg
   have:=hs.of _ _ _ hg
   subst this
   refine⟨⟨h1',by rw[hc];exact h2⟩,?_⟩
   rintro ⟨b,off,arr,T,m,y,e1,e2,e3,e4⟩
   rw[hc]at e4
   refine⟨b,off,arr,T,m,y,e1,e2,e3,?_⟩
   rw[getD_map' _ es i z h1']
   simp only[List.getElem?_map,hc,Option.map_some,hs.to]
   exact e4
  ·exact h2.elim
theorem ovp_map {σ:C→C} (hs:OvS σ) {p:List (Nat×Nat)} {z:List C} {es:List (List C)} (hi:inP p z (es.map fun r=>r.map σ)) (ho:ovP p z (es.map fun r=>r.map σ)=true):ovP p z es=true:=by
 have key:∀(r:List C) (j:Nat),ovC ((r.map σ)[j]?)=true→(r.map σ)[j]?=r[j]?:=by
  intro r j h
  rw[List.getElem?_map]at h ⊢
  cases hr:r[j]? with
  |none=>rfl
  |some c=>
   rw[hr]at h
   cases hc:σ c with
   |ov z' es'=>have:=hs.of c z' es' hc;subst this;simp[hc]
   |_=>simp[hc,ovC]at h
 match p,hi,ho with
 |[(i,j)],hi,ho=>
  have hi':i<es.length:=by simpa [inP] using hi
  simp only[ovP,getP]at ho ⊢
  rw[getD_map' (fun r:List C=>r.map σ) es i z hi']at ho
  rw[← key _ _ ho];exact ho
 |(i,j)::p::r,hi,ho=>
  simp only[inP]at hi
  have hi':i<es.length:=by simpa using hi.1
  have h2:=hi.2
  simp only[ovP,getP]at ho ⊢
  rw[getD_map' (fun r:List C=>r.map σ) es i z hi']at ho h2
  have e:((es.getD i z).map σ)[j]?=(es.getD i z)[j]?:=by
   refine key _ _ ?_
   cases hx:((es.getD i z).map σ)[j]? with
   |none=>rw[hx]at h2;exact h2.elim
   |some c=>cases c<;>first|rfl|(rw[hx]at h2;exact h2.elim)
  rw[e]at ho;exact ho
theorem vw_map {h:Heap} {σ:C→C} (hs:OvS σ) {k u:Nat} {p:List (Nat×Nat)} {x:Value} (hv:Vw h I H k u p x):Vw h I (mapHp σ H) k u p x:=by
 refine⟨hv.1,fun u' z es hk=>?_⟩
 simp only[mapHp,Option.map_eq_some_iff]at hk
 obtain⟨ch,hk,hc⟩:=hk
 cases ch with
 |vec u2 z2 es2=>
  simp only[mapCh,Ch.vec.injEq]at hc
  obtain⟨rfl,rfl,rfl⟩:=hc
  obtain⟨g1,g2⟩:=hv.2 _ _ _ hk
  exact⟨g1,fun e hi ho=>(atp_map hs hi).2 (g2 e (atp_map (h:=h) (a:=(I k).b) (x:=x) hs hi).1 (ovp_map hs hi ho))⟩
 |dead=>simp[mapCh]at hc
 |fact p=>simp[mapCh]at hc
 |mp ag es2=>simp[mapCh]at hc
theorem sc_map {h:Heap} {σ:C→C} (hs:OvS σ) {c:C} {x:Value} (r:SC h fz lab I H c x):SC h fz lab I (mapHp σ H) c x:=by
 unfold SC at r
 split at r
 ·exact vw_map hs r
 ·obtain⟨y,h1,h2⟩:=r;exact⟨y,vw_map hs h1,h2⟩
 ·rename_i h1 h2
  have hs:c.stor=true:=by
   cases c<;>first|rfl|(exact absurd rfl (h1 _ _ _))|(exact absurd rfl (h2 _ _ _ _ _ _))|(exact absurd r.1 (by simp[C.flat]))
  exact sc_of hs r.2
theorem at_map (hA:AtW X w0 I lab fz H w) (σ:C→C) (h1:∀π c x,Den (hp w) fz lab I π c x→Den (hp w) fz lab I π (σ c) x) (hs:∀c,c.stor=true→(σ c).stor=true) (h2:∀c,Dom H c.names→Dom H (σ c).names) :
  AtW X w0 I lab fz (mapHp σ H) w:=by
 have hd:∀l,Dom H l→Dom (mapHp σ H) l:=fun l hl k hk=>by rw[mapHp_some];exact hl k hk
 refine⟨fun k ch hk=>?_,fun k ch hk=>?_,hA.own,hA.fzl,hA.fzo,hA.kept,fun p hp'=>⟨by rw[mapHp_some];exact(hA.fix p hp').1,(hA.fix p hp').2⟩⟩
 ·simp only[mapHp,Option.map_eq_some_iff]at hk
  obtain⟨c0,hk,rfl⟩:=hk
  have h0:=hA.h k c0 hk
  cases c0 with
  |dead=>trivial
  |fact p=>exact h0
  |vec u z es=>
   obtain⟨m1,m2,m3⟩:=h0
   refine⟨m1,m2,?_⟩
   rcases m3 with⟨rfl,h4⟩|⟨b,off,cap,arr,T,h3,h4,h5,h6,h7,h8⟩
   ·exact .inl ⟨rfl,h4⟩
   ·refine .inr ⟨b,off,cap,arr,T,by simpa using h3,h4,h5,h6,by simpa using h7,fun i cs hi=>?_⟩
    simp only[List.getElem?_map,Option.map_eq_some_iff]at hi
    obtain⟨r,hi,rfl⟩:=hi
    obtain⟨g1,g2⟩:=h8 i r hi
    refine⟨by simpa using g1,fun j c hj=>?_⟩
    simp only[List.getElem?_map,Option.map_eq_some_iff]at hj
    obtain⟨c',hj,rfl⟩:=hj
    obtain⟨y,y1,y2⟩:=g2 j c' hj
    exact⟨y,y1,h1 _ _ _ y2⟩
  |mp ag es=>
   obtain⟨r,entries,clock,e1,e2,e3,e4,e5⟩:=h0
   refine⟨r,entries,clock,e1,e2,e3,by simpa using e4,fun i p hi=>?_⟩
   simp only[List.getElem?_map,Option.map_eq_some_iff]at hi
   obtain⟨q,hi,rfl⟩:=hi
   obtain⟨e,g1,g2,g3⟩:=e5 i q hi
   refine⟨e,g1,g2,?_⟩
   cases ag with
   |true=>
    obtain⟨arr,k1,k2,k3⟩:=g3
    refine⟨arr,k1,by simpa using k2,fun j c hj=>?_⟩
    simp only[List.getElem?_map,Option.map_eq_some_iff]at hj
    obtain⟨c',hj,rfl⟩:=hj
    obtain⟨y,y1,y2,y3⟩:=k3 j c' hj
    exact⟨y,y1,hs _ y2,h1 _ _ _ y3⟩
   |false=>
    obtain⟨c,k1,k2,k3⟩:=g3
    exact⟨σ c,by simp[k1],hs _ k2,h1 _ _ _ k3⟩
 ·simp only[mapHp,Option.map_eq_some_iff]at hk
  obtain⟨c0,hk,rfl⟩:=hk
  have h0:=hA.wf k c0 hk
  apply hd
  cases c0 with
  |dead=>exact h0
  |fact p=>exact h0
  |vec u z es=>
   intro n hn
   simp only[mapCh,chNames,List.mem_flatMap,List.mem_map]at hn
   obtain⟨_,⟨r,hr,rfl⟩,_,hc,hn⟩:=hn
   obtain⟨c1,hc1,rfl⟩:=List.mem_map.1 hc
   exact h2 c1 (fun m hm=>h0 m (List.mem_flatMap.2 ⟨r,hr,List.mem_flatMap.2 ⟨c1,hc1,hm⟩⟩)) n hn
  |mp ag es=>
   intro n hn
   simp only[mapCh,chNames,List.mem_flatMap,List.mem_map]at hn
   obtain⟨_,⟨r,hr,rfl⟩,_,hc,hn⟩:=hn
   obtain⟨c1,hc1,rfl⟩:=List.mem_map.1 hc
   exact h2 c1 (fun m hm=>h0 m (List.mem_flatMap.2 ⟨r,hr,List.mem_flatMap.2 ⟨c1,hc1,hm⟩⟩)) n hn
theorem sd_map {h:Heap} {σ:C→C} (hs:OvS σ) (h1:∀c x,SC h fz lab I H c x→SC h fz lab I H (σ c) x) {v:SV} {x:Value} (r:SDen h fz lab I H v x):SDen h fz lab I (mapHp σ H) (mapV σ v) x:=by
 have cs:∀{l:List C} {arr:Array Value},CsDen h fz lab I H l arr→CsDen h fz lab I (mapHp σ H) (l.map σ) arr:=by
  intro l arr r
  refine⟨by simpa using r.1,fun j c hj=>?_⟩
  simp only[List.getElem?_map,Option.map_eq_some_iff]at hj
  obtain⟨c',hj,rfl⟩:=hj
  obtain⟨y,y1,y2⟩:=r.2 j c' hj
  exact⟨y,y1,sc_map hs (h1 _ _ y2)⟩
 cases v with
 |one c=>exact sc_map hs (h1 _ _ r)
 |agg l=>obtain⟨arr,e1,e2⟩:=r;exact⟨arr,e1,cs e2⟩
 |tup l=>
  obtain⟨arr,e1,e2,e3⟩:=r
  refine⟨arr,e1,by simpa using e2,fun j p hj=>?_⟩
  simp only[List.getElem?_map,Option.map_eq_some_iff]at hj
  obtain⟨p',hj,rfl⟩:=hj
  obtain⟨y,y1,y2⟩:=e3 j p' hj
  refine⟨y,y1,?_⟩
  cases p' with
  |inl c=>exact sc_map hs (h1 _ _ y2)
  |inr l=>obtain⟨arr,e1,e2⟩:=y2;exact⟨arr,e1,cs e2⟩
theorem at_fold (hA:AtW X w0 I lab fz H w) {n k i j u un:Nat} {z zn:List C} {es esn:List (List C)} (hk:H k=some (.vec u z es)) (hi:i<es.length) (hj:(es.getD i z)[j]?=some (.s n)) (hn:H n=some (.vec un zn esn)) (hne:n≠k)
  (hcl:∀(i j:Nat) (cs:List C) (c:C),esn[i]?=some cs→cs[j]?=some c→c.names=[]) :
  ∃lab',AtW X w0 I lab' fz (upd (upd H n .dead) k (.vec (u+1) z (es.set i ((es.getD i z).set j (.ov zn esn))))) w∧Pres (hp w) (hp w) fz fz I I H (upd (upd H n .dead) k (.vec (u+1) z (es.set i ((es.getD i z).set j (.ov zn esn))))):=by
 let lab':Lab:=fun b=>match lab b with
  |some (m::ρ)=>if m=n then some (k::i::j::ρ) else some (m::ρ)
  |x=>x
 have hzz:∀b,fz b→fz b∧hp w b=hp w b:=fun b hb=>⟨hb,rfl⟩
 have hlo:∀m,m≠n→∀b ρ,lab b=some ([m]++ρ)→lab' b=some ([m]++ρ):=by intro m h b ρ hb;simp[lab',hb,h]
 have hln:∀b ρ,lab b=some ([n]++ρ)→lab' b=some (([k]++[i,j])++ρ):=by intro b ρ hb;simp[lab',hb]
 have hsome:∀b π,lab' b=some π→∃π',lab b=some π':=by
  intro b π hb
  cases h:lab b with
  |none=>simp[lab',h]at hb
  |some π'=>exact⟨π',rfl⟩
 obtain⟨hbv,hbase⟩:=vec_base hA hk
 obtain⟨n1,n2,n3⟩:=hA.h n _ hn
 have hself:∀c,upd (upd H n .dead) k c k=some c:=fun c=>upd_self _ _ _
 have hnd:∀c,upd (upd H n .dead) k c n=some .dead:=fun c=>by rw[upd_ne _ _ hne,upd_self]
 have hoth:∀c m,m≠k→m≠n→upd (upd H n .dead) k c m=H m:=fun c m h1 h2=>by rw[upd_ne _ _ h1,upd_ne _ _ h2]
 have hd:∀l c,Dom H l→Dom (upd (upd H n .dead) k c) l:=fun l c hl=>dom_upd (dom_upd hl _ _) _ _
 obtain⟨yv,hyv⟩:=atp_ex [(i,j)] hbv hi (by simpa only[getP] using hj)
 have hden:=atp_open [(i,j)] hbv hi (by simpa only[getP] using hj) hyv
 have hy:yv=(I n).v:=by cases hden;rfl
 refine⟨lab',⟨fun k2 ch h=>?_,fun k2 ch h=>?_,fun b π hb=>?_,fun b hb=>⟨(hA.fzl b hb).1,by have:=(hA.fzl b hb).2;simp[lab',this]⟩,hA.fzo,hA.kept,fun p hp'=>⟨?_,(hA.fix p hp').2⟩⟩,hzz,fun _ _=>rfl,?_⟩
 ·by_cases e:k2=k
  ·subst e
   rw[hself]at h;simp only[Option.some.injEq]at h;subst h
   obtain⟨m1,m2,m3⟩:=hA.h k2 _ hk
   refine⟨m1,m2,vec_set1 hzz hbv hi hj hyv (fun b ρ hb _=>⟨hlo k2 (Ne.symm hne) b ρ hb,rfl⟩) (fun _ _ _ _ _ _ _ _=>rfl) ?_⟩
   rw[hy]
   exact vec_ov (vec_mono hzz n3 (fun b ρ hb=>⟨hln b ρ hb,rfl⟩) fun _ _ _ _ _ _ _ _=>rfl) hcl
  ·by_cases e2:k2=n
   ·subst e2;rw[hnd]at h;simp only[Option.some.injEq]at h;subst h;trivial
   ·rw[hoth _ k2 e e2]at h
    exact ch_keep hA h hzz (fun _ _=>rfl) fun b ρ hb=>⟨hlo k2 e2 b ρ hb,rfl⟩
 ·by_cases e:k2=k
  ·subst e
   rw[hself]at h;simp only[Option.some.injEq]at h;subst h
   refine hd _ _ fun m hm=>?_
   obtain⟨r,hr,hm⟩:=List.mem_flatMap.1 hm
   obtain⟨c,hc,hm⟩:=List.mem_flatMap.1 hm
   obtain⟨i2,hi2⟩:=List.mem_iff_getElem?.1 hr
   obtain⟨j2,hj2⟩:=List.mem_iff_getElem?.1 hc
   rcases setP_names [(i,j)] (c1:=.ov zn esn) (by simpa only[setP] using hi2) hj2 m hm with h|⟨r0,hr0,c0,hc0,h⟩
   ·cases h
   ·exact hA.wf k2 _ hk m (List.mem_flatMap.2 ⟨r0,hr0,List.mem_flatMap.2 ⟨c0,hc0,h⟩⟩)
  ·by_cases e2:k2=n
   ·subst e2;rw[hnd]at h;simp only[Option.some.injEq]at h;subst h;intro m hm;cases hm
   ·rw[hoth _ k2 e e2]at h
    exact hd _ _ (hA.wf k2 ch h)
 ·obtain⟨π',h⟩:=hsome b π hb;exact hA.own b π' h
 ·exact hd [p.1] _ (by intro q hq;simp at hq;subst hq;exact(hA.fix p hp').1) p.1 (by simp)
 ·intro m u2 p x hm hv
  by_cases e:m=k
  ·subst e;exact vw_bump hA hk (hself _) (by omega) hv
  ·by_cases e2:m=n
   ·subst e2;exact vw_dead (hnd _) hv
   ·exact vw_keep hA (hoth _ m e e2) rfl (fun _ _ _=>rfl) hv
theorem at_nilc (hA:AtW X w0 I lab fz H w) {k i j u:Nat} {z:List C} {es:List (List C)} (zn:List C) (hk:H k=some (.vec u z es)) (hi:i<es.length) (hj:(es.getD i z)[j]?=some (.v (.slice none 0 0))) :
  AtW X w0 I lab fz (upd H k (.vec (u+1) z (es.set i ((es.getD i z).set j (.ov zn []))))) w∧Pres (hp w) (hp w) fz fz I I H (upd H k (.vec (u+1) z (es.set i ((es.getD i z).set j (.ov zn []))))):=by
 have hzz:∀b,fz b→fz b∧hp w b=hp w b:=fun b hb=>⟨hb,rfl⟩
 obtain⟨hbv,hbase⟩:=vec_base hA hk
 have hself:∀c,upd H k c k=some c:=fun c=>upd_self _ _ _
 have hd:∀l c,Dom H l→Dom (upd H k c) l:=fun l c hl=>dom_upd hl _ _
 obtain⟨yv,hyv⟩:=atp_ex [(i,j)] hbv hi (by simpa only[getP] using hj)
 have hden:=atp_open [(i,j)] hbv hi (by simpa only[getP] using hj) hyv
 have hy:yv= .slice none 0 0:=by cases hden;rfl
 refine⟨⟨fun k2 ch h=>?_,fun k2 ch h=>?_,hA.own,hA.fzl,hA.fzo,hA.kept,fun p hp'=>⟨?_,(hA.fix p hp').2⟩⟩,hzz,fun _ _=>rfl,?_⟩
 ·by_cases e:k2=k
  ·subst e
   rw[hself]at h;simp only[Option.some.injEq]at h;subst h
   obtain⟨m1,m2,m3⟩:=hA.h k2 _ hk
   refine⟨m1,m2,vec_set1 hzz hbv hi hj hyv (fun b ρ hb _=>⟨hb,rfl⟩) (fun _ _ _ _ _ _ _ _=>rfl) ?_⟩
   rw[hy];exact .nil _ _
  ·rw[upd_ne _ _ e]at h
   exact hA.h k2 ch h
 ·by_cases e:k2=k
  ·subst e
   rw[hself]at h;simp only[Option.some.injEq]at h;subst h
   refine hd _ _ fun m hm=>?_
   obtain⟨r,hr,hm⟩:=List.mem_flatMap.1 hm
   obtain⟨c,hc,hm⟩:=List.mem_flatMap.1 hm
   obtain⟨i2,hi2⟩:=List.mem_iff_getElem?.1 hr
   obtain⟨j2,hj2⟩:=List.mem_iff_getElem?.1 hc
   rcases setP_names [(i,j)] (c1:=.ov zn []) (by simpa only[setP] using hi2) hj2 m hm with h|⟨r0,hr0,c0,hc0,h⟩
   ·cases h
   ·exact hA.wf k2 _ hk m (List.mem_flatMap.2 ⟨r0,hr0,List.mem_flatMap.2 ⟨c0,hc0,h⟩⟩)
  ·rw[upd_ne _ _ e]at h
   exact hd _ _ (hA.wf k2 ch h)
 ·exact hd [p.1] _ (by intro q hq;simp at hq;subst hq;exact(hA.fix p hp').1) p.1 (by simp)
 ·intro m u2 p x hm hv
  by_cases e:m=k
  ·subst e;exact vw_bump hA hk (hself _) (by omega) hv
  ·exact vw_keep hA (upd_ne _ _ e) rfl (fun _ _ _=>rfl) hv
theorem at_nilr (hA:AtW X w0 I lab fz H w) {k i j u:Nat} {z:List C} {es:List (List C)} {t ut:Nat} {zt:List C} (hk:H k=some (.vec u z es)) (hi:i<es.length) (hj:(es.getD i z)[j]?=some (.v (.slice none 0 0))) (ht:H t=some (.vec ut zt [])) (hv0:(I t).v= .slice none 0 0) :
  AtW X w0 I lab fz (upd H k (.vec (u+1) z (es.set i ((es.getD i z).set j (.s t))))) w∧Pres (hp w) (hp w) fz fz I I H (upd H k (.vec (u+1) z (es.set i ((es.getD i z).set j (.s t))))):=by
 have hzz:∀b,fz b→fz b∧hp w b=hp w b:=fun b hb=>⟨hb,rfl⟩
 obtain⟨hbv,hbase⟩:=vec_base hA hk
 have hself:∀c,upd H k c k=some c:=fun c=>upd_self _ _ _
 have hd:∀l c,Dom H l→Dom (upd H k c) l:=fun l c hl=>dom_upd hl _ _
 obtain⟨yv,hyv⟩:=atp_ex [(i,j)] hbv hi (by simpa only[getP] using hj)
 have hden:=atp_open [(i,j)] hbv hi (by simpa only[getP] using hj) hyv
 have hy:yv= .slice none 0 0:=by cases hden;rfl
 refine⟨⟨fun k2 ch h=>?_,fun k2 ch h=>?_,hA.own,hA.fzl,hA.fzo,hA.kept,fun p hp'=>⟨?_,(hA.fix p hp').2⟩⟩,hzz,fun _ _=>rfl,?_⟩
 ·by_cases e:k2=k
  ·subst e
   rw[hself]at h;simp only[Option.some.injEq]at h;subst h
   obtain⟨m1,m2,m3⟩:=hA.h k2 _ hk
   refine⟨m1,m2,vec_set1 hzz hbv hi hj hyv (fun b ρ hb _=>⟨hb,rfl⟩) (fun _ _ _ _ _ _ _ _=>rfl) ?_⟩
   rw[hy,← hv0];exact .s _ _
  ·rw[upd_ne _ _ e]at h
   exact hA.h k2 ch h
 ·by_cases e:k2=k
  ·subst e
   rw[hself]at h;simp only[Option.some.injEq]at h;subst h
   refine hd _ _ fun m hm=>?_
   obtain⟨r,hr,hm⟩:=List.mem_flatMap.1 hm
   obtain⟨c,hc,hm⟩:=List.mem_flatMap.1 hm
   obtain⟨i2,hi2⟩:=List.mem_iff_getElem?.1 hr
   obtain⟨j2,hj2⟩:=List.mem_iff_getElem?.1 hc
   rcases setP_names [(i,j)] (c1:=.s t) (by simpa only[setP] using hi2) hj2 m hm with h|⟨r0,hr0,c0,hc0,h⟩
   ·simp only[C.names,List.mem_singleton]at h;subst h;rw[ht];rfl
   ·exact hA.wf k2 _ hk m (List.mem_flatMap.2 ⟨r0,hr0,List.mem_flatMap.2 ⟨c0,hc0,h⟩⟩)
  ·rw[upd_ne _ _ e]at h
   exact hd _ _ (hA.wf k2 ch h)
 ·exact hd [p.1] _ (by intro q hq;simp at hq;subst hq;exact(hA.fix p hp').1) p.1 (by simp)
 ·intro m u2 p x hm hv
  by_cases e:m=k
  ·subst e;exact vw_bump hA hk (hself _) (by omega) hv
  ·exact vw_keep hA (upd_ne _ _ e) rfl (fun _ _ _=>rfl) hv
theorem at_tell (hA:AtW X w0 I lab fz H w) {k i j u:Nat} {z:List C} {es:List (List C)} {c0 c1:C} {y:Value} (hk:H k=some (.vec u z es)) (hi:i<es.length) (hj:(es.getD i z)[j]?=some c0) (hyv:AtP (hp w) [(i,j)] (baseOf (I k).v) z es y) (h1:Den (hp w) fz lab I ([k]++[i,j]) c1 y) (hdm:Dom H c1.names) :
  AtW X w0 I lab fz (upd H k (.vec (u+1) z (es.set i ((es.getD i z).set j c1)))) w∧Pres (hp w) (hp w) fz fz I I H (upd H k (.vec (u+1) z (es.set i ((es.getD i z).set j c1)))):=by
 have hzz:∀b,fz b→fz b∧hp w b=hp w b:=fun b hb=>⟨hb,rfl⟩
 obtain⟨hbv,hbase⟩:=vec_base hA hk
 have hself:∀c,upd H k c k=some c:=fun c=>upd_self _ _ _
 have hd:∀l c,Dom H l→Dom (upd H k c) l:=fun l c hl=>dom_upd hl _ _
 refine⟨⟨fun k2 ch h=>?_,fun k2 ch h=>?_,hA.own,hA.fzl,hA.fzo,hA.kept,fun p hp'=>⟨?_,(hA.fix p hp').2⟩⟩,hzz,fun _ _=>rfl,?_⟩
 ·by_cases e:k2=k
  ·subst e
   rw[hself]at h;simp only[Option.some.injEq]at h;subst h
   obtain⟨m1,m2,m3⟩:=hA.h k2 _ hk
   exact⟨m1,m2,vec_set1 hzz hbv hi hj hyv (fun b ρ hb _=>⟨hb,rfl⟩) (fun _ _ _ _ _ _ _ _=>rfl) h1⟩
  ·rw[upd_ne _ _ e]at h
   exact hA.h k2 ch h
 ·by_cases e:k2=k
  ·subst e
   rw[hself]at h;simp only[Option.some.injEq]at h;subst h
   refine hd _ _ fun m hm=>?_
   obtain⟨r,hr,hm⟩:=List.mem_flatMap.1 hm
   obtain⟨c,hc,hm⟩:=List.mem_flatMap.1 hm
   obtain⟨i2,hi2⟩:=List.mem_iff_getElem?.1 hr
   obtain⟨j2,hj2⟩:=List.mem_iff_getElem?.1 hc
   rcases setP_names [(i,j)] (c1:=c1) (by simpa only[setP] using hi2) hj2 m hm with h|⟨r0,hr0,c0,hc0,h⟩
   ·exact hdm m h
   ·exact hA.wf k2 _ hk m (List.mem_flatMap.2 ⟨r0,hr0,List.mem_flatMap.2 ⟨c0,hc0,h⟩⟩)
  ·rw[upd_ne _ _ e]at h
   exact hd _ _ (hA.wf k2 ch h)
 ·exact hd [p.1] _ (by intro q hq;simp at hq;subst hq;exact(hA.fix p hp').1) p.1 (by simp)
 ·intro m u2 p x hm hv
  by_cases e:m=k
  ·subst e;exact vw_bump hA hk (hself _) (by omega) hv
  ·exact vw_keep hA (upd_ne _ _ e) rfl (fun _ _ _=>rfl) hv
theorem at_unr (hA:AtW X w0 I lab fz H w) {k i j u t:Nat} {z zn:List C} {es esn:List (List C)} (ht:H t=none) (hk:H k=some (.vec u z es)) (hi:i<es.length) (hj:(es.getD i z)[j]?=some (.ov zn esn)) :
  ∃I' lab',AtW X w0 I' lab' fz (upd (upd H t (.vec 0 zn esn)) k (.vec (u+2) z (es.set i ((es.getD i z).set j (.s t))))) w∧Pres (hp w) (hp w) fz fz I I' H (upd (upd H t (.vec 0 zn esn)) k (.vec (u+2) z (es.set i ((es.getD i z).set j (.s t))))):=by
 have hkt:k≠t:=by rintro rfl;rw[ht]at hk;cases hk
 obtain⟨hbv,hbase⟩:=vec_base hA hk
 obtain⟨y,hy⟩:=atp_ex [(i,j)] hbv hi (by simpa only[getP] using hj)
 obtain⟨lab',nv,n1,n2,r1,r2⟩:=at_take hA (p:=[(i,j)]) ht hk hi (by simpa only[getP] using hj) (by rw[← hbase];exact hy)
 have r2:=r2.pres ht
 simp only[setP]at r1 r2
 have hlt:j<(es.getD i z).length:=(List.getElem?_eq_some_iff.1 hj).1
 have hk2:upd (upd H k (.vec (u+1) z (es.set i ((es.getD i z).set j .any)))) t (.vec 0 zn esn) k=some (.vec (u+1) z (es.set i ((es.getD i z).set j .any))):=by rw[upd_ne _ _ hkt,upd_self]
 have hg:(es.set i ((es.getD i z).set j .any)).getD i z=(es.getD i z).set j .any:=by simp[List.getD,hi]
 have hIk:(fun n=>if n=t then nv else I n) k=I k:=by simp[hkt]
 obtain⟨r3,r4⟩:=at_tell r1 (c0:=.any) (c1:=.s t) (y:=y) (i:=i) (j:=j) hk2 (by simpa using hi) (by rw[hg];exact List.getElem?_set_self hlt) (by have h:=hy;simp only[AtP]at h ⊢;simpa [hkt] using h)
  (by have:=Den.s (h:=hp w) (fz:=fz) (lab:=lab') (I:=fun n=>if n=t then nv else I n) ([k]++[i,j]) t;simpa [n2] using this)
  (by intro m hm;simp only[C.names,List.mem_singleton]at hm;subst hm;rw[upd_self];rfl)
 have e:upd (upd (upd H k (.vec (u+1) z (es.set i ((es.getD i z).set j .any)))) t (.vec 0 zn esn)) k (.vec (u+1+1) z ((es.set i ((es.getD i z).set j .any)).set i (((es.set i ((es.getD i z).set j .any)).getD i z).set j (.s t))))=upd (upd H t (.vec 0 zn esn)) k (.vec (u+2) z (es.set i ((es.getD i z).set j (.s t)))):=by
  rw[hg,List.set_set,List.set_set]
  funext m
  unfold upd
  by_cases e1:m=k
  ·simp[e1]
  ·simp[e1]
 rw[e]at r3 r4
 exact⟨_,lab',r3,r2.trans r4 fun m hm=>dom_upd (l:=[m]) (dom_upd (l:=[m]) (by intro q hq;simp at hq;subst hq;exact hm) k _) t _ m (by simp)⟩
end
end Go.Sy
namespace Go.Sy
open Go.RowKit
def lkp {α:Type}:List (Nat×α)→Nat→Option α
 |[],_=>none
 |(k,v)::r,t=>if t=k then some v else lkp r t
theorem lkp_cons {α:Type} (k:Nat) (v:α) (r:List (Nat×α)):lkp ((k,v)::r)=upd (lkp r) k v:=by
 funext t;simp[lkp,upd]
theorem lkp_mem {α:Type}:∀{l:List (Nat×α)} {t:Nat} {v:α},lkp l t=some v→(t,v)∈l
 |[],t,v,h=>by simp[lkp]at h
 |(k,u)::r,t,v,h=>by
  simp only[lkp]at h
  split at h
  ·rename_i ht;subst ht;simp only[Option.some.injEq]at h;subst h;exact List.mem_cons_self ..
  ·exact List.mem_cons_of_mem _ (lkp_mem h)
theorem lkp_map {α β:Type} (f:α→β) (t:Nat):∀l:List (Nat×α),lkp (l.map fun p=>(p.1,f p.2)) t=(lkp l t).map f
 |[]=>rfl
 |(k,u)::r=>by
  simp only[List.map_cons,lkp]
  split
  ·rfl
  ·exact lkp_map f t r
structure St where
 e:List (Nat×Bool×SV)
 h:List (Nat×Ch)
def addL:List (Nat×Ch)→List (Nat×Ch)→List (Nat×Ch)
 |h,[]=>h
 |h,p::r=>addL (p::h) r
theorem lkp_addL:∀(us h:List (Nat×Ch)),lkp (addL h us)=updH (lkp h) us
 |[],h=>rfl
 |(k,c)::r,h=>by simp only[addL,updH,lkp_addL r,lkp_cons]
def addS:List (Nat×Bool×SV)→Option (Nat×Bool×SV)→List (Nat×Bool×SV)
 |l,some p=>p::l
 |l,none=>l
def St.app (s:St) (x:Wr):St:=⟨addS s.e x.slot,addL s.h x.us⟩
theorem app_e (s:St) (x:Wr):lkp (s.app x).e=x.E (lkp s.e):=by
 unfold St.app Wr.E addS
 cases x.slot with
 |none=>rfl
 |some p=>obtain⟨t,e⟩:=p;exact lkp_cons t e s.e
theorem app_h (s:St) (x:Wr):lkp (s.app x).h=x.H (lkp s.h):=lkp_addL _ _
def Holds (X:Ctx) (w0:World) (n:Nat) (s:St) (a:Act) (w:World):Prop:=
 WFE (lkp s.e) (lkp s.h)∧∃I lab fz,At X w0 n I lab fz (lkp s.e) (lkp s.h) a w
def Ent (X:Ctx) (w0:World) (n:Nat) (s t:St):Prop:=∀a w,Holds X w0 n s a w→Holds X w0 n t a w
def fzC (k:Nat) (z:List D) (es:List (List D)):C→C
 | .s n=>if n=k then .d (.sl z es) else .s n
 | .p n i j=>if n=k then (if i<es.length then .d (.pt (some ((es.getD i z).drop j))) else .any) else .p n i j
 | .vw n u p=>if n=k then .any else .vw n u p
 | .q n u p s m o=>if n=k then .any else .q n u p s m o
 | .fn f caps=>if (caps.flatMap capN).contains k=true then .any else .fn f caps
 |c=>c
def mvC (k t:Nat):C→C
 | .s n=>if n=k then .s t else .s n
 | .p n i j=>if n=k then .p t i j else .p n i j
 | .vw n u p=>if n=k then .any else .vw n u p
 | .q n u p s m o=>if n=k then .any else .q n u p s m o
 | .fn f caps=>if (caps.flatMap capN).contains k=true then .any else .fn f caps
 |c=>c
def fzmC (k:Nat) (es:List (List UInt8×Value)):C→C
 | .s n=>if n=k then .d (.mp es) else .s n
 | .p n i j=>if n=k then .any else .p n i j
 | .vw n u p=>if n=k then .any else .vw n u p
 | .q n u p s m o=>if n=k then .any else .q n u p s m o
 | .fn f caps=>if (caps.flatMap capN).contains k=true then .any else .fn f caps
 |c=>c
def toVs:List (List UInt8×List C)→Option (List (List UInt8×Value))
 |[]=>some []
 |(k,[.v x])::r=>(toVs r).map ((k,x)::·)
 |_::_=>none
inductive Cmd where
 |fz (k:Nat)
 |mv (k t:Nat)
 |nil (slot t:Nat) (z:List C)
 |fold (k i j:Nat)
 |nilc (k i j:Nat) (z:List C)
 |nilr (k i j t:Nat) (z:List C)
 |unr (k i j t:Nat)
 |fzm (k:Nat)
 |flag (t:Nat)
def mapE (σ:C→C) (l:List (Nat×Bool×SV)):List (Nat×Bool×SV):=l.map fun p=>(p.1,p.2.1,mapV σ p.2.2)
def mapHl (σ:C→C) (l:List (Nat×Ch)):List (Nat×Ch):=l.map fun p=>(p.1,mapCh σ p.2)
theorem lkp_mapE (σ:C→C) (l:List (Nat×Bool×SV)) (t:Nat):lkp (mapE σ l) t=(lkp l t).map fun p=>(p.1,mapV σ p.2):=lkp_map (fun p:Bool×SV=>(p.1,mapV σ p.2)) t l
theorem lkp_mapH (σ:C→C) (l:List (Nat×Ch)):lkp (mapHl σ l)=mapHp σ (lkp l):=by
 funext t;exact lkp_map (mapCh σ) t l
def fzS (k:Nat) (s:St):Option (List D)→Option (List (List D))→Option St
 |some z,some es=>some ⟨mapE (fzC k z es) s.e,mapHl (fzC k z es) ((k,.dead)::s.h)⟩
 |_,_=>none
def fzmS (k:Nat) (s:St):Option (List (List UInt8×Value))→Option St
 |some es=>some ⟨mapE (fzmC k es) s.e,mapHl (fzmC k es) ((k,.dead)::s.h)⟩
 |_=>none
def closB (es:List (List C)):Bool:=es.all fun r=>r.all fun c=>c.names.isEmpty
def foldD (s:St) (k i j u:Nat) (z:List C) (es:List (List C)) (r:List C) (n:Nat):Option Ch→Option St
 |some (.vec _ zn esn)=>if closB esn=true∧n≠k then some ⟨s.e,(k,.vec (u+1) z (es.set i (r.set j (.ov zn esn))))::(n,.dead)::s.h⟩ else none
 |_=>none
def foldC (s:St) (k i j u:Nat) (z:List C) (es:List (List C)):Option (List C)→Option C→Option St
 |some r,some (.s n)=>foldD s k i j u z es r n (lkp s.h n)
 |_,_=>none
def nilC' (s:St) (k i j u:Nat) (z:List C) (es:List (List C)) (zn:List C):Option (List C)→Option C→Option St
 |some r,some (.v (.slice none 0 0))=>some ⟨s.e,(k,.vec (u+1) z (es.set i (r.set j (.ov zn []))))::s.h⟩
 |_,_=>none
def nilR' (s:St) (k i j t u:Nat) (z:List C) (es:List (List C)) (zn:List C):Option (List C)→Option C→Option St
 |some r,some (.v (.slice none 0 0))=>if t≠k then some ⟨s.e,(k,.vec (u+1) z (es.set i (r.set j (.s t))))::(t,.vec 0 zn [])::s.h⟩ else none
 |_,_=>none
def unrC (s:St) (k i j t u:Nat) (z:List C) (es:List (List C)):Option (List C)→Option C→Option St
 |some r,some (.ov zn esn)=>some ⟨s.e,(k,.vec (u+2) z (es.set i (r.set j (.s t))))::(t,.vec 0 zn esn)::s.h⟩
 |_,_=>none
def Cmd.run (s:St):Cmd→Option St
 | .fz k=>match lkp s.h k with
  |some (.vec _ z es)=>fzS k s (toDs z) (toDss es)
  |_=>none
 | .mv k t=>match lkp s.h t,lkp s.h k with
  |none,some (.vec _ z es)=>some ⟨mapE (mvC k t) s.e,mapHl (mvC k t) ((t,.vec 0 z es)::(k,.dead)::s.h)⟩
  |_,_=>none
 | .nil slot t z=>match lkp s.h t,lkp s.e slot with
  |none,some (true,.one (.v (.slice none 0 0)))=>some ⟨(slot,true,.one (.s t))::s.e,(t,.vec 0 z [])::s.h⟩
  |_,_=>none
 | .fold k i j=>match lkp s.h k with
  |some (.vec u z es)=>foldC s k i j u z es (es[i]?) (((es[i]?).getD z)[j]?)
  |_=>none
 | .nilc k i j zn=>match lkp s.h k with
  |some (.vec u z es)=>nilC' s k i j u z es zn (es[i]?) (((es[i]?).getD z)[j]?)
  |_=>none
 | .nilr k i j t zn=>match lkp s.h t,lkp s.h k with
  |none,some (.vec u z es)=>nilR' s k i j t u z es zn (es[i]?) (((es[i]?).getD z)[j]?)
  |_,_=>none
 | .unr k i j t=>match lkp s.h t,lkp s.h k with
  |none,some (.vec u z es)=>unrC s k i j t u z es (es[i]?) (((es[i]?).getD z)[j]?)
  |_,_=>none
 | .fzm k=>match lkp s.h k with
  |some (.mp false es)=>fzmS k s (toVs es)
  |_=>none
 | .flag t=>match lkp s.h (flagN t) with
  |none=>some ⟨s.e,(flagN t,.fact True)::s.h⟩
  |_=>none
def runCs (s:St):List Cmd→Option St
 |[]=>some s
 |c::r=>match c.run s with
  |some s'=>runCs s' r
  |none=>none
section
variable {X:Ctx} {w0:World} {n:Nat}
theorem ent_map {s:St} {σ:C→C} {hl:List (Nat×Ch)} {a:Act} {w:World} {I:Nm} {lab:Lab} {fz:Nat→Prop} (hA:At X w0 n I lab fz (lkp s.e) (lkp hl) a w) (hW:WFE (lkp s.e) (lkp hl))
  (h1:∀π c x,Den (hp w) fz lab I π c x→Den (hp w) fz lab I π (σ c) x) (h1':∀c x,SC (hp w) fz lab I (lkp hl) c x→SC (hp w) fz lab I (lkp hl) (σ c) x) (hs:∀c,c.stor=true→(σ c).stor=true) (h2:∀c,Dom (lkp hl) c.names→Dom (lkp hl) (σ c).names) (hov:OvS σ) :
  Holds X w0 n ⟨mapE σ s.e,mapHl σ hl⟩ a w:=by
 refine⟨?_,I,lab,fz,hA.n,hA.d,?_,?_⟩
 ·intro t g v ht hg
  simp only[lkp_mapE,Option.map_eq_some_iff,Prod.mk.injEq]at ht
  obtain⟨⟨g0,v0⟩,ht,rfl,rfl⟩:=ht
  have h0:=hW t g0 v0 ht hg
  show Dom (lkp (mapHl σ hl)) _
  rw[lkp_mapH]
  intro k hk
  rw[mapHp_some]
  have key:∀l:List C,(∀c∈l,Dom (lkp hl) c.names)→∀k∈(l.map σ).flatMap C.names,(lkp hl k).isSome=true:=by
   intro l hl k hk
   obtain⟨c,hc,hk⟩:=List.mem_flatMap.1 hk
   obtain⟨c',hc',rfl⟩:=List.mem_map.1 hc
   exact h2 c' (hl c' hc') k hk
  cases v0 with
  |one c=>exact h2 c h0 k hk
  |agg l=>exact key l (fun c hc m hm=>h0 m (List.mem_flatMap.2 ⟨c,hc,hm⟩)) k hk
  |tup l=>
   simp only[mapV,SV.names]at hk
   obtain⟨p,hp',hk⟩:=List.mem_flatMap.1 hk
   obtain⟨q,hq,rfl⟩:=List.mem_map.1 hp'
   cases q with
   |inl c=>exact h2 c (fun m hm=>h0 m (List.mem_flatMap.2 ⟨_,hq,hm⟩)) k hk
   |inr l=>exact key l (fun c hc m hm=>h0 m (List.mem_flatMap.2 ⟨_,hq,List.mem_flatMap.2 ⟨c,hc,hm⟩⟩)) k hk
 ·intro t g v ht
  simp only[lkp_mapE,Option.map_eq_some_iff,Prod.mk.injEq]at ht
  obtain⟨⟨g0,v0⟩,ht,rfl,rfl⟩:=ht
  obtain⟨x,hx,hd⟩:=hA.e t g0 v0 ht
  refine⟨x,hx,?_⟩
  cases g0 with
  |false=>exact hd
  |true=>
   simp only[if_true]at hd ⊢
   rw[lkp_mapH]
   exact sd_map hov h1' hd
 ·show AtW X w0 I lab fz (lkp (mapHl σ hl)) w
  rw[lkp_mapH]
  exact at_map hA.m σ h1 hs h2
theorem fzC_ov (k:Nat) (z:List D) (es:List (List D)):OvS (fzC k z es):=by
 refine⟨fun _ _=>rfl,fun c z2 es2 h=>?_⟩
 unfold fzC at h
 repeat' split at h
 all_goals first|exact h|cases h
theorem mvC_ov (k t:Nat):OvS (mvC k t):=by
 refine⟨fun _ _=>rfl,fun c z2 es2 h=>?_⟩
 unfold mvC at h
 repeat' split at h
 all_goals first|exact h|cases h
theorem at_fact0 {I:Nm} {lab:Lab} {fz:Nat→Prop} {H:Hp} {w:World} (hA:AtW X w0 I lab fz H w) {t:Nat} (ht:H t=none) {p:Prop} (hp':p):AtW X w0 I lab fz (upd H t (.fact p)) w∧Pres (hp w) (hp w) fz fz I I H (upd H t (.fact p)):=by
 refine⟨⟨fun k ch hk=>?_,fun k ch hk=>?_,hA.own,hA.fzl,hA.fzo,hA.kept,fun q hq=>⟨?_,(hA.fix q hq).2⟩⟩,⟨fun b hb=>⟨hb,rfl⟩,fun _ _=>rfl,fun k u p x hk hv=>?_⟩⟩
 ·by_cases e:k=t
  ·subst e;rw[upd_self]at hk;simp only[Option.some.injEq]at hk;subst hk;exact hp'
  ·rw[upd_ne _ _ e]at hk;exact hA.h k ch hk
 ·by_cases e:k=t
  ·subst e;rw[upd_self]at hk;simp only[Option.some.injEq]at hk;subst hk;intro n hn;cases hn
  ·rw[upd_ne _ _ e]at hk;exact dom_upd (hA.wf k ch hk) _ _
 ·exact dom_upd (l:=[q.1]) (by intro n hn;simp at hn;subst hn;exact(hA.fix q hq).1) _ _ q.1 (by simp)
 ·have e:k≠t:=by rintro rfl;rw[ht]at hk;cases hk
  exact vw_keep hA (upd_ne _ _ e) rfl (fun _ _ _=>rfl) hv
theorem flag_ent {s s':St} {t:Nat} (h:Cmd.run s (.flag t)=some s'):Ent X w0 n s s':=by
 intro a w hh
 obtain⟨hW,I,lab,fz,hA⟩:=hh
 simp only[Cmd.run]at h
 split at h
 ·rename_i hk
  simp only[Option.some.injEq]at h
  subst h
  obtain⟨h1,h2⟩:=at_fact0 hA.m hk (p:=True) trivial
  have hup:lkp ((flagN t,Ch.fact True)::s.h)=upd (lkp s.h) (flagN t) (.fact True):=lkp_cons _ _ _
  refine⟨?_,I,lab,fz,?_⟩
  ·show WFE (lkp s.e) (lkp ((flagN t,Ch.fact True)::s.h))
   rw[hup];exact fun t g v ht hg=>dom_upd (hW t g v ht hg) _ _
  ·show At X w0 n I lab fz (lkp s.e) (lkp ((flagN t,Ch.fact True)::s.h)) a w
   rw[hup];exact⟨hA.n,hA.d,hA.e.mono hW h2,h1⟩
 ·cases h
theorem fz_ent {s s':St} {k:Nat} (h:Cmd.run s (.fz k)=some s'):Ent X w0 n s s':=by
 intro a w hh
 obtain⟨hW,I,lab,fz,hA⟩:=hh
 simp only[Cmd.run]at h
 split at h
 ·rename_i u z es hk
  unfold fzS at h
  split at h
  ·rename_i z' es' hz he
   simp only[Option.some.injEq]at h
   subst h
   obtain⟨lab',fz',h1,h2,h3,h4⟩:=at_fz hA.m hk hz he
   have hup:lkp ((k,Ch.dead)::s.h)=upd (lkp s.h) k .dead:=lkp_cons _ _ _
   have hA1:At X w0 n I lab' fz' (lkp s.e) (lkp ((k,.dead)::s.h)) a w:=by
    rw[hup];exact⟨hA.n,hA.d,hA.e.mono hW h2,h1⟩
   have hW1:WFE (lkp s.e) (lkp ((k,.dead)::s.h)):=by
    rw[hup];exact fun t g v ht hg=>dom_upd (hW t g v ht hg) _ _
   have key:∀π c x,Den (hp w) fz' lab' I π c x→Den (hp w) fz' lab' I π (fzC k z' es' c) x:=by
    intro π c x r
    have ho:=den_one r
    unfold fzC
    split
    ·split
     ·rename_i m e;subst e;cases r;exact .d _ _ _ h3
     ·exact r
    ·split
     ·rename_i m i j e
      subst e
      cases r
      split
      ·rename_i hi;exact .d _ _ _ (h4 i j hi)
      ·exact .any _ _ ho
     ·exact r
    ·split
     ·cases r
     ·exact r
    ·split
     ·cases r
     ·exact r
    ·split
     ·exact .any _ _ ho
     ·exact r
    ·exact r
   have hst:∀c,c.stor=true→(fzC k z' es' c).stor=true:=by
    intro c hc
    unfold fzC
    repeat' split
    all_goals first|rfl|exact hc
   refine ent_map hA1 hW1 key ?_ hst ?_ (fzC_ov _ _ _)
   ·intro c x r
    have hone:=sc_one r
    by_cases hcs:c.stor=true
    ·exact sc_of (hst c hcs) (key _ _ _ (sc_stor hcs r))
    ·cases c<;>first|(exact absurd rfl hcs)|skip
     ·exact absurd r.1 (by simp[C.flat])
     ·rename_i m u2 p
      simp only[fzC]
      split
      ·exact⟨rfl,.any _ _ hone⟩
      ·exact r
     ·rename_i m u2 p s2 m2 o
      simp only[fzC]
      split
      ·exact⟨rfl,.any _ _ hone⟩
      ·exact r
   ·intro c hc m hm
    refine hc m ?_
    unfold fzC at hm
    repeat' split at hm
    all_goals first|exact hm|(simp[C.names]at hm;done)|skip
    all_goals (simp only[C.names,List.not_mem_nil]at hm)
  ·cases h
 ·cases h
theorem mv_ent {s s':St} {k t:Nat} (h:Cmd.run s (.mv k t)=some s'):Ent X w0 n s s':=by
 intro a w hh
 obtain⟨hW,I,lab,fz,hA⟩:=hh
 simp only[Cmd.run]at h
 split at h
 ·rename_i u z es ht hk
  simp only[Option.some.injEq]at h
  subst h
  obtain⟨lab',h1,h2⟩:=at_rename hA.m ht hk
  have h2:=h2.pres ht
  have hkt:k≠t:=by rintro rfl;rw[ht]at hk;cases hk
  have hup:lkp ((t,Ch.vec 0 z es)::(k,Ch.dead)::s.h)=upd (upd (lkp s.h) k .dead) t (.vec 0 z es):=by rw[lkp_cons,lkp_cons]
  have hA1:At X w0 n (fun n=>if n=t then I k else I n) lab' fz (lkp s.e) (lkp ((t,.vec 0 z es)::(k,.dead)::s.h)) a w:=by
   rw[hup];exact⟨hA.n,hA.d,hA.e.mono hW h2,h1⟩
  have hW1:WFE (lkp s.e) (lkp ((t,.vec 0 z es)::(k,.dead)::s.h)):=by
   rw[hup];exact fun t g v ht hg=>dom_upd (dom_upd (hW t g v ht hg) _ _) _ _
  have hI:(fun n=>if n=t then I k else I n) k=(fun n=>if n=t then I k else I n) t:=by simp
  generalize (fun n=>if n=t then I k else I n)=I' at hA1 hI
  have key:∀π c x,Den (hp w) fz lab' I' π c x→Den (hp w) fz lab' I' π (mvC k t c) x:=by
   intro π c x r
   have ho:=den_one r
   unfold mvC
   split
   ·split
    ·rename_i m e;subst e;cases r;rw[hI];exact .s _ _
    ·exact r
   ·split
    ·rename_i m i j e
     subst e
     cases r
     rw[hI];exact .p _ _ _ _
    ·exact r
   ·split
    ·cases r
    ·exact r
   ·split
    ·cases r
    ·exact r
   ·split
    ·exact .any _ _ ho
    ·exact r
   ·exact r
  have hst:∀c,c.stor=true→(mvC k t c).stor=true:=by
   intro c hc
   unfold mvC
   repeat' split
   all_goals first|rfl|exact hc
  have hts:(lkp ((t,Ch.vec 0 z es)::(k,Ch.dead)::s.h) t).isSome=true:=by simp[lkp]
  refine ent_map hA1 hW1 key ?_ hst ?_ (mvC_ov _ _)
  ·intro c x r
   have hone:=sc_one r
   by_cases hcs:c.stor=true
   ·exact sc_of (hst c hcs) (key _ _ _ (sc_stor hcs r))
   ·cases c<;>first|(exact absurd rfl hcs)|skip
    ·exact absurd r.1 (by simp[C.flat])
    ·rename_i m u2 p
     simp only[mvC]
     split
     ·exact⟨rfl,.any _ _ hone⟩
     ·exact r
    ·rename_i m u2 p s2 m2 o
     simp only[mvC]
     split
     ·exact⟨rfl,.any _ _ hone⟩
     ·exact r
  ·intro c hc m hm
   unfold mvC at hm
   repeat' split at hm
   all_goals first|exact hc m hm|(simp[C.names]at hm;done)|(simp only[C.names,List.mem_singleton]at hm;subst hm;exact hts)|skip
   all_goals (simp only[C.names,List.not_mem_nil]at hm)
 ·cases h
theorem nil_ent {s s':St} {slot t:Nat} {z:List C} (h:Cmd.run s (.nil slot t z)=some s'):Ent X w0 n s s':=by
 intro a w hh
 obtain⟨hW,I,lab,fz,hA⟩:=hh
 simp only[Cmd.run]at h
 split at h
 ·rename_i ht hs
  simp only[Option.some.injEq]at h
  subst h
  obtain⟨q1,q2⟩:=hA.m.priv ht
  let nv:NV:=⟨none,0,0,z.length,false⟩
  obtain⟨r1,r2⟩:=at_set (lab':=lab) (w':=w) hA.m q1 q2 nv rfl z [] rfl (fun _ _=>rfl) (fun k ch _ _ _ b ρ hb=>⟨hb,rfl⟩) hA.m.own hA.m.fzl hA.m.kept (.inl ⟨rfl,rfl⟩) (by simp)
  have h2:=r2.pres ht
  obtain⟨x,hx,hd⟩:=hA.e slot true _ hs
  simp only[if_true]at hd
  have hxe:x= .slice none 0 0:=sd_clos hd rfl
  subst hxe
  refine⟨?_,fun n=>if n=t then nv else I n,lab,fz,hA.n,hA.d,?_,?_⟩
  ·show WFE (lkp ((slot,true,SV.one (.s t))::s.e)) (lkp ((t,Ch.vec 0 z [])::s.h))
   rw[lkp_cons,lkp_cons]
   refine WFE.put (fun t' g v ht' hg=>dom_upd (hW t' g v ht' hg) _ _) fun _=>?_
   intro q hq
   simp only[SV.names,C.names,List.mem_singleton]at hq
   subst hq;simp[upd]
  ·show AtE _ _ _ _ (lkp ((t,Ch.vec 0 z [])::s.h)) (lkp ((slot,true,SV.one (.s t))::s.e)) a
   rw[lkp_cons,lkp_cons]
   intro j g v hj
   unfold upd at hj
   split at hj
   ·rename_i e
    simp only[Option.some.injEq,Prod.mk.injEq]at hj
    obtain⟨rfl,rfl⟩:=hj
    refine⟨_,by rw[e];exact hx,?_⟩
    have:Value.slice none 0 0=((fun n=>if n=t then nv else I n) t).v:=by simp[nv,NV.v,slV]
    simp only[if_true]
    rw[this]
    exact⟨rfl,.s _ _⟩
   ·exact hA.e.mono hW h2 j g v hj
  ·show AtW _ _ _ _ _ (lkp ((t,Ch.vec 0 z [])::s.h)) w
   rw[lkp_cons];exact r1
 ·cases h
theorem closB_ok {es:List (List C)} (h:closB es=true) (i j:Nat) (cs:List C) (c:C) (h1:es[i]?=some cs) (h2:cs[j]?=some c):c.names=[]:=by
 have:=List.all_eq_true.1 (List.all_eq_true.1 h cs (List.mem_of_getElem? h1)) c (List.mem_of_getElem? h2)
 simpa using this
theorem fold_ent {s s':St} {k i j:Nat} (h:Cmd.run s (.fold k i j)=some s'):Ent X w0 n s s':=by
 intro a w hh
 obtain⟨hW,I,lab,fz,hA⟩:=hh
 simp only[Cmd.run]at h
 split at h
 ·rename_i u z es hk
  unfold foldC at h
  split at h
  ·rename_i r m hr hm
   unfold foldD at h
   split at h
   ·rename_i un zn esn hn
    split at h
    ·rename_i hc
     simp only[Option.some.injEq]at h
     subst h
     have hi:i<es.length:=(List.getElem?_eq_some_iff.1 hr).1
     have hrd:es.getD i z=r:=by simp[List.getD,hr]
     rw[hr]at hm
     simp only[Option.getD_some]at hm
     obtain⟨lab',h1,h2⟩:=at_fold hA.m hk hi (by rw[hrd];exact hm) hn hc.2 (closB_ok hc.1)
     rw[hrd]at h1 h2
     have hup:∀c,lkp ((k,c)::(m,Ch.dead)::s.h)=upd (upd (lkp s.h) m .dead) k c:=fun c=>by rw[lkp_cons,lkp_cons]
     refine⟨?_,I,lab',fz,hA.n,hA.d,?_,?_⟩
     ·simp only[hup];exact fun t g v ht hg=>dom_upd (dom_upd (hW t g v ht hg) _ _) _ _
     ·simp only[hup];exact hA.e.mono hW h2
     ·simp only[hup];exact h1
    ·cases h
   ·cases h
  ·cases h
 ·cases h
theorem nilc_ent {s s':St} {k i j:Nat} {zn:List C} (h:Cmd.run s (.nilc k i j zn)=some s'):Ent X w0 n s s':=by
 intro a w hh
 obtain⟨hW,I,lab,fz,hA⟩:=hh
 simp only[Cmd.run]at h
 split at h
 ·rename_i u z es hk
  unfold nilC' at h
  split at h
  ·rename_i r hr hm
   simp only[Option.some.injEq]at h
   subst h
   have hi:i<es.length:=(List.getElem?_eq_some_iff.1 hr).1
   have hrd:es.getD i z=r:=by simp[List.getD,hr]
   rw[hr]at hm
   simp only[Option.getD_some]at hm
   obtain⟨h1,h2⟩:=at_nilc hA.m zn hk hi (by rw[hrd];exact hm)
   rw[hrd]at h1 h2
   have hup:∀c,lkp ((k,c)::s.h)=upd (lkp s.h) k c:=fun c=>by rw[lkp_cons]
   refine⟨?_,I,lab,fz,hA.n,hA.d,?_,?_⟩
   ·simp only[hup];exact fun t g v ht hg=>dom_upd (hW t g v ht hg) _ _
   ·simp only[hup];exact hA.e.mono hW h2
   ·simp only[hup];exact h1
  ·cases h
 ·cases h
theorem nilr_ent {s s':St} {k i j t:Nat} {zn:List C} (h:Cmd.run s (.nilr k i j t zn)=some s'):Ent X w0 n s s':=by
 intro a w hh
 obtain⟨hW,I,lab,fz,hA⟩:=hh
 simp only[Cmd.run]at h
 split at h
 ·rename_i u z es ht hk
  unfold nilR' at h
  split at h
  ·rename_i r hr hm
   split at h
   ·rename_i hne
    simp only[Option.some.injEq]at h
    subst h
    obtain⟨q1,q2⟩:=hA.m.priv ht
    let nv:NV:=⟨none,0,0,zn.length,false⟩
    obtain⟨r1,r2⟩:=at_set (lab':=lab) (w':=w) hA.m q1 q2 nv rfl zn [] rfl (fun _ _=>rfl) (fun k ch _ _ _ b ρ hb=>⟨hb,rfl⟩) hA.m.own hA.m.fzl hA.m.kept (.inl ⟨rfl,rfl⟩) (by simp)
    have h2:=r2.pres ht
    have hk2:upd (lkp s.h) t (Ch.vec 0 zn []) k=some (.vec u z es):=by rw[upd_ne _ _ (Ne.symm hne)];exact hk
    have hi:i<es.length:=(List.getElem?_eq_some_iff.1 hr).1
    have hrd:es.getD i z=r:=by simp[List.getD,hr]
    rw[hr]at hm
    simp only[Option.getD_some]at hm
    obtain⟨h3,h4⟩:=at_nilr r1 hk2 hi (by rw[hrd];exact hm) (upd_self _ _ _) (by simp[nv,NV.v,slV])
    rw[hrd]at h3 h4
    have hup:∀c,lkp ((k,c)::(t,Ch.vec 0 zn [])::s.h)=upd (upd (lkp s.h) t (Ch.vec 0 zn [])) k c:=fun c=>by rw[lkp_cons,lkp_cons]
    refine⟨?_,fun n=>if n=t then nv else I n,lab,fz,hA.n,hA.d,?_,?_⟩
    ·simp only[hup];exact fun t g v ht hg=>dom_upd (dom_upd (hW t g v ht hg) _ _) _ _
    ·simp only[hup];exact AtE.mono (lab':=lab) (AtE.mono (lab':=lab) hA.e hW h2) (fun t g v ht hg=>dom_upd (hW t g v ht hg) _ _) h4
    ·simp only[hup];exact h3
   ·cases h
  ·cases h
 ·cases h
theorem unr_ent {s s':St} {k i j t:Nat} (h:Cmd.run s (.unr k i j t)=some s'):Ent X w0 n s s':=by
 intro a w hh
 obtain⟨hW,I,lab,fz,hA⟩:=hh
 simp only[Cmd.run]at h
 split at h
 ·rename_i u z es ht hk
  unfold unrC at h
  split at h
  ·rename_i r zn esn hr hm
   simp only[Option.some.injEq]at h
   subst h
   have hi:i<es.length:=(List.getElem?_eq_some_iff.1 hr).1
   have hrd:es.getD i z=r:=by simp[List.getD,hr]
   rw[hr]at hm
   simp only[Option.getD_some]at hm
   obtain⟨I',lab',h3,h4⟩:=at_unr hA.m ht hk hi (by rw[hrd];exact hm)
   rw[hrd]at h3 h4
   have hup:∀c,lkp ((k,c)::(t,Ch.vec 0 zn esn)::s.h)=upd (upd (lkp s.h) t (Ch.vec 0 zn esn)) k c:=fun c=>by rw[lkp_cons,lkp_cons]
   refine⟨?_,I',lab',fz,hA.n,hA.d,?_,?_⟩
   ·simp only[hup];exact fun t g v ht hg=>dom_upd (dom_upd (hW t g v ht hg) _ _) _ _
   ·simp only[hup];exact AtE.mono hA.e hW h4
   ·simp only[hup];exact h3
  ·cases h
 ·cases h
theorem toVs_get:∀{es:List (List UInt8×List C)} {vs:List (List UInt8×Value)},toVs es=some vs→es=vs.map fun p=>(p.1,[C.v p.2])
 |[],vs,h=>by simp only[toVs,Option.some.injEq]at h;subst h;rfl
 |(k,l)::r,vs,h=>by
  match l,h with
  |[.v x],h=>
   simp only[toVs,Option.map_eq_some_iff]at h
   obtain⟨vs',h1,rfl⟩:=h
   rw[List.map_cons,← toVs_get h1]
theorem at_fzm {I:Nm} {lab:Lab} {fz:Nat→Prop} {H:Hp} {w:World} (hA:AtW X w0 I lab fz H w) {k:Nat} {es:List (List UInt8×List C)} (hk:H k=some (.mp false es)) {vs:List (List UInt8×Value)} (he:toVs es=some vs) :
  ∃lab' fz',AtW X w0 I lab' fz' (upd H k .dead) w∧Pres (hp w) (hp w) fz fz' I I H (upd H k .dead)∧Rd (hp w) fz' (.mp vs) (I k).v:=by
 classical
 let lab':Lab:=fun b=>match lab b with
  |some (n::ρ)=>if n=k then none else some (n::ρ)
  |x=>x
 let fz':Nat→Prop:=fun b=>fz b∨∃ρ,lab b=some (k::ρ)
 obtain⟨r,entries,clock,m1,m2,m3,m4,m5⟩:=hA.h k _ hk
 have hlo:∀n,n≠k→∀b ρ,lab b=some ([n]++ρ)→lab' b=some ([n]++ρ):=by intro n h b ρ hb;simp[lab',hb,h]
 have hzz:∀b,fz b→fz' b∧hp w b=hp w b:=fun b hb=>⟨.inl hb,rfl⟩
 have hsub:∀b π,lab' b=some π→lab b=some π:=by
  intro b π hb
  simp only[lab']at hb
  split at hb
  ·rename_i n ρ h
   split at hb
   ·cases hb
   ·rw[h];exact hb
  ·exact hb
 have hrd:Rd (hp w) fz' (.mp vs) (I k).v:=by
  rw[m1]
  have hes:=toVs_get he
  refine .mp vs r entries clock (.inr ⟨[],m2⟩) m3 (by rw[m4,hes];simp) fun i p hp'=>?_
  obtain⟨e,q1,q2,c,q3,q4,q5⟩:=m5 i (p.1,[.v p.2]) (by rw[hes];simp[hp'])
  simp only[List.cons.injEq,and_true]at q3
  subst q3
  have hv:e.val=p.2∧oneV p.2=true:=by
   generalize e.val=q at q5
   cases q5 with
   |v _ _ h1=>exact⟨rfl,h1⟩
  exact⟨e,q1,q2,hv.1,hv.2⟩
 refine⟨lab',fz',⟨fun k2 ch h=>?_,fun k2 ch h=>?_,fun b π hb=>hA.own b π (hsub b π hb),fun b hb=>?_,fun b hb=>?_,hA.kept,fun p hp'=>⟨?_,(hA.fix p hp').2⟩⟩,⟨hzz,fun _ _=>rfl,?_⟩,hrd⟩
 ·by_cases e:k2=k
  ·subst e;rw[upd_self]at h;simp only[Option.some.injEq]at h;subst h;trivial
  ·rw[upd_ne _ _ e]at h
   have h0:=hA.h k2 ch h
   cases ch with
   |dead=>trivial
   |fact p=>exact h0
   |vec u2 z2 es2=>exact⟨h0.1,h0.2.1,vec_mono hzz h0.2.2 (fun b ρ hb=>⟨hlo k2 e b ρ hb,rfl⟩) fun _ _ _ _ _ _ _ _=>rfl⟩
   |mp ag es2=>exact mp_mono hzz h0 (fun b hb=>⟨hlo k2 e b [] (by simpa using hb),rfl⟩) rfl fun _ _=>rfl
 ·by_cases e:k2=k
  ·subst e;rw[upd_self]at h;simp only[Option.some.injEq]at h;subst h;intro n hn;cases hn
  ·rw[upd_ne _ _ e]at h;exact dom_upd (hA.wf k2 ch h) _ _
 ·rcases hb with hb|⟨ρ,hb⟩
  ·have:=hA.fzl b hb
   exact⟨this.1,by simp[lab',this.2]⟩
  ·exact⟨(hA.own b _ hb).1,by simp[lab',hb]⟩
 ·rcases hb with hb|⟨ρ,hb⟩
  ·exact hA.fzo b hb
  ·exact .inr (hA.own b _ hb).2
 ·exact dom_upd (l:=[p.1]) (by intro q hq;simp at hq;subst hq;exact(hA.fix p hp').1) k .dead p.1 (by simp)
 ·intro n u2 p x hn hv
  by_cases e:n=k
  ·subst e;exact vw_dead (upd_self _ _ _) hv
  ·exact vw_keep hA (upd_ne _ _ e) rfl (fun _ _ _=>rfl) hv
theorem fzmC_ov (k:Nat) (es:List (List UInt8×Value)):OvS (fzmC k es):=by
 refine⟨fun _ _=>rfl,fun c z2 es2 h=>?_⟩
 unfold fzmC at h
 repeat' split at h
 all_goals first|exact h|cases h
theorem fzm_ent {s s':St} {k:Nat} (h:Cmd.run s (.fzm k)=some s'):Ent X w0 n s s':=by
 intro a w hh
 obtain⟨hW,I,lab,fz,hA⟩:=hh
 simp only[Cmd.run]at h
 split at h
 ·rename_i es hk
  unfold fzmS at h
  split at h
  ·rename_i es' he
   simp only[Option.some.injEq]at h
   subst h
   obtain⟨lab',fz',h1,h2,h3⟩:=at_fzm hA.m hk he
   have hup:lkp ((k,Ch.dead)::s.h)=upd (lkp s.h) k .dead:=lkp_cons _ _ _
   have hA1:At X w0 n I lab' fz' (lkp s.e) (lkp ((k,.dead)::s.h)) a w:=by
    rw[hup];exact⟨hA.n,hA.d,hA.e.mono hW h2,h1⟩
   have hW1:WFE (lkp s.e) (lkp ((k,.dead)::s.h)):=by
    rw[hup];exact fun t g v ht hg=>dom_upd (hW t g v ht hg) _ _
   have key:∀π c x,Den (hp w) fz' lab' I π c x→Den (hp w) fz' lab' I π (fzmC k es' c) x:=by
    intro π c x r
    have ho:=den_one r
    unfold fzmC
    split
    ·split
     ·rename_i m e;subst e;cases r;exact .d _ _ _ h3
     ·exact r
    ·split
     ·exact .any _ _ ho
     ·exact r
    ·split
     ·cases r
     ·exact r
    ·split
     ·cases r
     ·exact r
    ·split
     ·exact .any _ _ ho
     ·exact r
    ·exact r
   have hst:∀c,c.stor=true→(fzmC k es' c).stor=true:=by
    intro c hc
    unfold fzmC
    repeat' split
    all_goals first|rfl|exact hc
   refine ent_map hA1 hW1 key ?_ hst ?_ (fzmC_ov _ _)
   ·intro c x r
    have hone:=sc_one r
    by_cases hcs:c.stor=true
    ·exact sc_of (hst c hcs) (key _ _ _ (sc_stor hcs r))
    ·cases c<;>first|(exact absurd rfl hcs)|skip
     ·exact absurd r.1 (by simp[C.flat])
     ·rename_i m u2 p
      simp only[fzmC]
      split
      ·exact⟨rfl,.any _ _ hone⟩
      ·exact r
     ·rename_i m u2 p s2 m2 o
      simp only[fzmC]
      split
      ·exact⟨rfl,.any _ _ hone⟩
      ·exact r
   ·intro c hc m hm
    refine hc m ?_
    unfold fzmC at hm
    repeat' split at hm
    all_goals first|exact hm|(simp[C.names]at hm;done)|skip
    all_goals (simp only[C.names,List.not_mem_nil]at hm)
  ·cases h
 ·cases h
theorem cmd_ent {s s':St} {c:Cmd} (h:c.run s=some s'):Ent X w0 n s s':=by
 cases c with
 |fz k=>exact fz_ent h
 |mv k t=>exact mv_ent h
 |nil a b z=>exact nil_ent h
 |fold k i j=>exact fold_ent h
 |nilc k i j z=>exact nilc_ent h
 |nilr k i j t z=>exact nilr_ent h
 |unr k i j t=>exact unr_ent h
 |flag t=>exact flag_ent h
 |fzm k=>exact fzm_ent h
theorem runCs_ent:∀{cs:List Cmd} {s s':St},runCs s cs=some s'→Ent X w0 n s s'
 |[],s,s',h=>by simp only[runCs,Option.some.injEq]at h;subst h;exact fun _ _ h=>h
 |c::r,s,s',h=>by
  simp only[runCs]at h
  split at h
  ·rename_i s1 h1
   exact fun a w hh=>runCs_ent h a w (cmd_ent h1 a w hh)
  ·cases h
def noVwC:C→Bool
 | .vw _ _ _=>false
 | .q _ _ _ _ _ _=>false
 |_=>true
def noVw:SV→Bool
 | .one c=>noVwC c
 | .agg l=>l.all noVwC
 | .tup l=>l.all fun| .inl c=>noVwC c| .inr l=>l.all noVwC
def sameCh:Ch→Ch→Prop
 |_,.dead=>True
 | .vec _ z es,.vec _ z' es'=>z.length=z'.length∧es=es'∧(zT z'=none∨zT z'=zT z)
 | .mp a es,.mp a' es'=>a=a'∧es=es'
 | .fact p,.fact q=>p→q
 |_,_=>False
def optCh:Option Ch→Ch→Prop
 |some c,d=>sameCh c d
 |none,_=>False
def domB (h:List (Nat×Ch)) (l:List Nat):Prop:=∀k∈l,(h.map (·.1)).contains k=true
def Sub (s t:St):Prop:=
 (∀p∈t.e,lkp s.e p.1=some p.2∧noVw p.2.2=true∧domB t.h p.2.2.names)∧(∀p∈t.h,optCh (lkp s.h p.1) p.2∧domB t.h (chNames p.2))
theorem mem_lkp {α:Type}:∀{l:List (Nat×α)} {k:Nat},(l.map (·.1)).contains k=true→(lkp l k).isSome=true
 |[],k,h=>by simp at h
 |(k0,v)::r,k,h=>by
  simp only[lkp]
  split
  ·rfl
  ·rename_i hne
   apply mem_lkp
   simp only[List.map_cons,List.contains_cons,Bool.or_eq_true,beq_iff_eq]at h
   exact h.resolve_left hne
theorem sub_ent {s t:St} (hs:Sub s t) (hF:∀p∈X.F,(t.h.map (·.1)).contains p.1=true):Ent X w0 n s t:=by
 intro a w hh
 obtain⟨hW,I,lab,fz,hA⟩:=hh
 obtain⟨h1,h2⟩:=hs
 have hdom:∀{l},domB t.h l→Dom (lkp t.h) l:=fun hl k hk=>mem_lkp (hl k hk)
 have scn:∀{c x},noVwC c=true→SC (hp w) fz lab I (lkp s.h) c x→SC (hp w) fz lab I (lkp t.h) c x:=by
  intro c x hn r
  cases c<;>first|exact r|cases hn
 have csn:∀{l arr},l.all noVwC=true→CsDen (hp w) fz lab I (lkp s.h) l arr→CsDen (hp w) fz lab I (lkp t.h) l arr:=by
  intro l arr hn r
  refine⟨r.1,fun j c hj=>?_⟩
  obtain⟨y,y1,y2⟩:=r.2 j c hj
  exact⟨y,y1,scn (List.all_eq_true.1 hn c (List.mem_of_getElem? hj)) y2⟩
 refine⟨?_,I,lab,fz,hA.n,hA.d,?_,?_,?_,hA.m.own,hA.m.fzl,hA.m.fzo,hA.m.kept,fun p hp'=>⟨mem_lkp (hF p hp'),(hA.m.fix p hp').2⟩⟩
 ·intro j g v hj hg
  exact hdom (h1 _ (lkp_mem hj)).2.2
 ·intro j g v hj
  obtain⟨g1,g2,_⟩:=h1 _ (lkp_mem hj)
  obtain⟨x,hx,hd⟩:=hA.e j g v g1
  refine⟨x,hx,?_⟩
  cases g with
  |false=>exact hd
  |true=>
   simp only[if_true]at hd ⊢
   cases v with
   |one c=>exact scn g2 hd
   |agg l=>obtain⟨arr,e1,e2⟩:=hd;exact⟨arr,e1,csn g2 e2⟩
   |tup l=>
    obtain⟨arr,e1,e2,e3⟩:=hd
    refine⟨arr,e1,e2,fun j p hj=>?_⟩
    obtain⟨y,y1,y2⟩:=e3 j p hj
    have hq:=List.all_eq_true.1 g2 p (List.mem_of_getElem? hj)
    refine⟨y,y1,?_⟩
    cases p with
    |inl c=>exact scn hq y2
    |inr l=>obtain⟨arr,e1,e2⟩:=y2;exact⟨arr,e1,csn hq e2⟩
 ·intro k ch hk
  obtain⟨g1,g2⟩:=h2 _ (lkp_mem hk)
  simp only at g1 g2
  cases hs':lkp s.h k with
  |none=>rw[hs']at g1;exact g1.elim
  |some c0=>
   rw[hs']at g1
   have h0:=hA.m.h k c0 hs'
   cases ch with
   |dead=>trivial
   |fact p=>
    cases c0 with
    |fact q=>exact g1 h0
    |_=>exact g1.elim
   |vec u z es=>
    cases c0 with
    |vec u2 z2 es2=>
     obtain⟨e1,rfl,e9⟩:=g1
     refine⟨h0.1,h0.2.1.trans e1,?_⟩
     rcases h0.2.2 with h3|⟨b,off,cap,arr,T,h3,h4,h5,h6,h7,h8⟩
     ·exact .inl h3
     ·rw[e1]at h6 h8
      exact .inr ⟨b,off,cap,arr,T,h3,h4,h5,⟨h6.1,zOK_sub e9 h6.2⟩,h7,h8⟩
    |dead=>exact g1.elim
    |fact=>exact g1.elim
    |mp=>exact g1.elim
   |mp ag es=>
    cases c0 with
    |mp ag2 es2=>obtain⟨rfl,rfl⟩:=g1;exact h0
    |dead=>exact g1.elim
    |fact=>exact g1.elim
    |vec=>exact g1.elim
 ·intro k ch hk
  exact hdom (h2 _ (lkp_mem hk)).2
end
end Go.Sy
namespace Go.Sy
open Go.RowKit
abbrev Trace:=List (List Nat×List Nat)
def tchT (ops:Array Oper):List Oper→Trace→List Tch
 |o::l,(wb,f)::tr=>⟨o.dst,o.looksAt ops,wb,f⟩::tchT ops l tr
 |_,_=>[]
def chkT (ops:Array Oper) (tr:Trace):Bool:=fwd ops&&chkAll 0 (tchT ops ops.toList tr) (ancL ops.toList [])
def trOf:List Wr→List (List Nat)→Trace
 |x::xs,f::fs=>(x.us.map (·.1),f)::trOf xs fs
 |_,_=>[]
theorem tchT_of (ops:Array Oper):∀(l:List Oper) (xs:List Wr) (fs:List (List Nat)),tchT ops l (trOf xs fs)=tch ops l xs fs
 |[],xs,fs=>by cases xs<;>cases fs<;>rfl
 |o::l,[],fs=>by cases fs<;>rfl
 |o::l,x::xs,[]=>rfl
 |o::l,x::xs,f::fs=>by simp only[trOf,tchT,tch,tchT_of ops l xs fs]
abbrev Gh:=List (Nat×List Cmd)
def ghOf (g:Gh) (id:Nat):List Cmd:=(lkp g id).getD []
section
variable {P:Program}
def facI (o:Option Ch) (p:Prop) (K:St→Prop) (s:St):Prop:=(o=some (.fact p)→p)→K s
theorem e_facT (K:St→Prop) (s:St):facI (some (.fact True)) True K s=K s:=by simp[facI]
theorem e_facF (K:St→Prop) (s:St):facI (some (.fact False)) False K s=True:=by simp[facI]
def facK:List (Nat×Ch)→(St→Prop)→St→Prop
 |[],K=>K
 |(t,.fact p)::r,K=>facK r (fun s=>facI (lkp s.h t) p K s)
 |(_,.dead)::r,K=>facK r K
 |(_,.vec _ _ _)::r,K=>facK r K
 |(_,.mp _ _)::r,K=>facK r K
def vcOps {X:Ctx} {w0:World} (sp:List (Spec P X w0)) (n:Nat) (ops:Array Oper):List Oper→St→Trace→(Trace→Prop)→(St→Prop)→Prop
 |[],s,tr,T,K=>T tr∧K s
 |o::r,s,tr,T,K=>
  match opG sp n ops o (lkp s.e) (lkp s.h) with
  |some (c,x,f)=>c∧vcOps sp n ops r (s.app x) ((x.us.map (·.1),f)::tr) T (facK x.us K)
  |none=>False
theorem facK_run {s:St} (hf:∀t p,lkp s.h t=some (.fact p)→p):∀(us:List (Nat×Ch)) (K:St→Prop),facK us K s→K s
 |[],K,h=>h
 |(t,.fact p)::r,K,h=>by
  have:=facK_run hf r _ h
  exact this (hf t p)
 |(_,.dead)::r,K,h=>facK_run hf r K h
 |(_,.vec _ _ _)::r,K,h=>facK_run hf r K h
 |(_,.mp _ _)::r,K,h=>facK_run hf r K h
theorem vcOps_run {X:Ctx} {w0:World} (sp:List (Spec P X w0)) (n:Nat) (ops:Array Oper):∀(l:List Oper) (s:St) (tr:Trace) (T:Trace→Prop) (K:St→Prop),vcOps sp n ops l s tr T K→
  ∃xs fs s',RunL sp n ops l (lkp s.e) (lkp s.h) xs fs∧T ((trOf xs fs).reverse++tr)∧((∀t p,lkp s'.h t=some (.fact p)→p)→K s')∧lkp s'.e=stFinE xs (lkp s.e)∧lkp s'.h=stFinH xs (lkp s.h)
 |[],s,tr,T,K,h=>⟨[],[],s,trivial,h.1,fun _=>h.2,rfl,rfl⟩
 |o::l,s,tr,T,K,h=>by
  simp only[vcOps]at h
  split at h
  ·rename_i c x f hs
   obtain⟨hc,hr⟩:=h
   obtain⟨xs,fs,s',h1,ht,h2,h3,h4⟩:=vcOps_run sp n ops l _ _ T (facK x.us K) hr
   rw[app_e,app_h]at h1
   refine⟨x::xs,f::fs,s',⟨opG_GR hs hc,h1⟩,by simpa [trOf] using ht,fun hf=>facK_run hf _ _ (h2 hf),?_,?_⟩
   ·rw[h3,app_e]
    have gen:∀(ys:List Wr) (i j:Nat) (E:Env),foldE ys i (fun _=>true) E=foldE ys j (fun _=>true) E:=by
     intro ys
     induction ys with
     |nil=>intro i j E;rfl
     |cons y ys ih=>intro i j E;simp only[foldE];exact ih _ _ _
    simp only[stFinE,foldE,if_true]
    exact gen xs 0 1 _
   ·rw[h4,app_h]
    have gen:∀(ys:List Wr) (i j:Nat) (E:Hp),foldH ys i (fun _=>true) E=foldH ys j (fun _=>true) E:=by
     intro ys
     induction ys with
     |nil=>intro i j E;rfl
     |cons y ys ih=>intro i j E;simp only[foldH];exact ih _ _ _
    simp only[stFinH,foldH,if_true]
    exact gen xs 0 1 _
  ·exact h.elim
def postOf (X:Ctx) (w0:World) (n:Nat) (Q:Exit→St→Prop):Exit→Act→World→Prop:=fun e a w=>(∃s,Q e s∧Holds X w0 n s a w)∨∃ch,e= .panic ch∧keepA X a∧PanW X w0 ch w
def Tri (X:Ctx) (w0:World) (n:Nat) (c:Code) (s:St) (Q:Exit→St→Prop):Prop:=
 ∀a w,Holds X w0 n s a w→c.wp P (postOf X w0 n Q) a w
def thenQ (K:St→Prop) (Q:Exit→St→Prop):Exit→St→Prop
 | .normal,s=>K s
 |e,s=>Q e s
def inQ (id:Nat) (Q:Exit→St→Prop):Exit→St→Prop
 | .exit j,s=>if j=id then Q .normal s else Q (.exit j) s
 |e,s=>Q e s
def vc (X:Ctx) (w0:World) (sp:List (Spec P X w0)) (n:Nat) (g:Gh):Code→St→(Exit→St→Prop)→Prop
 | .skip,s,Q=>Q .normal s
 | .label _,s,Q=>Q .normal s
 | .region id ops false,s,Q=>match runCs s (ghOf g id) with
  |some s=>vcOps sp n ops ops.toList s [] (fun _=>True) (fun s'=>Q .normal s')
  |none=>False
 | .region id ops true,s,Q=>match runCs s (ghOf g id) with
  |some s=>vcOps sp n ops ops.toList s [] (fun tr=>chkT ops tr.reverse=true) (fun s'=>Q .normal s')
  |none=>False
 | .seq a b,s,Q=>vc X w0 sp n g a s (thenQ (fun s'=>vc X w0 sp n g b s' Q) Q)
 | .cond c x y,s,Q=>
  match rdv (lkp s.e) c with
  |some (.one (.v (.bool b)))=>rdg (lkp s.e) c=true∧(b=true→vc X w0 sp n g x s Q)∧(b=false→vc X w0 sp n g y s Q)
  |_=>False
 | .block id c,s,Q=>vc X w0 sp n g c s (inQ id Q)
 | .exit id,s,Q=>Q (.exit id) s
 | .ret,s,Q=>Q .ret s
 | .loop c,s,Q=>Tri (P:=P) X w0 n (.loop c) s Q
 |_,_,_=>False
variable {X:Ctx} {w0:World} {n:Nat}
theorem Holds.defers {s:St} {a:Act} {w:World} (h:Holds X w0 n s a w):a.defers=X.dfs:=by
 obtain⟨_,I,lab,fz,hA⟩:=h;exact hA.d.1
theorem vc_ok (sp:List (Spec P X w0)) (g:Gh):∀(c:Code) (s:St) (Q:Exit→St→Prop),vc X w0 sp n g c s Q→Tri (P:=P) X w0 n c s Q:=by
 intro c
 induction c with
 |skip=>intro s Q h a w hs;exact wp_skip (.inl ⟨s,h,hs⟩)
 |label l=>intro s Q h a w hs;exact wp_label (.inl ⟨s,h,hs⟩)
 |region id ops draw=>
  intro s0 Q h a w hs
  cases draw with
  |false=>
   simp only[vc]at h
   split at h
   ·rename_i s hg
    obtain⟨hW,I,lab,fz,hA⟩:=runCs_ent hg a w hs
    obtain⟨xs,fs,s',h1,_,h2,h3,h4⟩:=vcOps_run sp n ops _ _ _ _ _ h
    refine region_text (fun ch a w hd hp=>.inr ⟨ch,rfl,hd,hp⟩) h1 hW hA fun a' w' I' lab' fz' hW' hA'=>?_
    rw[← h3,← h4]at hW' hA'
    exact .inl ⟨s',h2 (fun t p ht=>hA'.m.h t _ ht),hW',I',lab',fz',hA'⟩
   ·exact h.elim
  |true=>
   simp only[vc]at h
   split at h
   ·rename_i s hg
    obtain⟨hW,I,lab,fz,hA⟩:=runCs_ent hg a w hs
    obtain⟨xs,fs,s',h1,hc,h2,h3,h4⟩:=vcOps_run sp n ops _ _ _ _ _ h
    simp only[List.append_nil,List.reverse_reverse]at hc
    have hchk:chk ops xs fs=true:=by
     unfold chkT at hc
     rw[tchT_of]at hc
     exact hc
    refine region_draw (fun ch a w hd hp=>.inr ⟨ch,rfl,hd,hp⟩) h1 hchk hW hA fun a' w' I' lab' fz' hW' hA'=>?_
    rw[← h3,← h4]at hW' hA'
    exact .inl ⟨s',h2 (fun t p ht=>hA'.m.h t _ ht),hW',I',lab',fz',hA'⟩
   ·exact h.elim
 |seq x y ihx ihy=>
  intro s Q h a w hs
  refine wp_seq (Code.wp_mono ?_ (ihx s _ h a w hs))
  rintro e a' w' (⟨s',hq,hs'⟩|⟨ch,rfl,hp⟩)
  ·cases e with
   |normal=>exact ihy s' Q hq a' w' hs'
   |_=>exact .inl ⟨s',hq,hs'⟩
  ·exact .inr ⟨ch,rfl,hp⟩
 |cond c x y ihx ihy=>
  intro s Q h a w hs
  simp only[vc]at h
  split at h
  ·rename_i b hb
   obtain⟨hg,ht,hf⟩:=h
   have hs0:=hs
   obtain⟨hW,I,lab,fz,hA⟩:=hs
   have he:=sd_bool (eval_rd hA.e hb hg)
   exact wp_cond_split he (fun hb=>ihx s Q (ht hb) a w hs0) (fun hb=>ihy s Q (hf hb) a w hs0)
  ·exact h.elim
 |block id c ih=>
  intro s Q h a w hs
  refine wp_block (Code.wp_mono ?_ (ih s _ h a w hs))
  rintro e a' w' (⟨s',hq,hs'⟩|⟨ch,rfl,hp⟩)
  ·cases e with
   |exit j=>
    simp only[inQ]at hq
    simp only[Exit.inBlock]
    split at hq
    ·rename_i hj;rw[if_pos hj];exact .inl ⟨s',hq,hs'⟩
    ·rename_i hj;rw[if_neg hj];exact .inl ⟨s',hq,hs'⟩
   |_=>exact .inl ⟨s',hq,hs'⟩
  ·exact .inr ⟨ch,rfl,hp⟩
 |loop c ih=>intro s Q h;exact h
 |rangeFunc f ps as b ih1 ih2=>intro s Q h;simp[vc]at h
 |exit id=>intro s Q h a w hs;exact wp_exit (.inl ⟨s,h,hs⟩)
 |scope c ih=>intro s Q h;simp[vc]at h
 |goto l=>intro s Q h;simp[vc]at h
 |ret=>intro s Q h a w hs;exact wp_ret (.inl ⟨s,h,hs⟩)
 |refuse why=>intro s Q h;simp[vc]at h
def To (X:Ctx) (s t:St):Prop:=∀(w0:World) (n:Nat),Ent X w0 n s t
theorem To.ent {s t:St} (h:To X s t):Ent X w0 n s t:=h w0 n
theorem to_trans {s t u:St} (h1:To X s t) (h2:To X t u):To X s u:=fun w0 n a w h=>h2 w0 n a w (h1 w0 n a w h)
theorem to_cmds {s s' t:St} {cs:List Cmd} (h1:runCs s cs=some s') (h2:Sub s' t) (h3:∀p∈X.F,(t.h.map (·.1)).contains p.1=true):To X s t:=
 fun _ _ a w hh=>sub_ent h2 h3 a w (runCs_ent h1 a w hh)
theorem loop_ok {Y:Type} {c:Code} {s:St} {Q:Exit→St→Prop} (J:Y→Prop) (inv:Y→St) (μ:Y→Nat) (x0:Y) (h0:J x0) (hs:To X s (inv x0))
  (round:∀x,J x→Tri (P:=P) X w0 n c (inv x) (thenQ (fun s'=>∃y,J y∧μ y<μ x∧To X s' (inv y)) Q)):Tri (P:=P) X w0 n (.loop c) s Q:=by
 classical
 intro a w ha
 let Inv:Act→World→Prop:=fun a w=>∃x,J x∧Holds X w0 n (inv x) a w
 let Is:Act→World→Nat→Prop:=fun a w m=>∃x,J x∧μ x=m∧Holds X w0 n (inv x) a w
 have least:∀a w,Inv a w→∃m,Is a w m∧∀k,Is a w k→m≤k:=by
  intro a w ⟨x,hx,hh⟩
  have:∀k,∀y,J y→μ y=k→Holds X w0 n (inv y) a w→∃m,Is a w m∧∀k,Is a w k→m≤k:=by
   intro k
   induction k using Nat.strongRecOn with
   |_ k ih=>
    intro y hy hk hh
    by_cases hl:∃j,j<k∧Is a w j
    ·obtain⟨j,hj,z,hz,hzj,hhz⟩:=hl
     exact ih j hj z hz hzj hhz
    ·exact⟨k,⟨y,hy,hk,hh⟩,fun j hj=>Nat.le_of_not_lt fun hlt=>hl ⟨j,hlt,hj⟩⟩
  exact this _ x hx rfl hh
 let meas:Act→World→Nat:=fun a w=>if h:Inv a w then Classical.choose (least a w h) else 0
 refine wp_loop Inv meas ⟨x0,h0,hs.ent a w ha⟩ ?_
 intro a w hI
 have hm:meas a w=Classical.choose (least a w hI):=dif_pos hI
 obtain⟨⟨x,hx,hxm,hh⟩,_⟩:=Classical.choose_spec (least a w hI)
 refine Code.wp_mono ?_ (round x hx a w hh)
 rintro e a' w' (⟨s',hq,hs'⟩|⟨ch,rfl,hp⟩)
 rotate_left
 ·exact .inr ⟨ch,rfl,hp⟩
 cases e with
 |normal=>
  obtain⟨y,hy,hlt,hsub⟩:=hq
  have hsub':=hsub.ent a' w' hs'
  have hI':Inv a' w':=⟨y,hy,hsub'⟩
  refine⟨hI',?_⟩
  have hm':meas a' w'=Classical.choose (least a' w' hI'):=dif_pos hI'
  have:=(Classical.choose_spec (least a' w' hI')).2 (μ y) ⟨y,hy,rfl,hsub'⟩
  rw[hm,hm']
  omega
 |_=>exact .inl ⟨s',hq,hs'⟩
def resOne (P:Program) (s:St):ResultVar→Option SV
 | .tmp t=>match lkp s.e t with
  |some (true,v)=>some v
  |_=>none
 | .cell t T=>match lkp s.e t,tSize P T with
  |some (true,.one (.p k i j)),some m=>
   match lkp s.h k with
   |some (.vec u z es)=>if i<es.length then ldV (tAgg P T) m (ldc k u [] i j ((es.getD i z).drop j)) else none
   |_=>none
  |some (true,.one (.d (.pt (some cs)))),some m=>ldV (tAgg P T) m (cs.map oD)
  |_,_=>none
def resAll (P:Program) (s:St):List ResultVar→Option (List SV)
 |[]=>some []
 |r::rs=>match resOne P s r,resAll P s rs with
  |some v,some l=>some (v::l)
  |_,_=>none
def toP:SV→C ⊕ List C
 | .one c=>.inl c
 | .agg l=>.inr l
 | .tup _=>.inl .any
def resV:List SV→SV
 |[v]=>v
 |l=>.tup (l.map toP)
def noTup:List SV→Bool
 |[]=>true
 | .tup _::_=>false
 |_::r=>noTup r
def resSem (tmps:Array Value) (r:ResultVar):Sem Value:=
 match r with
 | .tmp t=>pure (tmps.getD t undef)
 | .cell b t=>do loadVar t (← asAddr (tmps.getD b undef))
section
variable {I:Nm} {lab:Lab} {fz:Nat→Prop} {s:St} {a:Act} {w:World}
theorem resOne_ok {r:ResultVar} {v:SV} (h:resOne P s r=some v) (hA:At X w0 n I lab fz (lkp s.e) (lkp s.h) a w) :
  ∃x,(resSem a.tmps r).run P w= .ok x w∧SDen (hp w) fz lab I (lkp s.h) v x:=by
 unfold resSem
 cases r with
 |tmp t=>
  simp only[resOne]at h
  split at h
  ·rename_i sv hs
   simp only[Option.some.injEq]at h
   subst h
   obtain⟨x,hx,hd⟩:=hA.e t true _ hs
   exact⟨x,by simp[hx],by simpa using hd⟩
  ·cases h
 |cell t T=>
  simp only[resOne]at h
  split at h
  ·rename_i k i j m hs hm
   obtain⟨x,hx,hd⟩:=hA.e t true _ hs
   simp only[if_true]at hd
   split at h
   ·rename_i u z es hk
    split at h
    ·rename_i hi
     obtain⟨b,off,hp',hl⟩:=row_read (j:=j) hA.m hk hi
     obtain⟨y,y1,y2⟩:=ld_ok hm h hl
     have hx':x= .pointer (some ⟨b,off,none⟩):=by
      have:=hd.2
      cases this;exact hp'
     exact⟨y,by simp[hx,hx',asAddr,y1],y2⟩
    ·cases h
   ·cases h
  ·rename_i cs m hs hm
   obtain⟨x,hx,hd⟩:=hA.e t true _ hs
   simp only[if_true]at hd
   have hd:=hd.2
   cases hd with
   |d _ _ _ r=>
    obtain⟨b,off,hx',hl⟩:=rd_pt_read (H:=lkp s.h) (lab:=lab) (I:=I) r
    obtain⟨y,y1,y2⟩:=ld_ok hm h hl
    exact⟨y,by simp[hx,hx',asAddr,y1],y2⟩
  ·cases h
theorem resAll_ok (hA:At X w0 n I lab fz (lkp s.e) (lkp s.h) a w):∀{rs:List ResultVar} {vs:List SV},resAll P s rs=some vs→
  ∃xs,(rs.mapM (resSem a.tmps)).run P w= .ok xs w∧xs.length=vs.length∧∀(j:Nat) (v:SV),vs[j]?=some v→∃x,xs[j]?=some x∧SDen (hp w) fz lab I (lkp s.h) v x
 |[],vs,h=>by simp only[resAll,Option.some.injEq]at h;subst h;exact⟨[],by simp,rfl,by simp⟩
 |r::rs,vs,h=>by
  simp only[resAll]at h
  split at h
  ·rename_i v l h1 h2
   simp only[Option.some.injEq]at h
   subst h
   obtain⟨x,x1,x2⟩:=resOne_ok h1 hA
   obtain⟨xs,e1,e2,e3⟩:=resAll_ok hA h2
   refine⟨x::xs,by simp only[List.mapM_cons,Sem.run_bind,x1,e1,Result.andThen_ok,Sem.run_pure],by simp[e2],fun j v hj=>?_⟩
   cases j with
   |zero=>simp only[List.getElem?_cons_zero,Option.some.injEq]at hj;subst hj;exact⟨x,rfl,x2⟩
   |succ j=>simp only[List.getElem?_cons_succ]at hj ⊢;exact e3 j v hj
  ·cases h
theorem results_ok (hA:At X w0 n I lab fz (lkp s.e) (lkp s.h) a w) {fn:Func} {vs:List SV} (h:resAll P s fn.results.toList=some vs) (ht:noTup vs=true) :
  ∃x,(results fn a.tmps).run P w= .ok x w∧SDen (hp w) fz lab I (lkp s.h) (resV vs) x:=by
 obtain⟨xs,h1,h2,h3⟩:=resAll_ok hA h
 have e:results fn a.tmps=(do let vs ← fn.results.mapM (resSem a.tmps);pure (if h:vs.size=1 then vs[0] else .tuple vs)):=rfl
 have tupCase:(∀v,vs≠[v])→SDen (hp w) fz lab I (lkp s.h) (.tup (vs.map toP)) (.tuple xs.toArray):=by
  intro _
  refine⟨_,rfl,by simp[h2],fun j p hj=>?_⟩
  simp only[List.getElem?_map,Option.map_eq_some_iff]at hj
  obtain⟨v,hv,rfl⟩:=hj
  obtain⟨x,x1,x2⟩:=h3 j v hv
  refine⟨x,by simpa using x1,?_⟩
  have hnt:∀(l:List SV),noTup l=true→∀v∈l,∀q,v≠.tup q:=by
   intro l
   induction l with
   |nil=>intro _ v hv;cases hv
   |cons v0 l ih=>
    intro hn v hv q e
    subst e
    rcases List.mem_cons.1 hv with e|e
    ·subst e;simp[noTup]at hn
    ·exact ih (by cases v0<;>first|exact hn|(simp[noTup]at hn)) _ e q rfl
  cases v with
  |one c=>exact x2
  |agg l=>exact x2
  |tup l=>exact absurd rfl (hnt vs ht _ (List.mem_of_getElem? hv) l)
 rw[e,Array.mapM_eq_mapM_toList]
 simp only[Sem.run_bind,Sem.run_map,h1,Result.andThen_ok,Sem.run_pure]
 match vs,xs,h2,h3,tupCase with
 |[],[],_,_,tc=>exact⟨_,rfl,tc (by simp)⟩
 |[v],[x],_,h3,_=>
  obtain⟨y,y1,y2⟩:=h3 0 v rfl
  simp only[List.getElem?_cons_zero,Option.some.injEq]at y1
  subst y1
  exact⟨_,rfl,y2⟩
 |v::v2::l,x::x2::l2,_,_,tc=>exact⟨_,rfl,tc (by simp)⟩
end
def argE:Nat→List SV→List (Nat×Bool×SV)
 |_,[]=>[]
 |i,v::r=>(i,true,v)::argE (i+1) r
theorem argE_lkp:∀(args:List SV) (i t:Nat),lkp (argE i args) t=if i≤t then (args[t-i]?).map fun v=>(true,v) else none
 |[],i,t=>by simp[argE,lkp]
 |v::r,i,t=>by
  simp only[argE,lkp]
  by_cases h:t=i
  ·subst h;simp
  ·rw[if_neg h,argE_lkp r (i+1) t]
   by_cases h2:i≤t
   ·have h3:i+1≤t:=by omega
    rw[if_pos h2,if_pos h3]
    have:t-i=(t-(i+1))+1:=by omega
    rw[this,List.getElem?_cons_succ]
   ·rw[if_neg h2,if_neg (by omega)]
def nm0:Nm:=fun _=>⟨none,0,0,0,false⟩
def CD (h:Heap) (fz:Nat→Prop) (v:SV) (x:Value):Prop:=SDen h fz (fun _=>none) nm0 (fun _=>none) v x
theorem sd_closed {h h':Heap} {fz fz':Nat→Prop} {lab lab':Lab} {I I':Nm} {H H':Hp} (hz:∀b,fz b→fz' b∧h' b=h b) {v:SV} {x:Value} (hn:v.names=[]) (r:SDen h fz lab I H v x):SDen h' fz' lab' I' H' v x:=by
 have sc:∀{c:C} {x:Value},c.names=[]→SC h fz lab I H c x→SC h' fz' lab' I' H' c x:=by
  intro c x hn r
  unfold SC at r
  split at r
  ·cases hn
  ·cases hn
  ·rename_i h1 h2
   have hs:c.stor=true:=by
    cases c<;>first|rfl|(exact absurd rfl (h1 _ _ _))|(exact absurd rfl (h2 _ _ _ _ _ _))|(exact absurd r.1 (by simp[C.flat]))
   exact sc_of hs (den_flat hz r.1 r.2 (by rw[hn];intro k hk;cases hk))
 have fl:∀{l:List C},l.flatMap C.names=[]→∀c∈l,c.names=[]:=fun h c hc=>(List.flatMap_eq_nil_iff.1 h) c hc
 have cs:∀{l:List C} {arr:Array Value},l.flatMap C.names=[]→CsDen h fz lab I H l arr→CsDen h' fz' lab' I' H' l arr:=by
  intro l arr hn r
  refine⟨r.1,fun j c hj=>?_⟩
  obtain⟨y,y1,y2⟩:=r.2 j c hj
  exact⟨y,y1,sc (fl hn c (List.mem_of_getElem? hj)) y2⟩
 cases v with
 |one c=>exact sc hn r
 |agg l=>obtain⟨arr,e1,e2⟩:=r;exact⟨arr,e1,cs hn e2⟩
 |tup l=>
  obtain⟨arr,e1,e2,e3⟩:=r
  refine⟨arr,e1,e2,fun j p hj=>?_⟩
  obtain⟨y,y1,y2⟩:=e3 j p hj
  have hq:=(List.flatMap_eq_nil_iff.1 hn) p (List.mem_of_getElem? hj)
  refine⟨y,y1,?_⟩
  cases p with
  |inl c=>exact sc hq y2
  |inr l=>obtain⟨arr,e1,e2⟩:=y2;exact⟨arr,e1,cs hq e2⟩
def RetP (P:Program) (X:Ctx) (rs:List ResultVar) (R:St→List SV→Prop) (s:St):Prop:=
 ∃cs s' vs,runCs s cs=some s'∧resAll P s' rs=some vs∧noTup vs=true∧R s' vs
def retQ (P:Program) (X:Ctx) (rs:List ResultVar) (R:St→List SV→Prop):Exit→St→Prop
 | .normal,s=>RetP P X rs R s
 | .ret,s=>RetP P X rs R s
 |_,_=>False
def DPost (w:World) (fz:Nat→Prop) (R:SV→Prop) (en:Ending) (w':World):Prop:=
 ∃v x fz',en= .returned x∧R v∧v.names=[]∧(∀b,fz b→fz' b)∧(∀b,fz' b→fz b∨w.heap.size≤b)∧(∀b,fz' b→b<w'.heap.size)∧CD (hp w') fz' v x∧Below w.heap.size w w'
abbrev clX (fz:Nat→Prop):Ctx:=⟨fun _=>False,fz,[],none,[],[]⟩
theorem calls_vc {f:FuncId} {fn:Func} {c:Code} (hf:P.funcs[f]?=some fn) (hb:fn.body=some c) (w:World) (fz:Nat→Prop) (sp:List (Spec P (clX fz) w)) (g:Gh) (args:List SV) (hnm:∀v∈args,v.names=[]) (hfz:∀b,fz b→b<w.heap.size)
  (xs:List Value) (hlen:xs.length=args.length) (hx:∀(j:Nat) (v:SV) (x:Value),args[j]?=some v→xs[j]?=some x→CD (hp w) fz v x) (R:SV→Prop)
  (hn:args.length≤fn.ntmps) (h:vc (clX fz) w sp fn.ntmps g c ⟨argE 0 args,[]⟩ (retQ P (clX fz) fn.results.toList (fun _ vs=>(resV vs).names=[]∧R (resV vs)))) :
  Calls P f xs.toArray w (DPost w fz R):=by
 refine calls_of_wp hf hb (Code.wp_mono ?_ (vc_ok sp g c _ _ h _ w ?_))
 ·rintro e a w' (⟨s,hq,hs⟩|⟨ch,rfl,_,_,I1,l1,f1,H1,_,hpn⟩)
  rotate_left
  ·exact hpn.elim
  have fin:RetP P (clX fz) fn.results.toList (fun _ vs=>(resV vs).names=[]∧R (resV vs)) s→a.defers=[]∧∃v,(results fn a.tmps).run P w'= .ok v w'∧DPost w fz R (Ending.returned v) w':=by
   rintro ⟨cs,s',vs,h1,h2,h3,h4,h5⟩
   refine⟨hs.defers,?_⟩
   obtain⟨_,I,lab,fz',hA⟩:=runCs_ent h1 a w' hs
   obtain⟨x,x1,x2⟩:=results_ok hA h2 h3
   refine⟨x,x1,resV vs,x,fun b=>fz' b∨fz b,rfl,h5,h4,fun b hb=>.inr hb,fun b hb=>?_,fun b hb=>?_,sd_closed (fun b hb=>⟨.inl hb,rfl⟩) h4 x2,hA.m.kept.below (fun _ _ hf=>hf)⟩
   ·rcases hb with hb|hb
    ·rcases hA.m.fzo b hb with h|h|h
     ·exact .inl h
     ·exact .inr h
     ·exact h.elim
    ·exact .inl hb
   ·rcases hb with hb|hb
    ·exact(hA.m.fzl b hb).1
    ·exact Nat.lt_of_lt_of_le (hfz b hb) hA.m.kept.size
  cases e with
  |normal=>exact fin hq
  |ret=>exact fin hq
  |_=>exact hq.elim
 ·have hE0:∀t g v,lkp (argE 0 args) t=some (g,v)→g=true∧args[t]?=some v:=by
   intro t g v ht
   rw[argE_lkp]at ht
   simp only[Nat.zero_le,if_true,Nat.sub_zero,Option.map_eq_some_iff,Prod.mk.injEq]at ht
   obtain⟨u,hu,rfl,rfl⟩:=ht
   exact⟨rfl,hu⟩
  refine⟨?_,nm0,fun _=>none,fz,?_,⟨rfl,fun p hp=>by cases hp⟩,?_,⟨?_,?_,?_,fun b hb=>⟨hfz b hb,rfl⟩,fun b hb=>.inl hb,Kept.refl _ _,by intro p hp;cases hp⟩⟩
  ·intro t g v ht _
   have:=(hE0 t g v ht).2
   rw[hnm v (List.mem_of_getElem? this)]
   intro k hk;cases hk
  ·simp[hlen];omega
  ·intro t g v ht
   obtain⟨rfl,hv⟩:=hE0 t g v ht
   have hlt:t<args.length:=(List.getElem?_eq_some_iff.1 hv).1
   have hlt2:t<xs.length:=by omega
   refine⟨xs[t],?_,?_⟩
   ·rw[Array.getElem?_append_left (by simpa using hlt2)]
    simp[hlt2]
   ·simp only[if_true]
    exact sd_closed (fun b hb=>⟨hb,rfl⟩) (hnm v (List.mem_of_getElem? hv)) (hx t v _ hv (List.getElem?_eq_getElem hlt2))
  ·intro k ch hk;simp[lkp]at hk
  ·intro k ch hk;simp[lkp]at hk
  ·intro b π hb;cases hb
end
end Go.Sy
namespace Go.Sy
open Go.RowKit
structure Cod (A:Type) where
 d:SV→Option A
 e:A→SV
 h:∀{hh:Heap} {fz:Nat→Prop} {lab:Lab} {I:Nm} {H:Hp} (v:SV) (a:A) (x:Value),d v=some a→SDen hh fz lab I H v x→SDen hh fz lab I H (e a) x
 n:∀a,(e a).names=[]
def dInt (k:IntKind):SV→Option Int
 | .one (.v (.int k' n))=>if k'=k then some n else none
 |_=>none
def cInt (k:IntKind):Cod Int where
 d:=dInt k
 e n:=.one (.v (.int k n))
 h s x y h r:=by
  unfold dInt at h
  split at h
  ·split at h
   ·rename_i hk;simp only[Option.some.injEq]at h;subst h;subst hk;exact r
   ·simp at h
  ·simp at h
 n x:=rfl
def dBool:SV→Option Bool
 | .one (.v (.bool b))=>some b
 |_=>none
def cBool:Cod Bool where
 d:=dBool
 e b:=.one (.v (.bool b))
 h s x y h r:=by
  unfold dBool at h
  split at h
  ·simp only[Option.some.injEq]at h;subst h;exact r
  ·simp at h
 n x:=rfl
theorem cIntY_d (k:IntKind):(cInt k).d=dInt k:=rfl
theorem cIntY_e (k:IntKind) (n:Int):(cInt k).e n= .one (.v (.int k n)):=rfl
theorem cBoolY_d:cBool.d=dBool:=rfl
theorem cBoolY_e (b:Bool):cBool.e b= .one (.v (.bool b)):=rfl
structure ArgC (A:Type) where
 d:List SV→Option A
 e:A→List SV
 h:∀(l:List SV) (a:A),d l=some a→(e a).length=l.length∧∀{hh:Heap} {fz:Nat→Prop} {lab:Lab} {I:Nm} {H:Hp} (j:Nat) (v v':SV) (x:Value),l[j]?=some v→(e a)[j]?=some v'→SDen hh fz lab I H v x→SDen hh fz lab I H v' x
 n:∀a,∀v∈e a,v.names=[]
def ac0:ArgC Unit where
 d|[]=>some ()
  |_=>none
 e _:=[]
 h l a h:=by
  split at h
  ·exact⟨rfl,fun j v v' x h1 _ _=>by simp at h1⟩
  ·cases h
 n a v hv:=by cases hv
def pairO {A B:Type}:Option A→Option B→Option (A×B)
 |some x,some y=>some (x,y)
 |_,_=>none
def acS {A B:Type} (c:Cod A) (r:ArgC B):ArgC (A×B) where
 d|[]=>none
  |v::l=>pairO (c.d v) (r.d l)
 e p:=c.e p.1::r.e p.2
 h l a h:=by
  split at h
  ·cases h
  ·rename_i v l
   unfold pairO at h
   split at h
   ·rename_i x y hx hy
    simp only[Option.some.injEq]at h
    subst h
    obtain⟨g1,g2⟩:=r.h l y hy
    refine⟨by simp[g1],fun j v1 v' z h1 h2 h3=>?_⟩
    cases j with
    |zero=>simp only[List.getElem?_cons_zero,Option.some.injEq]at h1 h2;subst h1;subst h2;exact c.h _ _ _ hx h3
    |succ j=>exact g2 j v1 v' z (by simpa using h1) (by simpa using h2) h3
   ·cases h
 n a v hv:=by
  rcases List.mem_cons.1 hv with e|e
  ·subst e;exact c.n _
  ·exact r.n _ v e
theorem ac0_d:ac0.d []=some ():=rfl
theorem acS_d {A B:Type} (c:Cod A) (r:ArgC B) (v:SV) (l:List SV):(acS c r).d (v::l)=pairO (c.d v) (r.d l):=rfl
theorem pairO_some {A B:Type} (x:A) (y:B):pairO (some x) (some y)=some (x,y):=rfl
theorem ac0_e (u:Unit):ac0.e u=[]:=rfl
theorem acS_e {A B:Type} (c:Cod A) (r:ArgC B) (x:A) (y:B):(acS c r).e (x,y)=c.e x::r.e y:=rfl
def spFn {A:Type} (o:Option A) (Cd:A→Prop) (F:A→SV):Res:=
 match o with
 |some a=>some (Cd a,⟨F a,[]⟩,[])
 |none=>none
theorem spFn_some {A:Type} (a:A) (Cd:A→Prop) (F:A→SV):spFn (some a) Cd F=some (Cd a,⟨F a,[]⟩,[]):=rfl
def CallsY (P:Program) (f:FuncId) {A:Type} (ac:ArgC A) (Cd:A→Prop) (F:A→SV):Prop:=
 ∀(a:A) (w:World) (fz:Nat→Prop) (xs:List Value),Cd a→(∀b,fz b→b<w.heap.size)→xs.length=(ac.e a).length→(∀(j:Nat) (v:SV) (x:Value),(ac.e a)[j]?=some v→xs[j]?=some x→CD (hp w) fz v x)→
  Calls P f xs.toArray w (DPost w fz (fun v=>v=F a))
section
variable {P:Program}
theorem post_below {X:Ctx} {w0 w w':World} {I:Nm} {lab:Lab} {fz fz':Nat→Prop} {H:Hp} (hA:AtW X w0 I lab fz H w) (h1:∀b,fz b→fz' b) (h2:∀b,fz' b→fz b∨w.heap.size≤b) (h3:∀b,fz' b→b<w'.heap.size) (hb:Below w.heap.size w w') {v:SV} {x:Value}
  (hn:v.names=[]) (hv:CD (hp w') fz' v x):Post X w0 w I lab fz H (some v) [] x w':=by
 have hsame:∀b,b<w.heap.size→hp w' b=hp w b:=fun b h=>hb.block b h
 refine⟨I,lab,fz',⟨?_,hA.wf,fun b π h=>⟨Nat.lt_of_lt_of_le (hA.own b π h).1 hb.size,(hA.own b π h).2⟩,fun b h=>⟨h3 b h,?_⟩,fun b h=>?_,hA.kept.trans (Kept.of_below hb (fun _=>False)) (fun _ _ hf=>hf.elim),hA.fix⟩,?_,?_⟩
 ·intro k ch hk
  have hz:∀b,fz b→fz' b∧hp w' b=hp w b:=fun b h=>⟨h1 b h,hsame b (hA.fzl b h).1⟩
  have h0:=hA.h k ch hk
  cases ch with
  |dead=>trivial
  |fact p=>exact h0
  |vec u z es=>exact⟨h0.1,h0.2.1,vec_mono hz h0.2.2 (fun b ρ h=>⟨h,hsame b (hA.own b _ h).1⟩) fun _ _ _ _ _ _ _ _=>rfl⟩
  |mp ag es=>exact mp_mono hz h0 (fun b h=>⟨h,hsame b (hA.own b _ h).1⟩) rfl fun _ _=>rfl
 ·rcases h2 b h with h|h
  ·exact(hA.fzl b h).2
  ·cases hl:lab b with
   |none=>rfl
   |some π=>have:=(hA.own b π hl).1;omega
 ·rcases h2 b h with h|h
  ·exact hA.fzo b h
  ·exact .inr (.inl (Nat.le_trans hA.kept.size h))
 ·intro s hs
  simp only[Option.some.injEq]at hs
  subst hs
  exact sd_closed (fun b h=>⟨h,rfl⟩) hn hv
 ·refine⟨fun b h=>⟨h1 b h,hsame b (hA.fzl b h).1⟩,fun _ _=>rfl,fun k u p x hk hv=>?_⟩
  exact vw_keep hA rfl rfl (fun b ρ h=>hsame b (hA.own b _ h).1) hv
def specD {X:Ctx} {w0:World} (f:FuncId) (call:∀(args:Array Value) (w:World),(callFunc f args).run P w= .ok (.enter f args) w) {A:Type} (ac:ArgC A) (Cd:A→Prop) (F:A→SV) (hF:∀a,(F a).names=[]) (ok:CallsY P f ac Cd F):Spec P X w0 where
 f:=f
 call:=call
 fn _ args _:=spFn (ac.d args) Cd F
 ok w I lab fz H t args xs c e fp hA ht h hc hd hl hx:=by
  refine calls_inl ?_
  unfold spFn at h
  split at h
  ·rename_i a ha
   simp only[Option.some.injEq,Prod.mk.injEq]at h
   obtain⟨rfl,rfl,rfl⟩:=h
   obtain⟨g1,g2⟩:=ac.h _ _ ha
   refine(ok a w fz xs hc (fun b hb=>(hA.fzl b hb).1) (by rw[g1,hl]) ?_).mono ?_
   ·intro j v x hj hxj
    have hjl:j<args.length:=by rw[hl];exact(List.getElem?_eq_some_iff.1 hxj).1
    have:=hx j _ x (List.getElem?_eq_getElem hjl) hxj
    exact sd_closed (fun b hb=>⟨hb,rfl⟩) (ac.n a v (List.mem_of_getElem? hj)) (g2 j _ v x (List.getElem?_eq_getElem hjl) hj this)
   ·rintro en w' ⟨v,x,fz',rfl,rfl,h1,h2,h3,h4,h5,h6⟩
    exact⟨x,rfl,post_below hA h2 h3 h4 h6 h1 h5⟩
  ·cases h
 dom t args H c e fp _ _ h _:=by
  unfold spFn at h
  split at h
  ·simp only[Option.some.injEq,Prod.mk.injEq]at h
   obtain⟨rfl,rfl,rfl⟩:=h
   exact⟨(by rw[hF];intro k hk;exact(List.not_mem_nil hk).elim),fun p hp'=>(List.not_mem_nil hp').elim⟩
  ·cases h
 loc t args H H' c e fp h _:=h
theorem specD_f {X:Ctx} {w0:World} {A:Type} (f call) (ac:ArgC A) (Cd F hF ok):(specD (P:=P) (X:=X) (w0:=w0) f call ac Cd F hF ok).f=f:=rfl
theorem specD_fn {X:Ctx} {w0:World} {A:Type} (f call) (ac:ArgC A) (Cd F hF ok) (t:Nat) (args:List SV) (H:Hp):(specD (P:=P) (X:=X) (w0:=w0) f call ac Cd F hF ok).fn t args H=spFn (ac.d args) Cd F:=rfl
def RES (r:SV):St→List SV→Prop:=fun _ vs=>(resV vs).names=[]∧resV vs=r
theorem e_RES (r:SV) (s:St) (vs:List SV):RES r s vs=((resV vs).names=[]∧resV vs=r):=rfl
variable {X:Ctx} {w0:World} {sp:List (Spec P X w0)} {n:Nat} {g:Gh} {ops:Array Oper}
def vcStep (x:Option (Prop×Wr×List Nat)) (sp:List (Spec P X w0)) (n:Nat) (ops:Array Oper) (r:List Oper) (s:St) (tr:Trace) (T:Trace→Prop) (K:St→Prop):Prop:=
 match x with
 |some (c,x,f)=>c∧vcOps sp n ops r (s.app x) ((x.us.map (·.1),f)::tr) T (facK x.us K)
 |none=>False
def vcGh (o:Option St) (sp:List (Spec P X w0)) (n:Nat) (ops:Array Oper) (l:List Oper) (T:Trace→Prop) (K:St→Prop):Prop:=
 match o with
 |some s=>vcOps sp n ops l s [] T K
 |none=>False
def nrmK (Q:Exit→St→Prop):St→Prop:=fun s=>Q .normal s
def textT:Trace→Prop:=fun _=>True
def drawT (ops:Array Oper):Trace→Prop:=fun tr=>chkT ops tr.reverse=true
def seqK (X:Ctx) (w0:World) (sp:List (Spec P X w0)) (n:Nat) (g:Gh) (b:Code) (Q:Exit→St→Prop):St→Prop:=fun s=>vc X w0 sp n g b s Q
def condK (v:Option SV) (X:Ctx) (w0:World) (sp:List (Spec P X w0)) (n:Nat) (g:Gh) (c:Operand) (x y:Code) (s:St) (Q:Exit→St→Prop):Prop:=
 match v with
 |some (.one (.v (.bool b)))=>rdg (lkp s.e) c=true∧(b=true→vc X w0 sp n g x s Q)∧(b=false→vc X w0 sp n g y s Q)
 |_=>False
theorem chk_ok {o:Array Oper} {t:Trace} (h:chkT o t=true):chkT o t=true:=h
def impB (b:Bool) (p:Prop):Prop:=b=true→p
def impN (b:Bool) (p:Prop):Prop:=b=false→p
theorem e_impBt (p:Prop):impB true p=p:=by simp[impB]
theorem e_impBf (p:Prop):impB false p=True:=by simp[impB]
theorem e_impNt (p:Prop):impN true p=True:=by simp[impN]
theorem e_impNf (p:Prop):impN false p=p:=by simp[impN]
theorem e_nil (s:St) (tr:Trace) (T:Trace→Prop) (K:St→Prop):vcOps sp n ops [] s tr T K=(T tr∧K s):=rfl
theorem e_cons (o:Oper) (r:List Oper) (s:St) (tr:Trace) (T:Trace→Prop) (K:St→Prop):vcOps sp n ops (o::r) s tr T K=vcStep (opG sp n ops o (lkp s.e) (lkp s.h)) sp n ops r s tr T K:=rfl
theorem e_step (c:Prop) (x:Wr) (f:List Nat) (r:List Oper) (s:St) (tr:Trace) (T:Trace→Prop) (K:St→Prop) :
  vcStep (some (c,x,f)) sp n ops r s tr T K=(c∧vcOps sp n ops r (s.app x) ((x.us.map (·.1),f)::tr) T (facK x.us K)):=rfl
theorem e_fac0 (K:St→Prop):facK [] K=K:=rfl
theorem e_fac1 (t u:Nat) (z:List C) (es:List (List C)) (r:List (Nat×Ch)) (K:St→Prop):facK ((t,.vec u z es)::r) K=facK r K:=rfl
theorem e_fac2 (t:Nat) (r:List (Nat×Ch)) (K:St→Prop):facK ((t,.dead)::r) K=facK r K:=rfl
theorem e_fac3 (t:Nat) (p:Prop) (r:List (Nat×Ch)) (K:St→Prop):facK ((t,.fact p)::r) K=facK r (fun s=>facI (lkp s.h t) p K s):=rfl
theorem e_gh (s:St) (l:List Oper) (T:Trace→Prop) (K:St→Prop):vcGh (some s) sp n ops l T K=vcOps sp n ops l s [] T K:=rfl
theorem e_nrmK (Q:Exit→St→Prop) (s:St):nrmK Q s=Q .normal s:=rfl
theorem e_textT (tr:Trace):textT tr=True:=rfl
theorem e_drawK (tr:Trace):drawT ops tr=(chkT ops tr.reverse=true):=rfl
theorem e_seqK (b:Code) (Q:Exit→St→Prop) (s:St):seqK X w0 sp n g b Q s=vc X w0 sp n g b s Q:=rfl
theorem e_condK (b:Bool) (c:Operand) (x y:Code) (s:St) (Q:Exit→St→Prop) :
  condK (some (.one (.v (.bool b)))) X w0 sp n g c x y s Q=(rdg (lkp s.e) c=true∧impB b (vc X w0 sp n g x s Q)∧impN b (vc X w0 sp n g y s Q)):=rfl
theorem e_skip (s:St) (Q:Exit→St→Prop):vc X w0 sp n g .skip s Q=Q .normal s:=rfl
theorem e_label (l:Nat) (s:St) (Q:Exit→St→Prop):vc X w0 sp n g (.label l) s Q=Q .normal s:=rfl
theorem e_text (id:Nat) (l:List Oper) (s:St) (Q:Exit→St→Prop):vc X w0 sp n g (.region id l.toArray false) s Q=vcGh (runCs s (ghOf g id)) sp n l.toArray l textT (nrmK Q):=rfl
theorem e_draw (id:Nat) (l:List Oper) (s:St) (Q:Exit→St→Prop):vc X w0 sp n g (.region id l.toArray true) s Q=vcGh (runCs s (ghOf g id)) sp n l.toArray l (drawT l.toArray) (nrmK Q):=rfl
theorem e_seq (a b:Code) (s:St) (Q:Exit→St→Prop):vc X w0 sp n g (.seq a b) s Q=vc X w0 sp n g a s (thenQ (seqK X w0 sp n g b Q) Q):=rfl
theorem e_cond (c:Operand) (x y:Code) (s:St) (Q:Exit→St→Prop):vc X w0 sp n g (.cond c x y) s Q=condK (rdv (lkp s.e) c) X w0 sp n g c x y s Q:=rfl
theorem e_block (id:Nat) (c:Code) (s:St) (Q:Exit→St→Prop):vc X w0 sp n g (.block id c) s Q=vc X w0 sp n g c s (inQ id Q):=rfl
theorem e_exit (id:Nat) (s:St) (Q:Exit→St→Prop):vc X w0 sp n g (.exit id) s Q=Q (.exit id) s:=rfl
theorem e_ret (s:St) (Q:Exit→St→Prop):vc X w0 sp n g .ret s Q=Q .ret s:=rfl
theorem e_loop (c:Code) (s:St) (Q:Exit→St→Prop):vc X w0 sp n g (.loop c) s Q=Tri (P:=P) X w0 n (.loop c) s Q:=rfl
theorem e_then1 (K:St→Prop) (Q:Exit→St→Prop) (s:St):thenQ K Q .normal s=K s:=rfl
theorem e_then2 (K:St→Prop) (Q:Exit→St→Prop) (s:St):thenQ K Q .ret s=Q .ret s:=rfl
theorem e_then3 (K:St→Prop) (Q:Exit→St→Prop) (s:St) (j:Nat):thenQ K Q (.exit j) s=Q (.exit j) s:=rfl
theorem e_in1 (id:Nat) (Q:Exit→St→Prop) (s:St):inQ id Q .normal s=Q .normal s:=rfl
theorem e_in2 (id:Nat) (Q:Exit→St→Prop) (s:St):inQ id Q .ret s=Q .ret s:=rfl
theorem e_in3 (id j:Nat) (Q:Exit→St→Prop) (s:St):inQ id Q (.exit j) s=if j=id then Q .normal s else Q (.exit j) s:=rfl
def ret1 (o:Option St) (P:Program) (rs:List ResultVar) (R:St→List SV→Prop):Prop:=
 match o with
 |some s'=>∃vs,resAll P s' rs=some vs∧noTup vs=true∧R s' vs
 |none=>False
theorem ret_with (cs:List Cmd) {rs:List ResultVar} {R:St→List SV→Prop} {s:St} (h:ret1 (runCs s cs) P rs R):RetP P X rs R s:=by
 unfold ret1 at h
 split at h
 ·rename_i s' hs
  obtain⟨vs,h⟩:=h
  exact⟨cs,s',vs,hs,h⟩
 ·exact h.elim
theorem e_ret0 (s:St) (rs:List ResultVar) (R:St→List SV→Prop):ret1 (some s) P rs R=∃vs,resAll P s rs=some vs∧noTup vs=true∧R s vs:=rfl
theorem e_retQ1 (rs:List ResultVar) (R:St→List SV→Prop) (s:St):retQ P X rs R .normal s=RetP P X rs R s:=rfl
theorem e_retQ2 (rs:List ResultVar) (R:St→List SV→Prop) (s:St):retQ P X rs R .ret s=RetP P X rs R s:=rfl
theorem e_ex {α:Type} (v:α) (p:α→Prop):(∃x,some v=some x∧p x)=p v:=by simp
theorem e_guard0 (d:Option Tmp) (op:Op) (t:TypeId) (pos:String) (af:Array Edge) (E:Env):guardOf ops ⟨d,op,t,pos,af,none⟩ E=some true:=rfl
theorem gh_nil (id:Nat):ghOf [] id=[]:=rfl
theorem run_nil (s:St):runCs s []=some s:=rfl
def To1 (X:Ctx) (o:Option St) (t:St):Prop:=
 match o with
 |some s=>Sub s t∧∀p∈X.F,(t.h.map (·.1)).contains p.1=true
 |none=>False
theorem to_with (cs:List Cmd) {s t:St} (h:To1 X (runCs s cs) t):To X s t:=by
 unfold To1 at h
 split at h
 ·rename_i s' hs;exact to_cmds hs h.1 h.2
 ·exact h.elim
end
theorem wrap_i64 {n:Int} (h1 : -9223372036854775808≤n) (h2:n≤9223372036854775807):IntKind.i64.wrap n=n:=IntWalk.i64_in n ⟨h1,h2⟩
theorem wrap_u64 {n:Int} (h1:0≤n) (h2:n≤18446744073709551615):IntKind.u64.wrap n=n:=IntWalk.u64_in n ⟨h1,h2⟩
theorem wrap_u8 {n:Int} (h1:0≤n) (h2:n≤255):IntKind.u8.wrap n=n:=IntWalk.u8_in n ⟨h1,h2⟩
end Go.Sy
namespace Go.Sy
open Go.RowKit
end Go.Sy
namespace Go.Sy
open Go.RowKit
structure CodH (A:Type) where
 d:Hp→SV→Option (A×List Nat)
 e:A→SV
 h:∀{X:Ctx} {w0 w:World} {I:Nm} {lab:Lab} {fz:Nat→Prop} {H:Hp} (v:SV) (a:A) (fp:List Nat) (x:Value),AtW X w0 I lab fz H w→d H v=some (a,fp)→SDen (hp w) fz lab I H v x→CD (hp w) (fun b=>b<w.heap.size) (e a) x
 n:∀a,(e a).names=[]
 l:∀(H H':Hp) (v:SV) (a:A) (fp:List Nat),d H v=some (a,fp)→(∀k∈fp,H' k=H k)→d H' v=some (a,fp)
def Cod.H {A:Type} (c:Cod A):CodH A where
 d _ v:=(c.d v).map fun a=>(a,[])
 e:=c.e
 h v a fp x hA h r:=by
  simp only[Option.map_eq_some_iff,Prod.mk.injEq]at h
  obtain⟨a',h,rfl,rfl⟩:=h
  exact sd_closed (fun b hb=>⟨(hA.fzl b hb).1,rfl⟩) (c.n _) (c.h v _ x h r)
 n:=c.n
 l H H' v a fp h _:=h
structure RowC (B:Type) where
 z:List D
 d:List D→Option B
 e:B→List D
 h:∀r b,d r=some b→r=e b
 i:∀b,d (e b)=some b
 n:∀b,(e b).length=z.length
def decL {B:Type} (d:List D→Option B):List (List D)→Option (List B)
 |[]=>some []
 |r::rs=>match d r,decL d rs with
  |some b,some l=>some (b::l)
  |_,_=>none
theorem decL_eq {B:Type} (c:RowC B):∀{es:List (List D)} {l:List B},decL c.d es=some l→es=l.map c.e
 |[],l,h=>by simp only[decL,Option.some.injEq]at h;subst h;rfl
 |r::rs,l,h=>by
  simp only[decL]at h
  split at h
  ·rename_i b l' h1 h2
   simp only[Option.some.injEq]at h
   subst h
   rw[c.h r b h1,decL_eq c h2];rfl
  ·cases h
theorem decL_map {B:Type} (c:RowC B):∀(l:List B),decL c.d (l.map c.e)=some l
 |[]=>rfl
 |b::l=>by simp only[List.map_cons,decL,c.i,decL_map c l]
def slD {B:Type} (d:List D→Option B) (s:Nat) (fp:List Nat):Option (List D)→Option (List (List D))→Option (List B×List Nat)
 |some z,some es=>if z.length=s then (decL d es).map fun l=>(l,fp) else none
 |_,_=>none
def slR {B:Type} (c:RowC B) (H:Hp):SV→Option (List B×List Nat)
 | .one (.s k)=>match H k with
  |some (.vec _ z es)=>slD c.d c.z.length [k] (toDs z) (toDss es)
  |_=>none
 | .one (.d (.sl z es))=>slD c.d c.z.length [] (some z) (some es)
 | .one (.df z es)=>slD c.d c.z.length [] (some z) (some es)
 | .one (.v (.slice none 0 0))=>some ([],[])
 |_=>none
theorem rd_z {h:Heap} {fz:Nat→Prop} {z z':List D} {es:List (List D)} {x:Value} (hl:z.length=z'.length) (r:Rd h fz (.sl z es) x):Rd h fz (.sl z' es) x:=by
 cases r with
 |nil _ a cap h0=>exact .nil z' a cap h0
 |sl _ _ b off cap arr T m val hz hb hcap h1 h2 h3=>exact .sl z' es b off cap arr T m val hz hb hcap (fun i cs h=>(h1 i cs h).trans hl) (fun i j cs d g1 g2=>by rw[← hl];exact h2 i j cs d g1 g2) h3
def cSl {B:Type} (c:RowC B):CodH (List B) where
 d:=slR c
 e l:=.one (.d (.sl c.z (l.map c.e)))
 h:=fun {X w0 w I lab fz H} v a fp x hA h r=>by
  have fin:∀{z:List D} {es:List (List D)} {fz':Nat→Prop} {fp'},(∀b,fz' b→b<w.heap.size)→slD c.d c.z.length fp' (some z) (some es)=some (a,fp)→Rd (hp w) fz' (.sl z es) x→CD (hp w) (fun b=>b<w.heap.size) (.one (.d (.sl c.z (a.map c.e)))) x:=by
   intro z es fz' fp' hlt h r
   simp only[slD]at h
   split at h
   ·rename_i hz
    simp only[Option.map_eq_some_iff,Prod.mk.injEq]at h
    obtain⟨l,hl,rfl,rfl⟩:=h
    rw[decL_eq c hl]at r
    exact⟨rfl,.d _ _ _ (rd_mono (fun b hb=>⟨hlt b hb,rfl⟩) (rd_z hz r))⟩
   ·cases h
  unfold slR at h
  split at h
  ·rename_i k
   split at h
   ·rename_i u z es hk
    have h0:=h
    cases hz:toDs z with
    |none=>rw[hz]at h;simp[slD]at h
    |some z'=>
     cases he:toDss es with
     |none=>rw[hz,he]at h;simp[slD]at h
     |some es'=>
      rw[hz,he]at h
      obtain⟨lab',fz',h1,_,h3,_⟩:=at_fz hA hk hz he
      have hx:=r.2
      cases hx
      exact fin (fun b hb=>(h1.fzl b hb).1) h h3
   ·cases h
  ·have hx:=r.2
   cases hx with|d _ _ _ r=>exact fin (fun b hb=>(hA.fzl b hb).1) h r
  ·have hx:=r.2
   cases hx with|df _ _ _ _ r2=>exact fin (fun b hb=>(hA.fzl b hb).1) h r2
  ·simp only[Option.some.injEq,Prod.mk.injEq]at h
   obtain⟨rfl,rfl⟩:=h
   have hx:=r.2
   cases hx
   exact⟨rfl,.d _ _ _ (.nil _ none 0 (fun _=>rfl))⟩
  ·cases h
 n a:=rfl
 l H H' v a fp h hf:=by
  unfold slR at*
  split at h
  ·rename_i k
   split at h
   ·rename_i u z es hk
    have hfp:k∈fp:=by
     unfold slD at h
     split at h
     ·split at h
      ·simp only[Option.map_eq_some_iff,Prod.mk.injEq]at h
       obtain⟨_,_,_,rfl⟩:=h;simp
      ·cases h
     ·cases h
    simp only[hf k hfp,hk]
    exact h
   ·cases h
  ·exact h
  ·exact h
  ·exact h
  ·cases h
theorem cSl_d {B:Type} (c:RowC B) (H:Hp) (v:SV):(cSl c).d H v=slR c H v:=rfl
theorem cSl_e {B:Type} (c:RowC B) (l:List B):(cSl c).e l= .one (.d (.sl c.z (l.map c.e))):=rfl
structure ArgH (A:Type) where
 d:Hp→List SV→Option (A×List Nat)
 e:A→List SV
 h:∀(H:Hp) (l:List SV) (a:A) (fp:List Nat),d H l=some (a,fp)→(e a).length=l.length∧∀{X:Ctx} {w0 w:World} {I:Nm} {lab:Lab} {fz:Nat→Prop} (j:Nat) (v v':SV) (x:Value),AtW X w0 I lab fz H w→l[j]?=some v→(e a)[j]?=some v'→SDen (hp w) fz lab I H v x→CD (hp w) (fun b=>b<w.heap.size) v' x
 n:∀a,∀v∈e a,v.names=[]
 l:∀(H H':Hp) (v:List SV) (a:A) (fp:List Nat),d H v=some (a,fp)→(∀k∈fp,H' k=H k)→d H' v=some (a,fp)
def ah0:ArgH Unit where
 d|_,[]=>some ((),[])
  |_,_=>none
 e _:=[]
 h H l a fp h:=by
  split at h
  ·exact⟨rfl,fun j v v' x _ h1 _ _=>by simp at h1⟩
  ·cases h
 n a v hv:=by cases hv
 l H H' v a fp h _:=by
  split at h
  ·exact h
  ·cases h
def pairF {A B:Type}:Option (A×List Nat)→Option (B×List Nat)→Option ((A×B)×List Nat)
 |some (x,f),some (y,g)=>some ((x,y),f++g)
 |_,_=>none
def ahS {A B:Type} (c:CodH A) (r:ArgH B):ArgH (A×B) where
 d|_,[]=>none
  |H,v::l=>pairF (c.d H v) (r.d H l)
 e p:=c.e p.1::r.e p.2
 h H l a fp h:=by
  split at h
  ·cases h
  ·rename_i v l
   unfold pairF at h
   split at h
   ·rename_i x f y g hx hy
    simp only[Option.some.injEq,Prod.mk.injEq]at h
    obtain⟨rfl,rfl⟩:=h
    obtain⟨g1,g2⟩:=r.h H l y g hy
    refine⟨by simp[g1],fun j v1 v' z hA h1 h2 h3=>?_⟩
    cases j with
    |zero=>simp only[List.getElem?_cons_zero,Option.some.injEq]at h1 h2;subst h1;subst h2;exact c.h _ _ _ _ hA hx h3
    |succ j=>exact g2 j v1 v' z hA (by simpa using h1) (by simpa using h2) h3
   ·cases h
 n a v hv:=by
  rcases List.mem_cons.1 hv with e|e
  ·subst e;exact c.n _
  ·exact r.n _ v e
 l H H' v a fp h hf:=by
  split at h
  ·cases h
  ·unfold pairF at h
   split at h
   ·rename_i x f y g hx hy
    simp only[Option.some.injEq,Prod.mk.injEq]at h
    obtain⟨rfl,rfl⟩:=h
    simp only[c.l _ _ _ _ _ hx (fun k hk=>hf k (List.mem_append_left _ hk)),r.l _ _ _ _ _ hy (fun k hk=>hf k (List.mem_append_right _ hk)),pairF]
   ·cases h
theorem ah0_d (H:Hp):ah0.d H []=some ((),[]):=rfl
theorem ahS_d {A B:Type} (c:CodH A) (r:ArgH B) (H:Hp) (v:SV) (l:List SV):(ahS c r).d H (v::l)=pairF (c.d H v) (r.d H l):=rfl
theorem pairF_some {A B:Type} (x:A) (y:B) (f g:List Nat):pairF (some (x,f)) (some (y,g))=some ((x,y),f++g):=rfl
theorem ah0_e (u:Unit):ah0.e u=[]:=rfl
theorem ahS_e {A B:Type} (c:CodH A) (r:ArgH B) (x:A) (y:B):(ahS c r).e (x,y)=c.e x::r.e y:=rfl
theorem CodH_d {A:Type} (c:Cod A) (H:Hp) (v:SV):c.H.d H v=(c.d v).map fun a=>(a,[]):=rfl
theorem CodH_e {A:Type} (c:Cod A) (a:A):c.H.e a=c.e a:=rfl
def spFnH {A:Type} (o:Option (A×List Nat)) (Cd:A→Prop) (F:A→Value):Res:=
 match o with
 |some (a,fp)=>some (Cd a,⟨ofV (F a),[]⟩,fp)
 |none=>none
theorem spFnH_some {A:Type} (a:A) (fp:List Nat) (Cd:A→Prop) (F:A→Value):spFnH (some (a,fp)) Cd F=some (Cd a,⟨ofV (F a),[]⟩,fp):=rfl
def CallsR (P:Program) (f:FuncId) {A:Type} (ac:ArgH A) (Cd:A→Prop) (F:A→SV):Prop:=
 ∀(a:A) (w:World) (fz:Nat→Prop) (xs:List Value),Cd a→(∀b,fz b→b<w.heap.size)→xs.length=(ac.e a).length→(∀(j:Nat) (v:SV) (x:Value),(ac.e a)[j]?=some v→xs[j]?=some x→CD (hp w) fz v x)→
  Calls P f xs.toArray w (DPost w fz (fun v=>v=F a))
def specR {P:Program} {X:Ctx} {w0:World} (f:FuncId) (call:∀(args:Array Value) (w:World),(callFunc f args).run P w= .ok (.enter f args) w) {A:Type} (ac:ArgH A) (Cd:A→Prop) (F:A→Value) (hF:∀a,okV (F a)=true) (ok:CallsR P f ac Cd (fun a=>ofV (F a))):Spec P X w0 where
 f:=f
 call:=call
 fn _ args H:=spFnH (ac.d H args) Cd F
 ok w I lab fz H t args xs c e fp hA ht h hc hd hl hx:=by
  refine calls_inl ?_
  unfold spFnH at h
  split at h
  ·rename_i a fp' ha
   simp only[Option.some.injEq,Prod.mk.injEq]at h
   obtain⟨rfl,rfl,rfl⟩:=h
   obtain⟨g1,g2⟩:=ac.h _ _ _ _ ha
   refine(ok a w (fun b=>b<w.heap.size) xs hc (fun b hb=>hb) (by rw[g1,hl]) ?_).mono ?_
   ·intro j v x hj hxj
    have hjl:j<args.length:=by rw[hl];exact(List.getElem?_eq_some_iff.1 hxj).1
    exact g2 j _ v x hA (List.getElem?_eq_getElem hjl) hj (hx j _ x (List.getElem?_eq_getElem hjl) hxj)
   ·rintro en w' ⟨v,x,fz',rfl,rfl,h1,h2,h3,h4,h5,h6⟩
    have hxv:x=F a:=by
     have hcl:clos (ofV (F a))=some (F a):=by
      have hf:=hF a
      cases hv:F a with
      |agg cs=>
       have key:∀l:List Value,clL (l.map .v)=some l:=by
        intro l;induction l with
        |nil=>rfl
        |cons v l ih=>simp[clL,clC,ih]
       simp[ofV,clos,key]
      |tuple vs=>rw[hv]at hf;simp[okV]at hf
      |_=>rfl
     exact sd_clos h5 hcl
    subst hxv
    exact⟨_,rfl,post_below hA (fun b h=>h) (fun b h=>.inl h) (fun b h=>Nat.lt_of_lt_of_le (hA.fzl b h).1 h6.size) h6 h1 (sd_ofV (w:=w') (hF a))⟩
  ·cases h
 dom t args H c e fp _ _ h _:=by
  unfold spFnH at h
  split at h
  ·rename_i a fp' ha
   simp only[Option.some.injEq,Prod.mk.injEq]at h
   obtain⟨rfl,rfl,rfl⟩:=h
   exact⟨(by rw[ofV_names (hF a)];intro k hk;exact(List.not_mem_nil hk).elim),fun p hp'=>(List.not_mem_nil hp').elim⟩
  ·cases h
 loc t args H H' c e fp h hf:=by
  unfold spFnH at h ⊢
  split at h
  ·rename_i a fp' ha
   simp only[Option.some.injEq,Prod.mk.injEq]at h
   obtain⟨rfl,rfl,rfl⟩:=h
   rw[ac.l _ _ _ _ _ ha hf]
  ·cases h
theorem specR_f {P:Program} {X:Ctx} {w0:World} {A:Type} (f call) (ac:ArgH A) (Cd F hF ok):(specR (P:=P) (X:=X) (w0:=w0) f call ac Cd F hF ok).f=f:=rfl
theorem specR_fn {P:Program} {X:Ctx} {w0:World} {A:Type} (f call) (ac:ArgH A) (Cd F hF ok) (t:Nat) (args:List SV) (H:Hp):(specR (P:=P) (X:=X) (w0:=w0) f call ac Cd F hF ok).fn t args H=spFnH (ac.d H args) Cd F:=rfl
end Go.Sy
namespace Go.Sy
open Go.RowKit
def okT:Value→Bool
 | .tuple vs=>vs.toList.all okV
 |x=>okV x
end Go.Sy
namespace Go.Sy
open Go.RowKit
abbrev MV:=List C×List (List C)
def chO:Option MV→Ch
 |some m=>.vec 0 m.1 m.2
 |none=>.dead
def memO:Nat→List (Option MV)→List (Nat×Ch)
 |_,[]=>[]
 |i,o::r=>(i,chO o)::memO (i+1) r
def memH (i:Nat) (l:List MV):List (Nat×Ch):=memO i (l.map some)
def memF (I:Nm):Nat→Nat→List (Nat×NV)
 |_,0=>[]
 |i,n+1=>(i,I i)::memF I (i+1) n
abbrev mX (M fz:Nat→Prop) (I:Nm) (n:Nat):Ctx:=⟨M,fz,memF I 0 n,none,[],[]⟩
theorem lkp_memO:∀(l:List (Option MV)) (i k:Nat),lkp (memO i l) k=if i≤k then (l[k-i]?).map chO else none
 |[],i,k=>by simp[memO,lkp]
 |o::r,i,k=>by
  simp only[memO,lkp]
  by_cases h:k=i
  ·subst h;simp
  ·rw[if_neg h,lkp_memO r (i+1) k]
   by_cases h2:i≤k
   ·have h3:i+1≤k:=by omega
    rw[if_pos h2,if_pos h3]
    have:k-i=(k-(i+1))+1:=by omega
    rw[this,List.getElem?_cons_succ]
   ·rw[if_neg h2,if_neg (by omega)]
theorem lkp_mem0 (l:List (Option MV)) (k:Nat):lkp (memO 0 l) k=(l[k]?).map chO:=by rw[lkp_memO];simp
theorem mem_memF {I:Nm} {p:Nat×NV}:∀{n i:Nat},p∈memF I i n→i≤p.1∧p.1<i+n∧p.2=I p.1
 |0,i,h=>by cases h
 |n+1,i,h=>by
  rcases List.mem_cons.1 h with rfl|h
  ·exact⟨Nat.le_refl _,by simp,rfl⟩
  ·obtain⟨h1,h2,h3⟩:=mem_memF h
   exact⟨by omega,by omega,h3⟩
theorem memF_mem {I:Nm} {k:Nat}:∀{n i:Nat},i≤k→k<i+n→(k,I k)∈memF I i n
 |0,i,h1,h2=>by omega
 |n+1,i,h1,h2=>by
  by_cases e:k=i
  ·subst e;exact List.mem_cons_self ..
  ·exact List.mem_cons_of_mem _ (memF_mem (by omega) (by omega))
theorem memO_keys:∀(l:List (Option MV)) (i k:Nat),i≤k→k<i+l.length→((memO i l).map (·.1)).contains k=true
 |[],i,k,h1,h2=>by simp at h2;omega
 |o::r,i,k,h1,h2=>by
  simp only[memO,List.map_cons,List.contains_cons,Bool.or_eq_true,beq_iff_eq]
  by_cases e:k=i
  ·exact .inl e
  ·exact .inr (memO_keys r (i+1) k (by omega) (by simp only[List.length_cons]at h2;omega))
section
variable {X:Ctx} {w0 w:World} {I:Nm} {lab:Lab} {fz:Nat→Prop}
theorem at_sub {s t:List (Nat×Ch)} (hA:AtW X w0 I lab fz (lkp s) w) (h2:∀p∈t,optCh (lkp s p.1) p.2∧domB t (chNames p.2)) (hF:∀p∈X.F,(t.map (·.1)).contains p.1=true):AtW X w0 I lab fz (lkp t) w:=by
 have hdom:∀{l},domB t l→Dom (lkp t) l:=fun hl k hk=>mem_lkp (hl k hk)
 refine⟨?_,fun k ch hk=>hdom (h2 _ (lkp_mem hk)).2,hA.own,hA.fzl,hA.fzo,hA.kept,fun p hp'=>⟨mem_lkp (hF p hp'),(hA.fix p hp').2⟩⟩
 intro k ch hk
 obtain⟨g1,g2⟩:=h2 _ (lkp_mem hk)
 simp only at g1 g2
 cases hs':lkp s k with
 |none=>rw[hs']at g1;exact g1.elim
 |some c0=>
  rw[hs']at g1
  have h0:=hA.h k c0 hs'
  cases ch with
  |dead=>trivial
  |fact p=>
   cases c0 with
   |fact q=>exact g1 h0
   |_=>exact g1.elim
  |vec u z es=>
   cases c0 with
   |vec u2 z2 es2=>
    obtain⟨e1,rfl,e9⟩:=g1
    refine⟨h0.1,h0.2.1.trans e1,?_⟩
    rcases h0.2.2 with h3|⟨b,off,cap,arr,T,h3,h4,h5,h6,h7,h8⟩
    ·exact .inl h3
    ·rw[e1]at h6 h8
     exact .inr ⟨b,off,cap,arr,T,h3,h4,h5,⟨h6.1,zOK_sub e9 h6.2⟩,h7,h8⟩
   |dead=>exact g1.elim
   |fact=>exact g1.elim
   |mp=>exact g1.elim
  |mp ag es=>
   cases c0 with
   |mp ag2 es2=>obtain⟨rfl,rfl⟩:=g1;exact h0
   |dead=>exact g1.elim
   |fact=>exact g1.elim
   |vec=>exact g1.elim
theorem sd_noVw {h:Heap} {H H':Hp} {v:SV} {x:Value} (hn:noVw v=true) (r:SDen h fz lab I H v x):SDen h fz lab I H' v x:=by
 have scn:∀{c x},noVwC c=true→SC h fz lab I H c x→SC h fz lab I H' c x:=by
  intro c x hn r
  cases c<;>first|exact r|cases hn
 have csn:∀{l arr},l.all noVwC=true→CsDen h fz lab I H l arr→CsDen h fz lab I H' l arr:=by
  intro l arr hn r
  refine⟨r.1,fun j c hj=>?_⟩
  obtain⟨y,y1,y2⟩:=r.2 j c hj
  exact⟨y,y1,scn (List.all_eq_true.1 hn c (List.mem_of_getElem? hj)) y2⟩
 cases v with
 |one c=>exact scn hn r
 |agg l=>obtain⟨arr,e1,e2⟩:=r;exact⟨arr,e1,csn hn e2⟩
 |tup l=>
  obtain⟨arr,e1,e2,e3⟩:=r
  refine⟨arr,e1,e2,fun j p hj=>?_⟩
  obtain⟨y,y1,y2⟩:=e3 j p hj
  have hq:=List.all_eq_true.1 hn p (List.mem_of_getElem? hj)
  refine⟨y,y1,?_⟩
  cases p with
  |inl c=>exact scn hq y2
  |inr l=>obtain⟨arr,e1,e2⟩:=y2;exact⟨arr,e1,csn hq e2⟩
end
def MPost (w:World) (M fz:Nat→Prop) (I:Nm) (n:Nat) (m':List (Option MV)) (R:SV) (en:Ending) (w':World):Prop:=
 ∃x I' lab' fz',en= .returned x∧AtW (mX M fz I n) w I' lab' fz' (lkp (memO 0 m')) w'∧SDen (hp w') fz' lab' I' (lkp (memO 0 m')) R x
def CallsM (P:Program) (f:FuncId) {A:Type} (args:A→List SV) (mem:A→List MV) (Cd:A→Prop) (res:A→SV) (mem':A→List (Option MV)):Prop:=
 ∀(a:A) (w:World) (M:Nat→Prop) (I:Nm) (lab:Lab) (fz:Nat→Prop) (xs:List Value),Cd a→AtW (mX M fz I (mem a).length) w I lab fz (lkp (memH 0 (mem a))) w→xs.length=(args a).length→
  (∀(j:Nat) (v:SV) (x:Value),(args a)[j]?=some v→xs[j]?=some x→SDen (hp w) fz lab I (lkp (memH 0 (mem a))) v x)→Calls P f xs.toArray w (MPost w M fz I (mem a).length (mem' a) (res a))
def RESM (r:SV) (m':List (Option MV)):St→List SV→Prop:=fun s vs=>resV vs=r∧noVw r=true∧∀p∈memO 0 m',optCh (lkp s.h p.1) p.2∧domB (memO 0 m') (chNames p.2)
theorem e_RESM (r:SV) (m':List (Option MV)) (s:St) (vs:List SV):RESM r m' s vs=(resV vs=r∧noVw r=true∧∀p∈memO 0 m',optCh (lkp s.h p.1) p.2∧domB (memO 0 m') (chNames p.2)):=rfl
section
variable {P:Program}
end
structure RowM (B:Type) where
 z:List C
 d:List C→Option B
 e:B→List C
 h:∀r b,d r=some b→r=e b
 n:∀b,∀c∈e b,c.names=[]
 t:zT z=none:=by first|rfl|decide
structure ArgM (A:Type) where
 d:Hp→List SV→Option (A×List Nat)
 args:Nat→A→List SV
 mem:A→List MV
 h:∀(H:Hp) (l:List SV) (a:A) (ks:List Nat),d H l=some (a,ks)→(∀i,(args i a).length=l.length)∧ks.length=(mem a).length∧∀(i k:Nat),ks[i]?=some k→∃u z m,H k=some (.vec u z m.2)∧(mem a)[i]?=some m∧z.length=m.1.length
 ha:∀(H:Hp) (l:List SV) (a:A) (ks:List Nat) (i0 j:Nat) (v v':SV) (x:Value) {hh:Heap} {fz:Nat→Prop} {lab lab':Lab} {I I':Nm} {H0 H':Hp},d H l=some (a,ks)→l[j]?=some v→(args i0 a)[j]?=some v'→(∀i k,ks[i]?=some k→I' (i0+i)=I k)→SDen hh fz lab I H0 v x→SDen hh fz lab' I' H' v' x
 n:∀a,∀m∈mem a,∀r∈m.2,∀c∈r,c.names=[]
 tz:∀a,∀m∈mem a,zT m.1=none
 an:∀i a,∀v∈args i a,∀k∈v.names,i≤k∧k<i+(mem a).length
 l:∀(H H':Hp) (v:List SV) (a:A) (ks:List Nat),d H v=some (a,ks)→(∀k∈ks,H' k=H k)→d H' v=some (a,ks)
def am0:ArgM Unit where
 d|_,[]=>some ((),[])
  |_,_=>none
 args _ _:=[]
 mem _:=[]
 h H l a ks h:=by
  split at h
  ·simp only[Option.some.injEq,Prod.mk.injEq]at h;obtain⟨_,rfl⟩:=h;exact⟨fun _=>rfl,rfl,by simp⟩
  ·cases h
 ha H l a ks i0 j v v' x _ _ _ _ _ _ _ _ _ _ h2:=by simp at h2
 n a m hm:=by cases hm
 tz a m hm:=by cases hm
 an i a v hv:=by cases hv
 l H H' v a ks h _:=by
  split at h
  ·exact h
  ·cases h
def pairM {A B:Type} (f:List Nat):Option A→Option (B×List Nat)→Option ((A×B)×List Nat)
 |some x,some (y,g)=>some ((x,y),f++g)
 |_,_=>none
theorem pairM_some {A B:Type} (f g:List Nat) (x:A) (y:B):pairM f (some x) (some (y,g))=some ((x,y),f++g):=rfl
def amD {A B:Type} (c:Cod A) (r:ArgM B):ArgM (A×B) where
 d|_,[]=>none
  |H,v::l=>pairM [] (c.d v) (r.d H l)
 args i p:=c.e p.1::r.args i p.2
 mem p:=r.mem p.2
 h H l a ks h:=by
  split at h
  ·cases h
  ·rename_i v l
   unfold pairM at h
   split at h
   ·rename_i x y g hx hy
    simp only[Option.some.injEq,Prod.mk.injEq]at h
    obtain⟨rfl,rfl⟩:=h
    obtain⟨g1,g2,g3⟩:=r.h H l y g hy
    exact⟨fun i=>by simp[g1 i],g2,g3⟩
   ·cases h
 ha H l a ks i0 j v v' x hh fz lab lab' I I' H0 H' h h1 h2 h3 h4:=by
  split at h
  ·cases h
  ·rename_i u l
   unfold pairM at h
   split at h
   ·rename_i x0 y g hx hy
    simp only[Option.some.injEq,Prod.mk.injEq]at h
    obtain⟨rfl,rfl⟩:=h
    cases j with
    |zero=>
     simp only[List.getElem?_cons_zero,Option.some.injEq]at h1 h2
     subst h1;subst h2
     exact sd_closed (fun b hb=>⟨hb,rfl⟩) (c.n _) (c.h _ _ _ hx h4)
    |succ j=>exact r.ha H l y g i0 j v v' x hy (by simpa using h1) (by simpa using h2) h3 h4
   ·cases h
 n a:=r.n a.2
 tz a:=r.tz a.2
 an i a v hv k hk:=by
  rcases List.mem_cons.1 hv with e|e
  ·subst e;rw[c.n]at hk;cases hk
  ·exact r.an i a.2 v e k hk
 l H H' v a ks h hf:=by
  split at h
  ·cases h
  ·unfold pairM at h
   split at h
   ·rename_i x y g hx hy
    simp only[Option.some.injEq,Prod.mk.injEq]at h
    obtain⟨rfl,rfl⟩:=h
    simp only[hx,r.l _ _ _ _ _ hy hf,pairM]
   ·cases h
def ptrD {B:Type} (c:RowM B) (H:Hp):SV→Option (B×Nat)
 | .one (.p k 0 0)=>match H k with
  |some (.vec _ z [r])=>if z.length=c.z.length then (c.d r).map fun b=>(b,k) else none
  |_=>none
 |_=>none
def decM {B:Type} (d:List C→Option B):List (List C)→Option (List B)
 |[]=>some []
 |r::rs=>match d r,decM d rs with
  |some b,some l=>some (b::l)
  |_,_=>none
theorem decM_eq {B:Type} (c:RowM B):∀{es:List (List C)} {l:List B},decM c.d es=some l→es=l.map c.e
 |[],l,h=>by simp only[decM,Option.some.injEq]at h;subst h;rfl
 |r::rs,l,h=>by
  simp only[decM]at h
  split at h
  ·rename_i b l' h1 h2
   simp only[Option.some.injEq]at h
   subst h
   rw[c.h r b h1,decM_eq c h2];rfl
  ·cases h
def slcD {B:Type} (c:RowM B) (H:Hp):SV→Option (List B×Nat)
 | .one (.s k)=>match H k with
  |some (.vec _ z es)=>if z.length=c.z.length then (decM c.d es).map fun b=>(b,k) else none
  |_=>none
 |_=>none
def pairN {A B:Type}:Option (A×Nat)→Option (B×List Nat)→Option ((A×B)×List Nat)
 |some (x,k),some (y,g)=>some ((x,y),k::g)
 |_,_=>none
theorem pairN_some {A B:Type} (k:Nat) (g:List Nat) (x:A) (y:B):pairN (some (x,k)) (some (y,g))=some ((x,y),k::g):=rfl
theorem ptrD_ok {B:Type} {c:RowM B} {H:Hp} {v:SV} {b:B} {k:Nat} (h:ptrD c H v=some (b,k)):v= .one (.p k 0 0)∧∃u z,H k=some (.vec u z [c.e b])∧z.length=c.z.length:=by
 unfold ptrD at h
 split at h
 ·rename_i k'
  split at h
  ·rename_i u z r hk
   split at h
   ·rename_i hz
    simp only[Option.map_eq_some_iff,Prod.mk.injEq]at h
    obtain⟨b',hb,rfl,rfl⟩:=h
    refine⟨rfl,u,z,?_,hz⟩
    rw[hk,c.h r b' hb]
   ·cases h
  ·cases h
 ·cases h
theorem slcD_ok {B:Type} {c:RowM B} {H:Hp} {v:SV} {b:List B} {k:Nat} (h:slcD c H v=some (b,k)):v= .one (.s k)∧∃u z,H k=some (.vec u z (b.map c.e))∧z.length=c.z.length:=by
 unfold slcD at h
 split at h
 ·rename_i k'
  split at h
  ·rename_i u z es hk
   split at h
   ·rename_i hz
    simp only[Option.map_eq_some_iff,Prod.mk.injEq]at h
    obtain⟨b',hb,rfl,rfl⟩:=h
    refine⟨rfl,u,z,?_,hz⟩
    rw[hk,decM_eq c hb]
   ·cases h
  ·cases h
 ·cases h
def amX {A B:Type} (dd:Hp→SV→Option (A×Nat)) (e:Nat→SV) (m:A→MV) (h1:∀{H:Hp} {v:SV} {b:A} {k:Nat},dd H v=some (b,k)→v=e k∧∃u z,H k=some (.vec u z (m b).2)∧z.length=(m b).1.length)
  (h2:∀{k k':Nat} {x:Value} {hh:Heap} {fz:Nat→Prop} {lab lab':Lab} {I I':Nm} {H0 H':Hp},I' k'=I k→SDen hh fz lab I H0 (e k) x→SDen hh fz lab' I' H' (e k') x) (h3:∀b,∀r∈(m b).2,∀c∈r,c.names=[]) (h6:∀b,zT (m b).1=none) (h4:∀i,(e i).names=[i])
  (h5:∀{H H':Hp} {v:SV} {b:A} {k:Nat},dd H v=some (b,k)→H' k=H k→dd H' v=some (b,k)) (r:ArgM B):ArgM (A×B) where
 d|_,[]=>none
  |H,v::l=>pairN (dd H v) (r.d H l)
 args i p:=e i::r.args (i+1) p.2
 mem p:=m p.1::r.mem p.2
 h H l a ks h:=by
  split at h
  ·cases h
  ·rename_i v l
   unfold pairN at h
   split at h
   ·rename_i x k y g hx hy
    simp only[Option.some.injEq,Prod.mk.injEq]at h
    obtain⟨rfl,rfl⟩:=h
    obtain⟨g1,g2,g3⟩:=r.h H l y g hy
    obtain⟨_,u,z,e1,e2⟩:=h1 hx
    refine⟨fun i=>by simp[g1],by simp[g2],fun i k' hk=>?_⟩
    cases i with
    |zero=>simp only[List.getElem?_cons_zero,Option.some.injEq]at hk;subst hk;exact⟨u,z,_,e1,rfl,e2⟩
    |succ i=>exact g3 i k' (by simpa using hk)
   ·cases h
 ha H l a ks i0 j v v' x hh fz lab lab' I I' H0 H' h g1 g2 g3 g4:=by
  split at h
  ·cases h
  ·rename_i u l
   unfold pairN at h
   split at h
   ·rename_i x0 k y g hx hy
    simp only[Option.some.injEq,Prod.mk.injEq]at h
    obtain⟨rfl,rfl⟩:=h
    cases j with
    |zero=>
     simp only[List.getElem?_cons_zero,Option.some.injEq]at g1 g2
     subst g1;subst g2
     rw[(h1 hx).1]at g4
     exact h2 (by have:=g3 0 k rfl;simpa using this) g4
    |succ j=>
     refine r.ha H l y g (i0+1) j v v' x hy (by simpa using g1) (by simpa using g2) (fun i k' hk=>?_) g4
     have:=g3 (i+1) k' (by simpa using hk)
     rw[← this];congr 1;omega
   ·cases h
 n a m' hm:=by
  rcases List.mem_cons.1 hm with e|e
  ·subst e;exact h3 _
  ·exact r.n a.2 m' e
 tz a m' hm:=by
  rcases List.mem_cons.1 hm with e|e
  ·subst e;exact h6 _
  ·exact r.tz a.2 m' e
 an i a v hv k hk:=by
  rcases List.mem_cons.1 hv with e|e
  ·subst e;rw[h4]at hk;simp only[List.mem_singleton]at hk;subst hk;simp
  ·have:=r.an (i+1) a.2 v e k hk
   simp only[List.length_cons];omega
 l H H' v a ks h hf:=by
  split at h
  ·cases h
  ·unfold pairN at h
   split at h
   ·rename_i x k y g hx hy
    simp only[Option.some.injEq,Prod.mk.injEq]at h
    obtain⟨rfl,rfl⟩:=h
    simp only[h5 hx (hf k (List.mem_cons_self ..)),r.l _ _ _ _ _ hy (fun q hq=>hf q (List.mem_cons_of_mem _ hq)),pairN]
   ·cases h
theorem sd_p {k k' i j:Nat} {x:Value} {hh:Heap} {fz fz':Nat→Prop} {lab lab':Lab} {I I':Nm} {H0 H':Hp} (h:I' k'=I k) (r:SDen hh fz lab I H0 (.one (.p k i j)) x):SDen hh fz' lab' I' H' (.one (.p k' i j)) x:=by
 have:=r.2
 cases this
 rw[← h];exact⟨rfl,.p _ _ _ _⟩
theorem sd_s {k k':Nat} {x:Value} {hh:Heap} {fz fz':Nat→Prop} {lab lab':Lab} {I I':Nm} {H0 H':Hp} (h:I' k'=I k) (r:SDen hh fz lab I H0 (.one (.s k)) x):SDen hh fz' lab' I' H' (.one (.s k')) x:=by
 have:=r.2
 cases this
 rw[← h];exact⟨rfl,.s _ _⟩
def amP {A B:Type} (c:RowM A) (r:ArgM B):ArgM (A×B):=
 amX (ptrD c) (fun i=>.one (.p i 0 0)) (fun b=>(c.z,[c.e b])) (fun h=>ptrD_ok h) (fun h r=>sd_p h r) (fun b r hr=>by simp only[List.mem_singleton]at hr;subst hr;exact c.n b) (fun _=>c.t) (fun _=>rfl)
  (fun {H H' v b k} h hf=>by
   obtain⟨rfl,u,z,h1,h2⟩:=ptrD_ok h
   unfold ptrD at h ⊢
   simp only[hf,h1,h2,if_true]at h ⊢
   exact h) r
def amS {A B:Type} (c:RowM A) (r:ArgM B):ArgM (List A×B):=
 amX (slcD c) (fun i=>.one (.s i)) (fun b=>(c.z,b.map c.e)) (fun h=>slcD_ok h) (fun h r=>sd_s h r) (fun b r hr=>by obtain⟨x,_,rfl⟩:=List.mem_map.1 hr;exact c.n x) (fun _=>c.t) (fun _=>rfl)
  (fun {H H' v b k} h hf=>by
   obtain⟨rfl,u,z,h1,h2⟩:=slcD_ok h
   unfold slcD at h ⊢
   simp only[hf,h1,h2,if_true]at h ⊢
   exact h) r
theorem am0_d (H:Hp):am0.d H []=some ((),[]):=rfl
theorem amD_d {A B:Type} (c:Cod A) (r:ArgM B) (H:Hp) (v:SV) (l:List SV):(amD c r).d H (v::l)=pairM [] (c.d v) (r.d H l):=rfl
theorem amP_d {A B:Type} (c:RowM A) (r:ArgM B) (H:Hp) (v:SV) (l:List SV):(amP c r).d H (v::l)=pairN (ptrD c H v) (r.d H l):=rfl
theorem amS_d {A B:Type} (c:RowM A) (r:ArgM B) (H:Hp) (v:SV) (l:List SV):(amS c r).d H (v::l)=pairN (slcD c H v) (r.d H l):=rfl
theorem am0_a (i:Nat) (u:Unit):am0.args i u=[]:=rfl
theorem amD_a {A B:Type} (c:Cod A) (r:ArgM B) (i:Nat) (x:A) (y:B):(amD c r).args i (x,y)=c.e x::r.args i y:=rfl
theorem amP_a {A B:Type} (c:RowM A) (r:ArgM B) (i:Nat) (x:A) (y:B):(amP c r).args i (x,y)= .one (.p i 0 0)::r.args (i+1) y:=rfl
theorem amS_a {A B:Type} (c:RowM A) (r:ArgM B) (i:Nat) (x:List A) (y:B):(amS c r).args i (x,y)= .one (.s i)::r.args (i+1) y:=rfl
theorem am0_m (u:Unit):am0.mem u=[]:=rfl
theorem amD_m {A B:Type} (c:Cod A) (r:ArgM B) (x:A) (y:B):(amD c r).mem (x,y)=r.mem y:=rfl
theorem amP_m {A B:Type} (c:RowM A) (r:ArgM B) (x:A) (y:B):(amP c r).mem (x,y)=(c.z,[c.e x])::r.mem y:=rfl
theorem amS_m {A B:Type} (c:RowM A) (r:ArgM B) (x:List A) (y:B):(amS c r).mem (x,y)=(c.z,x.map c.e)::r.mem y:=rfl
end Go.Sy
namespace Go.Sy
open Go.RowKit
def pos:List Nat→Nat→Option Nat
 |[],_=>none
 |k::r,n=>if n=k then some 0 else (pos r n).map (·+1)
def ndB:List Nat→Bool
 |[]=>true
 |k::r=>!(r.contains k)&&ndB r
theorem pos_get:∀{ks:List Nat} {n i:Nat},pos ks n=some i→ks[i]?=some n
 |[],n,i,h=>by cases h
 |k::r,n,i,h=>by
  simp only[pos]at h
  split at h
  ·rename_i e;simp only[Option.some.injEq]at h;subst h;subst e;rfl
  ·simp only[Option.map_eq_some_iff]at h
   obtain⟨j,h,rfl⟩:=h
   simpa using pos_get h
theorem pos_of:∀{ks:List Nat} {n i:Nat},ndB ks=true→ks[i]?=some n→pos ks n=some i
 |[],n,i,_,h=>by simp at h
 |k::r,n,i,hd,h=>by
  simp only[ndB,Bool.and_eq_true,Bool.not_eq_true',List.contains_eq_mem,decide_eq_false_iff_not]at hd
  cases i with
  |zero=>simp only[List.getElem?_cons_zero,Option.some.injEq]at h;subst h;simp[pos]
  |succ i=>
   simp only[List.getElem?_cons_succ]at h
   have:n≠k:=by rintro rfl;exact hd.1 (List.mem_of_getElem? h)
   simp[pos,this,pos_of hd.2 h]
def nmM (ks:List Nat) (t i:Nat):Nat:=(ks[i]?).getD t
def renC (f:Nat→Nat):C→C
 | .s n=>.s (f n)
 | .p n i j=>.p (f n) i j
 | .v x=>.v x
 | .d x=>.d x
 | .df z es=>.df z es
 | .dp cs=>.dp cs
 |_=>.any
def renV (f:Nat→Nat):SV→SV
 | .one c=>.one (renC f c)
 | .agg l=>.agg (l.map (renC f))
 | .tup l=>.tup (l.map fun| .inl c=>.inl (renC f c)| .inr l=>.inr (l.map (renC f)))
def bumpC:Option Ch→Option MV→Ch
 |some (.vec u _ _),some m=>.vec (u+1) m.1 m.2
 |_,some m=>.vec 0 m.1 m.2
 |_,none=>.dead
def updM (H:Hp) (t:Nat):List Nat→List (Option MV)→List (Nat×Ch)
 |k::ks,o::r=>(k,bumpC (H k) o)::updM H t ks r
 |[],some m::_=>[(t,.vec 0 m.1 m.2)]
 |_,_=>[]
def lenM:Nat→List (Option MV)→Bool
 |0,[]=>true
 |0,[some _]=>true
 |n+1,_::r=>lenM n r
 |_,_=>false
theorem updM_get (H:Hp) (t:Nat):∀(ks:List Nat) (m:List (Option MV)) (H1:Hp) (n:Nat),ndB ks=true→t∉ks→lenM ks.length m=true→
  updH H1 (updM H t ks m) n=(match pos ks n with
   |some i=>some (bumpC (H n) ((m[i]?).getD none))
   |none=>if n=t then (match m[ks.length]? with|some (some q)=>some (.vec 0 q.1 q.2)|_=>H1 n) else H1 n)
 |[],m,H1,n,_,_,hl=>by
  match m,hl with
  |[],_=>simp[updM,updH,pos]
  |[some q],_=>
   simp only[updM,updH,pos,upd,List.length_nil,List.getElem?_cons_zero]
 |k::r,m,H1,n,hd,ht,hl=>by
  match m,hl with
  |o::m,hl=>
   have hd':=hd
   simp only[ndB,Bool.and_eq_true,Bool.not_eq_true',List.contains_eq_mem,decide_eq_false_iff_not]at hd
   simp only[List.mem_cons,not_or]at ht
   simp only[updM,updH]
   rw[updM_get H t r m (upd H1 k (bumpC (H k) o)) n hd.2 ht.2 hl]
   simp only[pos]
   by_cases e:n=k
   ·subst e
    have:pos r n=none:=by
     cases hp:pos r n with
     |none=>rfl
     |some i=>exact absurd (List.mem_of_getElem? (pos_get hp)) hd.1
    rw[this,if_pos rfl]
    simp only[if_neg (Ne.symm ht.1),upd,if_true,List.getElem?_cons_zero,Option.getD_some]
   ·rw[if_neg e]
    cases hp:pos r n with
    |none=>
     simp only[Option.map_none,upd,e,if_false,List.length_cons,List.getElem?_cons_succ]
    |some i=>simp only[Option.map_some,List.getElem?_cons_succ]
theorem lenM_len:∀{n:Nat} {m:List (Option MV)},lenM n m=true→n≤m.length∧m.length≤n+1∧(∀o,m[n]?=some o→∃q,o=some q)
 |0,[],_=>⟨by simp,by simp,by simp⟩
 |0,[some q],_=>⟨by simp,by simp,fun o ho=>⟨q,by simpa using ho.symm⟩⟩
 |n+1,_::r,h=>by
  obtain⟨h1,h2,h3⟩:=lenM_len (n:=n) (m:=r) h
  exact⟨by simp;omega,by simp;omega,fun o ho=>h3 o (by simpa using ho)⟩
def spM {A:Type} (o:Option (A×List Nat)) (t:Nat) (H:Hp) (Cd:A→Prop) (res:A→SV) (mem':A→List (Option MV)):Res:=
 match o with
 |some (a,ks)=>some (Cd a∧ndB ks=true,⟨renV (nmM ks t) (res a),updM H t ks (mem' a)⟩,t::ks)
 |none=>none
theorem spM_some {A:Type} (a:A) (ks:List Nat) (t:Nat) (H:Hp) (Cd:A→Prop) (res:A→SV) (mem':A→List (Option MV)):spM (some (a,ks)) t H Cd res mem'=some (Cd a∧ndB ks=true,⟨renV (nmM ks t) (res a),updM H t ks (mem' a)⟩,t::ks):=rfl
def outC (n:Nat):C→Bool
 | .s k=>decide (k<n)
 | .p k _ _=>decide (k<n)
 | .v _=>true
 | .d _=>true
 | .df _ _=>true
 | .dp _=>true
 |_=>false
def outV (n:Nat):SV→Bool
 | .one c=>outC n c
 | .agg l=>l.all (outC n)
 | .tup l=>l.all fun| .inl c=>outC n c| .inr l=>l.all (outC n)
theorem renC_names {f:Nat→Nat} {c:C} {n k:Nat} (h:outC n c=true) (hk:k∈(renC f c).names):∃i,i<n∧k=f i:=by
 cases c<;>simp only[outC,renC,C.names,List.mem_singleton,List.not_mem_nil,decide_eq_true_eq,Bool.false_eq_true]at h hk<;>exact⟨_,h,hk⟩
theorem renV_names {f:Nat→Nat} {v:SV} {n k:Nat} (h:outV n v=true) (hk:k∈(renV f v).names):∃i,i<n∧k=f i:=by
 have key:∀{l:List C},l.all (outC n)=true→k∈(l.map (renC f)).flatMap C.names→∃i,i<n∧k=f i:=by
  intro l hl hk
  obtain⟨c,hc,hk⟩:=List.mem_flatMap.1 hk
  obtain⟨c0,hc0,rfl⟩:=List.mem_map.1 hc
  exact renC_names (List.all_eq_true.1 hl c0 hc0) hk
 cases v with
 |one c=>exact renC_names h hk
 |agg l=>exact key h hk
 |tup l=>
  obtain⟨p,hp',hk⟩:=List.mem_flatMap.1 hk
  obtain⟨q,hq,rfl⟩:=List.mem_map.1 hp'
  have hq2:=List.all_eq_true.1 h q hq
  cases q with
  |inl c=>exact renC_names hq2 hk
  |inr l=>exact key hq2 hk
theorem sd_ren {h:Heap} {fz fz':Nat→Prop} {lab lab':Lab} {I I':Nm} {H H':Hp} {f:Nat→Nat} {n:Nat} {v:SV} {x:Value} (hz:∀b,fz b→fz' b) (hI:∀i,i<n→I' (f i)=I i) (ho:outV n v=true) (r:SDen h fz lab I H v x):SDen h fz' lab' I' H' (renV f v) x:=by
 have scn:∀{c x},outC n c=true→SC h fz lab I H c x→SC h fz' lab' I' H' (renC f c) x:=by
  intro c x hn r
  cases c<;>simp only[outC,decide_eq_true_eq,Bool.false_eq_true]at hn
  case v=>have:=r.2;cases this with|v _ _ h1=>exact⟨rfl,.v _ _ h1⟩
  case p k i j=>exact sd_p (H0:=H) (H':=H') (hI k hn) r
  case s k=>exact sd_s (H0:=H) (H':=H') (hI k hn) r
  case d=>have:=r.2;cases this with|d _ _ _ r2=>exact⟨rfl,.d _ _ _ (rd_mono (fun b hb=>⟨hz b hb,rfl⟩) r2)⟩
  case df=>have:=r.2;cases this with|df _ _ _ a r2=>exact⟨rfl,.df _ _ _ a (rd_mono (fun b hb=>⟨hz b hb,rfl⟩) r2)⟩
  case dp=>have:=r.2;cases this with|dp _ _ _ r2=>exact⟨rfl,.dp _ _ _ (rd_mono (fun b hb=>⟨hz b hb,rfl⟩) r2)⟩
 have csn:∀{l arr},l.all (outC n)=true→CsDen h fz lab I H l arr→CsDen h fz' lab' I' H' (l.map (renC f)) arr:=by
  intro l arr hn r
  refine⟨by simpa using r.1,fun j c hj=>?_⟩
  simp only[List.getElem?_map,Option.map_eq_some_iff]at hj
  obtain⟨c0,hj,rfl⟩:=hj
  obtain⟨y,y1,y2⟩:=r.2 j c0 hj
  exact⟨y,y1,scn (List.all_eq_true.1 hn c0 (List.mem_of_getElem? hj)) y2⟩
 cases v with
 |one c=>exact scn ho r
 |agg l=>obtain⟨arr,e1,e2⟩:=r;exact⟨arr,e1,csn ho e2⟩
 |tup l=>
  obtain⟨arr,e1,e2,e3⟩:=r
  refine⟨arr,e1,by simpa using e2,fun j p hj=>?_⟩
  simp only[List.getElem?_map,Option.map_eq_some_iff]at hj
  obtain⟨q,hj,rfl⟩:=hj
  obtain⟨y,y1,y2⟩:=e3 j q hj
  have hq:=List.all_eq_true.1 ho q (List.mem_of_getElem? hj)
  refine⟨y,y1,?_⟩
  cases q with
  |inl c=>exact scn hq y2
  |inr l=>obtain⟨arr,e1,e2⟩:=y2;exact⟨arr,e1,csn hq e2⟩
theorem vec_clos {h h':Heap} {fz fz':Nat→Prop} {lab lab':Lab} {I I':Nm} (hz:∀b,fz b→fz' b∧h' b=h b) {π π':List Nat} {z:List C} {es:List (List C)} {x:Value} (r:VecAt h fz lab I π z es x)
  (hl:∀b ρ,lab b=some (π++ρ)→lab' b=some (π'++ρ)∧h' b=h b) (hn:∀r∈es,∀c∈r,c.names=[]):VecAt h' fz' lab' I' π' z es x:=
 vec_mono hz r hl fun i j cs c h1 h2 k hk=>by rw[hn cs (List.mem_of_getElem? h1) c (List.mem_of_getElem? h2)]at hk;cases hk
section
variable {P:Program}
theorem backM {X:Ctx} {w0:World} {A:Type} (am:ArgM A) {w:World} {I:Nm} {lab:Lab} {fz:Nat→Prop} {H:Hp} {t:Nat} {args:List SV} {xs:List Value} (hA:AtW X w0 I lab fz H w) (ht:H t=none) {a:A} {ks:List Nat} (ha:am.d H args=some (a,ks)) (hnd:ndB ks=true)
  (hd:∀v∈args,Dom H v.names) (hlx:args.length=xs.length) (hx:∀(j:Nat) (v:SV) (x:Value),args[j]?=some v→xs[j]?=some x→SDen (hp w) fz lab I H v x) {ma:List (Option MV)} (hla:lenM (am.mem a).length ma=true) (hna:∀q,some q∈ma→∀r∈q.2,∀c∈r,c.names=[]) :
  ∃(Mc:Nat→Prop) (Ic:Nm) (labc:Lab),AtW (mX Mc fz Ic (am.mem a).length) w Ic labc fz (lkp (memH 0 (am.mem a))) w∧xs.length=(am.args 0 a).length∧
   (∀(j:Nat) (v:SV) (x:Value),(am.args 0 a)[j]?=some v→xs[j]?=some x→SDen (hp w) fz labc Ic (lkp (memH 0 (am.mem a))) v x)∧
   ∀r,outV ma.length r=true→∀en w',MPost w Mc fz Ic (am.mem a).length ma r en w'→∃x,en= .returned x∧Post X w0 w I lab fz H (some (renV (nmM ks t) r)) (updM H t ks ma) x w':=by
 obtain⟨g1,g2,g3⟩:=am.h H args a ks ha
 have hlm:=hla
 rw[← g2]at hlm
 obtain⟨l1,l2,l3⟩:=lenM_len hlm
 have htk:t∉ks:=by
  intro hm
  obtain⟨i,hi⟩:=List.mem_iff_getElem?.1 hm
  obtain⟨u,z,m,e1,_⟩:=g3 i t hi
  rw[ht]at e1;cases e1
 let labc:Lab:=fun b=>match lab b with
  |some (n::ρ)=>match pos ks n with|some i=>some (i::ρ)|none=>none
  |_=>none
 let Mc:Nat→Prop:=fun b=>(labc b).isSome=true
 let Ic:Nm:=fun i=>I ((ks[i]?).getD 0)
 have hlc:∀(i k:Nat),ks[i]?=some k→∀b ρ,lab b=some ([k]++ρ)→labc b=some ([i]++ρ):=by
  intro i k hk b ρ hb
  have hp':=pos_of hnd hk
  simp only[labc,hb,List.cons_append,List.nil_append,hp']
 have hlcs:∀b π,labc b=some π→∃(k i:Nat) (ρ:List Nat),ks[i]?=some k∧lab b=some (k::ρ)∧π=i::ρ:=by
  intro b π hb
  simp only[labc]at hb
  split at hb
  ·rename_i n ρ hlb
   split at hb
   ·rename_i i hp'
    simp only[Option.some.injEq]at hb
    exact⟨n,i,ρ,pos_get hp',hlb,hb.symm⟩
   ·cases hb
  ·cases hb
 have hMc:∀b,Mc b→∃(k i:Nat) (ρ:List Nat),ks[i]?=some k∧lab b=some (k::ρ):=by
  intro b hb
  obtain⟨π,hπ⟩:=Option.isSome_iff_exists.1 hb
  obtain⟨k,i,ρ,e1,e2,_⟩:=hlcs b π hπ
  exact⟨k,i,ρ,e1,e2⟩
 have hMn:∀b,fz b→¬Mc b:=by
  intro b hb hm
  obtain⟨k,i,ρ,_,e2⟩:=hMc b hm
  rw[(hA.fzl b hb).2]at e2;cases e2
 have hAc:AtW (mX Mc fz Ic (am.mem a).length) w Ic labc fz (lkp (memH 0 (am.mem a))) w:=by
  refine⟨fun i ch hi=>?_,fun i ch hi=>?_,fun b π hb=>?_,fun b hb=>⟨(hA.fzl b hb).1,?_⟩,fun b hb=>.inl hb,Kept.refl _ _,fun p hp'=>?_⟩
  ·rw[memH,lkp_mem0]at hi
   simp only[List.getElem?_map,Option.map_eq_some_iff]at hi
   obtain⟨o,⟨m,hm,rfl⟩,rfl⟩:=hi
   obtain⟨k,hk⟩:∃k,ks[i]?=some k:=⟨_,List.getElem?_eq_getElem (by rw[g2];exact(List.getElem?_eq_some_iff.1 hm).1)⟩
   obtain⟨u,z,m',e1,e2,e3⟩:=g3 i k hk
   rw[hm]at e2;simp only[Option.some.injEq]at e2;subst e2
   obtain⟨q1,q2,q3⟩:=hA.h k _ e1
   have hIc:Ic i=I k:=by simp only[Ic,hk,Option.getD_some]
   refine⟨by rw[hIc];exact q1,by rw[hIc,q2,e3],?_⟩
   rw[hIc]
   have hv:=vec_clos (I':=Ic) (fun b hb=>⟨hb,rfl⟩) q3 (fun b ρ hb=>⟨hlc i k hk b ρ hb,rfl⟩) (am.n a m (List.mem_of_getElem? hm))
   rcases hv with h3|⟨b,off,cap,arr,T,h3,h4,h5,h6,h7,h8⟩
   ·exact .inl h3
   ·rw[e3]at h6 h8
    exact .inr ⟨b,off,cap,arr,T,h3,h4,h5,⟨h6.1,zOK_none (am.tz a m (List.mem_of_getElem? hm))⟩,h7,h8⟩
  ·rw[memH,lkp_mem0]at hi
   simp only[List.getElem?_map,Option.map_eq_some_iff]at hi
   obtain⟨o,⟨m,hm,rfl⟩,rfl⟩:=hi
   intro n hn'
   obtain⟨r,hr,hn'⟩:=List.mem_flatMap.1 hn'
   obtain⟨c,hc,hn'⟩:=List.mem_flatMap.1 hn'
   rw[am.n a m (List.mem_of_getElem? hm) r hr c hc]at hn';cases hn'
  ·obtain⟨k,i,ρ,e1,e2,e3⟩:=hlcs b π hb
   exact⟨(hA.own b _ e2).1,.inr (by show (labc b).isSome=true;rw[hb];rfl)⟩
  ·have:=(hA.fzl b hb).2
   simp only[labc,this]
  ·obtain⟨q1,q2,q3⟩:=mem_memF hp'
   refine⟨?_,q3.symm⟩
   rw[memH,lkp_mem0]
   have:p.1<(am.mem a).length:=by omega
   simp[this]
 refine⟨Mc,Ic,labc,hAc,by rw[g1 0,← hlx],?_,?_⟩
 ·intro j v' x hj hxj
  have hjl:j<args.length:=by rw[hlx];exact(List.getElem?_eq_some_iff.1 hxj).1
  refine am.ha H args a ks 0 j _ v' x ha (List.getElem?_eq_getElem hjl) hj (fun i k hk=>?_) (hx j _ x (List.getElem?_eq_getElem hjl) hxj)
  simp only[Ic,Nat.zero_add,hk,Option.getD_some]
 ·rintro r hor en w' ⟨x,Ic',labc',fz',rfl,hB,hv⟩
  refine⟨x,rfl,?_⟩
  let nm:Nat→Nat:=nmM ks t
  let lab':Lab:=fun b=>match labc' b with
   |some (i::ρ)=>some (nm i::ρ)
   |some []=>some []
   |none=>if (labc b).isSome=true then none else lab b
  let I':Nm:=fun n=>if n=t then Ic' ks.length else I n
  let fz2:Nat→Prop:=fun b=>fz b∨fz' b
  have hIfix:∀i,i<ks.length→Ic' i=Ic i:=by
   intro i hi
   have:=(hB.fix (i,Ic i) (memF_mem (by omega) (by omega))).2
   exact this
  have hInm:∀i,i<ma.length→I' (nm i)=Ic' i:=by
   intro i hi
   by_cases h1:i<ks.length
   ·obtain⟨k,hk⟩:∃k,ks[i]?=some k:=⟨_,List.getElem?_eq_getElem h1⟩
    have e1:nm i=k:=by simp only[nm,nmM,hk,Option.getD_some]
    have e2:k≠t:=by rintro rfl;exact htk (List.mem_of_getElem? hk)
    rw[e1,hIfix i h1]
    simp only[I',e2,if_false,Ic,hk,Option.getD_some]
   ·have e0:i=ks.length:=by omega
    have e1:nm i=t:=by simp only[nm,nmM,List.getElem?_eq_none (Nat.le_of_not_lt h1),Option.getD_none]
    rw[e1,e0];simp[I']
  have hkB:∀b,b<w.heap.size→¬Mc b→hp w' b=hp w b:=fun b h1 h2=>hB.kept.block b h1 h2
  have hfzk:∀b,fz b→hp w' b=hp w b:=fun b hb=>hkB b (hA.fzl b hb).1 (hMn b hb)
  have hkn:∀n,pos ks n=none→∀b ρ,lab b=some ([n]++ρ)→labc b=none:=by
   intro n hp' b ρ hb
   simp only[labc,hb,List.cons_append,List.nil_append,hp']
  have hlabc':∀b π,labc' b=some π→w.heap.size≤b∨Mc b:=fun b π hb=>(hB.own b π hb).2
  have hnl:∀b,w.heap.size≤b→lab b=none:=by
   intro b hb
   cases h:lab b with
   |none=>rfl
   |some π=>have:=(hA.own b π h).1;omega
  have hlk:∀i b ρ,labc' b=some ([i]++ρ)→lab' b=some ([nm i]++ρ):=by
   intro i b ρ hb;simp only[lab',hb,List.cons_append,List.nil_append]
  have hoth:∀n,pos ks n=none→∀b ρ,lab b=some ([n]++ρ)→lab' b=some ([n]++ρ)∧hp w' b=hp w b:=by
   intro n hp' b ρ hb
   have h1:=hkn n hp' b ρ hb
   have h2:¬Mc b:=by simp only[Mc,h1];simp
   have h3:=(hA.own b _ hb).1
   refine⟨?_,hkB b h3 h2⟩
   have h4:labc' b=none:=by
    cases h:labc' b with
    |none=>rfl
    |some π=>
     rcases hlabc' b π h with h|h
     ·omega
     ·exact absurd h h2
   simp only[lab',h4,h1,Option.isSome_none,Bool.false_eq_true,if_false];exact hb
  have hget:=updM_get H t ks ma H
  have hmem:∀i o,ma[i]?=some o→lkp (memO 0 ma) i=some (chO o):=by intro i o hi;rw[lkp_mem0,hi];rfl
  have hvec:∀i q,ma[i]?=some (some q)→(I' (nm i)).mp=false∧(I' (nm i)).s=q.1.length∧VecAt (hp w') fz2 lab' I' [nm i] q.1 q.2 (I' (nm i)).v:=by
   intro i q hi
   obtain⟨q1,q2,q3⟩:=hB.h i _ (hmem i _ hi)
   have hlt:=(List.getElem?_eq_some_iff.1 hi).1
   rw[hInm i hlt]
   exact⟨q1,q2,vec_clos (fun b hb=>⟨.inr hb,rfl⟩) q3 (fun b ρ hb=>⟨hlk i b ρ hb,rfl⟩) (hna q (List.mem_of_getElem? hi))⟩
  have hdomI:∀n,(H n).isSome=true→I' n=I n:=by
   intro n hn'
   have:n≠t:=by rintro rfl;rw[ht]at hn';cases hn'
   simp[I',this]
  have hsomeH:∀n,(H n).isSome=true→(updH H (updM H t ks ma) n).isSome=true:=by
   intro n hn'
   exact dom_updH (l:=[n]) _ (by intro q hq;simp at hq;subst hq;exact hn') n (by simp)
  have hclosed:∀q u,some q∈ma→chNames (.vec u q.1 q.2)=[]:=by
   intro q u hq
   apply List.eq_nil_iff_forall_not_mem.2
   intro n hn'
   obtain⟨r,hr,hn'⟩:=List.mem_flatMap.1 hn'
   obtain⟨c,hc,hn'⟩:=List.mem_flatMap.1 hn'
   rw[hna q hq r hr c hc]at hn';cases hn'
  have hbump:∀o0 (o:Option MV),o∈ma→chNames (bumpC o0 o)=[]:=by
   intro o0 o ho'
   cases o with
   |none=>cases o0 with
    |none=>rfl
    |some c=>cases c<;>rfl
   |some q=>
    cases o0 with
    |none=>exact hclosed q 0 ho'
    |some c=>cases c<;>exact hclosed q _ ho'
  have hbumpAt:∀n o0 (o:Option MV) i,ma[i]?=some o→nm i=n→ChAt (hp w') fz2 lab' I' n (bumpC o0 o):=by
   intro n o0 o i hi hni
   cases o with
   |none=>cases o0 with
    |none=>trivial
    |some c=>cases c<;>trivial
   |some q=>
    have:=hvec i q hi
    rw[hni]at this
    cases o0 with
    |none=>exact this
    |some c=>cases c<;>exact this
  refine⟨I',lab',fz2,⟨fun n ch h=>?_,fun n ch h=>?_,fun b π hb=>?_,fun b hb=>?_,fun b hb=>?_,Kept.trans hA.kept hB.kept ?_,fun p hp'=>?_⟩,?_,⟨fun b hb=>⟨.inl hb,hfzk b hb⟩,hdomI,?_⟩⟩
  ·rw[hget n hnd htk hlm]at h
   split at h
   ·rename_i i hp'
    simp only[Option.some.injEq]at h
    subst h
    have hk:=pos_get hp'
    have hlt:=(List.getElem?_eq_some_iff.1 hk).1
    obtain⟨o,ho'⟩:∃o,ma[i]?=some o:=⟨_,List.getElem?_eq_getElem (by omega)⟩
    rw[ho',Option.getD_some]
    exact hbumpAt n _ o i ho' (by simp only[nm,nmM,hk,Option.getD_some])
   ·rename_i hp'
    have old:H n=some ch→ChAt (hp w') fz2 lab' I' n ch:=fun h=>
     ch_keep hA h (fun b hb=>⟨.inl hb,hfzk b hb⟩) hdomI (hoth n hp')
    split at h
    ·rename_i e
     split at h
     ·rename_i q hq
      simp only[Option.some.injEq]at h
      subst h
      have:=hvec ks.length q hq
      have e1:nm ks.length=t:=by simp[nm,nmM]
      rw[e1,← e]at this
      exact this
     ·exact old h
    ·exact old h
  ·rw[hget n hnd htk hlm]at h
   split at h
   ·rename_i i hp'
    simp only[Option.some.injEq]at h
    subst h
    have hk:=pos_get hp'
    have hlt:=(List.getElem?_eq_some_iff.1 hk).1
    obtain⟨o,ho'⟩:∃o,ma[i]?=some o:=⟨_,List.getElem?_eq_getElem (by omega)⟩
    rw[ho',Option.getD_some,hbump _ o (List.mem_of_getElem? ho')]
    intro k hk;cases hk
   ·split at h
    ·split at h
     ·rename_i q hq
      simp only[Option.some.injEq]at h
      subst h
      rw[hclosed q 0 (List.mem_of_getElem? hq)]
      intro k hk;cases hk
     ·exact fun k hk=>hsomeH k (hA.wf n ch h k hk)
    ·exact fun k hk=>hsomeH k (hA.wf n ch h k hk)
  ·simp only[lab']at hb
   split at hb
   ·rename_i i ρ hlb
    refine⟨(hB.own b _ hlb).1,?_⟩
    rcases hlabc' b _ hlb with h|h
    ·exact .inl (Nat.le_trans hA.kept.size h)
    ·obtain⟨k,i,ρ,_,e2⟩:=hMc b h
     exact(hA.own b _ e2).2
   ·rename_i hlb
    refine⟨(hB.own b _ hlb).1,?_⟩
    rcases hlabc' b _ hlb with h|h
    ·exact .inl (Nat.le_trans hA.kept.size h)
    ·obtain⟨k,i,ρ,_,e2⟩:=hMc b h
     exact(hA.own b _ e2).2
   ·split at hb
    ·cases hb
    ·have:=hA.own b π hb
     exact⟨Nat.lt_of_lt_of_le this.1 hB.kept.size,this.2⟩
  ·rcases hb with hb|hb
   ·have h1:=hA.fzl b hb
    have h2:=hMn b hb
    have h3:labc' b=none:=by
     cases h:labc' b with
     |none=>rfl
     |some π=>
      rcases hlabc' b π h with h|h
      ·omega
      ·exact absurd h h2
    refine⟨Nat.lt_of_lt_of_le h1.1 hB.kept.size,?_⟩
    simp only[lab',h3]
    split
    ·rfl
    ·exact h1.2
   ·have h1:=hB.fzl b hb
    refine⟨h1.1,?_⟩
    simp only[lab',h1.2]
    split
    ·rfl
    ·rename_i hm
     rcases hB.fzo b hb with h|h|h
     ·exact(hA.fzl b h).2
     ·exact hnl b h
     ·exact absurd h hm
  ·rcases hb with hb|hb
   ·exact hA.fzo b hb
   ·rcases hB.fzo b hb with h|h|h
    ·exact hA.fzo b h
    ·exact .inr (.inl (Nat.le_trans hA.kept.size h))
    ·obtain⟨k,i,ρ,_,e2⟩:=hMc b h
     exact .inr (hA.own b _ e2).2
  ·intro b hb hm
   obtain⟨k,i,ρ,_,e2⟩:=hMc b hm
   rcases (hA.own b _ e2).2 with h|h
   ·omega
   ·exact h
  ·obtain⟨q1,q2⟩:=hA.fix p hp'
   exact⟨hsomeH p.1 q1,by rw[hdomI p.1 q1];exact q2⟩
  ·intro s hs
   simp only[Option.some.injEq]at hs
   subst hs
   exact sd_ren (n:=ma.length) (fun b hb=>.inr hb) hInm hor hv
  ·intro n u p y hn' hv'
   obtain⟨ch,hch⟩:=Option.isSome_iff_exists.1 hn'
   cases hp':pos ks n with
   |none=>
    have hnt:n≠t:=by rintro rfl;rw[ht]at hch;cases hch
    have hsame:updH H (updM H t ks ma) n=H n:=by rw[hget n hnd htk hlm,hp'];simp[hnt]
    by_cases hdd:ch= .dead
    ·exact vw_dead (by rw[hsame,hch,hdd]) hv'
    ·exact vw_keep hA hsame (hdomI n hn') (fun b ρ hb=>(hoth n hp' b ρ hb).2) hv'
   |some i=>
    have hk:=pos_get hp'
    obtain⟨u0,z,m,e1,_⟩:=g3 i n hk
    have hnew:updH H (updM H t ks ma) n=some (bumpC (H n) ((ma[i]?).getD none)):=by rw[hget n hnd htk hlm,hp']
    cases hq:(ma[i]?).getD none with
    |none=>
     rw[hq,e1]at hnew
     exact vw_dead hnew hv'
    |some q=>
     rw[hq,e1]at hnew
     exact vw_bump hA e1 hnew (by omega) hv'
def specM {X:Ctx} {w0:World} (f:FuncId) (call:∀(args:Array Value) (w:World),(callFunc f args).run P w= .ok (.enter f args) w) {A:Type} (am:ArgM A) (Cd:A→Prop) (res:A→SV) (mem':A→List (Option MV))
  (hl:∀a,Cd a→lenM (am.mem a).length (mem' a)=true) (ho:∀a,Cd a→outV (mem' a).length (res a)=true) (hn:∀a,Cd a→∀q,some q∈mem' a→∀r∈q.2,∀c∈r,c.names=[]) (ok:CallsM P f (am.args 0) am.mem Cd res mem'):Spec P X w0 where
 f:=f
 call:=call
 fn t args H:=spM (am.d H args) t H Cd res mem'
 ok w I lab fz H t args xs c e fp hA ht h hc hd hlx hx:=by
  refine calls_inl ?_
  unfold spM at h
  split at h
  ·rename_i a ks ha
   simp only[Option.some.injEq,Prod.mk.injEq]at h
   obtain⟨rfl,rfl,rfl⟩:=h
   obtain⟨hCd,hnd⟩:=hc
   have hlm:=hl a hCd
   obtain⟨Mc,Ic,labc,hAc,hlen,hargs,key⟩:=backM am hA ht ha hnd hd hlx hx hlm (hn a hCd)
   exact(ok a w Mc Ic labc fz xs hCd hAc hlen hargs).mono (key _ (ho a hCd))
  ·cases h
 dom t args H c e fp ht hc h hd:=by
  unfold spM at h
  split at h
  ·rename_i a ks ha
   simp only[Option.some.injEq,Prod.mk.injEq]at h
   obtain⟨rfl,rfl,rfl⟩:=h
   obtain⟨hCd,hnd⟩:=hc
   obtain⟨g1,g2,g3⟩:=am.h H args a ks ha
   have hlm:=hl a hCd
   rw[← g2]at hlm
   obtain⟨l1,l2,l3⟩:=lenM_len hlm
   have htk:t∉ks:=by
    intro hm
    obtain⟨i,hi⟩:=List.mem_iff_getElem?.1 hm
    obtain⟨u,z,m,e1,_⟩:=g3 i t hi
    rw[ht]at e1;cases e1
   refine⟨fun k hk=>?_,fun p hp'=>?_⟩
   ·obtain⟨i,hi,rfl⟩:=renV_names (ho a hCd) hk
    show (updH H (updM H t ks (mem' a)) (nmM ks t i)).isSome=true
    rw[updM_get H t ks (mem' a) H _ hnd htk hlm]
    by_cases h1:i<ks.length
    ·have hk:ks[i]?=some ks[i]:=List.getElem?_eq_getElem h1
     have e1:nmM ks t i=ks[i]:=by simp only[nmM,hk,Option.getD_some]
     rw[e1,pos_of hnd hk];rfl
    ·have e0:i=ks.length:=by omega
     have e1:nmM ks t i=t:=by simp only[nmM,List.getElem?_eq_none (Nat.le_of_not_lt h1),Option.getD_none]
     have hp':pos ks t=none:=by
      cases hp':pos ks t with
      |none=>rfl
      |some j=>exact absurd (List.mem_of_getElem? (pos_get hp')) htk
     rw[e1,hp']
     simp only[if_true]
     obtain⟨q,hq⟩:=l3 _ (List.getElem?_eq_getElem (by omega))
     rw[List.getElem?_eq_getElem (by omega),hq];rfl
   ·have key:∀(ks:List Nat) (m:List (Option MV)),p∈updM H t ks m→p.1∈t::ks:=by
     intro ks
     induction ks with
     |nil=>
      intro m h
      match m,h with
      |some q::r,h=>simp only[updM,List.mem_singleton]at h;subst h;simp
     |cons k r ih=>
      intro m h
      match m,h with
      |o::m,h=>
       simp only[updM]at h
       rcases List.mem_cons.1 h with rfl|h
       ·simp
       ·have:=ih m h
        simp only[List.mem_cons]at this ⊢
        rcases this with h|h
        ·exact .inl h
        ·exact .inr (.inr h)
    exact key ks _ hp'
  ·cases h
 loc t args H H' c e fp h hf:=by
  unfold spM at h ⊢
  split at h
  ·rename_i a ks ha
   simp only[Option.some.injEq,Prod.mk.injEq]at h
   obtain⟨rfl,rfl,rfl⟩:=h
   have:=am.l H H' args a ks ha (fun k hk=>hf k (List.mem_cons_of_mem _ hk))
   rw[this]
   have key:∀(ks:List Nat) (m:List (Option MV)),(∀k∈ks,H' k=H k)→updM H' t ks m=updM H t ks m:=by
    intro ks
    induction ks with
    |nil=>intro m _;match m with
     |[]=>rfl
     |some q::r=>rfl
     |none::r=>rfl
    |cons k r ih=>intro m hk;match m with
     |[]=>rfl
     |o::m=>simp only[updM,hk k (List.mem_cons_self ..),ih m fun q hq=>hk q (List.mem_cons_of_mem _ hq)]
   simp only[key ks _ fun k hk=>hf k (List.mem_cons_of_mem _ hk)]
  ·cases h
theorem specM_f {X:Ctx} {w0:World} {A:Type} (f call) (am:ArgM A) (Cd res mem' hl ho hn ok):(specM (P:=P) (X:=X) (w0:=w0) f call am Cd res mem' hl ho hn ok).f=f:=rfl
theorem specM_fn {X:Ctx} {w0:World} {A:Type} (f call) (am:ArgM A) (Cd res mem' hl ho hn ok) (t:Nat) (args:List SV) (H:Hp):(specM (P:=P) (X:=X) (w0:=w0) f call am Cd res mem' hl ho hn ok).fn t args H=spM (am.d H args) t H Cd res mem':=rfl
end
end Go.Sy
namespace Go.Sy
open Go.RowKit
def dStr:SV→Option (List UInt8)
 | .one (.v (.string b))=>some b.toList
 |_=>none
def cStr:Cod (List UInt8) where
 d:=dStr
 e l:=.one (.v (.string (bs l)))
 h s x y h r:=by
  unfold dStr at h
  split at h
  ·simp only[Option.some.injEq]at h;subst h;rw[bs_of];exact r
  ·simp at h
 n x:=rfl
theorem cStr_d:cStr.d=dStr:=rfl
theorem cStr_e (l:List UInt8):cStr.e l= .one (.v (.string (bs l))):=rfl
def spanN (p:Int→Bool):List UInt8→Nat
 |[]=>0
 |b::r=>if p (b.toNat:Int)=true then spanN p r+1 else 0
theorem spanN_le (p:Int→Bool):∀l:List UInt8,spanN p l≤l.length
 |[]=>Nat.le_refl _
 |b::r=>by
  have:=spanN_le p r
  simp only[spanN,List.length_cons]
  split<;>omega
theorem spanN_nil (p:Int→Bool) {l:List UInt8} {i:Nat} (h:l.length≤i):spanN p (l.drop i)=0:=by
 rw[List.drop_eq_nil_of_le h];rfl
theorem spanN_at (p:Int→Bool) {l:List UInt8} {i:Nat} (h:i<l.length):spanN p (l.drop i)=if p ((l.getD i 0).toNat:Int)=true then spanN p (l.drop (i+1))+1 else 0:=by
 rw[List.drop_eq_getElem_cons h]
 simp only[spanN,List.getD,List.getElem?_eq_getElem h,Option.getD_some]
theorem take_len {A:Type} (l:List A):l.take l.length=l:=List.take_length ..
theorem dropTake {A:Type} (l:List A) (i:Nat):(l.drop i).take (l.length-i)=l.drop i:=by
 rw[show l.length-i=(l.drop i).length by simp,List.take_length]
theorem natI_lt {i n:Nat} (h:i<n):decide ((i:Int)<(n:Int))=true:=by simp;omega
theorem natI_ge {i n:Nat} (h:n≤i):decide ((i:Int)<(n:Int))=false:=by simp;omega
theorem natI_ltp {i n:Nat} (h:i<n):((i:Int)<(n:Int))=True:=by simp;omega
theorem natI_lep {i n:Nat} (h:i≤n):((i:Int)≤(n:Int))=True:=by simp;omega
theorem natI_succ {i n:Nat} (h:i≤n) (hn:n≤4294967296):IntKind.i64.wrap ((i:Int)+1)=((i+1:Nat):Int):=by rw[wrap_i64 (by omega) (by omega)];rfl
section
variable {A:Type} (f:A→List C)
theorem chN_of (h:∀a,∀c∈f a,c.names=[]) (u:Nat) (z:List C) (l:List A):chNames (.vec u z (l.map f))=[]:=by
 apply List.eq_nil_iff_forall_not_mem.2
 intro n hn
 obtain⟨r,hr,hn1⟩:=List.mem_flatMap.1 hn
 obtain⟨c,hc,hn2⟩:=List.mem_flatMap.1 hn1
 obtain⟨a,_,rfl⟩:=List.mem_map.1 hr
 rw[h a c hc]at hn2;cases hn2
theorem flN_of (h:∀a,∀c∈f a,c.names=[]) (l:List A):List.flatMap (fun r=>List.flatMap C.names r) (l.map f)=[]:=chN_of f h 0 [] l
theorem toDss_of {g:A→List D} (h:∀a,toDs (f a)=some (g a)):∀l:List A,toDss (l.map f)=some (l.map g)
 |[]=>rfl
 |a::l=>by simp only[List.map_cons,toDss,h a,toDss_of h l]
theorem map_of {σ:C→C} (h:∀a,(f a).map σ=f a) (l:List A):(l.map f).map (fun r=>r.map σ)=l.map f:=by
 rw[List.map_map];apply List.map_congr_left;intro a _;exact h a
theorem stor_of (h:∀a,∀c∈f a,C.stor c=true) (l:List A):rowsStor (l.map f):=by
 intro r hr c hc
 obtain⟨a,_,rfl⟩:=List.mem_map.1 hr
 exact h a c hc
theorem closB_of (h:∀a,∀c∈f a,c.names=[]) (l:List A):closB (l.map f)=true:=by
 simp only[closB,List.all_eq_true]
 intro r hr c hc
 obtain⟨a,_,rfl⟩:=List.mem_map.1 hr
 simp[h a c hc]
end
theorem dec_T (h:Decidable True): @decide True h=true:=by cases h with|isTrue=>rfl|isFalse h=>exact absurd trivial h
theorem dec_F (h:Decidable False): @decide False h=false:=by cases h with|isTrue h=>exact h.elim|isFalse=>rfl
theorem bq_nn:(([]:List UInt8)==[])=true:=rfl
theorem bq_cn (a:UInt8) (l:List UInt8):((a::l)==[])=false:=rfl
theorem bq_nc (a:UInt8) (l:List UInt8):(([]:List UInt8)==a::l)=false:=rfl
theorem bq_cc (a b:UInt8) (l m:List UInt8):((a::l)==b::m)=(decide (a.toNat=b.toNat)&&l==m):=by
 have:(a==b)=decide (a.toNat=b.toNat):=by rw[Bool.eq_iff_iff,beq_iff_eq,decide_eq_true_eq];exact⟨fun h=>by rw[h],UInt8.toNat_inj.1⟩
 rw[← this];rfl
end Go.Sy
namespace Go.Sy
open Go Go.RowKit
def CallsG (P:Program) (f:FuncId) (T:World→Prop) {A:Type} (ac:ArgC A) (Cd:A→Prop) (F:A→SV):Prop:=
 ∀(a:A) (w:World) (fz:Nat→Prop) (xs:List Value),T w→Cd a→(∀b,fz b→b<w.heap.size)→xs.length=(ac.e a).length→(∀(j:Nat) (v:SV) (x:Value),(ac.e a)[j]?=some v→xs[j]?=some x→CD (hp w) fz v x)→
  Calls P f xs.toArray w (DPost w fz (fun v=>v=F a))
def Stays (X:Ctx) (w0:World) (T:World→Prop):Prop:=∀w,Kept X.M w0 w→T w
section
variable {P:Program}
def specG {X:Ctx} {w0:World} (f:FuncId) (call:∀(args:Array Value) (w:World),(callFunc f args).run P w= .ok (.enter f args) w) (T:World→Prop) {A:Type} (ac:ArgC A) (Cd:A→Prop) (F:A→SV) (hF:∀a,(F a).names=[]) (ok:CallsG P f T ac Cd F) (hT:Stays X w0 T):Spec P X w0 where
 f:=f
 call:=call
 fn _ args _:=spFn (ac.d args) Cd F
 ok w I lab fz H t args xs c e fp hA ht h hc hd hl hx:=by
  refine calls_inl ?_
  unfold spFn at h
  split at h
  ·rename_i a ha
   simp only[Option.some.injEq,Prod.mk.injEq]at h
   obtain⟨rfl,rfl,rfl⟩:=h
   obtain⟨g1,g2⟩:=ac.h _ _ ha
   refine(ok a w fz xs (hT w hA.kept) hc (fun b hb=>(hA.fzl b hb).1) (by rw[g1,hl]) ?_).mono ?_
   ·intro j v x hj hxj
    have hjl:j<args.length:=by rw[hl];exact(List.getElem?_eq_some_iff.1 hxj).1
    have:=hx j _ x (List.getElem?_eq_getElem hjl) hxj
    exact sd_closed (fun b hb=>⟨hb,rfl⟩) (ac.n a v (List.mem_of_getElem? hj)) (g2 j _ v x (List.getElem?_eq_getElem hjl) hj this)
   ·rintro en w' ⟨v,x,fz',rfl,rfl,h1,h2,h3,h4,h5,h6⟩
    exact⟨x,rfl,post_below hA h2 h3 h4 h6 h1 h5⟩
  ·cases h
 dom t args H c e fp _ _ h _:=by
  unfold spFn at h
  split at h
  ·simp only[Option.some.injEq,Prod.mk.injEq]at h
   obtain⟨rfl,rfl,rfl⟩:=h
   exact⟨(by rw[hF];intro k hk;exact(List.not_mem_nil hk).elim),fun p hp'=>(List.not_mem_nil hp').elim⟩
  ·cases h
 loc t args H H' c e fp h _:=h
theorem specG_f {X:Ctx} {w0:World} {A:Type} (f call) (T:World→Prop) (ac:ArgC A) (Cd F hF ok) (hT:Stays X w0 T):(specG (P:=P) f call T ac Cd F hF ok hT).f=f:=rfl
theorem specG_fn {X:Ctx} {w0:World} {A:Type} (f call) (T:World→Prop) (ac:ArgC A) (Cd F hF ok) (hT:Stays X w0 T) (t:Nat) (args:List SV) (H:Hp):(specG (P:=P) f call T ac Cd F hF ok hT).fn t args H=spFn (ac.d args) Cd F:=rfl
end
end Go.Sy
