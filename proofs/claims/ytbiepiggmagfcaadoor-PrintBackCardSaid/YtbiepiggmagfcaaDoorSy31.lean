/- Calls whose arguments lie in memory that the caller owns: read where they lie, each cell for itself. No conditions but those in each statement. -/
import Derived.Test.YtbiepiggmagfcaaDoorSy30
import Derived.Test.YtbiepiggmagfcaaDoorBk3
import Derived.Test.YtbiepiggmagfcaaDoorSy28
set_option linter.unusedVariables false
set_option linter.unusedSimpArgs false
namespace Go.Sy
open Go Go.RowKit
def lyC (H:Hp):C→Option (C×List Nat)
 | .s k=>match H k with
  |some (.vec _ z es)=>match toDs z,toDss es with
   |some z',some es'=>some (.d (.sl z' es'),[k])
   |_,_=>none
  |_=>none
 | .p k i j=>match H k with
  |some (.vec _ z es)=>match toDs z,toDss es with
   |some z',some es'=>if i<es'.length then some (.d (.pt (some ((es'.getD i z').drop j))),[k]) else none
   |_,_=>none
  |_=>none
 | .vw _ _ _=>none
 | .q _ _ _ _ _ _=>none
 | .fn _ _=>none
 | .ov _ _=>none
 | .any=>some (.any,[])
 | .v x=>some (.v x,[])
 | .d x=>some (.d x,[])
 | .df z es=>some (.df z es,[])
 | .dp cs=>some (.dp cs,[])
def lyP:Option (C×List Nat)→Option (List C×List Nat)→Option (List C×List Nat)
 |some (c,f),some (l,g)=>some (c::l,f++g)
 |_,_=>none
def lyL (H:Hp):List C→Option (List C×List Nat)
 |[]=>some ([],[])
 |c::l=>lyP (lyC H c) (lyL H l)
def lyS (H:Hp):SV→Option (SV×List Nat)
 | .one c=>(lyC H c).map fun p=>(.one p.1,p.2)
 | .agg l=>(lyL H l).map fun p=>(.agg p.1,p.2)
 | .tup _=>none
def lyQ:Option (SV×List Nat)→Option (List SV×List Nat)→Option (List SV×List Nat)
 |some (c,f),some (l,g)=>some (c::l,f++g)
 |_,_=>none
def lyV (H:Hp):List SV→Option (List SV×List Nat)
 |[]=>some ([],[])
 |v::l=>lyQ (lyS H v) (lyV H l)
theorem lyP_s (c:C) (f:List Nat) (l:List C) (g:List Nat):lyP (some (c,f)) (some (l,g))=some (c::l,f++g):=rfl
theorem lyQ_s (c:SV) (f:List Nat) (l:List SV) (g:List Nat):lyQ (some (c,f)) (some (l,g))=some (c::l,f++g):=rfl
section
variable {X:Ctx} {w0 w:World} {I:Nm} {lab:Lab} {fz:Nat→Prop} {H:Hp}
theorem lyC_ok (hA:AtW X w0 I lab fz H w) {c c':C} {fp:List Nat} {x:Value} (h:lyC H c=some (c',fp)) (r:SC (hp w) fz lab I H c x):c'.names=[]∧SC (hp w) (fun b=>b<w.heap.size) (fun _=>none) nm0 (fun _=>none) c' x:=by
 have cl:∀{c:C},c.names=[]→SC (hp w) fz lab I H c x→SC (hp w) (fun b=>b<w.heap.size) (fun _=>none) nm0 (fun _=>none) c x:=fun {c} hn r=>sd_closed (v:=.one c) (fun b hb=>⟨(hA.fzl b hb).1,rfl⟩) hn r
 cases c with
 |s k=>
  simp only[lyC]at h
  split at h
  ·rename_i u z es hk
   split at h
   ·rename_i z' es' hz he
    simp only[Option.some.injEq,Prod.mk.injEq]at h
    obtain⟨rfl,rfl⟩:=h
    obtain⟨lab',fz',h1,_,h3,_⟩:=at_fz hA hk hz he
    have hx:=r.2
    cases hx
    exact⟨rfl,rfl,.d _ _ _ (rd_mono (fun b hb=>⟨(h1.fzl b hb).1,rfl⟩) h3)⟩
   ·cases h
  ·cases h
 |p k i j=>
  simp only[lyC]at h
  split at h
  ·rename_i u z es hk
   split at h
   ·rename_i z' es' hz he
    split at h
    ·rename_i hi
     simp only[Option.some.injEq,Prod.mk.injEq]at h
     obtain⟨rfl,rfl⟩:=h
     obtain⟨lab',fz',h1,_,_,h4⟩:=at_fz hA hk hz he
     have hx:=r.2
     cases hx
     exact⟨rfl,rfl,.d _ _ _ (rd_mono (fun b hb=>⟨(h1.fzl b hb).1,rfl⟩) (h4 i j hi))⟩
    ·cases h
   ·cases h
  ·cases h
 |vw=>cases h
 |q=>cases h
 |fn=>cases h
 |ov=>cases h
 |any=>simp only[lyC,Option.some.injEq,Prod.mk.injEq]at h;obtain⟨rfl,rfl⟩:=h;exact⟨rfl,cl rfl r⟩
 |v y=>simp only[lyC,Option.some.injEq,Prod.mk.injEq]at h;obtain⟨rfl,rfl⟩:=h;exact⟨rfl,cl rfl r⟩
 |d y=>simp only[lyC,Option.some.injEq,Prod.mk.injEq]at h;obtain⟨rfl,rfl⟩:=h;exact⟨rfl,cl rfl r⟩
 |df z es=>simp only[lyC,Option.some.injEq,Prod.mk.injEq]at h;obtain⟨rfl,rfl⟩:=h;exact⟨rfl,cl rfl r⟩
 |dp cs=>simp only[lyC,Option.some.injEq,Prod.mk.injEq]at h;obtain⟨rfl,rfl⟩:=h;exact⟨rfl,cl rfl r⟩
theorem lyP_inv {o:Option (C×List Nat)} {q:Option (List C×List Nat)} {l:List C} {fp:List Nat} (h:lyP o q=some (l,fp)):∃c f m g,o=some (c,f)∧q=some (m,g)∧l=c::m∧fp=f++g:=by
 unfold lyP at h
 split at h
 ·simp only[Option.some.injEq,Prod.mk.injEq]at h;obtain⟨rfl,rfl⟩:=h;exact⟨_,_,_,_,rfl,rfl,rfl,rfl⟩
 ·cases h
theorem lyQ_inv {o:Option (SV×List Nat)} {q:Option (List SV×List Nat)} {l:List SV} {fp:List Nat} (h:lyQ o q=some (l,fp)):∃c f m g,o=some (c,f)∧q=some (m,g)∧l=c::m∧fp=f++g:=by
 unfold lyQ at h
 split at h
 ·simp only[Option.some.injEq,Prod.mk.injEq]at h;obtain⟨rfl,rfl⟩:=h;exact⟨_,_,_,_,rfl,rfl,rfl,rfl⟩
 ·cases h
theorem lyL_ok (hA:AtW X w0 I lab fz H w):∀{l l':List C} {fp:List Nat},lyL H l=some (l',fp)→l'.length=l.length∧∀(j:Nat) (c c':C) (x:Value),l[j]?=some c→l'[j]?=some c'→SC (hp w) fz lab I H c x→SC (hp w) (fun b=>b<w.heap.size) (fun _=>none) nm0 (fun _=>none) c' x
 |[],l',fp,h=>by
  simp only[lyL,Option.some.injEq,Prod.mk.injEq]at h
  obtain⟨rfl,rfl⟩:=h
  exact⟨rfl,fun j c c' x h=>by simp at h⟩
 |c::l,l',fp,h=>by
  obtain⟨c',f,m,g,h1,h2,rfl,rfl⟩:=lyP_inv h
  obtain⟨g1,g2⟩:=lyL_ok hA h2
  refine⟨by simp[g1],fun j d d' x hj hj' r=>?_⟩
  cases j with
  |zero=>
   simp only[List.getElem?_cons_zero,Option.some.injEq]at hj hj'
   subst hj;subst hj'
   exact(lyC_ok hA h1 r).2
  |succ j=>exact g2 j d d' x (by simpa using hj) (by simpa using hj') r
theorem lyS_ok (hA:AtW X w0 I lab fz H w) {v v':SV} {fp:List Nat} {x:Value} (h:lyS H v=some (v',fp)) (r:SDen (hp w) fz lab I H v x):CD (hp w) (fun b=>b<w.heap.size) v' x:=by
 cases v with
 |one c=>
  simp only[lyS,Option.map_eq_some_iff,Prod.mk.injEq]at h
  obtain⟨⟨c',f⟩,h,rfl,rfl⟩:=h
  exact(lyC_ok hA h r).2
 |agg l=>
  simp only[lyS,Option.map_eq_some_iff,Prod.mk.injEq]at h
  obtain⟨⟨l',f⟩,h,rfl,rfl⟩:=h
  obtain⟨arr,e1,e2,e3⟩:=r
  obtain⟨g1,g2⟩:=lyL_ok hA h
  refine⟨arr,e1,e2.trans g1.symm,fun j c' hj=>?_⟩
  have hjl:j<l.length:=by rw[← g1];exact(List.getElem?_eq_some_iff.1 hj).1
  obtain⟨y,y1,y2⟩:=e3 j _ (List.getElem?_eq_getElem hjl)
  exact⟨y,y1,g2 j _ c' y (List.getElem?_eq_getElem hjl) hj y2⟩
 |tup l=>cases h
end
theorem lyC_l {H H':Hp} {c:C} {p:C×List Nat} (h:lyC H c=some p) (hf:∀k∈p.2,H' k=H k):lyC H' c=some p:=by
 cases c with
 |s k=>
  have hk:k∈p.2:=by
   simp only[lyC]at h
   split at h
   ·split at h
    ·simp only[Option.some.injEq]at h;subst h;simp
    ·cases h
   ·cases h
  simp only[lyC,hf k hk]at *;exact h
 |p k i j=>
  have hk:k∈p.2:=by
   simp only[lyC]at h
   split at h
   ·split at h
    ·split at h
     ·simp only[Option.some.injEq]at h;subst h;simp
     ·cases h
    ·cases h
   ·cases h
  simp only[lyC,hf k hk]at *;exact h
 |_=>exact h
theorem lyL_l {H H':Hp}:∀{l l':List C} {fp:List Nat},lyL H l=some (l',fp)→(∀k∈fp,H' k=H k)→lyL H' l=some (l',fp)
 |[],_,_,h,_=>h
 |c::l,l',fp,h,hf=>by
  obtain⟨c',f,m,g,h1,h2,rfl,rfl⟩:=lyP_inv h
  show lyP (lyC H' c) (lyL H' l)=_
  rw[lyC_l h1 (fun k hk=>hf k (List.mem_append_left _ hk)),lyL_l h2 (fun k hk=>hf k (List.mem_append_right _ hk))];rfl
theorem lyS_l {H H':Hp} {v v':SV} {fp:List Nat} (h:lyS H v=some (v',fp)) (hf:∀k∈fp,H' k=H k):lyS H' v=some (v',fp):=by
 cases v with
 |one c=>
  simp only[lyS,Option.map_eq_some_iff,Prod.mk.injEq]at h
  obtain⟨⟨c',f⟩,h,rfl,rfl⟩:=h
  simp only[lyS,lyC_l h hf,Option.map_some]
 |agg l=>
  simp only[lyS,Option.map_eq_some_iff,Prod.mk.injEq]at h
  obtain⟨⟨l',f⟩,h,rfl,rfl⟩:=h
  simp only[lyS,lyL_l h hf,Option.map_some]
 |tup l=>cases h
theorem lyV_l {H H':Hp}:∀{l l':List SV} {fp:List Nat},lyV H l=some (l',fp)→(∀k∈fp,H' k=H k)→lyV H' l=some (l',fp)
 |[],_,_,h,_=>h
 |c::l,l',fp,h,hf=>by
  obtain⟨c',f,m,g,h1,h2,rfl,rfl⟩:=lyQ_inv h
  show lyQ (lyS H' c) (lyV H' l)=_
  rw[lyS_l h1 (fun k hk=>hf k (List.mem_append_left _ hk)),lyV_l h2 (fun k hk=>hf k (List.mem_append_right _ hk))];rfl
def lyA {A:Type} (ac:ArgC A) (H:Hp) (l:List SV):Option (A×List Nat):=
 match lyV H l with
 |some (l',fp)=>(ac.d l').map fun a=>(a,fp)
 |none=>none
theorem lyA_inv {A:Type} {ac:ArgC A} {H:Hp} {l:List SV} {a:A} {fp:List Nat} (h:lyA ac H l=some (a,fp)):∃l',lyV H l=some (l',fp)∧ac.d l'=some a:=by
 unfold lyA at h
 split at h
 ·simp only[Option.map_eq_some_iff,Prod.mk.injEq]at h
  obtain⟨a',h1,rfl,rfl⟩:=h
  exact⟨_,by assumption,h1⟩
 ·cases h
theorem lyV_ok {X:Ctx} {w0 w:World} {I:Nm} {lab:Lab} {fz:Nat→Prop} {H:Hp} (hA:AtW X w0 I lab fz H w):∀{l l':List SV} {fp:List Nat},lyV H l=some (l',fp)→l'.length=l.length∧∀(j:Nat) (v v':SV) (x:Value),l[j]?=some v→l'[j]?=some v'→SDen (hp w) fz lab I H v x→CD (hp w) (fun b=>b<w.heap.size) v' x
 |[],l',fp,h=>by
  simp only[lyV,Option.some.injEq,Prod.mk.injEq]at h
  obtain⟨rfl,rfl⟩:=h
  exact⟨rfl,fun j c c' x h=>by simp at h⟩
 |c::l,l',fp,h=>by
  obtain⟨c',f,m,g,h1,h2,rfl,rfl⟩:=lyQ_inv h
  obtain⟨g1,g2⟩:=lyV_ok hA h2
  refine⟨by simp[g1],fun j d d' x hj hj' r=>?_⟩
  cases j with
  |zero=>
   simp only[List.getElem?_cons_zero,Option.some.injEq]at hj hj'
   subst hj;subst hj'
   exact lyS_ok hA h1 r
  |succ j=>exact g2 j d d' x (by simpa using hj) (by simpa using hj') r
section
variable {P:Program}
def specL {X:Ctx} {w0:World} (f:FuncId) (call:∀(args:Array Value) (w:World),(callFunc f args).run P w= .ok (.enter f args) w) (T:World→Prop) {A:Type} (ac:ArgC A) (Cd:A→Prop) (F:A→Value) (hF:∀a,okV (F a)=true) (ok:CallsG P f T ac Cd (fun a=>ofV (F a))) (hT:Stays X w0 T):Spec P X w0 where
 f:=f
 call:=call
 fn _ args H:=spFnH (lyA ac H args) Cd F
 ok w I lab fz H t args xs c e fp hA ht h hc hd hl hx:=by
  unfold spFnH at h
  split at h
  ·rename_i a fp' ha
   simp only[Option.some.injEq,Prod.mk.injEq]at h
   obtain⟨rfl,rfl,rfl⟩:=h
   obtain⟨l',k1,k2⟩:=lyA_inv ha
   obtain⟨q1,q2⟩:=lyV_ok hA k1
   obtain⟨g1,g2⟩:=ac.h _ _ k2
   refine(ok a w (fun b=>b<w.heap.size) xs (hT w hA.kept) hc (fun b hb=>hb) (by rw[g1,q1,hl]) ?_).mono ?_
   ·intro j v x hj hxj
    have hjl:j<args.length:=by rw[hl];exact(List.getElem?_eq_some_iff.1 hxj).1
    have hjl':j<l'.length:=by rw[q1];exact hjl
    exact g2 j _ v x (List.getElem?_eq_getElem hjl') hj (q2 j _ _ x (List.getElem?_eq_getElem hjl) (List.getElem?_eq_getElem hjl') (hx j _ x (List.getElem?_eq_getElem hjl) hxj))
   ·rintro en w' ⟨v,x,fz',rfl,rfl,h1,h2,h3,h4,h5,h6⟩
    have hxv:x=F a:=by
     have hcl:clos (ofV (F a))=some (F a):=by
      have hf:=hF a
      cases hv:F a with
      |agg cs=>
       have key:∀l:List Value,clL (l.map .v)=some l:=by
        intro l;induction l with
        |nil=>rfl
        |cons v l ih=>simp[clL,clC,ih]
       simp[ofV,clos,key]
      |tuple vs=>rw[hv]at hf;simp[okV]at hf
      |_=>rfl
     exact sd_clos h5 hcl
    subst hxv
    exact⟨_,rfl,post_below hA (fun b h=>h) (fun b h=>.inl h) (fun b h=>Nat.lt_of_lt_of_le (hA.fzl b h).1 h6.size) h6 h1 (sd_ofV (w:=w') (hF a))⟩
  ·cases h
 dom t args H c e fp _ _ h _:=by
  unfold spFnH at h
  split at h
  ·rename_i a fp' ha
   simp only[Option.some.injEq,Prod.mk.injEq]at h
   obtain⟨rfl,rfl,rfl⟩:=h
   exact⟨(by rw[ofV_names (hF a)];intro k hk;exact(List.not_mem_nil hk).elim),fun p hp'=>(List.not_mem_nil hp').elim⟩
  ·cases h
 loc t args H H' c e fp h hf:=by
  unfold spFnH at h ⊢
  split at h
  ·rename_i a fp' ha
   simp only[Option.some.injEq,Prod.mk.injEq]at h
   obtain⟨rfl,rfl,rfl⟩:=h
   obtain⟨l',k1,k2⟩:=lyA_inv ha
   have:lyA ac H' args=some (a,fp'):=by unfold lyA;rw[lyV_l k1 hf];simp only[k2,Option.map_some]
   rw[this]
  ·cases h
theorem specL_f {X:Ctx} {w0:World} {A:Type} (f call) (T:World→Prop) (ac:ArgC A) (Cd F hF ok) (hT:Stays X w0 T):(specL (P:=P) f call T ac Cd F hF ok hT).f=f:=rfl
theorem specL_fn {X:Ctx} {w0:World} {A:Type} (f call) (T:World→Prop) (ac:ArgC A) (Cd F hF ok) (hT:Stays X w0 T) (t:Nat) (args:List SV) (H:Hp):(specL (P:=P) f call T ac Cd F hF ok hT).fn t args H=spFnH (lyA ac H args) Cd F:=rfl
end
end Go.Sy
namespace Go.Proofs.YtbiepiggmagfcaaDoor
open Go Go.Sy Go.RowKit
theorem ly_ex (H:Hp) (e:Ex):lyC H (exC e)=some (exC e,[]):=by cases e<;>rfl
theorem ly_cd (H:Hp) (e:Cd):lyC H (cdC e)=some (cdC e,[]):=by cases e<;>rfl
theorem yw_Expr (n:Nat):CallsG Tryd.prog 10 powT ya_Expr (fun p=>yc_Expr n p.1) (fun a=>ofV ((fun p=>Value.string (bs (exT p.1))) a)):=y_Expr n
theorem yw_Cond (n:Nat):CallsG Tryd.prog 18 powT ya_Cond (fun p=>yc_Cond n p.1) (fun a=>ofV ((fun p=>Value.string (bs (coT p.1))) a)):=y_Cond n
theorem yw_pFunc (n m:Nat):CallsG Tryd.prog 15 powT ya_pFunc (fun p=>yc_pFunc n m p.1) (fun a=>ofV ((fun p=>Value.string (bs (fnT p.1))) a)):=y_pFunc n m
theorem yw_pGlobals:CallsG Tryd.prog 23 powT (acS cGb ac0) (fun p=>yc_pGlobals p.1) (fun a=>ofV ((fun p=>Value.string (bs (glT p.1))) a)):=y_pGlobals
theorem ywh_Expr:∀a:Ex×Unit,okV ((fun p:Ex×Unit=>Value.string (bs (exT p.1))) a)=true:=fun _=>rfl
theorem ywh_Cond:∀a:Cd×Unit,okV ((fun p:Cd×Unit=>Value.string (bs (coT p.1))) a)=true:=fun _=>rfl
theorem ywh_pFunc:∀a:Fn×Unit,okV ((fun p:Fn×Unit=>Value.string (bs (fnT p.1))) a)=true:=fun _=>rfl
theorem ywh_pGlobals:∀a:Gb×Unit,okV ((fun p:Gb×Unit=>Value.string (bs (glT p.1))) a)=true:=fun _=>rfl
section
variable {X:Ctx} {w0:World}
noncomputable def yl_Expr (n:Nat) (hG:StaysN X w0 powT powB):Sy.Spec Tryd.prog X w0:=specL 10 Tryd.call10 powT ya_Expr (fun p=>yc_Expr n p.1) (fun p=>.string (bs (exT p.1))) ywh_Expr (yw_Expr n) hG.stays
noncomputable def yl_Cond (n:Nat) (hG:StaysN X w0 powT powB):Sy.Spec Tryd.prog X w0:=specL 18 Tryd.call18 powT ya_Cond (fun p=>yc_Cond n p.1) (fun p=>.string (bs (coT p.1))) ywh_Cond (yw_Cond n) hG.stays
noncomputable def yl_pFunc (n m:Nat) (hG:StaysN X w0 powT powB):Sy.Spec Tryd.prog X w0:=specL 15 Tryd.call15 powT ya_pFunc (fun p=>yc_pFunc n m p.1) (fun p=>.string (bs (fnT p.1))) ywh_pFunc (yw_pFunc n m) hG.stays
noncomputable def yl_pGlobals (hG:StaysN X w0 powT powB):Sy.Spec Tryd.prog X w0:=specL 23 Tryd.call23 powT (acS cGb ac0) (fun p=>yc_pGlobals p.1) (fun p=>.string (bs (glT p.1))) ywh_pGlobals (yw_pGlobals) hG.stays
end
def kE1:Ex:=.mk 1 0 [97] .nil .nil
def kE:Ex:=.mk 3 0 [] kE1 (.mk 3 0 [] kE1 kE1)
def kC:Cd:=.mk 9 .nil .nil .nil .nil [112]
abbrev dK1:D:=.pt (some [.v (.int .i64 1),.v (.int .i64 0),.v (.string (bs [97])),.v (.pointer none),.v (.pointer none)])
theorem kE_d:cEx.d (.one (.d (.pt (some [.v (.int .i64 3),.v (.int .i64 0),.v (.string (bs [])),dK1,.pt (some [.v (.int .i64 3),.v (.int .i64 0),.v (.string (bs [])),dK1,dK1])]))))=some kE:=cEx_d kE
theorem kC_d:cCd.d (.one (.d (.pt (some [.v (.int .i64 9),.v (.pointer none),.v (.pointer none),.v (.pointer none),.v (.pointer none),.v (.string (bs [112]))]))))=some kC:=cCd_d kC
theorem kG_d:cGb.d (.agg [.d (.sl [.v (.string (bs []))] [[.v (.string (bs [99]))]]),.v (.slice none 0 0)])=some ⟨[[99]],[]⟩:=codOf_le (e:=fun g:Gb=>.agg g.c) (a:=⟨[[99]],[]⟩) ⟨leC_refl _,.inr ⟨rfl,rfl⟩,trivial⟩
theorem kF_d:cFn.d (.agg [.v (.string (bs [102])),.v (.slice none 0 0),.v (.slice none 0 0),.v (.slice none 0 0)])=some ⟨[102],[],[],[]⟩:=codOf_le (e:=fun f:Fn=>.agg f.c) (a:=⟨[102],[],[],[]⟩) ⟨leC_refl _,.inr ⟨rfl,rfl⟩,.inr ⟨rfl,rfl⟩,.inr ⟨rfl,rfl⟩,trivial⟩
theorem kE_t:exT kE=[97,32,45,32,40,97,32,45,32,97,41]:=by kernel_rfl
theorem kC_t:coT kC=[112,32,61,61,32,110,117,108,108]:=by kernel_rfl
theorem kG_t:glT ⟨[[99]],[]⟩=[99,101,108,108,32,99,59,10]:=by kernel_rfl
theorem kF_t:fnT ⟨[102],[],[],[]⟩=[102,110,32,102,40,41,32,123,10,125,10]:=by kernel_rfl
theorem kE_o:okN kE:=by simp[okN,kE,kE1,w64]
theorem kC_o:okCn kC:=⟨trivial,trivial,trivial,trivial⟩
theorem kE_l:(exT kE).length≤1000000000:=by rw[kE_t];exact Nat.le_of_ble_eq_true rfl
theorem kC_l:(coT kC).length≤1000000000:=by rw[kC_t];exact Nat.le_of_ble_eq_true rfl
theorem kG_l:(glT ⟨[[99]],[]⟩).length≤1000000000:=by rw[kG_t];exact Nat.le_of_ble_eq_true rfl
theorem kF_l:(fnT ⟨[102],[],[],[]⟩).length≤1000000000:=by rw[kF_t];exact Nat.le_of_ble_eq_true rfl
theorem okPr0:okPr 1 1 []:=⟨Nat.zero_le _,fun s h=>by cases h⟩
abbrev yc_pknown:Prop:=True
abbrev yr_pknown:SV:=.one (.v (.bool true))
noncomputable abbrev ya_pknown:ArgC (Unit):=ac0
abbrev yq_pknown:Prop:=CallsG Tryd.prog 7 powT ya_pknown (fun p:Unit=>yc_pknown ) (fun p:Unit=>yr_pknown )
theorem yn_pknown:∀p:Unit,((fun p:Unit=>yr_pknown ) p).names=[]:=by intro p;rfl
noncomputable def yg_pknown {X:Ctx} {w0:World} (h:yq_pknown) (hG:StaysN X w0 powT powB):Sy.Spec Tryd.prog X w0:=specG 7 Tryd.call7 powT ya_pknown (fun p:Unit=>yc_pknown ) (fun p:Unit=>yr_pknown ) (yn_pknown) h hG.stays
set_option maxRecDepth 20000 in set_option maxHeartbeats 4000000 in
theorem y_pknown:yq_pknown:=by
 rintro ⟨_u⟩ w fz xs hT hc hfz hl hx
 have hG:=staysN_clX powT_keptB powT_size (fz:=fz) hT
 refine calls_toL Tryd.func7 rfl w fz [(yl_Expr 5 hG),(yl_Cond 5 hG),(yl_pFunc 1 1 hG),(yl_pGlobals hG)] [(2,[.fz 4]),(3,[.fz 9,.fz 11])] ya_pknown (fun p:Unit=>yr_pknown ) _ xs hfz hl hx (Nat.le_of_ble_eq_true rfl) ?_
 clear hx hl hfz xs
 simp only[Tryd.f7]
 simp only[↓eB,seval,go_sem,cEx_e,cEx_d,cEx_n,cEx_dp,cCd_e,cCd_d,cCd_n,cCd_dp,cGb_e,cGb_d,cFn_e,cFn_d,specL_f,specL_fn,lyA,lyV,lyS,lyL,lyC,lyP_s,lyQ_s,ly_ex,ly_cd,kE_d,kC_d,kG_d,kF_d,kE_t,kC_t,kG_t,kF_t,yl_Expr,yl_Cond,yl_pFunc,yl_pGlobals]
 try simp only[impB,impN]
 repeat' first|exact ck|with_reducible apply And.intro|intro _
 all_goals first|exact kE_o|exact kC_o|exact okPr0|exact kE_l|exact kC_l|exact kG_l|exact kF_l|(rename_i h;cases h;done)|(rename_i h;first|exact oI h|exact nah h)|(rename_i _ h _ g;exact sL h g)|decide|omega|(refine ret_with [] ?_;simp only[↓eB,seval,go_sem,bne,yr_pknown])
noncomputable def yp_pknown {X:Ctx} {w0:World} (hG:StaysN X w0 powT powB):Sy.Spec Tryd.prog X w0:=yg_pknown y_pknown hG
end Go.Proofs.YtbiepiggmagfcaaDoor
namespace Go.Sy
open Go Go.RowKit
section
variable {P:Program} {X:Ctx} {w0:World} {n:Nat}
theorem tri_mono {c:Code} {s:St} {Q Q':Exit→St→Prop} (h:Tri (P:=P) X w0 n c s Q) (hq:∀e s,Q e s→Q' e s):Tri (P:=P) X w0 n c s Q':=by
 intro a w hs
 refine Code.wp_mono ?_ (h a w hs)
 rintro e a' w' ⟨s',h1,h2⟩
 exact⟨s',hq e s' h1,h2⟩
theorem tri_seq {a b:Code} {s:St} {Q:Exit→St→Prop} (h:Tri (P:=P) X w0 n a s (thenQ (fun s'=>Tri (P:=P) X w0 n b s' Q) Q)):Tri (P:=P) X w0 n (.seq a b) s Q:=by
 intro act w hs
 refine wp_seq ?_
 refine Code.wp_mono ?_ (h act w hs)
 rintro e a' w' ⟨s',hq,hs'⟩
 cases e with
 |normal=>exact hq a' w' hs'
 |_=>exact⟨s',hq,hs'⟩
theorem tri_to {c:Code} {s t:St} {Q:Exit→St→Prop} (h:Tri (P:=P) X w0 n c t Q) (hs:To X s t):Tri (P:=P) X w0 n c s Q:=fun a w hh=>h a w (hs w0 n a w hh)
theorem tri_cut {Y:Type} {a b:Code} {s:St} {Q:Exit→St→Prop} (J:Y→Prop) (S:Y→St) (sp:List (Spec P X w0)) (g:Gh) (h1:vc X w0 sp n g a s (thenQ (fun s'=>∃y,J y∧To X s' (S y)) Q)) (h2:∀y,J y→Tri (P:=P) X w0 n b (S y) Q):Tri (P:=P) X w0 n (.seq a b) s Q:=by
 refine tri_seq (tri_mono (vc_ok sp g a s _ h1) ?_)
 intro e s' hq
 cases e with
 |normal=>obtain⟨y,hy,hto⟩:=hq;exact tri_to (h2 y hy) hto
 |_=>exact hq
theorem tri_next {a b:Code} {s:St} {Q:Exit→St→Prop} (sp:List (Spec P X w0)) (g:Gh) (h1:vc X w0 sp n g a s (thenQ (fun s'=>Tri (P:=P) X w0 n b s' Q) Q)):Tri (P:=P) X w0 n (.seq a b) s Q:=tri_seq (vc_ok sp g a s _ h1)
end
section
variable {P:Program}
theorem calls_tri {f:FuncId} {fn:Func} {c:Code} (hf:P.funcs[f]?=some fn) (hb:fn.body=some c) (w:World) (fz:Nat→Prop) (args:List SV) (hnm:∀v∈args,v.names=[]) (hfz:∀b,fz b→b<w.heap.size)
  (xs:List Value) (hlen:xs.length=args.length) (hx:∀(j:Nat) (v:SV) (x:Value),args[j]?=some v→xs[j]?=some x→CD (hp w) fz v x) (R:SV→Prop)
  (hn:args.length≤fn.ntmps) (h:Tri (P:=P) (clX fz) w fn.ntmps c ⟨argE 0 args,[]⟩ (retQ P (clX fz) fn.results.toList (fun _ vs=>(resV vs).names=[]∧R (resV vs)))) :
  Calls P f xs.toArray w (DPost w fz R):=by
 refine calls_of_wp hf hb (Code.wp_mono ?_ (h _ w ?_))
 ·rintro e a w' ⟨s,hq,hs⟩
  have fin:RetP P (clX fz) fn.results.toList (fun _ vs=>(resV vs).names=[]∧R (resV vs)) s→a.defers=[]∧∃v,(results fn a.tmps).run P w'= .ok v w'∧DPost w fz R (Ending.returned v) w':=by
   rintro ⟨cs,s',vs,h1,h2,h3,h4,h5⟩
   refine⟨hs.defers,?_⟩
   obtain⟨_,I,lab,fz',hA⟩:=runCs_ent h1 a w' hs
   obtain⟨x,x1,x2⟩:=results_ok hA h2 h3
   refine⟨x,x1,resV vs,x,fun b=>fz' b∨fz b,rfl,h5,h4,fun b hb=>.inr hb,fun b hb=>?_,fun b hb=>?_,sd_closed (fun b hb=>⟨.inl hb,rfl⟩) h4 x2,hA.m.kept.below (fun _ _ hf=>hf)⟩
   ·rcases hb with hb|hb
    ·rcases hA.m.fzo b hb with h|h|h
     ·exact .inl h
     ·exact .inr h
     ·exact h.elim
    ·exact .inl hb
   ·rcases hb with hb|hb
    ·exact(hA.m.fzl b hb).1
    ·exact Nat.lt_of_lt_of_le (hfz b hb) hA.m.kept.size
  cases e with
  |normal=>exact fin hq
  |ret=>exact fin hq
  |_=>exact hq.elim
 ·have hE0:∀t g v,lkp (argE 0 args) t=some (g,v)→g=true∧args[t]?=some v:=by
   intro t g v ht
   rw[argE_lkp]at ht
   simp only[Nat.zero_le,if_true,Nat.sub_zero,Option.map_eq_some_iff,Prod.mk.injEq]at ht
   obtain⟨u,hu,rfl,rfl⟩:=ht
   exact⟨rfl,hu⟩
  refine⟨?_,nm0,fun _=>none,fz,?_,rfl,?_,⟨?_,?_,?_,fun b hb=>⟨hfz b hb,rfl⟩,fun b hb=>.inl hb,Kept.refl _ _,by intro p hp;cases hp⟩⟩
  ·intro t g v ht _
   have:=(hE0 t g v ht).2
   rw[hnm v (List.mem_of_getElem? this)]
   intro k hk;cases hk
  ·simp[hlen];omega
  ·intro t g v ht
   obtain⟨rfl,hv⟩:=hE0 t g v ht
   have hlt:t<args.length:=(List.getElem?_eq_some_iff.1 hv).1
   have hlt2:t<xs.length:=by omega
   refine⟨xs[t],?_,?_⟩
   ·rw[Array.getElem?_append_left (by simpa using hlt2)]
    simp[hlt2]
   ·simp only[if_true]
    exact sd_closed (fun b hb=>⟨hb,rfl⟩) (hnm v (List.mem_of_getElem? hv)) (hx t v _ hv (List.getElem?_eq_getElem hlt2))
  ·intro k ch hk;simp[lkp]at hk
  ·intro k ch hk;simp[lkp]at hk
  ·intro b π hb;cases hb
theorem calls_triL {f:FuncId} {fn:Func} {c:Code} (hf:P.funcs[f]?=some fn) (hb:fn.body=some c) (w:World) (fz:Nat→Prop) {A:Type} (ac:ArgC A) (F:A→SV) (a:A) (xs:List Value) (hfz:∀b,fz b→b<w.heap.size) (hl:xs.length=(ac.e a).length)
  (hx:∀(j:Nat) (v:SV) (x:Value),(ac.e a)[j]?=some v→xs[j]?=some x→CD (hp w) fz v x) (hn:(ac.e a).length≤fn.ntmps)
  (h:Tri (P:=P) (clX fz) w fn.ntmps c ⟨argE 0 (ac.e a),[]⟩ (retQ P (clX fz) fn.results.toList (RESL (F a)))):Calls P f xs.toArray w (DPost w fz (fun v=>v=F a)):=
 (calls_tri hf hb w fz (ac.e a) (ac.n a) hfz xs hl hx (fun v=>leV v (F a)) hn h).mono fun _ _ h=>dpost_le h
end
end Go.Sy
