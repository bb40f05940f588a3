/- A function's report is the document's, and its walk's conditions hold. Conditions: no more than 1000 alarms and notes. -/
import Derived.Test.YtbiepiggmagfcaaGreatDoorRp10
import Derived.Test.YtbiepiggmagfcaaGreatDoorSy30
set_option linter.unusedVariables false
set_option linter.unusedSimpArgs false
namespace Go.Proofs.YtbiepiggmagfcaaGreatDoor
open Go Go.Sy Go.Shelf Go.RowKit
theorem jnN_2 (a b:List UInt8) (l:List (List UInt8)):jnN (a::b::l)=a++([10]++jnN (b::l)):=by
 show Lib.join _ _=a++([10]++Lib.join _ _)
 rw[Lib.join_cons,Lib.join_cons];simp[Lib.joinTail]
theorem jn_lines:∀l:List (List UInt8),jnN (l++[[]])=l.flatMap (fun t=>t++[10])
 |[]=>Lib.join_one _ _
 |a::l=>by
  have ih:=jn_lines l
  cases l with
  |nil=>
   show jnN [a,[]]=_
   rw[jnN_2]
   show a++([10]++jnN [[]])=_
   rw[show jnN [[]]=[] from Lib.join_one _ _];simp
  |cons b l=>
   show jnN (a::b::(l++[[]]))=_
   rw[jnN_2]
   have:b::(l++[[]])=(b::l)++[[]]:=rfl
   rw[this,ih];simp
theorem lcL_mk (A:List Al) (N:List Nt) (l:List Vr):(lcL l).map (·.t)=(lcL l).map (mkT A N):=by
 refine List.map_congr_left fun x hx=>?_
 obtain⟨v,_,rfl⟩:=List.mem_map.1 hx
 rw[mkT_m]
theorem rep_eq {f:Fn} (r:RnF f) (A:List Al) (N:List Nt):rpL f A N=(lnF f).map (mkT A N)++[[]]∧splT (fnT f)=(lnF f).map (·.t)++[[]]:=by
 have hs:splT (fnT f)=(lnF f).map (·.t)++[[]]:=spl_lnX (lnF f) r.n
 refine⟨?_,hs⟩
 unfold rpL
 rw[hs,lnF_eq]
 have hl:(lnB 1 f.body).length=htB f.body:=lnB_ht 1 f.body
 have e1:(((lnH f::(lcL f.ls++(lnB 1 f.body++[(⟨[125],-1⟩:Ln)]))).map (fun y:Ln=>y.t)++[[]]).length-2-htB f.body)=((lnH f).t::(lcL f.ls).map (fun y:Ln=>y.t)).length:=by
  simp only[List.length_append,List.length_map,List.length_cons,List.length_nil,hl];omega
 rw[e1]
 have e2:(lnH f::(lcL f.ls++(lnB 1 f.body++[(⟨[125],-1⟩:Ln)]))).map (fun y:Ln=>y.t)++[[]]=((lnH f).t::(lcL f.ls).map (fun y:Ln=>y.t))++((lnB 1 f.body).map (fun y:Ln=>y.t)++[[125],[]]):=by simp
 rw[e2,bkB_ln A N 1 f.body _ _ r.no,lcL_mk A N]
 have e3:mkT A N (lnH f)=(lnH f).t:=mkT_m A N _
 simp[e3,mkT_m]
theorem rpX_eq {f:Fn} (r:RnF f) (A:List Al) (N:List Nt):jnN (rpL f A N)=rpX A N (lnF f):=by
 rw[(rep_eq r A N).1,jn_lines]
 unfold rpX
 rw[List.flatMap_map];rfl
theorem mkT_len {A:List Al} {N:List Nt} (h1:A.length≤1000) (h2:N.length≤1000) (x:Ln):(mkT A N x).length≤x.t.length+15002:=by
 have:=addT_len (t:=x.n) h1 h2
 unfold mkT;split
 ·simp only[List.length_append,List.length_cons,List.length_nil];omega
 ·omega
theorem rpX_le {A:List Al} {N:List Nt} (h1:A.length≤1000) (h2:N.length≤1000):∀l:List Ln,(rpX A N l).length≤(lnX l).length+15002*l.length
 |[]=>Nat.zero_le _
 |x::l=>by
  have ih:=rpX_le h1 h2 l
  have:=mkT_len h1 h2 x
  unfold rpX at ih ⊢
  rw[lnX_cons]
  simp only[List.flatMap_cons,rpW,List.length_append,List.length_cons,List.length_nil]at ih ⊢;omega
theorem lnX_at:∀{l:List Ln} {x:Ln},x∈l→x.t.length≤(lnX l).length
 |a::l,x,h=>by
  rw[lnX_cons]
  simp only[List.length_append,List.length_cons,List.length_nil]
  rcases List.mem_cons.1 h with rfl|h
  ·omega
  ·have:=lnX_at h;omega
theorem okPr_b {n:Nat}:∀{m:Nat} {l:List Sm},okPr n m l→okB n m l
 |0,_,h=>h.elim
 |m+1,l,h=>⟨h.1,fun s hs=>⟨(h.2 s hs).1.ok,okPr_b (h.2 s hs).2.1,okPr_b (h.2 s hs).2.2⟩⟩
theorem rep_ok {f:Fn} (R:RqF f) (r:RnF f) {A:List Al} {N:List Nt} (h1:A.length≤1000) (h2:N.length≤1000) :
  okRep 5000 8 f A N∧(rpX A N (lnF f)).length≤1000000000:=by
 obtain⟨R1,R2,R3,R4,R5⟩:=R
 obtain⟨n1,n2,n3,n4⟩:=r
 have r:RnF f:=⟨n1,n2,n3,n4⟩
 have hx:=rpX_le h1 h2 (lnF f)
 have hf:(lnX (lnF f)).length≤100000000:=R5
 have hs:=(rep_eq r A N).2
 have hl:(splT (fnT f)).length=(lnF f).length+1:=by rw[hs];simp
 have hh:htB f.body+2≤(lnF f).length:=by
  rw[lnF_eq]
  have:=lnB_ht 1 f.body
  simp only[List.length_cons,List.length_append,List.length_nil,this];omega
 refine⟨⟨R1,okPr_b R1,by decide,R3,R4,by omega,by omega,⟨by dsimp only;omega,h1,h2,fun x hx=>?_⟩,by omega,by rw[rpX_eq r];omega⟩,by omega⟩
 dsimp only at hx
 rw[hs]at hx
 rcases List.mem_append.1 hx with hx|hx
 ·obtain⟨y,hy,rfl⟩:=List.mem_map.1 hx
  have:=lnX_at hy
  omega
 ·rw[List.mem_singleton.1 hx]
  simp only[List.length_nil];omega
end Go.Proofs.YtbiepiggmagfcaaGreatDoor
namespace Go.Sy
open Go Go.RowKit
def lyC (H:Hp):C→Option (C×List Nat)
 | .s k=>match H k with
  |some (.vec _ z es)=>match toDs z,toDss es with
   |some z',some es'=>some (.d (.sl z' es'),[k])
   |_,_=>none
  |_=>none
 | .p k i j=>match H k with
  |some (.vec _ z es)=>match toDs z,toDss es with
   |some z',some es'=>if i<es'.length then some (.d (.pt (some ((es'.getD i z').drop j))),[k]) else none
   |_,_=>none
  |_=>none
 | .vw _ _ _=>none
 | .q _ _ _ _ _ _=>none
 | .fn _ _=>none
 | .ov _ _=>none
 | .any=>some (.any,[])
 | .v x=>some (.v x,[])
 | .d x=>some (.d x,[])
 | .df z es=>some (.df z es,[])
 | .dp cs=>some (.dp cs,[])
def lyP:Option (C×List Nat)→Option (List C×List Nat)→Option (List C×List Nat)
 |some (c,f),some (l,g)=>some (c::l,f++g)
 |_,_=>none
def lyL (H:Hp):List C→Option (List C×List Nat)
 |[]=>some ([],[])
 |c::l=>lyP (lyC H c) (lyL H l)
def lyS (H:Hp):SV→Option (SV×List Nat)
 | .one c=>(lyC H c).map fun p=>(.one p.1,p.2)
 | .agg l=>(lyL H l).map fun p=>(.agg p.1,p.2)
 | .tup _=>none
def lyQ:Option (SV×List Nat)→Option (List SV×List Nat)→Option (List SV×List Nat)
 |some (c,f),some (l,g)=>some (c::l,f++g)
 |_,_=>none
def lyV (H:Hp):List SV→Option (List SV×List Nat)
 |[]=>some ([],[])
 |v::l=>lyQ (lyS H v) (lyV H l)
theorem lyP_s (c:C) (f:List Nat) (l:List C) (g:List Nat):lyP (some (c,f)) (some (l,g))=some (c::l,f++g):=rfl
theorem lyQ_s (c:SV) (f:List Nat) (l:List SV) (g:List Nat):lyQ (some (c,f)) (some (l,g))=some (c::l,f++g):=rfl
section
variable {X:Ctx} {w0 w:World} {I:Nm} {lab:Lab} {fz:Nat→Prop} {H:Hp}
theorem lyC_ok (hA:AtW X w0 I lab fz H w) {c c':C} {fp:List Nat} {x:Value} (h:lyC H c=some (c',fp)) (r:SC (hp w) fz lab I H c x):c'.names=[]∧SC (hp w) (fun b=>b<w.heap.size) (fun _=>none) nm0 (fun _=>none) c' x:=by
 have cl:∀{c:C},c.names=[]→SC (hp w) fz lab I H c x→SC (hp w) (fun b=>b<w.heap.size) (fun _=>none) nm0 (fun _=>none) c x:=fun {c} hn r=>sd_closed (v:=.one c) (fun b hb=>⟨(hA.fzl b hb).1,rfl⟩) hn r
 cases c with
 |s k=>
  simp only[lyC]at h
  split at h
  ·rename_i u z es hk
   split at h
   ·rename_i z' es' hz he
    simp only[Option.some.injEq,Prod.mk.injEq]at h
    obtain⟨rfl,rfl⟩:=h
    obtain⟨lab',fz',h1,_,h3,_⟩:=at_fz hA hk hz he
    have hx:=r.2
    cases hx
    exact⟨rfl,rfl,.d _ _ _ (rd_mono (fun b hb=>⟨(h1.fzl b hb).1,rfl⟩) h3)⟩
   ·cases h
  ·cases h
 |p k i j=>
  simp only[lyC]at h
  split at h
  ·rename_i u z es hk
   split at h
   ·rename_i z' es' hz he
    split at h
    ·rename_i hi
     simp only[Option.some.injEq,Prod.mk.injEq]at h
     obtain⟨rfl,rfl⟩:=h
     obtain⟨lab',fz',h1,_,_,h4⟩:=at_fz hA hk hz he
     have hx:=r.2
     cases hx
     exact⟨rfl,rfl,.d _ _ _ (rd_mono (fun b hb=>⟨(h1.fzl b hb).1,rfl⟩) (h4 i j hi))⟩
    ·cases h
   ·cases h
  ·cases h
 |vw=>cases h
 |q=>cases h
 |fn=>cases h
 |ov=>cases h
 |any=>simp only[lyC,Option.some.injEq,Prod.mk.injEq]at h;obtain⟨rfl,rfl⟩:=h;exact⟨rfl,cl rfl r⟩
 |v y=>simp only[lyC,Option.some.injEq,Prod.mk.injEq]at h;obtain⟨rfl,rfl⟩:=h;exact⟨rfl,cl rfl r⟩
 |d y=>simp only[lyC,Option.some.injEq,Prod.mk.injEq]at h;obtain⟨rfl,rfl⟩:=h;exact⟨rfl,cl rfl r⟩
 |df z es=>simp only[lyC,Option.some.injEq,Prod.mk.injEq]at h;obtain⟨rfl,rfl⟩:=h;exact⟨rfl,cl rfl r⟩
 |dp cs=>simp only[lyC,Option.some.injEq,Prod.mk.injEq]at h;obtain⟨rfl,rfl⟩:=h;exact⟨rfl,cl rfl r⟩
theorem lyP_inv {o:Option (C×List Nat)} {q:Option (List C×List Nat)} {l:List C} {fp:List Nat} (h:lyP o q=some (l,fp)):∃c f m g,o=some (c,f)∧q=some (m,g)∧l=c::m∧fp=f++g:=by
 unfold lyP at h
 split at h
 ·simp only[Option.some.injEq,Prod.mk.injEq]at h;obtain⟨rfl,rfl⟩:=h;exact⟨_,_,_,_,rfl,rfl,rfl,rfl⟩
 ·cases h
theorem lyQ_inv {o:Option (SV×List Nat)} {q:Option (List SV×List Nat)} {l:List SV} {fp:List Nat} (h:lyQ o q=some (l,fp)):∃c f m g,o=some (c,f)∧q=some (m,g)∧l=c::m∧fp=f++g:=by
 unfold lyQ at h
 split at h
 ·simp only[Option.some.injEq,Prod.mk.injEq]at h;obtain⟨rfl,rfl⟩:=h;exact⟨_,_,_,_,rfl,rfl,rfl,rfl⟩
 ·cases h
theorem lyL_ok (hA:AtW X w0 I lab fz H w):∀{l l':List C} {fp:List Nat},lyL H l=some (l',fp)→l'.length=l.length∧∀(j:Nat) (c c':C) (x:Value),l[j]?=some c→l'[j]?=some c'→SC (hp w) fz lab I H c x→SC (hp w) (fun b=>b<w.heap.size) (fun _=>none) nm0 (fun _=>none) c' x
 |[],l',fp,h=>by
  simp only[lyL,Option.some.injEq,Prod.mk.injEq]at h
  obtain⟨rfl,rfl⟩:=h
  exact⟨rfl,fun j c c' x h=>by simp at h⟩
 |c::l,l',fp,h=>by
  obtain⟨c',f,m,g,h1,h2,rfl,rfl⟩:=lyP_inv h
  obtain⟨g1,g2⟩:=lyL_ok hA h2
  refine⟨by simp[g1],fun j d d' x hj hj' r=>?_⟩
  cases j with
  |zero=>
   simp only[List.getElem?_cons_zero,Option.some.injEq]at hj hj'
   subst hj;subst hj'
   exact(lyC_ok hA h1 r).2
  |succ j=>exact g2 j d d' x (by simpa using hj) (by simpa using hj') r
theorem lyS_ok (hA:AtW X w0 I lab fz H w) {v v':SV} {fp:List Nat} {x:Value} (h:lyS H v=some (v',fp)) (r:SDen (hp w) fz lab I H v x):CD (hp w) (fun b=>b<w.heap.size) v' x:=by
 cases v with
 |one c=>
  simp only[lyS,Option.map_eq_some_iff,Prod.mk.injEq]at h
  obtain⟨⟨c',f⟩,h,rfl,rfl⟩:=h
  exact(lyC_ok hA h r).2
 |agg l=>
  simp only[lyS,Option.map_eq_some_iff,Prod.mk.injEq]at h
  obtain⟨⟨l',f⟩,h,rfl,rfl⟩:=h
  obtain⟨arr,e1,e2,e3⟩:=r
  obtain⟨g1,g2⟩:=lyL_ok hA h
  refine⟨arr,e1,e2.trans g1.symm,fun j c' hj=>?_⟩
  have hjl:j<l.length:=by rw[← g1];exact(List.getElem?_eq_some_iff.1 hj).1
  obtain⟨y,y1,y2⟩:=e3 j _ (List.getElem?_eq_getElem hjl)
  exact⟨y,y1,g2 j _ c' y (List.getElem?_eq_getElem hjl) hj y2⟩
 |tup l=>cases h
end
theorem lyC_l {H H':Hp} {c:C} {p:C×List Nat} (h:lyC H c=some p) (hf:∀k∈p.2,H' k=H k):lyC H' c=some p:=by
 cases c with
 |s k=>
  have hk:k∈p.2:=by
   simp only[lyC]at h
   split at h
   ·split at h
    ·simp only[Option.some.injEq]at h;subst h;simp
    ·cases h
   ·cases h
  simp only[lyC,hf k hk]at *;exact h
 |p k i j=>
  have hk:k∈p.2:=by
   simp only[lyC]at h
   split at h
   ·split at h
    ·split at h
     ·simp only[Option.some.injEq]at h;subst h;simp
     ·cases h
    ·cases h
   ·cases h
  simp only[lyC,hf k hk]at *;exact h
 |_=>exact h
theorem lyL_l {H H':Hp}:∀{l l':List C} {fp:List Nat},lyL H l=some (l',fp)→(∀k∈fp,H' k=H k)→lyL H' l=some (l',fp)
 |[],_,_,h,_=>h
 |c::l,l',fp,h,hf=>by
  obtain⟨c',f,m,g,h1,h2,rfl,rfl⟩:=lyP_inv h
  show lyP (lyC H' c) (lyL H' l)=_
  rw[lyC_l h1 (fun k hk=>hf k (List.mem_append_left _ hk)),lyL_l h2 (fun k hk=>hf k (List.mem_append_right _ hk))];rfl
theorem lyS_l {H H':Hp} {v v':SV} {fp:List Nat} (h:lyS H v=some (v',fp)) (hf:∀k∈fp,H' k=H k):lyS H' v=some (v',fp):=by
 cases v with
 |one c=>
  simp only[lyS,Option.map_eq_some_iff,Prod.mk.injEq]at h
  obtain⟨⟨c',f⟩,h,rfl,rfl⟩:=h
  simp only[lyS,lyC_l h hf,Option.map_some]
 |agg l=>
  simp only[lyS,Option.map_eq_some_iff,Prod.mk.injEq]at h
  obtain⟨⟨l',f⟩,h,rfl,rfl⟩:=h
  simp only[lyS,lyL_l h hf,Option.map_some]
 |tup l=>cases h
theorem lyV_l {H H':Hp}:∀{l l':List SV} {fp:List Nat},lyV H l=some (l',fp)→(∀k∈fp,H' k=H k)→lyV H' l=some (l',fp)
 |[],_,_,h,_=>h
 |c::l,l',fp,h,hf=>by
  obtain⟨c',f,m,g,h1,h2,rfl,rfl⟩:=lyQ_inv h
  show lyQ (lyS H' c) (lyV H' l)=_
  rw[lyS_l h1 (fun k hk=>hf k (List.mem_append_left _ hk)),lyV_l h2 (fun k hk=>hf k (List.mem_append_right _ hk))];rfl
def lyA {A:Type} (ac:ArgC A) (H:Hp) (l:List SV):Option (A×List Nat):=
 match lyV H l with
 |some (l',fp)=>(ac.d l').map fun a=>(a,fp)
 |none=>none
theorem lyA_inv {A:Type} {ac:ArgC A} {H:Hp} {l:List SV} {a:A} {fp:List Nat} (h:lyA ac H l=some (a,fp)):∃l',lyV H l=some (l',fp)∧ac.d l'=some a:=by
 unfold lyA at h
 split at h
 ·simp only[Option.map_eq_some_iff,Prod.mk.injEq]at h
  obtain⟨a',h1,rfl,rfl⟩:=h
  exact⟨_,by assumption,h1⟩
 ·cases h
theorem lyV_ok {X:Ctx} {w0 w:World} {I:Nm} {lab:Lab} {fz:Nat→Prop} {H:Hp} (hA:AtW X w0 I lab fz H w):∀{l l':List SV} {fp:List Nat},lyV H l=some (l',fp)→l'.length=l.length∧∀(j:Nat) (v v':SV) (x:Value),l[j]?=some v→l'[j]?=some v'→SDen (hp w) fz lab I H v x→CD (hp w) (fun b=>b<w.heap.size) v' x
 |[],l',fp,h=>by
  simp only[lyV,Option.some.injEq,Prod.mk.injEq]at h
  obtain⟨rfl,rfl⟩:=h
  exact⟨rfl,fun j c c' x h=>by simp at h⟩
 |c::l,l',fp,h=>by
  obtain⟨c',f,m,g,h1,h2,rfl,rfl⟩:=lyQ_inv h
  obtain⟨g1,g2⟩:=lyV_ok hA h2
  refine⟨by simp[g1],fun j d d' x hj hj' r=>?_⟩
  cases j with
  |zero=>
   simp only[List.getElem?_cons_zero,Option.some.injEq]at hj hj'
   subst hj;subst hj'
   exact lyS_ok hA h1 r
  |succ j=>exact g2 j d d' x (by simpa using hj) (by simpa using hj') r
section
variable {P:Program}
def specL {X:Ctx} {w0:World} (f:FuncId) (call:∀(args:Array Value) (w:World),(callFunc f args).run P w= .ok (.enter f args) w) (T:World→Prop) {A:Type} (ac:ArgC A) (Cd:A→Prop) (F:A→Value) (hF:∀a,okV (F a)=true) (ok:CallsG P f T ac Cd (fun a=>ofV (F a))) (hT:Stays X w0 T):Spec P X w0 where
 f:=f
 call:=call
 fn _ args H:=spFnH (lyA ac H args) Cd F
 ok w I lab fz H t args xs c e fp hA ht h hc hd hl hx:=by
  unfold spFnH at h
  split at h
  ·rename_i a fp' ha
   simp only[Option.some.injEq,Prod.mk.injEq]at h
   obtain⟨rfl,rfl,rfl⟩:=h
   obtain⟨l',k1,k2⟩:=lyA_inv ha
   obtain⟨q1,q2⟩:=lyV_ok hA k1
   obtain⟨g1,g2⟩:=ac.h _ _ k2
   refine(ok a w (fun b=>b<w.heap.size) xs (hT w hA.kept) hc (fun b hb=>hb) (by rw[g1,q1,hl]) ?_).mono ?_
   ·intro j v x hj hxj
    have hjl:j<args.length:=by rw[hl];exact(List.getElem?_eq_some_iff.1 hxj).1
    have hjl':j<l'.length:=by rw[q1];exact hjl
    exact g2 j _ v x (List.getElem?_eq_getElem hjl') hj (q2 j _ _ x (List.getElem?_eq_getElem hjl) (List.getElem?_eq_getElem hjl') (hx j _ x (List.getElem?_eq_getElem hjl) hxj))
   ·rintro en w' ⟨v,x,fz',rfl,rfl,h1,h2,h3,h4,h5,h6⟩
    have hxv:x=F a:=by
     have hcl:clos (ofV (F a))=some (F a):=by
      have hf:=hF a
      cases hv:F a with
      |agg cs=>
       have key:∀l:List Value,clL (l.map .v)=some l:=by
        intro l;induction l with
        |nil=>rfl
        |cons v l ih=>simp[clL,clC,ih]
       simp[ofV,clos,key]
      |tuple vs=>rw[hv]at hf;simp[okV]at hf
      |_=>rfl
     exact sd_clos h5 hcl
    subst hxv
    exact⟨_,rfl,post_below hA (fun b h=>h) (fun b h=>.inl h) (fun b h=>Nat.lt_of_lt_of_le (hA.fzl b h).1 h6.size) h6 h1 (sd_ofV (w:=w') (hF a))⟩
  ·cases h
 dom t args H c e fp _ _ h _:=by
  unfold spFnH at h
  split at h
  ·rename_i a fp' ha
   simp only[Option.some.injEq,Prod.mk.injEq]at h
   obtain⟨rfl,rfl,rfl⟩:=h
   exact⟨(by rw[ofV_names (hF a)];intro k hk;exact(List.not_mem_nil hk).elim),fun p hp'=>(List.not_mem_nil hp').elim⟩
  ·cases h
 loc t args H H' c e fp h hf:=by
  unfold spFnH at h ⊢
  split at h
  ·rename_i a fp' ha
   simp only[Option.some.injEq,Prod.mk.injEq]at h
   obtain⟨rfl,rfl,rfl⟩:=h
   obtain⟨l',k1,k2⟩:=lyA_inv ha
   have:lyA ac H' args=some (a,fp'):=by unfold lyA;rw[lyV_l k1 hf];simp only[k2,Option.map_some]
   rw[this]
  ·cases h
theorem specL_f {X:Ctx} {w0:World} {A:Type} (f call) (T:World→Prop) (ac:ArgC A) (Cd F hF ok) (hT:Stays X w0 T):(specL (P:=P) f call T ac Cd F hF ok hT).f=f:=rfl
theorem specL_fn {X:Ctx} {w0:World} {A:Type} (f call) (T:World→Prop) (ac:ArgC A) (Cd F hF ok) (hT:Stays X w0 T) (t:Nat) (args:List SV) (H:Hp):(specL (P:=P) f call T ac Cd F hF ok hT).fn t args H=spFnH (lyA ac H args) Cd F:=rfl
end
end Go.Sy
