/- A function's report is the document's, and its walk's conditions hold. Conditions: no more than 1000 alarms and notes. -/
import Derived.Test.YtbiepiggmagfcaaGreatDoorRp10
import Derived.Test.YtbiepiggmagfcaaGreatDoorSy30
set_option linter.unusedVariables false
set_option linter.unusedSimpArgs false
open List (length_append length_cons length_nil getElem?_eq_getElem)
namespace Go.Proofs.YtbiepiggmagfcaaGreatDoor
open Go Go.Sy Go.Shelf Go.RowKit
theorem nO (a b:List UInt8) (l:List (List UInt8)):jnN (a::b::l)=a++([10]++jnN (b::l)):=by
 show Lib.join _ _=a++([10]++Lib.join _ _)
 rw[Lib.join_cons,Lib.join_cons];simp[Lib.joinTail]
theorem Xb:∀l:List (List UInt8),jnN (l++[[]])=l.flatMap (fun t=>t++[10])
 |[]=>Lib.join_one _ _
 |a::l=>by
  have ih:=Xb l
  cases l with
  |nil=>
   show jnN [a,[]]=_
   rw[nO]
   show a++([10]++jnN [[]])=_
   rw[show jnN [[]]=[] from Lib.join_one _ _];simp
  |cons b l=>
   show jnN (a::b::(l++[[]]))=_
   rw[nO]
   have:b::(l++[[]])=(b::l)++[[]]:=rfl
   rw[this,ih];simp
theorem xf (A:List Al) (N:List Nt) (l:List Vr):(lcL l).map (·.t)=(lcL l).map (mkT A N):=by
 refine List.map_congr_left fun x hx=>?_
 obtain⟨v,_,rfl⟩:=List.mem_map.1 hx
 rw[Qm]
theorem gP {f:Fn} (r:RnF f) (A:List Al) (N:List Nt):rpL f A N=(lnF f).map (mkT A N)++[[]]∧Eh (fnT f)=(lnF f).map (·.t)++[[]]:=by
 have hs:Eh (fnT f)=(lnF f).map (·.t)++[[]]:=aJ (lnF f) r.n
 refine⟨?_,hs⟩
 unfold rpL
 rw[hs,Lh]
 have hl:(lnB 1 f.body).length=htB f.body:=IA 1 f.body
 have e1:(((lnH f::(lcL f.ls++(lnB 1 f.body++[(⟨[125],-1⟩:Ln)]))).map (fun y:Ln=>y.t)++[[]]).length-2-htB f.body)=((lnH f).t::(lcL f.ls).map (fun y:Ln=>y.t)).length:=by
  simp only[length_append,List.length_map,length_cons,length_nil,hl];omega
 rw[e1]
 have e2:(lnH f::(lcL f.ls++(lnB 1 f.body++[(⟨[125],-1⟩:Ln)]))).map (fun y:Ln=>y.t)++[[]]=((lnH f).t::(lcL f.ls).map (fun y:Ln=>y.t))++((lnB 1 f.body).map (fun y:Ln=>y.t)++[[125],[]]):=by simp
 rw[e2,Ng A N 1 f.body _ _ r.no,xf A N]
 have e3:mkT A N (lnH f)=(lnH f).t:=Qm A N _
 simp[e3,Qm]
theorem Xc {f:Fn} (r:RnF f) (A:List Al) (N:List Nt):jnN (rpL f A N)=rpX A N (lnF f):=by
 rw[(gP r A N).1,Xb]
 unfold rpX
 rw[List.flatMap_map];rfl
theorem rI {A:List Al} {N:List Nt} (h1:A.length≤1000) (h2:N.length≤1000) (x:Ln):(mkT A N x).length≤x.t.length+15002:=by
 have:=OU (t:=x.n) h1 h2
 unfold mkT;split
 ·simp only[jL3];omega
 ·omega
theorem gQ {A:List Al} {N:List Nt} (h1:A.length≤1000) (h2:N.length≤1000):∀l:List Ln,(rpX A N l).length≤(lnX l).length+15002*l.length
 |[]=>Nat.zero_le _
 |x::l=>by
  have ih:=gQ h1 h2 l
  have:=rI h1 h2 x
  unfold rpX at ih ⊢
  rw[EA]
  simp only[List.flatMap_cons,rpW,jL3]at ih ⊢;omega
theorem gR:∀{l:List Ln} {x:Ln},x∈l→x.t.length≤(lnX l).length
 |a::l,x,h=>by
  rw[EA]
  simp only[jL3]
  rcases List.mem_cons.1 h with rfl|h
  ·omega
  ·have:=gR h;omega
theorem T6 {n:Nat}:∀{m:Nat} {l:List Sm},Cp n m l→okB n m l
 |0,_,h=>h.elim
 |m+1,l,h=>⟨h.1,fun s hs=>⟨(h.2 s hs).1.ok,T6 (h.2 s hs).2.1,T6 (h.2 s hs).2.2⟩⟩
theorem gS {f:Fn} (R:RqF f) (r:RnF f) {A:List Al} {N:List Nt} (h1:A.length≤1000) (h2:N.length≤1000) :
  okRep 5000 8 f A N∧(rpX A N (lnF f)).length≤1000000000:=by
 obtain⟨R1,R2,R3,R4,R5⟩:=R
 obtain⟨n1,n2,n3,n4⟩:=r
 have r:RnF f:=⟨n1,n2,n3,n4⟩
 have hx:=gQ h1 h2 (lnF f)
 have hf:(lnX (lnF f)).length≤100000000:=R5
 have hs:=(gP r A N).2
 have hl:(Eh (fnT f)).length=(lnF f).length+1:=by rw[hs];simp
 have hh:htB f.body+2≤(lnF f).length:=by
  rw[Lh]
  have:=IA 1 f.body
  simp only[length_cons,length_append,length_nil,this];omega
 refine⟨⟨R1,T6 R1,by decide,R3,R4,by omega,by omega,⟨by dsimp only;omega,h1,h2,fun x hx=>?_⟩,by omega,by rw[Xc r];omega⟩,by omega⟩
 dsimp only at hx
 rw[hs]at hx
 rcases List.mem_append.1 hx with hx|hx
 ·obtain⟨y,hy,rfl⟩:=List.mem_map.1 hx
  have:=gR hy
  omega
 ·rw[List.mem_singleton.1 hx]
  simp only[length_nil];omega
end Go.Proofs.YtbiepiggmagfcaaGreatDoor
namespace Go.Sy
open Go Go.RowKit
def lyC (H:Hp):C→Option (C×List Nat)
 | .s k=>match H k with
  |some (.vec _ z es)=>match D2 z,D9 es with
   |some z',some es'=>some (.d (.sl z' es'),[k])
   |_,_=>none
  |_=>none
 | .p k i j=>match H k with
  |some (.vec _ z es)=>match D2 z,D9 es with
   |some z',some es'=>if i<es'.length then some (.d (.pt (some ((es'.getD i z').drop j))),[k]) else none
   |_,_=>none
  |_=>none
 | .vw _ _ _=>none
 | .q _ _ _ _ _ _=>none
 | .fn _ _=>none
 | .ov _ _=>none
 | .any=>some (.any,[])
 | .v x=>some (.v x,[])
 | .d x=>some (.d x,[])
 | .df z es=>some (.df z es,[])
 | .dp cs=>some (.dp cs,[])
def lyP:Option (C×List Nat)→Option (List C×List Nat)→Option (List C×List Nat)
 |some (c,f),some (l,g)=>some (c::l,f++g)
 |_,_=>none
def lyL (H:Hp):List C→Option (List C×List Nat)
 |[]=>some ([],[])
 |c::l=>lyP (lyC H c) (lyL H l)
def lyS (H:Hp):SV→Option (SV×List Nat)
 | .one c=>(lyC H c).map fun p=>(.one p.1,p.2)
 | .agg l=>(lyL H l).map fun p=>(.agg p.1,p.2)
 | .tup _=>none
def lyQ:Option (SV×List Nat)→Option (List SV×List Nat)→Option (List SV×List Nat)
 |some (c,f),some (l,g)=>some (c::l,f++g)
 |_,_=>none
def lyV (H:Hp):List SV→Option (List SV×List Nat)
 |[]=>some ([],[])
 |v::l=>lyQ (lyS H v) (lyV H l)
theorem A34 (c:C) (f:List Nat) (l:List C) (g:List Nat):lyP (some (c,f)) (some (l,g))=some (c::l,f++g):=rfl
theorem A35 (c:SV) (f:List Nat) (l:List SV) (g:List Nat):lyQ (some (c,f)) (some (l,g))=some (c::l,f++g):=rfl
section
variable {X:Ctx} {w0 w:World} {I:Nm} {lab:Lab} {fz:Nat→Prop} {H:Hp}
theorem gT (hA:AtW X w0 I lab fz H w) {c c':C} {fp:List Nat} {x:Value} (h:lyC H c=some (c',fp)) (r:SC (hp w) fz lab I H c x):c'.names=[]∧SC (hp w) (fun b=>b<w.heap.size) (fun _=>none) nm0 (fun _=>none) c' x:=by
 have cl:∀{c:C},c.names=[]→SC (hp w) fz lab I H c x→SC (hp w) (fun b=>b<w.heap.size) (fun _=>none) nm0 (fun _=>none) c x:=fun {c} hn r=>DU (v:=.one c) (fun b hb=>⟨(hA.fzl b hb).1,rfl⟩) hn r
 cases c with
 |s k=>
  simp only[lyC]at h
  split at h
  ·rename_i u z es hk
   split at h
   ·rename_i z' es' hz he
    simp only[jS,jP]at h
    obtain⟨rfl,rfl⟩:=h
    obtain⟨lab',fz',h1,_,h3,_⟩:=Tm hA hk hz he
    have hx:=r.2
    cases hx
    exact⟨rfl,rfl,.d _ _ _ (CK (fun b hb=>⟨(h1.fzl b hb).1,rfl⟩) h3)⟩
   ·cases h
  ·cases h
 |p k i j=>
  simp only[lyC]at h
  split at h
  ·rename_i u z es hk
   split at h
   ·rename_i z' es' hz he
    split at h
    ·rename_i hi
     simp only[jS,jP]at h
     obtain⟨rfl,rfl⟩:=h
     obtain⟨lab',fz',h1,_,_,h4⟩:=Tm hA hk hz he
     have hx:=r.2
     cases hx
     exact⟨rfl,rfl,.d _ _ _ (CK (fun b hb=>⟨(h1.fzl b hb).1,rfl⟩) (h4 i j hi))⟩
    ·cases h
   ·cases h
  ·cases h
 |vw=>cases h
 |q=>cases h
 |fn=>cases h
 |ov=>cases h
 |any=>simp only[lyC,jS,jP]at h;obtain⟨rfl,rfl⟩:=h;exact⟨rfl,cl rfl r⟩
 |v y=>simp only[lyC,jS,jP]at h;obtain⟨rfl,rfl⟩:=h;exact⟨rfl,cl rfl r⟩
 |d y=>simp only[lyC,jS,jP]at h;obtain⟨rfl,rfl⟩:=h;exact⟨rfl,cl rfl r⟩
 |df z es=>simp only[lyC,jS,jP]at h;obtain⟨rfl,rfl⟩:=h;exact⟨rfl,cl rfl r⟩
 |dp cs=>simp only[lyC,jS,jP]at h;obtain⟨rfl,rfl⟩:=h;exact⟨rfl,cl rfl r⟩
theorem Zy {o:Option (C×List Nat)} {q:Option (List C×List Nat)} {l:List C} {fp:List Nat} (h:lyP o q=some (l,fp)):∃c f m g,o=some (c,f)∧q=some (m,g)∧l=c::m∧fp=f++g:=by
 unfold lyP at h
 split at h
 ·simp only[jS,jP]at h;obtain⟨rfl,rfl⟩:=h;exact⟨_,_,_,_,rfl,rfl,rfl,rfl⟩
 ·cases h
theorem Zz {o:Option (SV×List Nat)} {q:Option (List SV×List Nat)} {l:List SV} {fp:List Nat} (h:lyQ o q=some (l,fp)):∃c f m g,o=some (c,f)∧q=some (m,g)∧l=c::m∧fp=f++g:=by
 unfold lyQ at h
 split at h
 ·simp only[jS,jP]at h;obtain⟨rfl,rfl⟩:=h;exact⟨_,_,_,_,rfl,rfl,rfl,rfl⟩
 ·cases h
theorem gU (hA:AtW X w0 I lab fz H w):∀{l l':List C} {fp:List Nat},lyL H l=some (l',fp)→l'.length=l.length∧∀(j:Nat) (c c':C) (x:Value),l[j]?=some c→l'[j]?=some c'→SC (hp w) fz lab I H c x→SC (hp w) (fun b=>b<w.heap.size) (fun _=>none) nm0 (fun _=>none) c' x
 |[],l',fp,h=>by
  simp only[lyL,jS,jP]at h
  obtain⟨rfl,rfl⟩:=h
  exact⟨rfl,fun j c c' x h=>by simp at h⟩
 |c::l,l',fp,h=>by
  obtain⟨c',f,m,g,h1,h2,rfl,rfl⟩:=Zy h
  obtain⟨g1,g2⟩:=gU hA h2
  refine⟨by simp[g1],fun j d d' x hj hj' r=>?_⟩
  cases j with
  |zero=>
   simp only[List.getElem?_cons_zero,jS]at hj hj'
   subst hj;subst hj'
   exact(gT hA h1 r).2
  |succ j=>exact g2 j d d' x (by simpa using hj) (by simpa using hj') r
theorem xg (hA:AtW X w0 I lab fz H w) {v v':SV} {fp:List Nat} {x:Value} (h:lyS H v=some (v',fp)) (r:AU (hp w) fz lab I H v x):CD (hp w) (fun b=>b<w.heap.size) v' x:=by
 cases v with
 |one c=>
  simp only[lyS,Option.map_eq_some_iff,jP]at h
  obtain⟨⟨c',f⟩,h,rfl,rfl⟩:=h
  exact(gT hA h r).2
 |agg l=>
  simp only[lyS,Option.map_eq_some_iff,jP]at h
  obtain⟨⟨l',f⟩,h,rfl,rfl⟩:=h
  obtain⟨arr,e1,e2,e3⟩:=r
  obtain⟨g1,g2⟩:=gU hA h
  refine⟨arr,e1,e2.trans g1.symm,fun j c' hj=>?_⟩
  have hjl:j<l.length:=by rw[← g1];exact(List.getElem?_eq_some_iff.1 hj).1
  obtain⟨y,y1,y2⟩:=e3 j _ (getElem?_eq_getElem hjl)
  exact⟨y,y1,g2 j _ c' y (getElem?_eq_getElem hjl) hj y2⟩
 |tup l=>cases h
end
theorem nP {H H':Hp} {c:C} {p:C×List Nat} (h:lyC H c=some p) (hf:∀k∈p.2,H' k=H k):lyC H' c=some p:=by
 cases c with
 |s k=>
  have hk:k∈p.2:=by
   simp only[lyC]at h
   split at h
   ·split at h
    ·simp only[jS]at h;subst h;simp
    ·cases h
   ·cases h
  simp only[lyC,hf k hk]at *;exact h
 |p k i j=>
  have hk:k∈p.2:=by
   simp only[lyC]at h
   split at h
   ·split at h
    ·split at h
     ·simp only[jS]at h;subst h;simp
     ·cases h
    ·cases h
   ·cases h
  simp only[lyC,hf k hk]at *;exact h
 |_=>exact h
theorem nQ {H H':Hp}:∀{l l':List C} {fp:List Nat},lyL H l=some (l',fp)→(∀k∈fp,H' k=H k)→lyL H' l=some (l',fp)
 |[],_,_,h,_=>h
 |c::l,l',fp,h,hf=>by
  obtain⟨c',f,m,g,h1,h2,rfl,rfl⟩:=Zy h
  show lyP (lyC H' c) (lyL H' l)=_
  rw[nP h1 (fun k hk=>hf k (List.mem_append_left _ hk)),nQ h2 (fun k hk=>hf k (List.mem_append_right _ hk))];rfl
theorem A36 {H H':Hp} {v v':SV} {fp:List Nat} (h:lyS H v=some (v',fp)) (hf:∀k∈fp,H' k=H k):lyS H' v=some (v',fp):=by
 cases v with
 |one c=>
  simp only[lyS,Option.map_eq_some_iff,jP]at h
  obtain⟨⟨c',f⟩,h,rfl,rfl⟩:=h
  simp only[lyS,nP h hf,Option.map_some]
 |agg l=>
  simp only[lyS,Option.map_eq_some_iff,jP]at h
  obtain⟨⟨l',f⟩,h,rfl,rfl⟩:=h
  simp only[lyS,nQ h hf,Option.map_some]
 |tup l=>cases h
theorem nR {H H':Hp}:∀{l l':List SV} {fp:List Nat},lyV H l=some (l',fp)→(∀k∈fp,H' k=H k)→lyV H' l=some (l',fp)
 |[],_,_,h,_=>h
 |c::l,l',fp,h,hf=>by
  obtain⟨c',f,m,g,h1,h2,rfl,rfl⟩:=Zz h
  show lyQ (lyS H' c) (lyV H' l)=_
  rw[A36 h1 (fun k hk=>hf k (List.mem_append_left _ hk)),nR h2 (fun k hk=>hf k (List.mem_append_right _ hk))];rfl
def lyA {A:Type} (ac:ArgC A) (H:Hp) (l:List SV):Option (A×List Nat):=
 match lyV H l with
 |some (l',fp)=>(ac.d l').map fun a=>(a,fp)
 |none=>none
theorem a7 {A:Type} {ac:ArgC A} {H:Hp} {l:List SV} {a:A} {fp:List Nat} (h:lyA ac H l=some (a,fp)):∃l',lyV H l=some (l',fp)∧ac.d l'=some a:=by
 unfold lyA at h
 split at h
 ·simp only[Option.map_eq_some_iff,jP]at h
  obtain⟨a',h1,rfl,rfl⟩:=h
  exact⟨_,by assumption,h1⟩
 ·cases h
theorem gV {X:Ctx} {w0 w:World} {I:Nm} {lab:Lab} {fz:Nat→Prop} {H:Hp} (hA:AtW X w0 I lab fz H w):∀{l l':List SV} {fp:List Nat},lyV H l=some (l',fp)→l'.length=l.length∧∀(j:Nat) (v v':SV) (x:Value),l[j]?=some v→l'[j]?=some v'→AU (hp w) fz lab I H v x→CD (hp w) (fun b=>b<w.heap.size) v' x
 |[],l',fp,h=>by
  simp only[lyV,jS,jP]at h
  obtain⟨rfl,rfl⟩:=h
  exact⟨rfl,fun j c c' x h=>by simp at h⟩
 |c::l,l',fp,h=>by
  obtain⟨c',f,m,g,h1,h2,rfl,rfl⟩:=Zz h
  obtain⟨g1,g2⟩:=gV hA h2
  refine⟨by simp[g1],fun j d d' x hj hj' r=>?_⟩
  cases j with
  |zero=>
   simp only[List.getElem?_cons_zero,jS]at hj hj'
   subst hj;subst hj'
   exact xg hA h1 r
  |succ j=>exact g2 j d d' x (by simpa using hj) (by simpa using hj') r
section
variable {P:Program}
def WF {X:Ctx} {w0:World} (f:FuncId) (call:∀(args:Array Value) (w:World),(callFunc f args).run P w= .ok (.enter f args) w) (T:World→Prop) {A:Type} (ac:ArgC A) (Cd:A→Prop) (F:A→Value) (hF:∀a,okV (F a)=true) (ok:Cn P f T ac Cd (fun a=>ofV (F a))) (hT:Ou X w0 T):Spec P X w0 where
 f:=f
 call:=call
 fn _ args H:=IU (lyA ac H args) Cd F
 ok w I lab fz H t args xs c e fp hA ht h hc hd hl hx:=by
  unfold IU at h
  split at h
  ·rename_i a fp' ha
   simp only[jS,jP]at h
   obtain⟨rfl,rfl,rfl⟩:=h
   obtain⟨l',k1,k2⟩:=a7 ha
   obtain⟨q1,q2⟩:=gV hA k1
   obtain⟨g1,g2⟩:=ac.h _ _ k2
   refine(ok a w (fun b=>b<w.heap.size) xs (hT w hA.kept) hc (fun b hb=>hb) (by rw[g1,q1,hl]) ?_).mono ?_
   ·intro j v x hj hxj
    have hjl:j<args.length:=by rw[hl];exact(List.getElem?_eq_some_iff.1 hxj).1
    have hjl':j<l'.length:=by rw[q1];exact hjl
    exact g2 j _ v x (getElem?_eq_getElem hjl') hj (q2 j _ _ x (getElem?_eq_getElem hjl) (getElem?_eq_getElem hjl') (hx j _ x (getElem?_eq_getElem hjl) hxj))
   ·rintro en w' ⟨v,x,fz',rfl,rfl,h1,h2,h3,h4,h5,h6⟩
    have hxv:x=F a:=by
     have hcl:II (ofV (F a))=some (F a):=by
      have hf:=hF a
      cases hv:F a with
      |agg cs=>
       have key:∀l:List Value,clL (l.map .v)=some l:=by
        intro l;induction l with
        |nil=>rfl
        |cons v l ih=>simp[clL,clC,ih]
       simp[ofV,II,key]
      |tuple vs=>rw[hv]at hf;simp[okV]at hf
      |_=>rfl
     exact CF h5 hcl
    subst hxv
    exact⟨_,rfl,Kn hA (fun b h=>h) (fun b h=>.inl h) (fun b h=>Nat.lt_of_lt_of_le (hA.fzl b h).1 h6.size) h6 h1 (F1 (w:=w') (hF a))⟩
  ·cases h
 dom t args H c e fp _ _ h _:=by
  unfold IU at h
  split at h
  ·rename_i a fp' ha
   simp only[jS,jP]at h
   obtain⟨rfl,rfl,rfl⟩:=h
   exact⟨(by rw[E4 (hF a)];intro k hk;exact(List.not_mem_nil hk).elim),fun p hp'=>(List.not_mem_nil hp').elim⟩
  ·cases h
 loc t args H H' c e fp h hf:=by
  unfold IU at h ⊢
  split at h
  ·rename_i a fp' ha
   simp only[jS,jP]at h
   obtain⟨rfl,rfl,rfl⟩:=h
   obtain⟨l',k1,k2⟩:=a7 ha
   have:lyA ac H' args=some (a,fp'):=by unfold lyA;rw[nR k1 hf];simp only[k2,Option.map_some]
   rw[this]
  ·cases h
theorem rJ {X:Ctx} {w0:World} {A:Type} (f call) (T:World→Prop) (ac:ArgC A) (Cd F hF ok) (hT:Ou X w0 T):(WF (P:=P) f call T ac Cd F hF ok hT).f=f:=rfl
theorem kc {X:Ctx} {w0:World} {A:Type} (f call) (T:World→Prop) (ac:ArgC A) (Cd F hF ok) (hT:Ou X w0 T) (t:Nat) (args:List SV) (H:Hp):(WF (P:=P) f call T ac Cd F hF ok hT).fn t args H=IU (lyA ac H args) Cd F:=rfl
end
end Go.Sy
