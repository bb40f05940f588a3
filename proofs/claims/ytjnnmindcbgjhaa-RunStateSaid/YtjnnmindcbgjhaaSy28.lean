/- Results up to the empty slice; codings by injections; a pointer read where it lies. No conditions but those in each statement. -/
import Derived.Test.YtjnnmindcbgjhaaSyC
set_option linter.unusedVariables false
set_option linter.unusedSimpArgs false
namespace Go.Sy
open Go Go.RowKit
def bQ:C→Bool
 | .v (.slice none 0 0)=>true
 |_=>false
def emS:C→Bool
 | .d (.sl _ [])=>true
 |_=>false
def leC (c d:C):Prop:=c=d∨(bQ c=true∧emS d=true)
def leL:List C→List C→Prop
 |[],[]=>True
 |c::l,d::m=>leC c d∧leL l m
 |_,_=>False
def leP:C ⊕ List C→C ⊕ List C→Prop
 | .inl c,.inl d=>leC c d
 | .inr l,.inr m=>leL l m
 |_,_=>False
def leT:List (C ⊕ List C)→List (C ⊕ List C)→Prop
 |[],[]=>True
 |p::l,q::m=>leP p q∧leT l m
 |_,_=>False
def leV:SV→SV→Prop
 | .one c,.one d=>leC c d
 | .agg l,.agg m=>leL l m
 | .tup l,.tup m=>leT l m
 |_,_=>False
theorem Sw (c:C):leC c c:=.inl rfl
theorem Fx (c:C):leC c c=True:=by simp[leC]
theorem H9 (z:List D):leC (.v (.slice none 0 0)) (.d (.sl z []))=True:=by simp[leC,bQ,emS]
theorem Sx:∀l:List C,leL l l
 |[]=>trivial
 |c::l=>⟨Sw c,Sx l⟩
theorem Sz:∀l:List (C ⊕ List C),leT l l
 |[]=>trivial
 | .inl c::l=>⟨Sw c,Sz l⟩
 | .inr c::l=>⟨Sx c,Sz l⟩
theorem Dp (v:SV):leV v v:=by
 cases v with
 |one c=>exact Sw c
 |agg l=>exact Sx l
 |tup l=>exact Sz l
theorem S7 {c:C} (h:bQ c=true):c= .v (.slice none 0 0):=by
 unfold bQ at h
 split at h
 ·rfl
 ·cases h
theorem MC {c:C} (h:emS c=true):∃z,c= .d (.sl z []):=by
 unfold emS at h
 split at h
 ·exact⟨_,rfl⟩
 ·cases h
section
variable {h:B5} {fz:Nat→Prop} {lab:Lab} {I:Nm} {H:Hp}
theorem bR {c d:C} (hl:leC c d) {x:Value} (r:SC h fz lab I H c x):SC h fz lab I H d x:=by
 rcases hl with rfl|⟨h1,h2⟩
 ·exact r
 ·obtain rfl:=S7 h1
  obtain⟨z,rfl⟩:=MC h2
  have r2:=r.2
  cases r2
  exact⟨rfl,.d _ _ _ (.nil z none 0 fun _=>rfl)⟩
theorem Zr:∀{l m:List C},leL l m→l.length=m.length∧∀(j:Nat) (d:C),m[j]?=some d→∃c,l[j]?=some c∧leC c d
 |[],[],_=>⟨rfl,by simp⟩
 |c::l,d::m,hl=>by
  obtain⟨h1,h2⟩:=Zr hl.2
  refine⟨by simp[h1],fun j e he=>?_⟩
  cases j with
  |zero=>simp only[List.getElem?_cons_zero,jS]at he;subst he;exact⟨c,rfl,hl.1⟩
  |succ j=>exact h2 j e (by simpa using he)
 |[],d::m,hl=>hl.elim
 |c::l,[],hl=>hl.elim
theorem lQ {l m:List C} (hl:leL l m) {arr:Array Value} (r:DD h fz lab I H l arr):DD h fz lab I H m arr:=by
 obtain⟨h1,h2⟩:=Zr hl
 refine⟨by rw[r.1,h1],fun j d hd=>?_⟩
 obtain⟨c,hc,hcd⟩:=h2 j d hd
 obtain⟨y,y1,y2⟩:=r.2 j c hc
 exact⟨y,y1,bR hcd y2⟩
theorem Zs:∀{l m:List (C ⊕ List C)},leT l m→l.length=m.length∧∀(j:Nat) (d:C ⊕ List C),m[j]?=some d→∃c,l[j]?=some c∧leP c d
 |[],[],_=>⟨rfl,by simp⟩
 |c::l,d::m,hl=>by
  obtain⟨h1,h2⟩:=Zs hl.2
  refine⟨by simp[h1],fun j e he=>?_⟩
  cases j with
  |zero=>simp only[List.getElem?_cons_zero,jS]at he;subst he;exact⟨c,rfl,hl.1⟩
  |succ j=>exact h2 j e (by simpa using he)
 |[],d::m,hl=>hl.elim
 |c::l,[],hl=>hl.elim
theorem UA {v v':SV} (hl:leV v v') {x:Value} (r:Ae h fz lab I H v x):Ae h fz lab I H v' x:=by
 cases v with
 |one c=>cases v' with
  |one d=>exact bR hl r
  |agg=>exact hl.elim
  |tup=>exact hl.elim
 |agg l=>cases v' with
  |one=>exact hl.elim
  |tup=>exact hl.elim
  |agg m=>obtain⟨arr,h1,h2⟩:=r;exact⟨arr,h1,lQ hl h2⟩
 |tup l=>cases v' with
  |one=>exact hl.elim
  |agg=>exact hl.elim
  |tup m=>
   obtain⟨arr,h1,h2,h3⟩:=r
   obtain⟨g1,g2⟩:=Zs hl
   refine⟨arr,h1,by rw[h2,g1],fun j p hp=>?_⟩
   obtain⟨q,hq,hqp⟩:=g2 j p hp
   obtain⟨y,y1,y2⟩:=h3 j q hq
   refine⟨y,y1,?_⟩
   cases q with
   |inl c=>cases p with
    |inl d=>exact bR hqp y2
    |inr=>exact hqp.elim
   |inr l=>cases p with
    |inl=>exact hqp.elim
    |inr m=>obtain⟨arr,e1,e2⟩:=y2;exact⟨arr,e1,lQ hqp e2⟩
end
theorem Xi {c d:C} (hl:leC c d):d.names=c.names:=by
 rcases hl with rfl|⟨h1,h2⟩
 ·rfl
 ·obtain rfl:=S7 h1;obtain⟨z,rfl⟩:=MC h2;rfl
theorem Xj:∀{l m:List C},leL l m→m.flatMap C.names=l.flatMap C.names
 |[],[],_=>rfl
 |c::l,d::m,hl=>by simp only[List.flatMap_cons,Xi hl.1,Xj hl.2]
 |[],d::m,hl=>hl.elim
 |c::l,[],hl=>hl.elim
theorem eb:∀{l m:List (C ⊕ List C)},leT l m→m.flatMap pNames=l.flatMap pNames
 |[],[],_=>rfl
 |p::l,q::m,hl=>by
  have h1:pNames q=pNames p:=by
   have h0:=hl.1
   cases p<;>cases q<;>first|exact h0.elim|exact Xi h0|exact Xj h0
  simp only[List.flatMap_cons,h1,eb hl.2]
 |[],d::m,hl=>hl.elim
 |c::l,[],hl=>hl.elim
theorem wj {v v':SV} (hl:leV v v'):v'.names=v.names:=by
 cases v<;>cases v'<;>first|exact hl.elim|exact Xi hl|exact Xj hl|exact eb hl
def bS (r:SV):St→List SV→Prop:=fun _ vs=>(Dj vs).names=[]∧leV (Dj vs) r
theorem wk (r:SV) (s:St) (vs:List SV):bS r s vs=((Dj vs).names=[]∧leV (Dj vs) r):=rfl
section
variable {P:Program}
theorem T1 {w:World} {fz:Nat→Prop} {r:SV} {en:Ending} {w':World} (h:Jn w fz (fun v=>leV v r) en w'):Jn w fz (fun v=>v=r) en w':=by
 obtain⟨v,x,fz',rfl,h1,h2,h3,h4,h5,h6,h7⟩:=h
 exact⟨r,x,fz',rfl,rfl,by rw[wj h1];exact h2,h3,h4,h5,UA h1 h6,h7⟩
theorem BZ {f:FuncId} {fn:Func} {c:Code} (hf:P.funcs[f]?=some fn) (hb:fn.body=some c) (w:World) (fz:Nat→Prop) (sp:List (Spec P (clX fz) w)) (g:Gh) {A:Type} (ac:ArgC A) (F:A→SV) (a:A) (xs:List Value) (hfz:∀b,fz b→b<w.heap.size) (hl:xs.length=(ac.e a).length)
  (hx:∀(j:Nat) (v:SV) (x:Value),(ac.e a)[j]?=some v→xs[j]?=some x→CD (hp w) fz v x) (hn:(ac.e a).length≤fn.ntmps)
  (h:vc (clX fz) w sp fn.ntmps g c ⟨IP 0 (ac.e a),[]⟩ (MW P (clX fz) fn.results.toList (bS (F a)))):Calls P f xs.toArray w (Jn w fz (fun v=>v=F a)):=
 (YY hf hb w fz sp g (ac.e a) (ac.n a) hfz xs hl hx (fun v=>leV v (F a)) hn h).mono fun _ _ h=>T1 h
theorem JI {f:FuncId} {fn:Func} {c:Code} (hf:P.funcs[f]?=some fn) (hb:fn.body=some c) (w:World) (fz:Nat→Prop) (sp:List (Spec P (clX fz) w)) (g:Gh) {A:Type} (ac:ArgH A) (F:A→SV) (a:A) (xs:List Value) (hfz:∀b,fz b→b<w.heap.size) (hl:xs.length=(ac.e a).length)
  (hx:∀(j:Nat) (v:SV) (x:Value),(ac.e a)[j]?=some v→xs[j]?=some x→CD (hp w) fz v x) (hn:(ac.e a).length≤fn.ntmps)
  (h:vc (clX fz) w sp fn.ntmps g c ⟨IP 0 (ac.e a),[]⟩ (MW P (clX fz) fn.results.toList (bS (F a)))):Calls P f xs.toArray w (Jn w fz (fun v=>v=F a)):=
 (YY hf hb w fz sp g (ac.e a) (ac.n a) hfz xs hl hx (fun v=>leV v (F a)) hn h).mono fun _ _ h=>T1 h
def UB (r:SV) (m':List (Option MV)):St→List SV→Prop:=fun s vs=>leV (Dj vs) r∧Kw (Dj vs)=true∧∀p∈memO 0 m',Jm (lkp s.h p.1) p.2∧K8 (memO 0 m') (chNames p.2)
theorem qG (r:SV) (m':List (Option MV)) (s:St) (vs:List SV):UB r m' s vs=(leV (Dj vs) r∧Kw (Dj vs)=true∧∀p∈memO 0 m',Jm (lkp s.h p.1) p.2∧K8 (memO 0 m') (chNames p.2)):=rfl
theorem An {f:FuncId} {fn:Func} {c:Code} (hf:P.funcs[f]?=some fn) (hb:fn.body=some c) (mem:List MV) (w:World) (M:Nat→Prop) (I:Nm) (lab:Lab) (fz:Nat→Prop) (sp:List (Spec P (mX M fz I mem.length) w)) (g:Gh) (args:List SV) (mem':List (Option MV)) (R:SV) (xs:List Value)
  (hA:AtW (mX M fz I mem.length) w I lab fz (lkp (Ey 0 mem)) w) (hlen:xs.length=args.length) (hx:∀(j:Nat) (v:SV) (x:Value),args[j]?=some v→xs[j]?=some x→Ae (hp w) fz lab I (lkp (Ey 0 mem)) v x)
  (hnm:∀v∈args,∀k∈v.names,k<mem.length) (hn:args.length≤fn.ntmps) (hl:mem.length≤mem'.length)
  (h:vc (mX M fz I mem.length) w sp fn.ntmps g c ⟨IP 0 args,Ey 0 mem⟩ (MW P (mX M fz I mem.length) fn.results.toList (UB R mem'))):Calls P f xs.toArray w (Ky w M fz I mem.length mem' R):=by
 refine calls_of_wp hf hb (Code.wp_mono ?_ (Ak sp g c _ _ h _ w ?_))
 ·rintro e a w' (⟨s,hq,hs⟩|⟨ch,rfl,_,_,I1,l1,f1,H1,_,hpn⟩)
  rotate_left
  ·exact hpn.elim
  have fin:MU P (mX M fz I mem.length) fn.results.toList (UB R mem') s→a.defers=[]∧∃v,(results fn a.tmps).run P w'= .ok v w'∧Ky w M fz I mem.length mem' R (Ending.returned v) w':=by
   rintro ⟨cs,s',vs,h1,h2,h3,h4,h5,h6⟩
   refine⟨hs.defers,?_⟩
   obtain⟨_,I',lab',fz',hA'⟩:=Fg h1 a w' hs
   obtain⟨x,x1,x2⟩:=JU hA' h2 h3
   refine⟨x,x1,x,I',lab',fz',rfl,Ps hA'.m h6 (fun p hp'=>?_),UA h4 (N8 h5 x2)⟩
   obtain⟨q1,q2,_⟩:=Hm hp'
   exact ON _ _ _ q1 (by omega)
  cases e with
  |normal=>exact fin hq
  |ret=>exact fin hq
  |_=>exact hq.elim
 ·refine⟨?_,I,lab,fz,?_,⟨rfl,fun p hp=>by cases hp⟩,?_,hA⟩
  ·intro t g v ht _ k hk
   rw[G3]at ht
   simp only[Nat.zero_le,if_true,Nat.sub_zero,Option.map_eq_some_iff,jP]at ht
   obtain⟨u,hu,rfl,rfl⟩:=ht
   have:=hnm u (List.mem_of_getElem? hu) k hk
   show (lkp (Ey 0 mem) k).isSome=true
   rw[Ey,Gk]
   simp[this]
  ·simp[hlen];omega
  ·intro t g v ht
   rw[G3]at ht
   simp only[Nat.zero_le,if_true,Nat.sub_zero,Option.map_eq_some_iff,jP]at ht
   obtain⟨u,hu,rfl,rfl⟩:=ht
   have hlt:t<args.length:=(List.getElem?_eq_some_iff.1 hu).1
   have hlt2:t<xs.length:=by omega
   refine⟨xs[t],?_,?_⟩
   ·rw[Array.getElem?_append_left (by simpa using hlt2)]
    simp[hlt2]
   ·simp only[if_true]
    exact hx t u _ hu (List.getElem?_eq_getElem hlt2)
end
open Classical in
noncomputable def Gn {A:Type} (e:A→SV) (uq:∀v a b,leV v (e a)→leV v (e b)→a=b) (n:∀a,(e a).names=[]):Cod A where
 d v:=if h:∃a,leV v (e a) then some h.choose else none
 e:=e
 h s x y hd r:=by
  split at hd
  ·rename_i h
   simp only[jS]at hd
   subst hd
   exact UA h.choose_spec r
  ·cases hd
 n:=n
open Classical in
theorem D9 {A:Type} {e:A→SV} {uq:∀v a b,leV v (e a)→leV v (e b)→a=b} {n:∀a,(e a).names=[]} {v:SV} {a:A} (h:leV v (e a)):(Gn e uq n).d v=some a:=by
 have hex:∃a,leV v (e a):=⟨a,h⟩
 show (if h:∃a,leV v (e a) then some h.choose else none)=some a
 rw[dif_pos hex]
 exact congrArg some (uq v _ _ hex.choose_spec h)
open Classical in
noncomputable def rowOf {A:Type} (z:List D) (e:A→List D) (uq:∀a b,e a=e b→a=b) (n:∀a,(e a).length=z.length):RowC A where
 z:=z
 d r:=if h:∃a,r=e a then some h.choose else none
 e:=e
 h r b hd:=by
  split at hd
  ·rename_i h
   simp only[jS]at hd
   subst hd
   exact h.choose_spec
  ·cases hd
 i b:=by
  have hex:∃a,e b=e a:=⟨b,rfl⟩
  rw[dif_pos hex]
  exact congrArg some (uq _ _ hex.choose_spec.symm)
 n:=n
open Classical in
noncomputable def MD {A:Type} (z:List C) (e:A→List C) (n:∀b,∀c∈e b,c.names=[]) (t:zT z=none:=by first|rfl|decide):RowM A where
 t:=t
 z:=z
 d r:=if h:∃a,r=e a then some h.choose else none
 e:=e
 h r b hd:=by
  split at hd
  ·rename_i h
   simp only[jS]at hd
   subst hd
   exact h.choose_spec
  ·cases hd
 n:=n
open Classical in
theorem Hc {A:Type} {z:List C} {e:A→List C} {n:∀b,∀c∈e b,c.names=[]} {t:zT z=none} (uq:∀a b,e a=e b→a=b) (a:A):(MD z e n t).d (e a)=some a:=by
 have hex:∃b,e a=e b:=⟨a,rfl⟩
 show (if h:∃b,e a=e b then some h.choose else none)=some a
 rw[dif_pos hex]
 exact congrArg some (uq _ _ hex.choose_spec.symm)
def ptR {B:Type} (c:RowC B) (H:Hp):SV→Option (B×List Nat)
 | .one (.p k 0 0)=>match H k with
  |some (.vec _ z [r])=>match Ew z,Ew r with
   |some _,some r'=>(c.d r').map fun b=>(b,[k])
   |_,_=>none
  |_=>none
 | .one (.d (.pt (some r)))=>(c.d r).map fun b=>(b,[])
 | .one (.dp r)=>(c.d r).map fun b=>(b,[])
 |_=>none
def cPt {B:Type} (c:RowC B):CodH B where
 d:=ptR c
 e b:=.one (.d (.pt (some (c.e b))))
 h:=fun {X w0 w I lab fz H} v a fp x hA h r=>by
  unfold ptR at h
  split at h
  ·rename_i k
   split at h
   ·rename_i u z r0 hk
    split at h
    ·rename_i z' r' hz hr
     simp only[Option.map_eq_some_iff,jP]at h
     obtain⟨b,hb,rfl,rfl⟩:=h
     obtain⟨lab',fz',h1,_,_,h4⟩:=Wq hA hk (es':=[r']) hz (by simp only[D3,hr])
     have h5:=h4 0 0 (by simp)
     have hx:=r.2
     cases hx
     simp only[List.getD_cons_zero,List.drop_zero]at h5
     rw[c.h _ _ hb]at h5
     exact⟨rfl,.d _ _ _ (EV (fun b hb=>⟨(h1.fzl b hb).1,rfl⟩) h5)⟩
    ·cases h
   ·cases h
  ·simp only[Option.map_eq_some_iff,jP]at h
   obtain⟨b,hb,rfl,rfl⟩:=h
   have hx:=r.2
   cases hx with|d _ _ _ r=>?_
   rw[c.h _ _ hb]at r
   exact⟨rfl,.d _ _ _ (EV (fun b hb=>⟨(hA.fzl b hb).1,rfl⟩) r)⟩
  ·simp only[Option.map_eq_some_iff,jP]at h
   obtain⟨b,hb,rfl,rfl⟩:=h
   have hx:=r.2
   cases hx with|dp _ _ _ r=>?_
   rw[c.h _ _ hb]at r
   exact⟨rfl,.d _ _ _ (EV (fun b hb=>⟨(hA.fzl b hb).1,rfl⟩) r)⟩
  ·cases h
 n a:=rfl
 l H H' v a fp h hf:=by
  unfold ptR at*
  split at h
  ·rename_i k
   split at h
   ·rename_i u z r0 hk
    have hfp:k∈fp:=by
     split at h
     ·simp only[Option.map_eq_some_iff,jP]at h
      obtain⟨_,_,_,rfl⟩:=h;simp
     ·cases h
    simp only[hf k hfp,hk]
    exact h
   ·cases h
  ·exact h
  ·exact h
  ·cases h
theorem Ad {B:Type} (c:RowC B) (H:Hp) (v:SV):(cPt c).d H v=ptR c H v:=rfl
theorem lR {B:Type} (c:RowC B) (b:B):(cPt c).e b= .one (.d (.pt (some (c.e b)))):=rfl
theorem wl:Dn (C.any)=true:=rfl
theorem A6i (x:Value):Dn (C.v x)=true:=rfl
theorem A6j (k i j:Nat):Dn (C.p k i j)=true:=rfl
theorem A6k (k:Nat):Dn (C.s k)=true:=rfl
theorem A6l (x:D):Dn (C.d x)=true:=rfl
theorem A1v (z:List D) (es:List (List D)):Dn (C.df z es)=true:=rfl
theorem A1w (cs:List D):Dn (C.dp cs)=true:=rfl
theorem A1x (f:FuncId) (caps:List C):Dn (C.fn f caps)=true:=rfl
theorem A1y (k u:Nat) (p:List (Nat×Nat)):Dn (C.vw k u p)=false:=rfl
theorem A6m (k u:Nat) (p:List (Nat×Nat)) (s m o:Nat):Dn (C.q k u p s m o)=false:=rfl
theorem A1z (z:List C) (es:List (List C)):Dn (C.ov z es)=true:=rfl
theorem wm:C.stor (C.any)=true:=rfl
theorem A6n (x:Value):C.stor (C.v x)=true:=rfl
theorem A6o (k i j:Nat):C.stor (C.p k i j)=true:=rfl
theorem A6p (k:Nat):C.stor (C.s k)=true:=rfl
theorem A6q (x:D):C.stor (C.d x)=true:=rfl
theorem A20 (z:List D) (es:List (List D)):C.stor (C.df z es)=true:=rfl
theorem A21 (cs:List D):C.stor (C.dp cs)=true:=rfl
theorem A22 (f:FuncId) (caps:List C):C.stor (C.fn f caps)=true:=rfl
theorem A23 (k u:Nat) (p:List (Nat×Nat)):C.stor (C.vw k u p)=false:=rfl
theorem A6r (k u:Nat) (p:List (Nat×Nat)) (s m o:Nat):C.stor (C.q k u p s m o)=false:=rfl
theorem A24 (z:List C) (es:List (List C)):C.stor (C.ov z es)=false:=rfl
theorem wn:C.names (C.any)=[]:=rfl
theorem A6s (x:Value):C.names (C.v x)=[]:=rfl
theorem A6t (k i j:Nat):C.names (C.p k i j)=[k]:=rfl
theorem A6u (k:Nat):C.names (C.s k)=[k]:=rfl
theorem A6v (x:D):C.names (C.d x)=[]:=rfl
theorem A25 (z:List D) (es:List (List D)):C.names (C.df z es)=[]:=rfl
theorem A26 (cs:List D):C.names (C.dp cs)=[]:=rfl
theorem A27 (f:FuncId) (caps:List C):C.names (C.fn f caps)=caps.flatMap capN:=rfl
theorem A28 (k u:Nat) (p:List (Nat×Nat)):C.names (C.vw k u p)=[k]:=rfl
theorem A6w (k u:Nat) (p:List (Nat×Nat)) (s m o:Nat):C.names (C.q k u p s m o)=[k]:=rfl
theorem A29 (z:List C) (es:List (List C)):C.names (C.ov z es)=[]:=rfl
theorem wo (g:Nat→Nat):Ez g (C.any)= .any:=rfl
theorem A6x (g:Nat→Nat) (x:Value):Ez g (C.v x)= .v x:=rfl
theorem A6y (g:Nat→Nat) (k i j:Nat):Ez g (C.p k i j)= .p (g k) i j:=rfl
theorem A6z (g:Nat→Nat) (k:Nat):Ez g (C.s k)= .s (g k):=rfl
theorem A70 (g:Nat→Nat) (x:D):Ez g (C.d x)= .d x:=rfl
theorem A2A (g:Nat→Nat) (z:List D) (es:List (List D)):Ez g (C.df z es)= .df z es:=rfl
theorem A2B (g:Nat→Nat) (cs:List D):Ez g (C.dp cs)= .dp cs:=rfl
theorem A2C (g:Nat→Nat) (f:FuncId) (caps:List C):Ez g (C.fn f caps)= .any:=rfl
theorem A2D (g:Nat→Nat) (k u:Nat) (p:List (Nat×Nat)):Ez g (C.vw k u p)= .any:=rfl
theorem A71 (g:Nat→Nat) (k u:Nat) (p:List (Nat×Nat)) (s m o:Nat):Ez g (C.q k u p s m o)= .any:=rfl
theorem A2E (g:Nat→Nat) (z:List C) (es:List (List C)):Ez g (C.ov z es)= .any:=rfl
theorem wr (n:Nat) (zz:List D) (ee:List (List D)):fzC n zz ee (C.any)=(C.any):=rfl
theorem A72 (n:Nat) (zz:List D) (ee:List (List D)) (x:Value):fzC n zz ee (C.v x)=(C.v x):=rfl
theorem A73 (n:Nat) (zz:List D) (ee:List (List D)) (k i j:Nat):fzC n zz ee (C.p k i j)=if k=n then (if i<ee.length then .d (.pt (some ((ee.getD i zz).drop j))) else .any) else .p k i j:=rfl
theorem A74 (n:Nat) (zz:List D) (ee:List (List D)) (k:Nat):fzC n zz ee (C.s k)=if k=n then .d (.sl zz ee) else .s k:=rfl
theorem A75 (n:Nat) (zz:List D) (ee:List (List D)) (x:D):fzC n zz ee (C.d x)=(C.d x):=rfl
theorem A2F (n:Nat) (zz:List D) (ee:List (List D)) (z:List D) (es:List (List D)):fzC n zz ee (C.df z es)=(C.df z es):=rfl
theorem A2G (n:Nat) (zz:List D) (ee:List (List D)) (cs:List D):fzC n zz ee (C.dp cs)=(C.dp cs):=rfl
theorem A2H (n:Nat) (zz:List D) (ee:List (List D)) (f:FuncId) (caps:List C):fzC n zz ee (C.fn f caps)=if (caps.flatMap capN).contains n=true then .any else .fn f caps:=rfl
theorem A2I (n:Nat) (zz:List D) (ee:List (List D)) (k u:Nat) (p:List (Nat×Nat)):fzC n zz ee (C.vw k u p)=if k=n then .any else .vw k u p:=rfl
theorem A76 (n:Nat) (zz:List D) (ee:List (List D)) (k u:Nat) (p:List (Nat×Nat)) (s m o:Nat):fzC n zz ee (C.q k u p s m o)=if k=n then .any else .q k u p s m o:=rfl
theorem A2J (n:Nat) (zz:List D) (ee:List (List D)) (z:List C) (es:List (List C)):fzC n zz ee (C.ov z es)=(C.ov z es):=rfl
theorem ws (n t:Nat):mvC n t (C.any)=(C.any):=rfl
theorem A77 (n t:Nat) (x:Value):mvC n t (C.v x)=(C.v x):=rfl
theorem A78 (n t:Nat) (k i j:Nat):mvC n t (C.p k i j)=if k=n then .p t i j else .p k i j:=rfl
theorem A79 (n t:Nat) (k:Nat):mvC n t (C.s k)=if k=n then .s t else .s k:=rfl
theorem A7A (n t:Nat) (x:D):mvC n t (C.d x)=(C.d x):=rfl
theorem A2K (n t:Nat) (z:List D) (es:List (List D)):mvC n t (C.df z es)=(C.df z es):=rfl
theorem A2L (n t:Nat) (cs:List D):mvC n t (C.dp cs)=(C.dp cs):=rfl
theorem A2M (n t:Nat) (f:FuncId) (caps:List C):mvC n t (C.fn f caps)=if (caps.flatMap capN).contains n=true then .any else .fn f caps:=rfl
theorem A2N (n t:Nat) (k u:Nat) (p:List (Nat×Nat)):mvC n t (C.vw k u p)=if k=n then .any else .vw k u p:=rfl
theorem A7B (n t:Nat) (k u:Nat) (p:List (Nat×Nat)) (s m o:Nat):mvC n t (C.q k u p s m o)=if k=n then .any else .q k u p s m o:=rfl
theorem A2O (n t:Nat) (z:List C) (es:List (List C)):mvC n t (C.ov z es)=(C.ov z es):=rfl
theorem A7C (x:Value):oD (.v x)= .v x:=rfl
theorem A2P (z:List D) (es:List (List D)):oD (.sl z es)= .d (.sl z es):=rfl
theorem A2Q (o:Option (List D)):oD (.pt o)= .d (.pt o):=rfl
theorem A2R (es:List (List UInt8×Value)):oD (.mp es)= .d (.mp es):=rfl
theorem wt (n:Nat) (ee:List (List UInt8×Value)):HF n ee C.any=C.any:=rfl
theorem A7D (n:Nat) (ee:List (List UInt8×Value)) (x:Value):HF n ee (C.v x)=C.v x:=rfl
theorem A7E (n:Nat) (ee:List (List UInt8×Value)) (k i j:Nat):HF n ee (C.p k i j)=if k=n then .any else .p k i j:=rfl
theorem A7F (n:Nat) (ee:List (List UInt8×Value)) (k:Nat):HF n ee (C.s k)=if k=n then .d (.mp ee) else .s k:=rfl
theorem A7G (n:Nat) (ee:List (List UInt8×Value)) (x:D):HF n ee (C.d x)=C.d x:=rfl
theorem A2S (n:Nat) (ee:List (List UInt8×Value)) (z:List D) (es:List (List D)):HF n ee (C.df z es)=C.df z es:=rfl
theorem A2T (n:Nat) (ee:List (List UInt8×Value)) (cs:List D):HF n ee (C.dp cs)=C.dp cs:=rfl
theorem A2U (n:Nat) (ee:List (List UInt8×Value)) (f:FuncId) (caps:List C):HF n ee (C.fn f caps)=if (caps.flatMap capN).contains n=true then .any else .fn f caps:=rfl
theorem A2V (n:Nat) (ee:List (List UInt8×Value)) (z:List C) (es:List (List C)):HF n ee (C.ov z es)=C.ov z es:=rfl
theorem A7H:Kr (.v (.pointer none))=some true:=rfl
theorem A7I (a:Addr):Kr (.v (.pointer (some a)))=some false:=rfl
theorem A2W:Kr (.d (.pt none))=some true:=rfl
theorem A7J (l:List D):Kr (.d (.pt (some l)))=some false:=rfl
theorem A2X (l:List D):Kr (.dp l)=some false:=rfl
theorem A2Y (k i j:Nat):Kr (.p k i j)=none:=rfl
theorem A7K (k:Nat):Kr (.s k)=none:=rfl
theorem wu:Kr .any=none:=rfl
theorem wv:clC (C.any)=none:=rfl
theorem A7L (x:Value):clC (C.v x)=some x:=rfl
theorem A7M (k i j:Nat):clC (C.p k i j)=none:=rfl
theorem A7N (k:Nat):clC (C.s k)=none:=rfl
theorem A7O (x:D):clC (C.d x)=none:=rfl
theorem A2Z (z:List D) (es:List (List D)):clC (C.df z es)=none:=rfl
theorem A2a (cs:List D):clC (C.dp cs)=none:=rfl
theorem A2b (f:FuncId) (caps:List C):clC (C.fn f caps)=none:=rfl
theorem A2c (k u:Nat) (p:List (Nat×Nat)):clC (C.vw k u p)=none:=rfl
theorem A7P (k u:Nat) (p:List (Nat×Nat)) (s m o:Nat):clC (C.q k u p s m o)=none:=rfl
theorem A2d (z:List C) (es:List (List C)):clC (C.ov z es)=none:=rfl
end Go.Sy
