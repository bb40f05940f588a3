/- Results up to the empty slice; codings by injections; a pointer read where it lies. No conditions but those in each statement. -/
import Derived.Test.YtjnnmindcbgjhaaSyC
set_option linter.unusedVariables false
set_option linter.unusedSimpArgs false
namespace Go.Sy
open Go Go.RowKit
def ZG:C→Bool
 | .v (.slice none 0 0)=>true
 |_=>false
def emS:C→Bool
 | .d (.sl _ [])=>true
 |_=>false
def leC (c d:C):Prop:=c=d∨(ZG c=true∧emS d=true)
def leL:List C→List C→Prop
 |[],[]=>True
 |c::l,d::m=>leC c d∧leL l m
 |_,_=>False
def leP:C ⊕ List C→C ⊕ List C→Prop
 | .inl c,.inl d=>leC c d
 | .inr l,.inr m=>leL l m
 |_,_=>False
def leT:List (C ⊕ List C)→List (C ⊕ List C)→Prop
 |[],[]=>True
 |p::l,q::m=>leP p q∧leT l m
 |_,_=>False
def leV:SV→SV→Prop
 | .one c,.one d=>leC c d
 | .agg l,.agg m=>leL l m
 | .tup l,.tup m=>leT l m
 |_,_=>False
theorem RP (c:C):leC c c:=.inl rfl
theorem FQ (c:C):leC c c=True:=by simp[leC]
theorem GP (z:List D):leC (.v (.slice none 0 0)) (.d (.sl z []))=True:=by simp[leC,ZG,emS]
theorem RQ:∀l:List C,leL l l
 |[]=>trivial
 |c::l=>⟨RP c,RQ l⟩
theorem RR:∀l:List (C ⊕ List C),leT l l
 |[]=>trivial
 | .inl c::l=>⟨RP c,RR l⟩
 | .inr c::l=>⟨RQ c,RR l⟩
theorem EV (v:SV):leV v v:=by
 cases v with
 |one c=>exact RP c
 |agg l=>exact RQ l
 |tup l=>exact RR l
theorem Tn {c:C} (h:ZG c=true):c= .v (.slice none 0 0):=by
 unfold ZG at h
 split at h
 ·rfl
 ·cases h
theorem Ob {c:C} (h:emS c=true):∃z,c= .d (.sl z []):=by
 unfold emS at h
 split at h
 ·exact⟨_,rfl⟩
 ·cases h
section
variable {h:Ay} {fz:Nat→Prop} {lab:Lab} {I:Nm} {H:Hp}
theorem ZH {c d:C} (hl:leC c d) {x:Value} (r:SC h fz lab I H c x):SC h fz lab I H d x:=by
 rcases hl with rfl|⟨h1,h2⟩
 ·exact r
 ·obtain rfl:=Tn h1
  obtain⟨z,rfl⟩:=Ob h2
  have r2:=r.2
  cases r2
  exact⟨rfl,.d _ _ _ (.nil z none 0 fun _=>rfl)⟩
theorem YI:∀{l m:List C},leL l m→l.length=m.length∧∀(j:Nat) (d:C),m[j]?=some d→∃c,l[j]?=some c∧leC c d
 |[],[],_=>⟨rfl,by simp⟩
 |c::l,d::m,hl=>by
  obtain⟨h1,h2⟩:=YI hl.2
  refine⟨by simp[h1],fun j e he=>?_⟩
  cases j with
  |zero=>simp only[List.getElem?_cons_zero,jS]at he;subst he;exact⟨c,rfl,hl.1⟩
  |succ j=>exact h2 j e (by simpa using he)
 |[],d::m,hl=>hl.elim
 |c::l,[],hl=>hl.elim
theorem iu {l m:List C} (hl:leL l m) {arr:Array Value} (r:D6 h fz lab I H l arr):D6 h fz lab I H m arr:=by
 obtain⟨h1,h2⟩:=YI hl
 refine⟨by rw[r.1,h1],fun j d hd=>?_⟩
 obtain⟨c,hc,hcd⟩:=h2 j d hd
 obtain⟨y,y1,y2⟩:=r.2 j c hc
 exact⟨y,y1,ZH hcd y2⟩
theorem YJ:∀{l m:List (C ⊕ List C)},leT l m→l.length=m.length∧∀(j:Nat) (d:C ⊕ List C),m[j]?=some d→∃c,l[j]?=some c∧leP c d
 |[],[],_=>⟨rfl,by simp⟩
 |c::l,d::m,hl=>by
  obtain⟨h1,h2⟩:=YJ hl.2
  refine⟨by simp[h1],fun j e he=>?_⟩
  cases j with
  |zero=>simp only[List.getElem?_cons_zero,jS]at he;subst he;exact⟨c,rfl,hl.1⟩
  |succ j=>exact h2 j e (by simpa using he)
 |[],d::m,hl=>hl.elim
 |c::l,[],hl=>hl.elim
theorem Sk {v v':SV} (hl:leV v v') {x:Value} (r:Ab h fz lab I H v x):Ab h fz lab I H v' x:=by
 cases v with
 |one c=>cases v' with
  |one d=>exact ZH hl r
  |agg=>exact hl.elim
  |tup=>exact hl.elim
 |agg l=>cases v' with
  |one=>exact hl.elim
  |tup=>exact hl.elim
  |agg m=>obtain⟨arr,h1,h2⟩:=r;exact⟨arr,h1,iu hl h2⟩
 |tup l=>cases v' with
  |one=>exact hl.elim
  |agg=>exact hl.elim
  |tup m=>
   obtain⟨arr,h1,h2,h3⟩:=r
   obtain⟨g1,g2⟩:=YJ hl
   refine⟨arr,h1,by rw[h2,g1],fun j p hp=>?_⟩
   obtain⟨q,hq,hqp⟩:=g2 j p hp
   obtain⟨y,y1,y2⟩:=h3 j q hq
   refine⟨y,y1,?_⟩
   cases q with
   |inl c=>cases p with
    |inl d=>exact ZH hqp y2
    |inr=>exact hqp.elim
   |inr l=>cases p with
    |inl=>exact hqp.elim
    |inr m=>obtain⟨arr,e1,e2⟩:=y2;exact⟨arr,e1,iu hqp e2⟩
end
theorem W9 {c d:C} (hl:leC c d):d.names=c.names:=by
 rcases hl with rfl|⟨h1,h2⟩
 ·rfl
 ·obtain rfl:=Tn h1;obtain⟨z,rfl⟩:=Ob h2;rfl
theorem WA:∀{l m:List C},leL l m→m.flatMap C.names=l.flatMap C.names
 |[],[],_=>rfl
 |c::l,d::m,hl=>by simp only[List.flatMap_cons,W9 hl.1,WA hl.2]
 |[],d::m,hl=>hl.elim
 |c::l,[],hl=>hl.elim
theorem cF:∀{l m:List (C ⊕ List C)},leT l m→m.flatMap pNames=l.flatMap pNames
 |[],[],_=>rfl
 |p::l,q::m,hl=>by
  have h1:pNames q=pNames p:=by
   have h0:=hl.1
   cases p<;>cases q<;>first|exact h0.elim|exact W9 h0|exact WA h0
  simp only[List.flatMap_cons,h1,cF hl.2]
 |[],d::m,hl=>hl.elim
 |c::l,[],hl=>hl.elim
theorem u7 {v v':SV} (hl:leV v v'):v'.names=v.names:=by
 cases v<;>cases v'<;>first|exact hl.elim|exact W9 hl|exact WA hl|exact cF hl
def ZI (r:SV):St→List SV→Prop:=fun _ vs=>(Dc vs).names=[]∧leV (Dc vs) r
theorem u9 (r:SV) (s:St) (vs:List SV):ZI r s vs=((Dc vs).names=[]∧leV (Dc vs) r):=rfl
section
variable {P:Program}
theorem RT {w:World} {fz:Nat→Prop} {r:SV} {en:Ending} {w':World} (h:Im w fz (fun v=>leV v r) en w'):Im w fz (fun v=>v=r) en w':=by
 obtain⟨v,x,fz',rfl,h1,h2,h3,h4,h5,h6,h7⟩:=h
 exact⟨r,x,fz',rfl,rfl,by rw[u7 h1];exact h2,h3,h4,h5,Sk h1 h6,h7⟩
theorem Bw {f:FuncId} {fn:Func} {c:Code} (hf:P.funcs[f]?=some fn) (hb:fn.body=some c) (w:World) (fz:Nat→Prop) (sp:List (Spec P (clX fz) w)) (g:Gh) {A:Type} (ac:ArgC A) (F:A→SV) (a:A) (xs:List Value) (hfz:∀b,fz b→b<w.heap.size) (hl:xs.length=(ac.e a).length)
  (hx:∀(j:Nat) (v:SV) (x:Value),(ac.e a)[j]?=some v→xs[j]?=some x→CD (hp w) fz v x) (hn:(ac.e a).length≤fn.ntmps)
  (h:vc (clX fz) w sp fn.ntmps g c ⟨H4 0 (ac.e a),[]⟩ (L3 P (clX fz) fn.results.toList (ZI (F a)))):Calls P f xs.toArray w (Im w fz (fun v=>v=F a)):=
 (Rq hf hb w fz sp g (ac.e a) (ac.n a) hfz xs hl hx (fun v=>leV v (F a)) hn h).mono fun _ _ h=>RT h
theorem IW {f:FuncId} {fn:Func} {c:Code} (hf:P.funcs[f]?=some fn) (hb:fn.body=some c) (w:World) (fz:Nat→Prop) (sp:List (Spec P (clX fz) w)) (g:Gh) {A:Type} (ac:ArgH A) (F:A→SV) (a:A) (xs:List Value) (hfz:∀b,fz b→b<w.heap.size) (hl:xs.length=(ac.e a).length)
  (hx:∀(j:Nat) (v:SV) (x:Value),(ac.e a)[j]?=some v→xs[j]?=some x→CD (hp w) fz v x) (hn:(ac.e a).length≤fn.ntmps)
  (h:vc (clX fz) w sp fn.ntmps g c ⟨H4 0 (ac.e a),[]⟩ (L3 P (clX fz) fn.results.toList (ZI (F a)))):Calls P f xs.toArray w (Im w fz (fun v=>v=F a)):=
 (Rq hf hb w fz sp g (ac.e a) (ac.n a) hfz xs hl hx (fun v=>leV v (F a)) hn h).mono fun _ _ h=>RT h
def Sl (r:SV) (m':List (Option MV)):St→List SV→Prop:=fun s vs=>leV (Dc vs) r∧K8 (Dc vs)=true∧∀p∈memO 0 m',J6 (lkp s.h p.1) p.2∧JQ (memO 0 m') (chNames p.2)
theorem mq (r:SV) (m':List (Option MV)) (s:St) (vs:List SV):Sl r m' s vs=(leV (Dc vs) r∧K8 (Dc vs)=true∧∀p∈memO 0 m',J6 (lkp s.h p.1) p.2∧JQ (memO 0 m') (chNames p.2)):=rfl
theorem BQ {f:FuncId} {fn:Func} {c:Code} (hf:P.funcs[f]?=some fn) (hb:fn.body=some c) (mem:List MV) (w:World) (M:Nat→Prop) (I:Nm) (lab:Lab) (fz:Nat→Prop) (sp:List (Spec P (mX M fz I mem.length) w)) (g:Gh) (args:List SV) (mem':List (Option MV)) (R:SV) (xs:List Value)
  (hA:AtW (mX M fz I mem.length) w I lab fz (lkp (Eh 0 mem)) w) (hlen:xs.length=args.length) (hx:∀(j:Nat) (v:SV) (x:Value),args[j]?=some v→xs[j]?=some x→Ab (hp w) fz lab I (lkp (Eh 0 mem)) v x)
  (hnm:∀v∈args,∀k∈v.names,k<mem.length) (hn:args.length≤fn.ntmps) (hl:mem.length≤mem'.length)
  (h:vc (mX M fz I mem.length) w sp fn.ntmps g c ⟨H4 0 args,Eh 0 mem⟩ (L3 P (mX M fz I mem.length) fn.results.toList (Sl R mem'))):Calls P f xs.toArray w (KA w M fz I mem.length mem' R):=by
 refine calls_of_wp hf hb (Code.wp_mono ?_ (Aq sp g c _ _ h _ w ?_))
 ·rintro e a w' (⟨s,hq,hs⟩|⟨ch,rfl,_,_,I1,l1,f1,H1,_,hpn⟩)
  rotate_left
  ·exact hpn.elim
  have fin:Lb P (mX M fz I mem.length) fn.results.toList (Sl R mem') s→a.defers=[]∧∃v,(results fn a.tmps).run P w'= .ok v w'∧KA w M fz I mem.length mem' R (Ending.returned v) w':=by
   rintro ⟨cs,s',vs,h1,h2,h3,h4,h5,h6⟩
   refine⟨hs.defers,?_⟩
   obtain⟨_,I',lab',fz',hA'⟩:=FH h1 a w' hs
   obtain⟨x,x1,x2⟩:=Il hA' h2 h3
   refine⟨x,x1,x,I',lab',fz',rfl,Oq hA'.m h6 (fun p hp'=>?_),Sk h4 (MI h5 x2)⟩
   obtain⟨q1,q2,_⟩:=H5 hp'
   exact NR _ _ _ q1 (by omega)
  cases e with
  |normal=>exact fin hq
  |ret=>exact fin hq
  |_=>exact hq.elim
 ·refine⟨?_,I,lab,fz,?_,⟨rfl,fun p hp=>by cases hp⟩,?_,hA⟩
  ·intro t g v ht _ k hk
   rw[FW]at ht
   simp only[Nat.zero_le,if_true,Nat.sub_zero,Option.map_eq_some_iff,jP]at ht
   obtain⟨u,hu,rfl,rfl⟩:=ht
   have:=hnm u (List.mem_of_getElem? hu) k hk
   show (lkp (Eh 0 mem) k).isSome=true
   rw[Eh,GE]
   simp[this]
  ·simp[hlen];omega
  ·intro t g v ht
   rw[FW]at ht
   simp only[Nat.zero_le,if_true,Nat.sub_zero,Option.map_eq_some_iff,jP]at ht
   obtain⟨u,hu,rfl,rfl⟩:=ht
   have hlt:t<args.length:=(List.getElem?_eq_some_iff.1 hu).1
   have hlt2:t<xs.length:=by omega
   refine⟨xs[t],?_,?_⟩
   ·rw[Array.getElem?_append_left (by simpa using hlt2)]
    simp[hlt2]
   ·simp only[if_true]
    exact hx t u _ hu (List.getElem?_eq_getElem hlt2)
end
open Classical in
noncomputable def Hk {A:Type} (e:A→SV) (uq:∀v a b,leV v (e a)→leV v (e b)→a=b) (n:∀a,(e a).names=[]):Cod A where
 d v:=if h:∃a,leV v (e a) then some h.choose else none
 e:=e
 h s x y hd r:=by
  split at hd
  ·rename_i h
   simp only[jS]at hd
   subst hd
   exact Sk h.choose_spec r
  ·cases hd
 n:=n
open Classical in
theorem E9 {A:Type} {e:A→SV} {uq:∀v a b,leV v (e a)→leV v (e b)→a=b} {n:∀a,(e a).names=[]} {v:SV} {a:A} (h:leV v (e a)):(Hk e uq n).d v=some a:=by
 have hex:∃a,leV v (e a):=⟨a,h⟩
 show (if h:∃a,leV v (e a) then some h.choose else none)=some a
 rw[dif_pos hex]
 exact congrArg some (uq v _ _ hex.choose_spec h)
open Classical in
noncomputable def rowOf {A:Type} (z:List D) (e:A→List D) (uq:∀a b,e a=e b→a=b) (n:∀a,(e a).length=z.length):RowC A where
 z:=z
 d r:=if h:∃a,r=e a then some h.choose else none
 e:=e
 h r b hd:=by
  split at hd
  ·rename_i h
   simp only[jS]at hd
   subst hd
   exact h.choose_spec
  ·cases hd
 i b:=by
  have hex:∃a,e b=e a:=⟨b,rfl⟩
  rw[dif_pos hex]
  exact congrArg some (uq _ _ hex.choose_spec.symm)
 n:=n
open Classical in
noncomputable def Mv {A:Type} (z:List C) (e:A→List C) (n:∀b,∀c∈e b,c.names=[]) (t:zT z=none:=by first|rfl|decide):RowM A where
 t:=t
 z:=z
 d r:=if h:∃a,r=e a then some h.choose else none
 e:=e
 h r b hd:=by
  split at hd
  ·rename_i h
   simp only[jS]at hd
   subst hd
   exact h.choose_spec
  ·cases hd
 n:=n
open Classical in
theorem Kv {A:Type} {z:List C} {e:A→List C} {n:∀b,∀c∈e b,c.names=[]} {t:zT z=none} (uq:∀a b,e a=e b→a=b) (a:A):(Mv z e n t).d (e a)=some a:=by
 have hex:∃b,e a=e b:=⟨a,rfl⟩
 show (if h:∃b,e a=e b then some h.choose else none)=some a
 rw[dif_pos hex]
 exact congrArg some (uq _ _ hex.choose_spec.symm)
def ptR {B:Type} (c:RowC B) (H:Hp):SV→Option (B×List Nat)
 | .one (.p k 0 0)=>match H k with
  |some (.vec _ z [r])=>match Eg z,Eg r with
   |some _,some r'=>(c.d r').map fun b=>(b,[k])
   |_,_=>none
  |_=>none
 | .one (.d (.pt (some r)))=>(c.d r).map fun b=>(b,[])
 | .one (.dp r)=>(c.d r).map fun b=>(b,[])
 |_=>none
def cPt {B:Type} (c:RowC B):CodH B where
 d:=ptR c
 e b:=.one (.d (.pt (some (c.e b))))
 h:=fun {X w0 w I lab fz H} v a fp x hA h r=>by
  unfold ptR at h
  split at h
  ·rename_i k
   split at h
   ·rename_i u z r0 hk
    split at h
    ·rename_i z' r' hz hr
     simp only[Option.map_eq_some_iff,jP]at h
     obtain⟨b,hb,rfl,rfl⟩:=h
     obtain⟨lab',fz',h1,_,_,h4⟩:=VF hA hk (es':=[r']) hz (by simp only[D7,hr])
     have h5:=h4 0 0 (by simp)
     have hx:=r.2
     cases hx
     simp only[List.getD_cons_zero,List.drop_zero]at h5
     rw[c.h _ _ hb]at h5
     exact⟨rfl,.d _ _ _ (EJ (fun b hb=>⟨(h1.fzl b hb).1,rfl⟩) h5)⟩
    ·cases h
   ·cases h
  ·simp only[Option.map_eq_some_iff,jP]at h
   obtain⟨b,hb,rfl,rfl⟩:=h
   have hx:=r.2
   cases hx with|d _ _ _ r=>?_
   rw[c.h _ _ hb]at r
   exact⟨rfl,.d _ _ _ (EJ (fun b hb=>⟨(hA.fzl b hb).1,rfl⟩) r)⟩
  ·simp only[Option.map_eq_some_iff,jP]at h
   obtain⟨b,hb,rfl,rfl⟩:=h
   have hx:=r.2
   cases hx with|dp _ _ _ r=>?_
   rw[c.h _ _ hb]at r
   exact⟨rfl,.d _ _ _ (EJ (fun b hb=>⟨(hA.fzl b hb).1,rfl⟩) r)⟩
  ·cases h
 n a:=rfl
 l H H' v a fp h hf:=by
  unfold ptR at*
  split at h
  ·rename_i k
   split at h
   ·rename_i u z r0 hk
    have hfp:k∈fp:=by
     split at h
     ·simp only[Option.map_eq_some_iff,jP]at h
      obtain⟨_,_,_,rfl⟩:=h;simp
     ·cases h
    simp only[hf k hfp,hk]
    exact h
   ·cases h
  ·exact h
  ·exact h
  ·cases h
theorem Aa {B:Type} (c:RowC B) (H:Hp) (v:SV):(cPt c).d H v=ptR c H v:=rfl
theorem iv {B:Type} (c:RowC B) (b:B):(cPt c).e b= .one (.d (.pt (some (c.e b)))):=rfl
theorem uA:De (C.any)=true:=rfl
theorem A4Z (x:Value):De (C.v x)=true:=rfl
theorem A4a (k i j:Nat):De (C.p k i j)=true:=rfl
theorem A4b (k:Nat):De (C.s k)=true:=rfl
theorem A4c (x:D):De (C.d x)=true:=rfl
theorem zg (z:List D) (es:List (List D)):De (C.df z es)=true:=rfl
theorem zh (cs:List D):De (C.dp cs)=true:=rfl
theorem zi (f:FuncId) (caps:List C):De (C.fn f caps)=true:=rfl
theorem zj (k u:Nat) (p:List (Nat×Nat)):De (C.vw k u p)=false:=rfl
theorem A4d (k u:Nat) (p:List (Nat×Nat)) (s m o:Nat):De (C.q k u p s m o)=false:=rfl
theorem zk (z:List C) (es:List (List C)):De (C.ov z es)=true:=rfl
theorem uB:C.stor (C.any)=true:=rfl
theorem A4e (x:Value):C.stor (C.v x)=true:=rfl
theorem A4f (k i j:Nat):C.stor (C.p k i j)=true:=rfl
theorem A4g (k:Nat):C.stor (C.s k)=true:=rfl
theorem A4h (x:D):C.stor (C.d x)=true:=rfl
theorem zl (z:List D) (es:List (List D)):C.stor (C.df z es)=true:=rfl
theorem zm (cs:List D):C.stor (C.dp cs)=true:=rfl
theorem zo (f:FuncId) (caps:List C):C.stor (C.fn f caps)=true:=rfl
theorem zp (k u:Nat) (p:List (Nat×Nat)):C.stor (C.vw k u p)=false:=rfl
theorem A4i (k u:Nat) (p:List (Nat×Nat)) (s m o:Nat):C.stor (C.q k u p s m o)=false:=rfl
theorem zq (z:List C) (es:List (List C)):C.stor (C.ov z es)=false:=rfl
theorem uC:C.names (C.any)=[]:=rfl
theorem A4j (x:Value):C.names (C.v x)=[]:=rfl
theorem A4k (k i j:Nat):C.names (C.p k i j)=[k]:=rfl
theorem A4l (k:Nat):C.names (C.s k)=[k]:=rfl
theorem A4m (x:D):C.names (C.d x)=[]:=rfl
theorem zr (z:List D) (es:List (List D)):C.names (C.df z es)=[]:=rfl
theorem zs (cs:List D):C.names (C.dp cs)=[]:=rfl
theorem zu (f:FuncId) (caps:List C):C.names (C.fn f caps)=caps.flatMap capN:=rfl
theorem zw (k u:Nat) (p:List (Nat×Nat)):C.names (C.vw k u p)=[k]:=rfl
theorem nm_q (k u:Nat) (p:List (Nat×Nat)) (s m o:Nat):C.names (C.q k u p s m o)=[k]:=rfl
theorem zx (z:List C) (es:List (List C)):C.names (C.ov z es)=[]:=rfl
theorem uD (g:Nat→Nat):Ei g (C.any)= .any:=rfl
theorem A4n (g:Nat→Nat) (x:Value):Ei g (C.v x)= .v x:=rfl
theorem A4o (g:Nat→Nat) (k i j:Nat):Ei g (C.p k i j)= .p (g k) i j:=rfl
theorem A4p (g:Nat→Nat) (k:Nat):Ei g (C.s k)= .s (g k):=rfl
theorem A4q (g:Nat→Nat) (x:D):Ei g (C.d x)= .d x:=rfl
theorem zy (g:Nat→Nat) (z:List D) (es:List (List D)):Ei g (C.df z es)= .df z es:=rfl
theorem A00 (g:Nat→Nat) (cs:List D):Ei g (C.dp cs)= .dp cs:=rfl
theorem A01 (g:Nat→Nat) (f:FuncId) (caps:List C):Ei g (C.fn f caps)= .any:=rfl
theorem A02 (g:Nat→Nat) (k u:Nat) (p:List (Nat×Nat)):Ei g (C.vw k u p)= .any:=rfl
theorem A4r (g:Nat→Nat) (k u:Nat) (p:List (Nat×Nat)) (s m o:Nat):Ei g (C.q k u p s m o)= .any:=rfl
theorem A03 (g:Nat→Nat) (z:List C) (es:List (List C)):Ei g (C.ov z es)= .any:=rfl
theorem uE (n:Nat) (zz:List D) (ee:List (List D)):fzC n zz ee (C.any)=(C.any):=rfl
theorem A4s (n:Nat) (zz:List D) (ee:List (List D)) (x:Value):fzC n zz ee (C.v x)=(C.v x):=rfl
theorem A4t (n:Nat) (zz:List D) (ee:List (List D)) (k i j:Nat):fzC n zz ee (C.p k i j)=if k=n then (if i<ee.length then .d (.pt (some ((ee.getD i zz).drop j))) else .any) else .p k i j:=rfl
theorem A4u (n:Nat) (zz:List D) (ee:List (List D)) (k:Nat):fzC n zz ee (C.s k)=if k=n then .d (.sl zz ee) else .s k:=rfl
theorem A4v (n:Nat) (zz:List D) (ee:List (List D)) (x:D):fzC n zz ee (C.d x)=(C.d x):=rfl
theorem A04 (n:Nat) (zz:List D) (ee:List (List D)) (z:List D) (es:List (List D)):fzC n zz ee (C.df z es)=(C.df z es):=rfl
theorem A05 (n:Nat) (zz:List D) (ee:List (List D)) (cs:List D):fzC n zz ee (C.dp cs)=(C.dp cs):=rfl
theorem A06 (n:Nat) (zz:List D) (ee:List (List D)) (f:FuncId) (caps:List C):fzC n zz ee (C.fn f caps)=if (caps.flatMap capN).contains n=true then .any else .fn f caps:=rfl
theorem A07 (n:Nat) (zz:List D) (ee:List (List D)) (k u:Nat) (p:List (Nat×Nat)):fzC n zz ee (C.vw k u p)=if k=n then .any else .vw k u p:=rfl
theorem A4w (n:Nat) (zz:List D) (ee:List (List D)) (k u:Nat) (p:List (Nat×Nat)) (s m o:Nat):fzC n zz ee (C.q k u p s m o)=if k=n then .any else .q k u p s m o:=rfl
theorem A08 (n:Nat) (zz:List D) (ee:List (List D)) (z:List C) (es:List (List C)):fzC n zz ee (C.ov z es)=(C.ov z es):=rfl
theorem uF (n t:Nat):mvC n t (C.any)=(C.any):=rfl
theorem A4x (n t:Nat) (x:Value):mvC n t (C.v x)=(C.v x):=rfl
theorem A4y (n t:Nat) (k i j:Nat):mvC n t (C.p k i j)=if k=n then .p t i j else .p k i j:=rfl
theorem A4z (n t:Nat) (k:Nat):mvC n t (C.s k)=if k=n then .s t else .s k:=rfl
theorem A50 (n t:Nat) (x:D):mvC n t (C.d x)=(C.d x):=rfl
theorem A09 (n t:Nat) (z:List D) (es:List (List D)):mvC n t (C.df z es)=(C.df z es):=rfl
theorem A0A (n t:Nat) (cs:List D):mvC n t (C.dp cs)=(C.dp cs):=rfl
theorem A0B (n t:Nat) (f:FuncId) (caps:List C):mvC n t (C.fn f caps)=if (caps.flatMap capN).contains n=true then .any else .fn f caps:=rfl
theorem A0C (n t:Nat) (k u:Nat) (p:List (Nat×Nat)):mvC n t (C.vw k u p)=if k=n then .any else .vw k u p:=rfl
theorem A51 (n t:Nat) (k u:Nat) (p:List (Nat×Nat)) (s m o:Nat):mvC n t (C.q k u p s m o)=if k=n then .any else .q k u p s m o:=rfl
theorem A0D (n t:Nat) (z:List C) (es:List (List C)):mvC n t (C.ov z es)=(C.ov z es):=rfl
theorem A52 (x:Value):oD (.v x)= .v x:=rfl
theorem A0E (z:List D) (es:List (List D)):oD (.sl z es)= .d (.sl z es):=rfl
theorem A0F (o:Option (List D)):oD (.pt o)= .d (.pt o):=rfl
theorem A0G (es:List (List UInt8×Value)):oD (.mp es)= .d (.mp es):=rfl
theorem uG (n:Nat) (ee:List (List UInt8×Value)):GW n ee C.any=C.any:=rfl
theorem A53 (n:Nat) (ee:List (List UInt8×Value)) (x:Value):GW n ee (C.v x)=C.v x:=rfl
theorem A54 (n:Nat) (ee:List (List UInt8×Value)) (k i j:Nat):GW n ee (C.p k i j)=if k=n then .any else .p k i j:=rfl
theorem A55 (n:Nat) (ee:List (List UInt8×Value)) (k:Nat):GW n ee (C.s k)=if k=n then .d (.mp ee) else .s k:=rfl
theorem A56 (n:Nat) (ee:List (List UInt8×Value)) (x:D):GW n ee (C.d x)=C.d x:=rfl
theorem A0H (n:Nat) (ee:List (List UInt8×Value)) (z:List D) (es:List (List D)):GW n ee (C.df z es)=C.df z es:=rfl
theorem A0I (n:Nat) (ee:List (List UInt8×Value)) (cs:List D):GW n ee (C.dp cs)=C.dp cs:=rfl
theorem A0J (n:Nat) (ee:List (List UInt8×Value)) (f:FuncId) (caps:List C):GW n ee (C.fn f caps)=if (caps.flatMap capN).contains n=true then .any else .fn f caps:=rfl
theorem A0K (n:Nat) (ee:List (List UInt8×Value)) (z:List C) (es:List (List C)):GW n ee (C.ov z es)=C.ov z es:=rfl
theorem A57:K4 (.v (.pointer none))=some true:=rfl
theorem A58 (a:Addr):K4 (.v (.pointer (some a)))=some false:=rfl
theorem A0L:K4 (.d (.pt none))=some true:=rfl
theorem A59 (l:List D):K4 (.d (.pt (some l)))=some false:=rfl
theorem A0M (l:List D):K4 (.dp l)=some false:=rfl
theorem A0N (k i j:Nat):K4 (.p k i j)=none:=rfl
theorem A5A (k:Nat):K4 (.s k)=none:=rfl
theorem uH:K4 .any=none:=rfl
theorem uI:clC (C.any)=none:=rfl
theorem A5B (x:Value):clC (C.v x)=some x:=rfl
theorem A5C (k i j:Nat):clC (C.p k i j)=none:=rfl
theorem A5D (k:Nat):clC (C.s k)=none:=rfl
theorem A5E (x:D):clC (C.d x)=none:=rfl
theorem A0O (z:List D) (es:List (List D)):clC (C.df z es)=none:=rfl
theorem A0P (cs:List D):clC (C.dp cs)=none:=rfl
theorem A0Q (f:FuncId) (caps:List C):clC (C.fn f caps)=none:=rfl
theorem A0R (k u:Nat) (p:List (Nat×Nat)):clC (C.vw k u p)=none:=rfl
theorem A5F (k u:Nat) (p:List (Nat×Nat)) (s m o:Nat):clC (C.q k u p s m o)=none:=rfl
theorem A0S (z:List C) (es:List (List C)):clC (C.ov z es)=none:=rfl
end Go.Sy
