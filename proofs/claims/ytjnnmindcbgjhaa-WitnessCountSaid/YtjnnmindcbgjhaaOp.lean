/- Arguments that come in, opened: plain data of any type as data that nobody writes. No conditions but those in each statement. -/
import Derived.Test.YtjnnmindcbgjhaaSyC
import Derived.Deep.Draws
import Derived.LaidMore
import Derived.ProofKit
import Derived.OpenShut
set_option linter.unusedVariables false
set_option linter.unusedSimpArgs false
namespace Go.Sy
open Go Go.RowKit Go.ChangeShapes Go.WideShapes Go.ChangeAt
section
variable {H:Type} {enc:TypeId×Value→H} {P:Program} {W:World} {t:TypeId} {fuel:Nat} {A B:Type} {e:A→List D} {Q:A→Prop}
end
section
variable {H:Type} {enc:TypeId×Value→H} {P:Program} {W:World} {t:TypeId} {A:Type} {e:A→List D} {Q:A→Prop}
end
end Go.Sy
namespace Go.Sy
open Go Go.RowKit
def aB:C→Bool
 | .v (.slice none 0 0)=>true
 |_=>false
def emS:C→Bool
 | .d (.sl _ [])=>true
 |_=>false
def leC (c d:C):Prop:=c=d∨(aB c=true∧emS d=true)
def leL:List C→List C→Prop
 |[],[]=>True
 |c::l,d::m=>leC c d∧leL l m
 |_,_=>False
def leP:C ⊕ List C→C ⊕ List C→Prop
 | .inl c,.inl d=>leC c d
 | .inr l,.inr m=>leL l m
 |_,_=>False
def leT:List (C ⊕ List C)→List (C ⊕ List C)→Prop
 |[],[]=>True
 |p::l,q::m=>leP p q∧leT l m
 |_,_=>False
def leV:SV→SV→Prop
 | .one c,.one d=>leC c d
 | .agg l,.agg m=>leL l m
 | .tup l,.tup m=>leT l m
 |_,_=>False
theorem SK (c:C):leC c c:=.inl rfl
theorem Fi (c:C):leC c c=True:=by simp[leC]
theorem Gg (z:List D):leC (.v (.slice none 0 0)) (.d (.sl z []))=True:=by simp[leC,aB,emS]
theorem SL:∀l:List C,leL l l
 |[]=>trivial
 |c::l=>⟨SK c,SL l⟩
theorem SM:∀l:List (C ⊕ List C),leT l l
 |[]=>trivial
 | .inl c::l=>⟨SK c,SM l⟩
 | .inr c::l=>⟨SL c,SM l⟩
theorem Do (v:SV):leV v v:=by
 cases v with
 |one c=>exact SK c
 |agg l=>exact SL l
 |tup l=>exact SM l
theorem RY {c:C} (h:aB c=true):c= .v (.slice none 0 0):=by
 unfold aB at h
 split at h
 ·rfl
 ·cases h
theorem Ls {c:C} (h:emS c=true):∃z,c= .d (.sl z []):=by
 unfold emS at h
 split at h
 ·exact⟨_,rfl⟩
 ·cases h
section
variable {h:B2} {fz:Nat→Prop} {lab:Lab} {I:Nm} {H:Hp}
theorem aC {c d:C} (hl:leC c d) {x:Value} (r:SC h fz lab I H c x):SC h fz lab I H d x:=by
 rcases hl with rfl|⟨h1,h2⟩
 ·exact r
 ·obtain rfl:=RY h1
  obtain⟨z,rfl⟩:=Ls h2
  have r2:=r.2
  cases r2
  exact⟨rfl,.d _ _ _ (.nil z none 0 fun _=>rfl)⟩
theorem Yq:∀{l m:List C},leL l m→l.length=m.length∧∀(j:Nat) (d:C),m[j]?=some d→∃c,l[j]?=some c∧leC c d
 |[],[],_=>⟨rfl,by simp⟩
 |c::l,d::m,hl=>by
  obtain⟨h1,h2⟩:=Yq hl.2
  refine⟨by simp[h1],fun j e he=>?_⟩
  cases j with
  |zero=>simp only[List.getElem?_cons_zero,jS]at he;subst he;exact⟨c,rfl,hl.1⟩
  |succ j=>exact h2 j e (by simpa using he)
 |[],d::m,hl=>hl.elim
 |c::l,[],hl=>hl.elim
theorem ji {l m:List C} (hl:leL l m) {arr:Array Value} (r:DD h fz lab I H l arr):DD h fz lab I H m arr:=by
 obtain⟨h1,h2⟩:=Yq hl
 refine⟨by rw[r.1,h1],fun j d hd=>?_⟩
 obtain⟨c,hc,hcd⟩:=h2 j d hd
 obtain⟨y,y1,y2⟩:=r.2 j c hc
 exact⟨y,y1,aC hcd y2⟩
theorem Yr:∀{l m:List (C ⊕ List C)},leT l m→l.length=m.length∧∀(j:Nat) (d:C ⊕ List C),m[j]?=some d→∃c,l[j]?=some c∧leP c d
 |[],[],_=>⟨rfl,by simp⟩
 |c::l,d::m,hl=>by
  obtain⟨h1,h2⟩:=Yr hl.2
  refine⟨by simp[h1],fun j e he=>?_⟩
  cases j with
  |zero=>simp only[List.getElem?_cons_zero,jS]at he;subst he;exact⟨c,rfl,hl.1⟩
  |succ j=>exact h2 j e (by simpa using he)
 |[],d::m,hl=>hl.elim
 |c::l,[],hl=>hl.elim
theorem TQ {v v':SV} (hl:leV v v') {x:Value} (r:Ae h fz lab I H v x):Ae h fz lab I H v' x:=by
 cases v with
 |one c=>cases v' with
  |one d=>exact aC hl r
  |agg=>exact hl.elim
  |tup=>exact hl.elim
 |agg l=>cases v' with
  |one=>exact hl.elim
  |tup=>exact hl.elim
  |agg m=>obtain⟨arr,h1,h2⟩:=r;exact⟨arr,h1,ji hl h2⟩
 |tup l=>cases v' with
  |one=>exact hl.elim
  |agg=>exact hl.elim
  |tup m=>
   obtain⟨arr,h1,h2,h3⟩:=r
   obtain⟨g1,g2⟩:=Yr hl
   refine⟨arr,h1,by rw[h2,g1],fun j p hp=>?_⟩
   obtain⟨q,hq,hqp⟩:=g2 j p hp
   obtain⟨y,y1,y2⟩:=h3 j q hq
   refine⟨y,y1,?_⟩
   cases q with
   |inl c=>cases p with
    |inl d=>exact aC hqp y2
    |inr=>exact hqp.elim
   |inr l=>cases p with
    |inl=>exact hqp.elim
    |inr m=>obtain⟨arr,e1,e2⟩:=y2;exact⟨arr,e1,ji hqp e2⟩
end
theorem Wm {c d:C} (hl:leC c d):d.names=c.names:=by
 rcases hl with rfl|⟨h1,h2⟩
 ·rfl
 ·obtain rfl:=RY h1;obtain⟨z,rfl⟩:=Ls h2;rfl
theorem Wn:∀{l m:List C},leL l m→m.flatMap C.names=l.flatMap C.names
 |[],[],_=>rfl
 |c::l,d::m,hl=>by simp only[List.flatMap_cons,Wm hl.1,Wn hl.2]
 |[],d::m,hl=>hl.elim
 |c::l,[],hl=>hl.elim
theorem cJ:∀{l m:List (C ⊕ List C)},leT l m→m.flatMap pNames=l.flatMap pNames
 |[],[],_=>rfl
 |p::l,q::m,hl=>by
  have h1:pNames q=pNames p:=by
   have h0:=hl.1
   cases p<;>cases q<;>first|exact h0.elim|exact Wm h0|exact Wn h0
  simp only[List.flatMap_cons,h1,cJ hl.2]
 |[],d::m,hl=>hl.elim
 |c::l,[],hl=>hl.elim
theorem tK {v v':SV} (hl:leV v v'):v'.names=v.names:=by
 cases v<;>cases v'<;>first|exact hl.elim|exact Wm hl|exact Wn hl|exact cJ hl
def aD (r:SV):St→List SV→Prop:=fun _ vs=>(Dk vs).names=[]∧leV (Dk vs) r
theorem tL (r:SV) (s:St) (vs:List SV):aD r s vs=((Dk vs).names=[]∧leV (Dk vs) r):=rfl
section
variable {P:Program}
theorem SN {w:World} {fz:Nat→Prop} {r:SV} {en:Ending} {w':World} (h:Jb w fz (fun v=>leV v r) en w'):Jb w fz (fun v=>v=r) en w':=by
 obtain⟨v,x,fz',rfl,h1,h2,h3,h4,h5,h6,h7⟩:=h
 exact⟨r,x,fz',rfl,rfl,by rw[tK h1];exact h2,h3,h4,h5,TQ h1 h6,h7⟩
theorem BH {f:FuncId} {fn:Func} {c:Code} (hf:P.funcs[f]?=some fn) (hb:fn.body=some c) (w:World) (fz:Nat→Prop) (sp:List (Spec P (clX fz) w)) (g:Gh) {A:Type} (ac:ArgC A) (F:A→SV) (a:A) (xs:List Value) (hfz:∀b,fz b→b<w.heap.size) (hl:xs.length=(ac.e a).length)
  (hx:∀(j:Nat) (v:SV) (x:Value),(ac.e a)[j]?=some v→xs[j]?=some x→CD (hp w) fz v x) (hn:(ac.e a).length≤fn.ntmps)
  (h:vc (clX fz) w sp fn.ntmps g c ⟨I9 0 (ac.e a),[]⟩ (MG P (clX fz) fn.results.toList (aD (F a)))):Calls P f xs.toArray w (Jb w fz (fun v=>v=F a)):=
 (Y5 hf hb w fz sp g (ac.e a) (ac.n a) hfz xs hl hx (fun v=>leV v (F a)) hn h).mono fun _ _ h=>SN h
theorem Iz {f:FuncId} {fn:Func} {c:Code} (hf:P.funcs[f]?=some fn) (hb:fn.body=some c) (w:World) (fz:Nat→Prop) (sp:List (Spec P (clX fz) w)) (g:Gh) {A:Type} (ac:ArgH A) (F:A→SV) (a:A) (xs:List Value) (hfz:∀b,fz b→b<w.heap.size) (hl:xs.length=(ac.e a).length)
  (hx:∀(j:Nat) (v:SV) (x:Value),(ac.e a)[j]?=some v→xs[j]?=some x→CD (hp w) fz v x) (hn:(ac.e a).length≤fn.ntmps)
  (h:vc (clX fz) w sp fn.ntmps g c ⟨I9 0 (ac.e a),[]⟩ (MG P (clX fz) fn.results.toList (aD (F a)))):Calls P f xs.toArray w (Jb w fz (fun v=>v=F a)):=
 (Y5 hf hb w fz sp g (ac.e a) (ac.n a) hfz xs hl hx (fun v=>leV v (F a)) hn h).mono fun _ _ h=>SN h
def TR (r:SV) (m':List (Option MV)):St→List SV→Prop:=fun s vs=>leV (Dk vs) r∧Kf (Dk vs)=true∧∀p∈memO 0 m',Ja (lkp s.h p.1) p.2∧Jw (memO 0 m') (chNames p.2)
theorem lY (r:SV) (m':List (Option MV)) (s:St) (vs:List SV):TR r m' s vs=(leV (Dk vs) r∧Kf (Dk vs)=true∧∀p∈memO 0 m',Ja (lkp s.h p.1) p.2∧Jw (memO 0 m') (chNames p.2)):=rfl
theorem Am {f:FuncId} {fn:Func} {c:Code} (hf:P.funcs[f]?=some fn) (hb:fn.body=some c) (mem:List MV) (w:World) (M:Nat→Prop) (I:Nm) (lab:Lab) (fz:Nat→Prop) (sp:List (Spec P (mX M fz I mem.length) w)) (g:Gh) (args:List SV) (mem':List (Option MV)) (R:SV) (xs:List Value)
  (hA:AtW (mX M fz I mem.length) w I lab fz (lkp (Ew 0 mem)) w) (hlen:xs.length=args.length) (hx:∀(j:Nat) (v:SV) (x:Value),args[j]?=some v→xs[j]?=some x→Ae (hp w) fz lab I (lkp (Ew 0 mem)) v x)
  (hnm:∀v∈args,∀k∈v.names,k<mem.length) (hn:args.length≤fn.ntmps) (hl:mem.length≤mem'.length)
  (h:vc (mX M fz I mem.length) w sp fn.ntmps g c ⟨I9 0 args,Ew 0 mem⟩ (MG P (mX M fz I mem.length) fn.results.toList (TR R mem'))):Calls P f xs.toArray w (Kh w M fz I mem.length mem' R):=by
 refine calls_of_wp hf hb (Code.wp_mono ?_ (Ap sp g c _ _ h _ w ?_))
 ·rintro e a w' (⟨s,hq,hs⟩|⟨ch,rfl,_,_,I1,l1,f1,H1,_,hpn⟩)
  rotate_left
  ·exact hpn.elim
  have fin:MF P (mX M fz I mem.length) fn.results.toList (TR R mem') s→a.defers=[]∧∃v,(results fn a.tmps).run P w'= .ok v w'∧Kh w M fz I mem.length mem' R (Ending.returned v) w':=by
   rintro ⟨cs,s',vs,h1,h2,h3,h4,h5,h6⟩
   refine⟨hs.defers,?_⟩
   obtain⟨_,I',lab',fz',hA'⟩:=FX h1 a w' hs
   obtain⟨x,x1,x2⟩:=JH hA' h2 h3
   refine⟨x,x1,x,I',lab',fz',rfl,Pk hA'.m h6 (fun p hp'=>?_),TQ h4 (Mr h5 x2)⟩
   obtain⟨q1,q2,_⟩:=HV hp'
   exact OE _ _ _ q1 (by omega)
  cases e with
  |normal=>exact fin hq
  |ret=>exact fin hq
  |_=>exact hq.elim
 ·refine⟨?_,I,lab,fz,?_,⟨rfl,fun p hp=>by cases hp⟩,?_,hA⟩
  ·intro t g v ht _ k hk
   rw[Ft]at ht
   simp only[Nat.zero_le,if_true,Nat.sub_zero,Option.map_eq_some_iff,jP]at ht
   obtain⟨u,hu,rfl,rfl⟩:=ht
   have:=hnm u (List.mem_of_getElem? hu) k hk
   show (lkp (Ew 0 mem) k).isSome=true
   rw[Ew,GX]
   simp[this]
  ·simp[hlen];omega
  ·intro t g v ht
   rw[Ft]at ht
   simp only[Nat.zero_le,if_true,Nat.sub_zero,Option.map_eq_some_iff,jP]at ht
   obtain⟨u,hu,rfl,rfl⟩:=ht
   have hlt:t<args.length:=(List.getElem?_eq_some_iff.1 hu).1
   have hlt2:t<xs.length:=by omega
   refine⟨xs[t],?_,?_⟩
   ·rw[Array.getElem?_append_left (by simpa using hlt2)]
    simp[hlt2]
   ·simp only[if_true]
    exact hx t u _ hu (List.getElem?_eq_getElem hlt2)
end
open Classical in
noncomputable def GZ {A:Type} (e:A→SV) (uq:∀v a b,leV v (e a)→leV v (e b)→a=b) (n:∀a,(e a).names=[]):Cod A where
 d v:=if h:∃a,leV v (e a) then some h.choose else none
 e:=e
 h s x y hd r:=by
  split at hd
  ·rename_i h
   simp only[jS]at hd
   subst hd
   exact TQ h.choose_spec r
  ·cases hd
 n:=n
open Classical in
theorem Db {A:Type} {e:A→SV} {uq:∀v a b,leV v (e a)→leV v (e b)→a=b} {n:∀a,(e a).names=[]} {v:SV} {a:A} (h:leV v (e a)):(GZ e uq n).d v=some a:=by
 have hex:∃a,leV v (e a):=⟨a,h⟩
 show (if h:∃a,leV v (e a) then some h.choose else none)=some a
 rw[dif_pos hex]
 exact congrArg some (uq v _ _ hex.choose_spec h)
open Classical in
noncomputable def rowOf {A:Type} (z:List D) (e:A→List D) (uq:∀a b,e a=e b→a=b) (n:∀a,(e a).length=z.length):RowC A where
 z:=z
 d r:=if h:∃a,r=e a then some h.choose else none
 e:=e
 h r b hd:=by
  split at hd
  ·rename_i h
   simp only[jS]at hd
   subst hd
   exact h.choose_spec
  ·cases hd
 i b:=by
  have hex:∃a,e b=e a:=⟨b,rfl⟩
  rw[dif_pos hex]
  exact congrArg some (uq _ _ hex.choose_spec.symm)
 n:=n
open Classical in
noncomputable def Lt {A:Type} (z:List C) (e:A→List C) (n:∀b,∀c∈e b,c.names=[]) (t:zT z=none:=by first|rfl|decide):RowM A where
 t:=t
 z:=z
 d r:=if h:∃a,r=e a then some h.choose else none
 e:=e
 h r b hd:=by
  split at hd
  ·rename_i h
   simp only[jS]at hd
   subst hd
   exact h.choose_spec
  ·cases hd
 n:=n
open Classical in
theorem HC {A:Type} {z:List C} {e:A→List C} {n:∀b,∀c∈e b,c.names=[]} {t:zT z=none} (uq:∀a b,e a=e b→a=b) (a:A):(Lt z e n t).d (e a)=some a:=by
 have hex:∃b,e a=e b:=⟨a,rfl⟩
 show (if h:∃b,e a=e b then some h.choose else none)=some a
 rw[dif_pos hex]
 exact congrArg some (uq _ _ hex.choose_spec.symm)
def ptR {B:Type} (c:RowC B) (H:Hp):SV→Option (B×List Nat)
 | .one (.p k 0 0)=>match H k with
  |some (.vec _ z [r])=>match Eu z,Eu r with
   |some _,some r'=>(c.d r').map fun b=>(b,[k])
   |_,_=>none
  |_=>none
 | .one (.d (.pt (some r)))=>(c.d r).map fun b=>(b,[])
 | .one (.dp r)=>(c.d r).map fun b=>(b,[])
 |_=>none
def cPt {B:Type} (c:RowC B):CodH B where
 d:=ptR c
 e b:=.one (.d (.pt (some (c.e b))))
 h:=fun {X w0 w I lab fz H} v a fp x hA h r=>by
  unfold ptR at h
  split at h
  ·rename_i k
   split at h
   ·rename_i u z r0 hk
    split at h
    ·rename_i z' r' hz hr
     simp only[Option.map_eq_some_iff,jP]at h
     obtain⟨b,hb,rfl,rfl⟩:=h
     obtain⟨lab',fz',h1,_,_,h4⟩:=WS hA hk (es':=[r']) hz (by simp only[D4,hr])
     have h5:=h4 0 0 (by simp)
     have hx:=r.2
     cases hx
     simp only[List.getD_cons_zero,List.drop_zero]at h5
     rw[c.h _ _ hb]at h5
     exact⟨rfl,.d _ _ _ (ET (fun b hb=>⟨(h1.fzl b hb).1,rfl⟩) h5)⟩
    ·cases h
   ·cases h
  ·simp only[Option.map_eq_some_iff,jP]at h
   obtain⟨b,hb,rfl,rfl⟩:=h
   have hx:=r.2
   cases hx with|d _ _ _ r=>?_
   rw[c.h _ _ hb]at r
   exact⟨rfl,.d _ _ _ (ET (fun b hb=>⟨(hA.fzl b hb).1,rfl⟩) r)⟩
  ·simp only[Option.map_eq_some_iff,jP]at h
   obtain⟨b,hb,rfl,rfl⟩:=h
   have hx:=r.2
   cases hx with|dp _ _ _ r=>?_
   rw[c.h _ _ hb]at r
   exact⟨rfl,.d _ _ _ (ET (fun b hb=>⟨(hA.fzl b hb).1,rfl⟩) r)⟩
  ·cases h
 n a:=rfl
 l H H' v a fp h hf:=by
  unfold ptR at*
  split at h
  ·rename_i k
   split at h
   ·rename_i u z r0 hk
    have hfp:k∈fp:=by
     split at h
     ·simp only[Option.map_eq_some_iff,jP]at h
      obtain⟨_,_,_,rfl⟩:=h;simp
     ·cases h
    simp only[hf k hfp,hk]
    exact h
   ·cases h
  ·exact h
  ·exact h
  ·cases h
theorem Ad {B:Type} (c:RowC B) (H:Hp) (v:SV):(cPt c).d H v=ptR c H v:=rfl
theorem jk {B:Type} (c:RowC B) (b:B):(cPt c).e b= .one (.d (.pt (some (c.e b)))):=rfl
theorem tM:Dm (C.any)=true:=rfl
theorem A5L (x:Value):Dm (C.v x)=true:=rfl
theorem A5M (k i j:Nat):Dm (C.p k i j)=true:=rfl
theorem A5N (k:Nat):Dm (C.s k)=true:=rfl
theorem A5O (x:D):Dm (C.d x)=true:=rfl
theorem zk (z:List D) (es:List (List D)):Dm (C.df z es)=true:=rfl
theorem zl (cs:List D):Dm (C.dp cs)=true:=rfl
theorem zm (f:FuncId) (caps:List C):Dm (C.fn f caps)=true:=rfl
theorem zo (k u:Nat) (p:List (Nat×Nat)):Dm (C.vw k u p)=false:=rfl
theorem A5P (k u:Nat) (p:List (Nat×Nat)) (s m o:Nat):Dm (C.q k u p s m o)=false:=rfl
theorem zp (z:List C) (es:List (List C)):Dm (C.ov z es)=true:=rfl
theorem tN:C.stor (C.any)=true:=rfl
theorem A5Q (x:Value):C.stor (C.v x)=true:=rfl
theorem A5R (k i j:Nat):C.stor (C.p k i j)=true:=rfl
theorem A5S (k:Nat):C.stor (C.s k)=true:=rfl
theorem A5T (x:D):C.stor (C.d x)=true:=rfl
theorem zq (z:List D) (es:List (List D)):C.stor (C.df z es)=true:=rfl
theorem zr (cs:List D):C.stor (C.dp cs)=true:=rfl
theorem zs (f:FuncId) (caps:List C):C.stor (C.fn f caps)=true:=rfl
theorem zu (k u:Nat) (p:List (Nat×Nat)):C.stor (C.vw k u p)=false:=rfl
theorem A5U (k u:Nat) (p:List (Nat×Nat)) (s m o:Nat):C.stor (C.q k u p s m o)=false:=rfl
theorem zw (z:List C) (es:List (List C)):C.stor (C.ov z es)=false:=rfl
theorem tO:C.names (C.any)=[]:=rfl
theorem A5V (x:Value):C.names (C.v x)=[]:=rfl
theorem A5W (k i j:Nat):C.names (C.p k i j)=[k]:=rfl
theorem A5X (k:Nat):C.names (C.s k)=[k]:=rfl
theorem A5Y (x:D):C.names (C.d x)=[]:=rfl
theorem zx (z:List D) (es:List (List D)):C.names (C.df z es)=[]:=rfl
theorem zy (cs:List D):C.names (C.dp cs)=[]:=rfl
theorem A00 (f:FuncId) (caps:List C):C.names (C.fn f caps)=caps.flatMap capN:=rfl
theorem A01 (k u:Nat) (p:List (Nat×Nat)):C.names (C.vw k u p)=[k]:=rfl
theorem A5Z (k u:Nat) (p:List (Nat×Nat)) (s m o:Nat):C.names (C.q k u p s m o)=[k]:=rfl
theorem A02 (z:List C) (es:List (List C)):C.names (C.ov z es)=[]:=rfl
theorem tP (g:Nat→Nat):Ey g (C.any)= .any:=rfl
theorem A5a (g:Nat→Nat) (x:Value):Ey g (C.v x)= .v x:=rfl
theorem A5b (g:Nat→Nat) (k i j:Nat):Ey g (C.p k i j)= .p (g k) i j:=rfl
theorem A5c (g:Nat→Nat) (k:Nat):Ey g (C.s k)= .s (g k):=rfl
theorem A5d (g:Nat→Nat) (x:D):Ey g (C.d x)= .d x:=rfl
theorem A03 (g:Nat→Nat) (z:List D) (es:List (List D)):Ey g (C.df z es)= .df z es:=rfl
theorem A04 (g:Nat→Nat) (cs:List D):Ey g (C.dp cs)= .dp cs:=rfl
theorem A05 (g:Nat→Nat) (f:FuncId) (caps:List C):Ey g (C.fn f caps)= .any:=rfl
theorem A06 (g:Nat→Nat) (k u:Nat) (p:List (Nat×Nat)):Ey g (C.vw k u p)= .any:=rfl
theorem A5e (g:Nat→Nat) (k u:Nat) (p:List (Nat×Nat)) (s m o:Nat):Ey g (C.q k u p s m o)= .any:=rfl
theorem A07 (g:Nat→Nat) (z:List C) (es:List (List C)):Ey g (C.ov z es)= .any:=rfl
theorem tQ (n:Nat) (zz:List D) (ee:List (List D)):fzC n zz ee (C.any)=(C.any):=rfl
theorem A5f (n:Nat) (zz:List D) (ee:List (List D)) (x:Value):fzC n zz ee (C.v x)=(C.v x):=rfl
theorem A5g (n:Nat) (zz:List D) (ee:List (List D)) (k i j:Nat):fzC n zz ee (C.p k i j)=if k=n then (if i<ee.length then .d (.pt (some ((ee.getD i zz).drop j))) else .any) else .p k i j:=rfl
theorem A5h (n:Nat) (zz:List D) (ee:List (List D)) (k:Nat):fzC n zz ee (C.s k)=if k=n then .d (.sl zz ee) else .s k:=rfl
theorem A5i (n:Nat) (zz:List D) (ee:List (List D)) (x:D):fzC n zz ee (C.d x)=(C.d x):=rfl
theorem A08 (n:Nat) (zz:List D) (ee:List (List D)) (z:List D) (es:List (List D)):fzC n zz ee (C.df z es)=(C.df z es):=rfl
theorem A09 (n:Nat) (zz:List D) (ee:List (List D)) (cs:List D):fzC n zz ee (C.dp cs)=(C.dp cs):=rfl
theorem A0A (n:Nat) (zz:List D) (ee:List (List D)) (f:FuncId) (caps:List C):fzC n zz ee (C.fn f caps)=if (caps.flatMap capN).contains n=true then .any else .fn f caps:=rfl
theorem A0B (n:Nat) (zz:List D) (ee:List (List D)) (k u:Nat) (p:List (Nat×Nat)):fzC n zz ee (C.vw k u p)=if k=n then .any else .vw k u p:=rfl
theorem A5j (n:Nat) (zz:List D) (ee:List (List D)) (k u:Nat) (p:List (Nat×Nat)) (s m o:Nat):fzC n zz ee (C.q k u p s m o)=if k=n then .any else .q k u p s m o:=rfl
theorem A0C (n:Nat) (zz:List D) (ee:List (List D)) (z:List C) (es:List (List C)):fzC n zz ee (C.ov z es)=(C.ov z es):=rfl
theorem tR (n t:Nat):mvC n t (C.any)=(C.any):=rfl
theorem A5k (n t:Nat) (x:Value):mvC n t (C.v x)=(C.v x):=rfl
theorem A5l (n t:Nat) (k i j:Nat):mvC n t (C.p k i j)=if k=n then .p t i j else .p k i j:=rfl
theorem A5m (n t:Nat) (k:Nat):mvC n t (C.s k)=if k=n then .s t else .s k:=rfl
theorem A5n (n t:Nat) (x:D):mvC n t (C.d x)=(C.d x):=rfl
theorem A0D (n t:Nat) (z:List D) (es:List (List D)):mvC n t (C.df z es)=(C.df z es):=rfl
theorem A0E (n t:Nat) (cs:List D):mvC n t (C.dp cs)=(C.dp cs):=rfl
theorem A0F (n t:Nat) (f:FuncId) (caps:List C):mvC n t (C.fn f caps)=if (caps.flatMap capN).contains n=true then .any else .fn f caps:=rfl
theorem A0G (n t:Nat) (k u:Nat) (p:List (Nat×Nat)):mvC n t (C.vw k u p)=if k=n then .any else .vw k u p:=rfl
theorem A5o (n t:Nat) (k u:Nat) (p:List (Nat×Nat)) (s m o:Nat):mvC n t (C.q k u p s m o)=if k=n then .any else .q k u p s m o:=rfl
theorem A0H (n t:Nat) (z:List C) (es:List (List C)):mvC n t (C.ov z es)=(C.ov z es):=rfl
theorem A5p (x:Value):oD (.v x)= .v x:=rfl
theorem A0I (z:List D) (es:List (List D)):oD (.sl z es)= .d (.sl z es):=rfl
theorem A0J (o:Option (List D)):oD (.pt o)= .d (.pt o):=rfl
theorem A0K (es:List (List UInt8×Value)):oD (.mp es)= .d (.mp es):=rfl
theorem tS (n:Nat) (ee:List (List UInt8×Value)):Gw n ee C.any=C.any:=rfl
theorem A5q (n:Nat) (ee:List (List UInt8×Value)) (x:Value):Gw n ee (C.v x)=C.v x:=rfl
theorem A5r (n:Nat) (ee:List (List UInt8×Value)) (k i j:Nat):Gw n ee (C.p k i j)=if k=n then .any else .p k i j:=rfl
theorem A5s (n:Nat) (ee:List (List UInt8×Value)) (k:Nat):Gw n ee (C.s k)=if k=n then .d (.mp ee) else .s k:=rfl
theorem A5t (n:Nat) (ee:List (List UInt8×Value)) (x:D):Gw n ee (C.d x)=C.d x:=rfl
theorem A0L (n:Nat) (ee:List (List UInt8×Value)) (z:List D) (es:List (List D)):Gw n ee (C.df z es)=C.df z es:=rfl
theorem A0M (n:Nat) (ee:List (List UInt8×Value)) (cs:List D):Gw n ee (C.dp cs)=C.dp cs:=rfl
theorem A0N (n:Nat) (ee:List (List UInt8×Value)) (f:FuncId) (caps:List C):Gw n ee (C.fn f caps)=if (caps.flatMap capN).contains n=true then .any else .fn f caps:=rfl
theorem A0O (n:Nat) (ee:List (List UInt8×Value)) (z:List C) (es:List (List C)):Gw n ee (C.ov z es)=C.ov z es:=rfl
theorem A5u:Ka (.v (.pointer none))=some true:=rfl
theorem A5v (a:Addr):Ka (.v (.pointer (some a)))=some false:=rfl
theorem A0P:Ka (.d (.pt none))=some true:=rfl
theorem A5w (l:List D):Ka (.d (.pt (some l)))=some false:=rfl
theorem A0Q (l:List D):Ka (.dp l)=some false:=rfl
theorem A0R (k i j:Nat):Ka (.p k i j)=none:=rfl
theorem A5x (k:Nat):Ka (.s k)=none:=rfl
theorem tT:Ka .any=none:=rfl
theorem tU:clC (C.any)=none:=rfl
theorem A5y (x:Value):clC (C.v x)=some x:=rfl
theorem A5z (k i j:Nat):clC (C.p k i j)=none:=rfl
theorem A60 (k:Nat):clC (C.s k)=none:=rfl
theorem A61 (x:D):clC (C.d x)=none:=rfl
theorem A0S (z:List D) (es:List (List D)):clC (C.df z es)=none:=rfl
theorem A0T (cs:List D):clC (C.dp cs)=none:=rfl
theorem A0U (f:FuncId) (caps:List C):clC (C.fn f caps)=none:=rfl
theorem A0V (k u:Nat) (p:List (Nat×Nat)):clC (C.vw k u p)=none:=rfl
theorem A62 (k u:Nat) (p:List (Nat×Nat)) (s m o:Nat):clC (C.q k u p s m o)=none:=rfl
theorem A0W (z:List C) (es:List (List C)):clC (C.ov z es)=none:=rfl
end Go.Sy
