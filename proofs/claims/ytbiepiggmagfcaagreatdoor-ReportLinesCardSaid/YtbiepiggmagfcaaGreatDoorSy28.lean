/- Results up to the empty slice; codings by injections; a pointer read where it lies. No conditions but those in each statement. -/
import Derived.Test.YtbiepiggmagfcaaGreatDoorSyC
set_option linter.unusedVariables false
set_option linter.unusedSimpArgs false
namespace Go.Sy
open Go Go.RowKit
def dC:C→Bool
 | .v (.slice none 0 0)=>true
 |_=>false
def emS:C→Bool
 | .d (.sl _ [])=>true
 |_=>false
def leC (c d:C):Prop:=c=d∨(dC c=true∧emS d=true)
def leL:List C→List C→Prop
 |[],[]=>True
 |c::l,d::m=>leC c d∧leL l m
 |_,_=>False
def leP:C ⊕ List C→C ⊕ List C→Prop
 | .inl c,.inl d=>leC c d
 | .inr l,.inr m=>leL l m
 |_,_=>False
def leT:List (C ⊕ List C)→List (C ⊕ List C)→Prop
 |[],[]=>True
 |p::l,q::m=>leP p q∧leT l m
 |_,_=>False
def leV:SV→SV→Prop
 | .one c,.one d=>leC c d
 | .agg l,.agg m=>leL l m
 | .tup l,.tup m=>leT l m
 |_,_=>False
theorem Rm (c:C):leC c c:=.inl rfl
theorem De (c:C):leC c c=True:=by simp[leC]
theorem ES (z:List D):leC (.v (.slice none 0 0)) (.d (.sl z []))=True:=by simp[leC,dC,emS]
theorem Rn:∀l:List C,leL l l
 |[]=>trivial
 |c::l=>⟨Rm c,Rn l⟩
theorem Ro:∀l:List (C ⊕ List C),leT l l
 |[]=>trivial
 | .inl c::l=>⟨Rm c,Ro l⟩
 | .inr c::l=>⟨Rn c,Ro l⟩
theorem ED (v:SV):leV v v:=by
 cases v with
 |one c=>exact Rm c
 |agg l=>exact Rn l
 |tup l=>exact Ro l
theorem Qo {c:C} (h:dC c=true):c= .v (.slice none 0 0):=by
 unfold dC at h
 split at h
 ·rfl
 ·cases h
theorem KA {c:C} (h:emS c=true):∃z,c= .d (.sl z []):=by
 unfold emS at h
 split at h
 ·exact⟨_,rfl⟩
 ·cases h
section
variable {h:Aj} {fz:Nat→Prop} {lab:Lab} {I:Nm} {H:Hp}
theorem dD {c d:C} (hl:leC c d) {x:Value} (r:SC h fz lab I H c x):SC h fz lab I H d x:=by
 rcases hl with rfl|⟨h1,h2⟩
 ·exact r
 ·obtain rfl:=Qo h1
  obtain⟨z,rfl⟩:=KA h2
  have r2:=r.2
  cases r2
  exact⟨rfl,.d _ _ _ (.nil z none 0 fun _=>rfl)⟩
theorem aR:∀{l m:List C},leL l m→l.length=m.length∧∀(j:Nat) (d:C),m[j]?=some d→∃c,l[j]?=some c∧leC c d
 |[],[],_=>⟨rfl,by simp⟩
 |c::l,d::m,hl=>by
  obtain⟨h1,h2⟩:=aR hl.2
  refine⟨by simp[h1],fun j e he=>?_⟩
  cases j with
  |zero=>simp only[List.getElem?_cons_zero,jS]at he;subst he;exact⟨c,rfl,hl.1⟩
  |succ j=>exact h2 j e (by simpa using he)
 |[],d::m,hl=>hl.elim
 |c::l,[],hl=>hl.elim
theorem np {l m:List C} (hl:leL l m) {arr:Array Value} (r:CJ h fz lab I H l arr):CJ h fz lab I H m arr:=by
 obtain⟨h1,h2⟩:=aR hl
 refine⟨by rw[r.1,h1],fun j d hd=>?_⟩
 obtain⟨c,hc,hcd⟩:=h2 j d hd
 obtain⟨y,y1,y2⟩:=r.2 j c hc
 exact⟨y,y1,dD hcd y2⟩
theorem aS:∀{l m:List (C ⊕ List C)},leT l m→l.length=m.length∧∀(j:Nat) (d:C ⊕ List C),m[j]?=some d→∃c,l[j]?=some c∧leP c d
 |[],[],_=>⟨rfl,by simp⟩
 |c::l,d::m,hl=>by
  obtain⟨h1,h2⟩:=aS hl.2
  refine⟨by simp[h1],fun j e he=>?_⟩
  cases j with
  |zero=>simp only[List.getElem?_cons_zero,jS]at he;subst he;exact⟨c,rfl,hl.1⟩
  |succ j=>exact h2 j e (by simpa using he)
 |[],d::m,hl=>hl.elim
 |c::l,[],hl=>hl.elim
theorem dE {v v':SV} (hl:leV v v') {x:Value} (r:AU h fz lab I H v x):AU h fz lab I H v' x:=by
 cases v with
 |one c=>cases v' with
  |one d=>exact dD hl r
  |agg=>exact hl.elim
  |tup=>exact hl.elim
 |agg l=>cases v' with
  |one=>exact hl.elim
  |tup=>exact hl.elim
  |agg m=>obtain⟨arr,h1,h2⟩:=r;exact⟨arr,h1,np hl h2⟩
 |tup l=>cases v' with
  |one=>exact hl.elim
  |agg=>exact hl.elim
  |tup m=>
   obtain⟨arr,h1,h2,h3⟩:=r
   obtain⟨g1,g2⟩:=aS hl
   refine⟨arr,h1,by rw[h2,g1],fun j p hp=>?_⟩
   obtain⟨q,hq,hqp⟩:=g2 j p hp
   obtain⟨y,y1,y2⟩:=h3 j q hq
   refine⟨y,y1,?_⟩
   cases q with
   |inl c=>cases p with
    |inl d=>exact dD hqp y2
    |inr=>exact hqp.elim
   |inr l=>cases p with
    |inl=>exact hqp.elim
    |inr m=>obtain⟨arr,e1,e2⟩:=y2;exact⟨arr,e1,np hqp e2⟩
end
theorem Y0 {c d:C} (hl:leC c d):d.names=c.names:=by
 rcases hl with rfl|⟨h1,h2⟩
 ·rfl
 ·obtain rfl:=Qo h1;obtain⟨z,rfl⟩:=KA h2;rfl
theorem Y1:∀{l m:List C},leL l m→m.flatMap C.names=l.flatMap C.names
 |[],[],_=>rfl
 |c::l,d::m,hl=>by simp only[List.flatMap_cons,Y0 hl.1,Y1 hl.2]
 |[],d::m,hl=>hl.elim
 |c::l,[],hl=>hl.elim
theorem iK:∀{l m:List (C ⊕ List C)},leT l m→m.flatMap pNames=l.flatMap pNames
 |[],[],_=>rfl
 |p::l,q::m,hl=>by
  have h1:pNames q=pNames p:=by
   have h0:=hl.1
   cases p<;>cases q<;>first|exact h0.elim|exact Y0 h0|exact Y1 h0
  simp only[List.flatMap_cons,h1,iK hl.2]
 |[],d::m,hl=>hl.elim
 |c::l,[],hl=>hl.elim
theorem yK {v v':SV} (hl:leV v v'):v'.names=v.names:=by
 cases v<;>cases v'<;>first|exact hl.elim|exact Y0 hl|exact Y1 hl|exact iK hl
def dF (r:SV):St→List SV→Prop:=fun _ vs=>(DS vs).names=[]∧leV (DS vs) r
theorem yL (r:SV) (s:St) (vs:List SV):dF r s vs=((DS vs).names=[]∧leV (DS vs) r):=rfl
section
variable {P:Program}
theorem Rq {w:World} {fz:Nat→Prop} {r:SV} {en:Ending} {w':World} (h:GP w fz (fun v=>leV v r) en w'):GP w fz (fun v=>v=r) en w':=by
 obtain⟨v,x,fz',rfl,h1,h2,h3,h4,h5,h6,h7⟩:=h
 exact⟨r,x,fz',rfl,rfl,by rw[yK h1];exact h2,h3,h4,h5,dE h1 h6,h7⟩
theorem A9 {f:FuncId} {fn:Func} {c:Code} (hf:P.funcs[f]?=some fn) (hb:fn.body=some c) (w:World) (fz:Nat→Prop) (sp:List (Spec P (clX fz) w)) (g:Gh) {A:Type} (ac:ArgC A) (F:A→SV) (a:A) (xs:List Value) (hfz:∀b,fz b→b<w.heap.size) (hl:xs.length=(ac.e a).length)
  (hx:∀(j:Nat) (v:SV) (x:Value),(ac.e a)[j]?=some v→xs[j]?=some x→CD (hp w) fz v x) (hn:(ac.e a).length≤fn.ntmps)
  (h:vc (clX fz) w sp fn.ntmps g c ⟨HE 0 (ac.e a),[]⟩ (Mn P (clX fz) fn.results.toList (dF (F a)))):Calls P f xs.toArray w (GP w fz (fun v=>v=F a)):=
 (S1 hf hb w fz sp g (ac.e a) (ac.n a) hfz xs hl hx (fun v=>leV v (F a)) hn h).mono fun _ _ h=>Rq h
theorem Kc {f:FuncId} {fn:Func} {c:Code} (hf:P.funcs[f]?=some fn) (hb:fn.body=some c) (w:World) (fz:Nat→Prop) (sp:List (Spec P (clX fz) w)) (g:Gh) {A:Type} (ac:ArgH A) (F:A→SV) (a:A) (xs:List Value) (hfz:∀b,fz b→b<w.heap.size) (hl:xs.length=(ac.e a).length)
  (hx:∀(j:Nat) (v:SV) (x:Value),(ac.e a)[j]?=some v→xs[j]?=some x→CD (hp w) fz v x) (hn:(ac.e a).length≤fn.ntmps)
  (h:vc (clX fz) w sp fn.ntmps g c ⟨HE 0 (ac.e a),[]⟩ (Mn P (clX fz) fn.results.toList (dF (F a)))):Calls P f xs.toArray w (GP w fz (fun v=>v=F a)):=
 (S1 hf hb w fz sp g (ac.e a) (ac.n a) hfz xs hl hx (fun v=>leV v (F a)) hn h).mono fun _ _ h=>Rq h
def WN (r:SV) (m':List (Option MV)):St→List SV→Prop:=fun s vs=>leV (DS vs) r∧YY (DS vs)=true∧∀p∈memO 0 m',Tn (lkp s.h p.1) p.2∧Q5 (memO 0 m') (chNames p.2)
theorem sN (r:SV) (m':List (Option MV)) (s:St) (vs:List SV):WN r m' s vs=(leV (DS vs) r∧YY (DS vs)=true∧∀p∈memO 0 m',Tn (lkp s.h p.1) p.2∧Q5 (memO 0 m') (chNames p.2)):=rfl
theorem AJ {f:FuncId} {fn:Func} {c:Code} (hf:P.funcs[f]?=some fn) (hb:fn.body=some c) (mem:List MV) (w:World) (M:Nat→Prop) (I:Nm) (lab:Lab) (fz:Nat→Prop) (sp:List (Spec P (mX M fz I mem.length) w)) (g:Gh) (args:List SV) (mem':List (Option MV)) (R:SV) (xs:List Value)
  (hA:AtW (mX M fz I mem.length) w I lab fz (lkp (D3 0 mem)) w) (hlen:xs.length=args.length) (hx:∀(j:Nat) (v:SV) (x:Value),args[j]?=some v→xs[j]?=some x→AU (hp w) fz lab I (lkp (D3 0 mem)) v x)
  (hnm:∀v∈args,∀k∈v.names,k<mem.length) (hn:args.length≤fn.ntmps) (hl:mem.length≤mem'.length)
  (h:vc (mX M fz I mem.length) w sp fn.ntmps g c ⟨HE 0 args,D3 0 mem⟩ (Mn P (mX M fz I mem.length) fn.results.toList (WN R mem'))):Calls P f xs.toArray w (Qy w M fz I mem.length mem' R):=by
 refine calls_of_wp hf hb (Code.wp_mono ?_ (Ab sp g c _ _ h _ w ?_))
 ·rintro e a w' ⟨s,hq,hs⟩
  have fin:Q9 P (mX M fz I mem.length) fn.results.toList (WN R mem') s→a.defers=[]∧∃v,(results fn a.tmps).run P w'= .ok v w'∧Qy w M fz I mem.length mem' R (Ending.returned v) w':=by
   rintro ⟨cs,s',vs,h1,h2,h3,h4,h5,h6⟩
   refine⟨hs.defers,?_⟩
   obtain⟨_,I',lab',fz',hA'⟩:=Fz h1 a w' hs
   obtain⟨x,x1,x2⟩:=Ol hA' h2 h3
   refine⟨x,x1,x,I',lab',fz',rfl,iz hA'.m h6 (fun p hp'=>?_),dE h4 (tI h5 x2)⟩
   obtain⟨q1,q2,_⟩:=JV hp'
   exact QA _ _ _ q1 (by omega)
  cases e with
  |normal=>exact fin hq
  |ret=>exact fin hq
  |_=>exact hq.elim
 ·refine⟨?_,I,lab,fz,?_,rfl,?_,hA⟩
  ·intro t g v ht _ k hk
   rw[M7]at ht
   simp only[Nat.zero_le,if_true,Nat.sub_zero,Option.map_eq_some_iff,jP]at ht
   obtain⟨u,hu,rfl,rfl⟩:=ht
   have:=hnm u (List.mem_of_getElem? hu) k hk
   show (lkp (D3 0 mem) k).isSome=true
   rw[D3,EG]
   simp[this]
  ·simp[hlen];omega
  ·intro t g v ht
   rw[M7]at ht
   simp only[Nat.zero_le,if_true,Nat.sub_zero,Option.map_eq_some_iff,jP]at ht
   obtain⟨u,hu,rfl,rfl⟩:=ht
   have hlt:t<args.length:=(List.getElem?_eq_some_iff.1 hu).1
   have hlt2:t<xs.length:=by omega
   refine⟨xs[t],?_,?_⟩
   ·rw[Array.getElem?_append_left (by simpa using hlt2)]
    simp[hlt2]
   ·simp only[if_true]
    exact hx t u _ hu (List.getElem?_eq_getElem hlt2)
end
open Classical in
noncomputable def IF {A:Type} (e:A→SV) (uq:∀v a b,leV v (e a)→leV v (e b)→a=b) (n:∀a,(e a).names=[]):Cod A where
 d v:=if h:∃a,leV v (e a) then some h.choose else none
 e:=e
 h s x y hd r:=by
  split at hd
  ·rename_i h
   simp only[jS]at hd
   subst hd
   exact dE h.choose_spec r
  ·cases hd
 n:=n
open Classical in
theorem Df {A:Type} {e:A→SV} {uq:∀v a b,leV v (e a)→leV v (e b)→a=b} {n:∀a,(e a).names=[]} {v:SV} {a:A} (h:leV v (e a)):(IF e uq n).d v=some a:=by
 have hex:∃a,leV v (e a):=⟨a,h⟩
 show (if h:∃a,leV v (e a) then some h.choose else none)=some a
 rw[dif_pos hex]
 exact congrArg some (uq v _ _ hex.choose_spec h)
open Classical in
noncomputable def rowOf {A:Type} (z:List D) (e:A→List D) (uq:∀a b,e a=e b→a=b) (n:∀a,(e a).length=z.length):RowC A where
 z:=z
 d r:=if h:∃a,r=e a then some h.choose else none
 e:=e
 h r b hd:=by
  split at hd
  ·rename_i h
   simp only[jS]at hd
   subst hd
   exact h.choose_spec
  ·cases hd
 i b:=by
  have hex:∃a,e b=e a:=⟨b,rfl⟩
  rw[dif_pos hex]
  exact congrArg some (uq _ _ hex.choose_spec.symm)
 n:=n
open Classical in
noncomputable def KB {A:Type} (z:List C) (e:A→List C) (n:∀b,∀c∈e b,c.names=[]) (t:zT z=none:=by first|rfl|decide):RowM A where
 t:=t
 z:=z
 d r:=if h:∃a,r=e a then some h.choose else none
 e:=e
 h r b hd:=by
  split at hd
  ·rename_i h
   simp only[jS]at hd
   subst hd
   exact h.choose_spec
  ·cases hd
 n:=n
open Classical in
theorem Fs {A:Type} {z:List C} {e:A→List C} {n:∀b,∀c∈e b,c.names=[]} {t:zT z=none} (uq:∀a b,e a=e b→a=b) (a:A):(KB z e n t).d (e a)=some a:=by
 have hex:∃b,e a=e b:=⟨a,rfl⟩
 show (if h:∃b,e a=e b then some h.choose else none)=some a
 rw[dif_pos hex]
 exact congrArg some (uq _ _ hex.choose_spec.symm)
def ptR {B:Type} (c:RowC B) (H:Hp):SV→Option (B×List Nat)
 | .one (.p k 0 0)=>match H k with
  |some (.vec _ z [r])=>match D2 z,D2 r with
   |some _,some r'=>(c.d r').map fun b=>(b,[k])
   |_,_=>none
  |_=>none
 | .one (.d (.pt (some r)))=>(c.d r).map fun b=>(b,[])
 | .one (.dp r)=>(c.d r).map fun b=>(b,[])
 |_=>none
def cPt {B:Type} (c:RowC B):CodH B where
 d:=ptR c
 e b:=.one (.d (.pt (some (c.e b))))
 h:=fun {X w0 w I lab fz H} v a fp x hA h r=>by
  unfold ptR at h
  split at h
  ·rename_i k
   split at h
   ·rename_i u z r0 hk
    split at h
    ·rename_i z' r' hz hr
     simp only[Option.map_eq_some_iff,jP]at h
     obtain⟨b,hb,rfl,rfl⟩:=h
     obtain⟨lab',fz',h1,_,_,h4⟩:=Tm hA hk (es':=[r']) hz (by simp only[D9,hr])
     have h5:=h4 0 0 (by simp)
     have hx:=r.2
     cases hx
     simp only[List.getD_cons_zero,List.drop_zero]at h5
     rw[c.h _ _ hb]at h5
     exact⟨rfl,.d _ _ _ (CK (fun b hb=>⟨(h1.fzl b hb).1,rfl⟩) h5)⟩
    ·cases h
   ·cases h
  ·simp only[Option.map_eq_some_iff,jP]at h
   obtain⟨b,hb,rfl,rfl⟩:=h
   have hx:=r.2
   cases hx with|d _ _ _ r=>?_
   rw[c.h _ _ hb]at r
   exact⟨rfl,.d _ _ _ (CK (fun b hb=>⟨(hA.fzl b hb).1,rfl⟩) r)⟩
  ·simp only[Option.map_eq_some_iff,jP]at h
   obtain⟨b,hb,rfl,rfl⟩:=h
   have hx:=r.2
   cases hx with|dp _ _ _ r=>?_
   rw[c.h _ _ hb]at r
   exact⟨rfl,.d _ _ _ (CK (fun b hb=>⟨(hA.fzl b hb).1,rfl⟩) r)⟩
  ·cases h
 n a:=rfl
 l H H' v a fp h hf:=by
  unfold ptR at*
  split at h
  ·rename_i k
   split at h
   ·rename_i u z r0 hk
    have hfp:k∈fp:=by
     split at h
     ·simp only[Option.map_eq_some_iff,jP]at h
      obtain⟨_,_,_,rfl⟩:=h;simp
     ·cases h
    simp only[hf k hfp,hk]
    exact h
   ·cases h
  ·exact h
  ·exact h
  ·cases h
theorem Ke {B:Type} (c:RowC B) (H:Hp) (v:SV):(cPt c).d H v=ptR c H v:=rfl
theorem A3O {B:Type} (c:RowC B) (b:B):(cPt c).e b= .one (.d (.pt (some (c.e b)))):=rfl
theorem yM:Cl (C.any)=true:=rfl
theorem A8B (x:Value):Cl (C.v x)=true:=rfl
theorem A8C (k i j:Nat):Cl (C.p k i j)=true:=rfl
theorem A8D (k:Nat):Cl (C.s k)=true:=rfl
theorem A8E (x:D):Cl (C.d x)=true:=rfl
theorem A3P (z:List D) (es:List (List D)):Cl (C.df z es)=true:=rfl
theorem A3Q (cs:List D):Cl (C.dp cs)=true:=rfl
theorem A3R (f:FuncId) (caps:List C):Cl (C.fn f caps)=true:=rfl
theorem A3S (k u:Nat) (p:List (Nat×Nat)):Cl (C.vw k u p)=false:=rfl
theorem A8F (k u:Nat) (p:List (Nat×Nat)) (s m o:Nat):Cl (C.q k u p s m o)=false:=rfl
theorem A3T (z:List C) (es:List (List C)):Cl (C.ov z es)=true:=rfl
theorem yN:C.stor (C.any)=true:=rfl
theorem A8G (x:Value):C.stor (C.v x)=true:=rfl
theorem A8H (k i j:Nat):C.stor (C.p k i j)=true:=rfl
theorem A8I (k:Nat):C.stor (C.s k)=true:=rfl
theorem A8J (x:D):C.stor (C.d x)=true:=rfl
theorem A3U (z:List D) (es:List (List D)):C.stor (C.df z es)=true:=rfl
theorem A3V (cs:List D):C.stor (C.dp cs)=true:=rfl
theorem A3W (f:FuncId) (caps:List C):C.stor (C.fn f caps)=true:=rfl
theorem A3X (k u:Nat) (p:List (Nat×Nat)):C.stor (C.vw k u p)=false:=rfl
theorem st_q (k u:Nat) (p:List (Nat×Nat)) (s m o:Nat):C.stor (C.q k u p s m o)=false:=rfl
theorem A3Y (z:List C) (es:List (List C)):C.stor (C.ov z es)=false:=rfl
theorem yO:C.names (C.any)=[]:=rfl
theorem A8K (x:Value):C.names (C.v x)=[]:=rfl
theorem A8L (k i j:Nat):C.names (C.p k i j)=[k]:=rfl
theorem A8M (k:Nat):C.names (C.s k)=[k]:=rfl
theorem A8N (x:D):C.names (C.d x)=[]:=rfl
theorem A3Z (z:List D) (es:List (List D)):C.names (C.df z es)=[]:=rfl
theorem A3a (cs:List D):C.names (C.dp cs)=[]:=rfl
theorem A3b (f:FuncId) (caps:List C):C.names (C.fn f caps)=caps.flatMap capN:=rfl
theorem A3c (k u:Nat) (p:List (Nat×Nat)):C.names (C.vw k u p)=[k]:=rfl
theorem nm_q (k u:Nat) (p:List (Nat×Nat)) (s m o:Nat):C.names (C.q k u p s m o)=[k]:=rfl
theorem A3d (z:List C) (es:List (List C)):C.names (C.ov z es)=[]:=rfl
theorem yP (g:Nat→Nat):Dg g (C.any)= .any:=rfl
theorem A8O (g:Nat→Nat) (x:Value):Dg g (C.v x)= .v x:=rfl
theorem A8P (g:Nat→Nat) (k i j:Nat):Dg g (C.p k i j)= .p (g k) i j:=rfl
theorem A8Q (g:Nat→Nat) (k:Nat):Dg g (C.s k)= .s (g k):=rfl
theorem A8R (g:Nat→Nat) (x:D):Dg g (C.d x)= .d x:=rfl
theorem A3e (g:Nat→Nat) (z:List D) (es:List (List D)):Dg g (C.df z es)= .df z es:=rfl
theorem A3f (g:Nat→Nat) (cs:List D):Dg g (C.dp cs)= .dp cs:=rfl
theorem A3g (g:Nat→Nat) (f:FuncId) (caps:List C):Dg g (C.fn f caps)= .any:=rfl
theorem A3h (g:Nat→Nat) (k u:Nat) (p:List (Nat×Nat)):Dg g (C.vw k u p)= .any:=rfl
theorem A8S (g:Nat→Nat) (k u:Nat) (p:List (Nat×Nat)) (s m o:Nat):Dg g (C.q k u p s m o)= .any:=rfl
theorem A3i (g:Nat→Nat) (z:List C) (es:List (List C)):Dg g (C.ov z es)= .any:=rfl
theorem yQ (n:Nat) (zz:List D) (ee:List (List D)):fzC n zz ee (C.any)=(C.any):=rfl
theorem A8T (n:Nat) (zz:List D) (ee:List (List D)) (x:Value):fzC n zz ee (C.v x)=(C.v x):=rfl
theorem A8U (n:Nat) (zz:List D) (ee:List (List D)) (k i j:Nat):fzC n zz ee (C.p k i j)=if k=n then (if i<ee.length then .d (.pt (some ((ee.getD i zz).drop j))) else .any) else .p k i j:=rfl
theorem A8V (n:Nat) (zz:List D) (ee:List (List D)) (k:Nat):fzC n zz ee (C.s k)=if k=n then .d (.sl zz ee) else .s k:=rfl
theorem A8W (n:Nat) (zz:List D) (ee:List (List D)) (x:D):fzC n zz ee (C.d x)=(C.d x):=rfl
theorem A3j (n:Nat) (zz:List D) (ee:List (List D)) (z:List D) (es:List (List D)):fzC n zz ee (C.df z es)=(C.df z es):=rfl
theorem A3k (n:Nat) (zz:List D) (ee:List (List D)) (cs:List D):fzC n zz ee (C.dp cs)=(C.dp cs):=rfl
theorem A3l (n:Nat) (zz:List D) (ee:List (List D)) (f:FuncId) (caps:List C):fzC n zz ee (C.fn f caps)=if (caps.flatMap capN).contains n=true then .any else .fn f caps:=rfl
theorem A3m (n:Nat) (zz:List D) (ee:List (List D)) (k u:Nat) (p:List (Nat×Nat)):fzC n zz ee (C.vw k u p)=if k=n then .any else .vw k u p:=rfl
theorem A8X (n:Nat) (zz:List D) (ee:List (List D)) (k u:Nat) (p:List (Nat×Nat)) (s m o:Nat):fzC n zz ee (C.q k u p s m o)=if k=n then .any else .q k u p s m o:=rfl
theorem A3n (n:Nat) (zz:List D) (ee:List (List D)) (z:List C) (es:List (List C)):fzC n zz ee (C.ov z es)=(C.ov z es):=rfl
theorem yR (n t:Nat):mvC n t (C.any)=(C.any):=rfl
theorem A8Y (n t:Nat) (x:Value):mvC n t (C.v x)=(C.v x):=rfl
theorem A8Z (n t:Nat) (k i j:Nat):mvC n t (C.p k i j)=if k=n then .p t i j else .p k i j:=rfl
theorem A8a (n t:Nat) (k:Nat):mvC n t (C.s k)=if k=n then .s t else .s k:=rfl
theorem A8b (n t:Nat) (x:D):mvC n t (C.d x)=(C.d x):=rfl
theorem A3o (n t:Nat) (z:List D) (es:List (List D)):mvC n t (C.df z es)=(C.df z es):=rfl
theorem A3p (n t:Nat) (cs:List D):mvC n t (C.dp cs)=(C.dp cs):=rfl
theorem A3q (n t:Nat) (f:FuncId) (caps:List C):mvC n t (C.fn f caps)=if (caps.flatMap capN).contains n=true then .any else .fn f caps:=rfl
theorem A3r (n t:Nat) (k u:Nat) (p:List (Nat×Nat)):mvC n t (C.vw k u p)=if k=n then .any else .vw k u p:=rfl
theorem A8c (n t:Nat) (k u:Nat) (p:List (Nat×Nat)) (s m o:Nat):mvC n t (C.q k u p s m o)=if k=n then .any else .q k u p s m o:=rfl
theorem A3s (n t:Nat) (z:List C) (es:List (List C)):mvC n t (C.ov z es)=(C.ov z es):=rfl
theorem A8d (x:Value):oD (.v x)= .v x:=rfl
theorem A3t (z:List D) (es:List (List D)):oD (.sl z es)= .d (.sl z es):=rfl
theorem A3u (o:Option (List D)):oD (.pt o)= .d (.pt o):=rfl
theorem A8e:IL (.v (.pointer none))=some true:=rfl
theorem A8f (a:Addr):IL (.v (.pointer (some a)))=some false:=rfl
theorem A3v:IL (.d (.pt none))=some true:=rfl
theorem A8g (l:List D):IL (.d (.pt (some l)))=some false:=rfl
theorem A3w (l:List D):IL (.dp l)=some false:=rfl
theorem A3x (k i j:Nat):IL (.p k i j)=none:=rfl
theorem A8h (k:Nat):IL (.s k)=none:=rfl
theorem yS:IL .any=none:=rfl
theorem yT:clC (C.any)=none:=rfl
theorem A8i (x:Value):clC (C.v x)=some x:=rfl
theorem A8j (k i j:Nat):clC (C.p k i j)=none:=rfl
theorem A8k (k:Nat):clC (C.s k)=none:=rfl
theorem A8l (x:D):clC (C.d x)=none:=rfl
theorem A3y (z:List D) (es:List (List D)):clC (C.df z es)=none:=rfl
theorem A3z (cs:List D):clC (C.dp cs)=none:=rfl
theorem A40 (f:FuncId) (caps:List C):clC (C.fn f caps)=none:=rfl
theorem A41 (k u:Nat) (p:List (Nat×Nat)):clC (C.vw k u p)=none:=rfl
theorem A8m (k u:Nat) (p:List (Nat×Nat)) (s m o:Nat):clC (C.q k u p s m o)=none:=rfl
theorem A42 (z:List C) (es:List (List C)):clC (C.ov z es)=none:=rfl
end Go.Sy
