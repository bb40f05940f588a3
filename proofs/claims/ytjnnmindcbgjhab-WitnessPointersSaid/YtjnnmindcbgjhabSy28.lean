/- Results up to the empty slice; codings by injections; a pointer read where it lies. No conditions but those in each statement. -/
import Derived.Test.YtjnnmindcbgjhabSyC
set_option linter.unusedVariables false
set_option linter.unusedSimpArgs false
namespace Go.Sy
open Go Go.RowKit
def nilS:C→Bool
 | .v (.slice none 0 0)=>true
 |_=>false
def emS:C→Bool
 | .d (.sl _ [])=>true
 |_=>false
def leC (c d:C):Prop:=c=d∨(nilS c=true∧emS d=true)
def leL:List C→List C→Prop
 |[],[]=>True
 |c::l,d::m=>leC c d∧leL l m
 |_,_=>False
def leP:C ⊕ List C→C ⊕ List C→Prop
 | .inl c,.inl d=>leC c d
 | .inr l,.inr m=>leL l m
 |_,_=>False
def leT:List (C ⊕ List C)→List (C ⊕ List C)→Prop
 |[],[]=>True
 |p::l,q::m=>leP p q∧leT l m
 |_,_=>False
def leV:SV→SV→Prop
 | .one c,.one d=>leC c d
 | .agg l,.agg m=>leL l m
 | .tup l,.tup m=>leT l m
 |_,_=>False
theorem leC_refl (c:C):leC c c:=.inl rfl
theorem leC_same (c:C):leC c c=True:=by simp[leC]
theorem leC_nil (z:List D):leC (.v (.slice none 0 0)) (.d (.sl z []))=True:=by simp[leC,nilS,emS]
theorem leL_refl:∀l:List C,leL l l
 |[]=>trivial
 |c::l=>⟨leC_refl c,leL_refl l⟩
theorem leT_refl:∀l:List (C ⊕ List C),leT l l
 |[]=>trivial
 | .inl c::l=>⟨leC_refl c,leT_refl l⟩
 | .inr c::l=>⟨leL_refl c,leT_refl l⟩
theorem leV_refl (v:SV):leV v v:=by
 cases v with
 |one c=>exact leC_refl c
 |agg l=>exact leL_refl l
 |tup l=>exact leT_refl l
theorem nilS_eq {c:C} (h:nilS c=true):c= .v (.slice none 0 0):=by
 unfold nilS at h
 split at h
 ·rfl
 ·cases h
theorem emS_eq {c:C} (h:emS c=true):∃z,c= .d (.sl z []):=by
 unfold emS at h
 split at h
 ·exact⟨_,rfl⟩
 ·cases h
section
variable {h:Heap} {fz:Nat→Prop} {lab:Lab} {I:Nm} {H:Hp}
theorem sc_le {c d:C} (hl:leC c d) {x:Value} (r:SC h fz lab I H c x):SC h fz lab I H d x:=by
 rcases hl with rfl|⟨h1,h2⟩
 ·exact r
 ·obtain rfl:=nilS_eq h1
  obtain⟨z,rfl⟩:=emS_eq h2
  have r2:=r.2
  cases r2
  exact⟨rfl,.d _ _ _ (.nil z none 0 fun _=>rfl)⟩
theorem leL_get:∀{l m:List C},leL l m→l.length=m.length∧∀(j:Nat) (d:C),m[j]?=some d→∃c,l[j]?=some c∧leC c d
 |[],[],_=>⟨rfl,by simp⟩
 |c::l,d::m,hl=>by
  obtain⟨h1,h2⟩:=leL_get hl.2
  refine⟨by simp[h1],fun j e he=>?_⟩
  cases j with
  |zero=>simp only[List.getElem?_cons_zero,Option.some.injEq]at he;subst he;exact⟨c,rfl,hl.1⟩
  |succ j=>exact h2 j e (by simpa using he)
 |[],d::m,hl=>hl.elim
 |c::l,[],hl=>hl.elim
theorem cs_le {l m:List C} (hl:leL l m) {arr:Array Value} (r:CsDen h fz lab I H l arr):CsDen h fz lab I H m arr:=by
 obtain⟨h1,h2⟩:=leL_get hl
 refine⟨by rw[r.1,h1],fun j d hd=>?_⟩
 obtain⟨c,hc,hcd⟩:=h2 j d hd
 obtain⟨y,y1,y2⟩:=r.2 j c hc
 exact⟨y,y1,sc_le hcd y2⟩
theorem leT_get:∀{l m:List (C ⊕ List C)},leT l m→l.length=m.length∧∀(j:Nat) (d:C ⊕ List C),m[j]?=some d→∃c,l[j]?=some c∧leP c d
 |[],[],_=>⟨rfl,by simp⟩
 |c::l,d::m,hl=>by
  obtain⟨h1,h2⟩:=leT_get hl.2
  refine⟨by simp[h1],fun j e he=>?_⟩
  cases j with
  |zero=>simp only[List.getElem?_cons_zero,Option.some.injEq]at he;subst he;exact⟨c,rfl,hl.1⟩
  |succ j=>exact h2 j e (by simpa using he)
 |[],d::m,hl=>hl.elim
 |c::l,[],hl=>hl.elim
theorem sd_le {v v':SV} (hl:leV v v') {x:Value} (r:SDen h fz lab I H v x):SDen h fz lab I H v' x:=by
 cases v with
 |one c=>cases v' with
  |one d=>exact sc_le hl r
  |agg=>exact hl.elim
  |tup=>exact hl.elim
 |agg l=>cases v' with
  |one=>exact hl.elim
  |tup=>exact hl.elim
  |agg m=>obtain⟨arr,h1,h2⟩:=r;exact⟨arr,h1,cs_le hl h2⟩
 |tup l=>cases v' with
  |one=>exact hl.elim
  |agg=>exact hl.elim
  |tup m=>
   obtain⟨arr,h1,h2,h3⟩:=r
   obtain⟨g1,g2⟩:=leT_get hl
   refine⟨arr,h1,by rw[h2,g1],fun j p hp=>?_⟩
   obtain⟨q,hq,hqp⟩:=g2 j p hp
   obtain⟨y,y1,y2⟩:=h3 j q hq
   refine⟨y,y1,?_⟩
   cases q with
   |inl c=>cases p with
    |inl d=>exact sc_le hqp y2
    |inr=>exact hqp.elim
   |inr l=>cases p with
    |inl=>exact hqp.elim
    |inr m=>obtain⟨arr,e1,e2⟩:=y2;exact⟨arr,e1,cs_le hqp e2⟩
end
theorem leC_nm {c d:C} (hl:leC c d):d.names=c.names:=by
 rcases hl with rfl|⟨h1,h2⟩
 ·rfl
 ·obtain rfl:=nilS_eq h1;obtain⟨z,rfl⟩:=emS_eq h2;rfl
theorem leL_nm:∀{l m:List C},leL l m→m.flatMap C.names=l.flatMap C.names
 |[],[],_=>rfl
 |c::l,d::m,hl=>by simp only[List.flatMap_cons,leC_nm hl.1,leL_nm hl.2]
 |[],d::m,hl=>hl.elim
 |c::l,[],hl=>hl.elim
theorem leT_nm:∀{l m:List (C ⊕ List C)},leT l m→m.flatMap pNames=l.flatMap pNames
 |[],[],_=>rfl
 |p::l,q::m,hl=>by
  have h1:pNames q=pNames p:=by
   have h0:=hl.1
   cases p<;>cases q<;>first|exact h0.elim|exact leC_nm h0|exact leL_nm h0
  simp only[List.flatMap_cons,h1,leT_nm hl.2]
 |[],d::m,hl=>hl.elim
 |c::l,[],hl=>hl.elim
theorem leV_nm {v v':SV} (hl:leV v v'):v'.names=v.names:=by
 cases v<;>cases v'<;>first|exact hl.elim|exact leC_nm hl|exact leL_nm hl|exact leT_nm hl
def RESL (r:SV):St→List SV→Prop:=fun _ vs=>(resV vs).names=[]∧leV (resV vs) r
theorem e_RESL (r:SV) (s:St) (vs:List SV):RESL r s vs=((resV vs).names=[]∧leV (resV vs) r):=rfl
section
variable {P:Program}
theorem dpost_le {w:World} {fz:Nat→Prop} {r:SV} {en:Ending} {w':World} (h:DPost w fz (fun v=>leV v r) en w'):DPost w fz (fun v=>v=r) en w':=by
 obtain⟨v,x,fz',rfl,h1,h2,h3,h4,h5,h6,h7⟩:=h
 exact⟨r,x,fz',rfl,rfl,by rw[leV_nm h1];exact h2,h3,h4,h5,sd_le h1 h6,h7⟩
theorem calls_toL {f:FuncId} {fn:Func} {c:Code} (hf:P.funcs[f]?=some fn) (hb:fn.body=some c) (w:World) (fz:Nat→Prop) (sp:List (Spec P (clX fz) w)) (g:Gh) {A:Type} (ac:ArgC A) (F:A→SV) (a:A) (xs:List Value) (hfz:∀b,fz b→b<w.heap.size) (hl:xs.length=(ac.e a).length)
  (hx:∀(j:Nat) (v:SV) (x:Value),(ac.e a)[j]?=some v→xs[j]?=some x→CD (hp w) fz v x) (hn:(ac.e a).length≤fn.ntmps)
  (h:vc (clX fz) w sp fn.ntmps g c ⟨argE 0 (ac.e a),[]⟩ (retQ P (clX fz) fn.results.toList (RESL (F a)))):Calls P f xs.toArray w (DPost w fz (fun v=>v=F a)):=
 (calls_vc hf hb w fz sp g (ac.e a) (ac.n a) hfz xs hl hx (fun v=>leV v (F a)) hn h).mono fun _ _ h=>dpost_le h
theorem calls_toRL {f:FuncId} {fn:Func} {c:Code} (hf:P.funcs[f]?=some fn) (hb:fn.body=some c) (w:World) (fz:Nat→Prop) (sp:List (Spec P (clX fz) w)) (g:Gh) {A:Type} (ac:ArgH A) (F:A→SV) (a:A) (xs:List Value) (hfz:∀b,fz b→b<w.heap.size) (hl:xs.length=(ac.e a).length)
  (hx:∀(j:Nat) (v:SV) (x:Value),(ac.e a)[j]?=some v→xs[j]?=some x→CD (hp w) fz v x) (hn:(ac.e a).length≤fn.ntmps)
  (h:vc (clX fz) w sp fn.ntmps g c ⟨argE 0 (ac.e a),[]⟩ (retQ P (clX fz) fn.results.toList (RESL (F a)))):Calls P f xs.toArray w (DPost w fz (fun v=>v=F a)):=
 (calls_vc hf hb w fz sp g (ac.e a) (ac.n a) hfz xs hl hx (fun v=>leV v (F a)) hn h).mono fun _ _ h=>dpost_le h
def RESML (r:SV) (m':List (Option MV)):St→List SV→Prop:=fun s vs=>leV (resV vs) r∧noVw (resV vs)=true∧∀p∈memO 0 m',optCh (lkp s.h p.1) p.2∧domB (memO 0 m') (chNames p.2)
theorem e_RESML (r:SV) (m':List (Option MV)) (s:St) (vs:List SV):RESML r m' s vs=(leV (resV vs) r∧noVw (resV vs)=true∧∀p∈memO 0 m',optCh (lkp s.h p.1) p.2∧domB (memO 0 m') (chNames p.2)):=rfl
theorem calls_toML {f:FuncId} {fn:Func} {c:Code} (hf:P.funcs[f]?=some fn) (hb:fn.body=some c) (mem:List MV) (w:World) (M:Nat→Prop) (I:Nm) (lab:Lab) (fz:Nat→Prop) (sp:List (Spec P (mX M fz I mem.length) w)) (g:Gh) (args:List SV) (mem':List (Option MV)) (R:SV) (xs:List Value)
  (hA:AtW (mX M fz I mem.length) w I lab fz (lkp (memH 0 mem)) w) (hlen:xs.length=args.length) (hx:∀(j:Nat) (v:SV) (x:Value),args[j]?=some v→xs[j]?=some x→SDen (hp w) fz lab I (lkp (memH 0 mem)) v x)
  (hnm:∀v∈args,∀k∈v.names,k<mem.length) (hn:args.length≤fn.ntmps) (hl:mem.length≤mem'.length)
  (h:vc (mX M fz I mem.length) w sp fn.ntmps g c ⟨argE 0 args,memH 0 mem⟩ (retQ P (mX M fz I mem.length) fn.results.toList (RESML R mem'))):Calls P f xs.toArray w (MPost w M fz I mem.length mem' R):=by
 refine calls_of_wp hf hb (Code.wp_mono ?_ (vc_ok sp g c _ _ h _ w ?_))
 ·rintro e a w' (⟨s,hq,hs⟩|⟨ch,rfl,_,_,I1,l1,f1,H1,_,hpn⟩)
  rotate_left
  ·exact hpn.elim
  have fin:RetP P (mX M fz I mem.length) fn.results.toList (RESML R mem') s→a.defers=[]∧∃v,(results fn a.tmps).run P w'= .ok v w'∧MPost w M fz I mem.length mem' R (Ending.returned v) w':=by
   rintro ⟨cs,s',vs,h1,h2,h3,h4,h5,h6⟩
   refine⟨hs.defers,?_⟩
   obtain⟨_,I',lab',fz',hA'⟩:=runCs_ent h1 a w' hs
   obtain⟨x,x1,x2⟩:=results_ok hA' h2 h3
   refine⟨x,x1,x,I',lab',fz',rfl,at_sub hA'.m h6 (fun p hp'=>?_),sd_le h4 (sd_noVw h5 x2)⟩
   obtain⟨q1,q2,_⟩:=mem_memF hp'
   exact memO_keys _ _ _ q1 (by omega)
  cases e with
  |normal=>exact fin hq
  |ret=>exact fin hq
  |_=>exact hq.elim
 ·refine⟨?_,I,lab,fz,?_,⟨rfl,fun p hp=>by cases hp⟩,?_,hA⟩
  ·intro t g v ht _ k hk
   rw[argE_lkp]at ht
   simp only[Nat.zero_le,if_true,Nat.sub_zero,Option.map_eq_some_iff,Prod.mk.injEq]at ht
   obtain⟨u,hu,rfl,rfl⟩:=ht
   have:=hnm u (List.mem_of_getElem? hu) k hk
   show (lkp (memH 0 mem) k).isSome=true
   rw[memH,lkp_mem0]
   simp[this]
  ·simp[hlen];omega
  ·intro t g v ht
   rw[argE_lkp]at ht
   simp only[Nat.zero_le,if_true,Nat.sub_zero,Option.map_eq_some_iff,Prod.mk.injEq]at ht
   obtain⟨u,hu,rfl,rfl⟩:=ht
   have hlt:t<args.length:=(List.getElem?_eq_some_iff.1 hu).1
   have hlt2:t<xs.length:=by omega
   refine⟨xs[t],?_,?_⟩
   ·rw[Array.getElem?_append_left (by simpa using hlt2)]
    simp[hlt2]
   ·simp only[if_true]
    exact hx t u _ hu (List.getElem?_eq_getElem hlt2)
end
open Classical in
noncomputable def codOf {A:Type} (e:A→SV) (uq:∀v a b,leV v (e a)→leV v (e b)→a=b) (n:∀a,(e a).names=[]):Cod A where
 d v:=if h:∃a,leV v (e a) then some h.choose else none
 e:=e
 h s x y hd r:=by
  split at hd
  ·rename_i h
   simp only[Option.some.injEq]at hd
   subst hd
   exact sd_le h.choose_spec r
  ·cases hd
 n:=n
open Classical in
theorem codOf_le {A:Type} {e:A→SV} {uq:∀v a b,leV v (e a)→leV v (e b)→a=b} {n:∀a,(e a).names=[]} {v:SV} {a:A} (h:leV v (e a)):(codOf e uq n).d v=some a:=by
 have hex:∃a,leV v (e a):=⟨a,h⟩
 show (if h:∃a,leV v (e a) then some h.choose else none)=some a
 rw[dif_pos hex]
 exact congrArg some (uq v _ _ hex.choose_spec h)
open Classical in
noncomputable def rowOf {A:Type} (z:List D) (e:A→List D) (uq:∀a b,e a=e b→a=b) (n:∀a,(e a).length=z.length):RowC A where
 z:=z
 d r:=if h:∃a,r=e a then some h.choose else none
 e:=e
 h r b hd:=by
  split at hd
  ·rename_i h
   simp only[Option.some.injEq]at hd
   subst hd
   exact h.choose_spec
  ·cases hd
 i b:=by
  have hex:∃a,e b=e a:=⟨b,rfl⟩
  rw[dif_pos hex]
  exact congrArg some (uq _ _ hex.choose_spec.symm)
 n:=n
open Classical in
noncomputable def rowMOf {A:Type} (z:List C) (e:A→List C) (n:∀b,∀c∈e b,c.names=[]) (t:zT z=none:=by first|rfl|decide):RowM A where
 t:=t
 z:=z
 d r:=if h:∃a,r=e a then some h.choose else none
 e:=e
 h r b hd:=by
  split at hd
  ·rename_i h
   simp only[Option.some.injEq]at hd
   subst hd
   exact h.choose_spec
  ·cases hd
 n:=n
open Classical in
theorem rowMOf_d {A:Type} {z:List C} {e:A→List C} {n:∀b,∀c∈e b,c.names=[]} {t:zT z=none} (uq:∀a b,e a=e b→a=b) (a:A):(rowMOf z e n t).d (e a)=some a:=by
 have hex:∃b,e a=e b:=⟨a,rfl⟩
 show (if h:∃b,e a=e b then some h.choose else none)=some a
 rw[dif_pos hex]
 exact congrArg some (uq _ _ hex.choose_spec.symm)
def ptR {B:Type} (c:RowC B) (H:Hp):SV→Option (B×List Nat)
 | .one (.p k 0 0)=>match H k with
  |some (.vec _ z [r])=>match toDs z,toDs r with
   |some _,some r'=>(c.d r').map fun b=>(b,[k])
   |_,_=>none
  |_=>none
 | .one (.d (.pt (some r)))=>(c.d r).map fun b=>(b,[])
 | .one (.dp r)=>(c.d r).map fun b=>(b,[])
 |_=>none
def cPt {B:Type} (c:RowC B):CodH B where
 d:=ptR c
 e b:=.one (.d (.pt (some (c.e b))))
 h:=fun {X w0 w I lab fz H} v a fp x hA h r=>by
  unfold ptR at h
  split at h
  ·rename_i k
   split at h
   ·rename_i u z r0 hk
    split at h
    ·rename_i z' r' hz hr
     simp only[Option.map_eq_some_iff,Prod.mk.injEq]at h
     obtain⟨b,hb,rfl,rfl⟩:=h
     obtain⟨lab',fz',h1,_,_,h4⟩:=at_fz hA hk (es':=[r']) hz (by simp only[toDss,hr])
     have h5:=h4 0 0 (by simp)
     have hx:=r.2
     cases hx
     simp only[List.getD_cons_zero,List.drop_zero]at h5
     rw[c.h _ _ hb]at h5
     exact⟨rfl,.d _ _ _ (rd_mono (fun b hb=>⟨(h1.fzl b hb).1,rfl⟩) h5)⟩
    ·cases h
   ·cases h
  ·simp only[Option.map_eq_some_iff,Prod.mk.injEq]at h
   obtain⟨b,hb,rfl,rfl⟩:=h
   have hx:=r.2
   cases hx with|d _ _ _ r=>?_
   rw[c.h _ _ hb]at r
   exact⟨rfl,.d _ _ _ (rd_mono (fun b hb=>⟨(hA.fzl b hb).1,rfl⟩) r)⟩
  ·simp only[Option.map_eq_some_iff,Prod.mk.injEq]at h
   obtain⟨b,hb,rfl,rfl⟩:=h
   have hx:=r.2
   cases hx with|dp _ _ _ r=>?_
   rw[c.h _ _ hb]at r
   exact⟨rfl,.d _ _ _ (rd_mono (fun b hb=>⟨(hA.fzl b hb).1,rfl⟩) r)⟩
  ·cases h
 n a:=rfl
 l H H' v a fp h hf:=by
  unfold ptR at*
  split at h
  ·rename_i k
   split at h
   ·rename_i u z r0 hk
    have hfp:k∈fp:=by
     split at h
     ·simp only[Option.map_eq_some_iff,Prod.mk.injEq]at h
      obtain⟨_,_,_,rfl⟩:=h;simp
     ·cases h
    simp only[hf k hfp,hk]
    exact h
   ·cases h
  ·exact h
  ·exact h
  ·cases h
theorem cPt_d {B:Type} (c:RowC B) (H:Hp) (v:SV):(cPt c).d H v=ptR c H v:=rfl
theorem cPt_e {B:Type} (c:RowC B) (b:B):(cPt c).e b= .one (.d (.pt (some (c.e b)))):=rfl
theorem nv_any:noVwC (C.any)=true:=rfl
theorem nv_v (x:Value):noVwC (C.v x)=true:=rfl
theorem nv_p (k i j:Nat):noVwC (C.p k i j)=true:=rfl
theorem nv_s (k:Nat):noVwC (C.s k)=true:=rfl
theorem nv_d (x:D):noVwC (C.d x)=true:=rfl
theorem nv_df (z:List D) (es:List (List D)):noVwC (C.df z es)=true:=rfl
theorem nv_dp (cs:List D):noVwC (C.dp cs)=true:=rfl
theorem nv_fn (f:FuncId) (caps:List C):noVwC (C.fn f caps)=true:=rfl
theorem nv_vw (k u:Nat) (p:List (Nat×Nat)):noVwC (C.vw k u p)=false:=rfl
theorem nv_q (k u:Nat) (p:List (Nat×Nat)) (s m o:Nat):noVwC (C.q k u p s m o)=false:=rfl
theorem nv_ov (z:List C) (es:List (List C)):noVwC (C.ov z es)=true:=rfl
theorem st_any:C.stor (C.any)=true:=rfl
theorem st_v (x:Value):C.stor (C.v x)=true:=rfl
theorem st_p (k i j:Nat):C.stor (C.p k i j)=true:=rfl
theorem st_s (k:Nat):C.stor (C.s k)=true:=rfl
theorem st_d (x:D):C.stor (C.d x)=true:=rfl
theorem st_df (z:List D) (es:List (List D)):C.stor (C.df z es)=true:=rfl
theorem st_dp (cs:List D):C.stor (C.dp cs)=true:=rfl
theorem st_fn (f:FuncId) (caps:List C):C.stor (C.fn f caps)=true:=rfl
theorem st_vw (k u:Nat) (p:List (Nat×Nat)):C.stor (C.vw k u p)=false:=rfl
theorem st_q (k u:Nat) (p:List (Nat×Nat)) (s m o:Nat):C.stor (C.q k u p s m o)=false:=rfl
theorem st_ov (z:List C) (es:List (List C)):C.stor (C.ov z es)=false:=rfl
theorem nm_any:C.names (C.any)=[]:=rfl
theorem nm_v (x:Value):C.names (C.v x)=[]:=rfl
theorem nm_p (k i j:Nat):C.names (C.p k i j)=[k]:=rfl
theorem nm_s (k:Nat):C.names (C.s k)=[k]:=rfl
theorem nm_d (x:D):C.names (C.d x)=[]:=rfl
theorem nm_df (z:List D) (es:List (List D)):C.names (C.df z es)=[]:=rfl
theorem nm_dp (cs:List D):C.names (C.dp cs)=[]:=rfl
theorem nm_fn (f:FuncId) (caps:List C):C.names (C.fn f caps)=caps.flatMap capN:=rfl
theorem nm_vw (k u:Nat) (p:List (Nat×Nat)):C.names (C.vw k u p)=[k]:=rfl
theorem nm_q (k u:Nat) (p:List (Nat×Nat)) (s m o:Nat):C.names (C.q k u p s m o)=[k]:=rfl
theorem nm_ov (z:List C) (es:List (List C)):C.names (C.ov z es)=[]:=rfl
theorem rn_any (g:Nat→Nat):renC g (C.any)= .any:=rfl
theorem rn_v (g:Nat→Nat) (x:Value):renC g (C.v x)= .v x:=rfl
theorem rn_p (g:Nat→Nat) (k i j:Nat):renC g (C.p k i j)= .p (g k) i j:=rfl
theorem rn_s (g:Nat→Nat) (k:Nat):renC g (C.s k)= .s (g k):=rfl
theorem rn_d (g:Nat→Nat) (x:D):renC g (C.d x)= .d x:=rfl
theorem rn_df (g:Nat→Nat) (z:List D) (es:List (List D)):renC g (C.df z es)= .df z es:=rfl
theorem rn_dp (g:Nat→Nat) (cs:List D):renC g (C.dp cs)= .dp cs:=rfl
theorem rn_fn (g:Nat→Nat) (f:FuncId) (caps:List C):renC g (C.fn f caps)= .any:=rfl
theorem rn_vw (g:Nat→Nat) (k u:Nat) (p:List (Nat×Nat)):renC g (C.vw k u p)= .any:=rfl
theorem rn_q (g:Nat→Nat) (k u:Nat) (p:List (Nat×Nat)) (s m o:Nat):renC g (C.q k u p s m o)= .any:=rfl
theorem rn_ov (g:Nat→Nat) (z:List C) (es:List (List C)):renC g (C.ov z es)= .any:=rfl
theorem fz_any (n:Nat) (zz:List D) (ee:List (List D)):fzC n zz ee (C.any)=(C.any):=rfl
theorem fz_v (n:Nat) (zz:List D) (ee:List (List D)) (x:Value):fzC n zz ee (C.v x)=(C.v x):=rfl
theorem fz_p (n:Nat) (zz:List D) (ee:List (List D)) (k i j:Nat):fzC n zz ee (C.p k i j)=if k=n then (if i<ee.length then .d (.pt (some ((ee.getD i zz).drop j))) else .any) else .p k i j:=rfl
theorem fz_s (n:Nat) (zz:List D) (ee:List (List D)) (k:Nat):fzC n zz ee (C.s k)=if k=n then .d (.sl zz ee) else .s k:=rfl
theorem fz_d (n:Nat) (zz:List D) (ee:List (List D)) (x:D):fzC n zz ee (C.d x)=(C.d x):=rfl
theorem fz_df (n:Nat) (zz:List D) (ee:List (List D)) (z:List D) (es:List (List D)):fzC n zz ee (C.df z es)=(C.df z es):=rfl
theorem fz_dp (n:Nat) (zz:List D) (ee:List (List D)) (cs:List D):fzC n zz ee (C.dp cs)=(C.dp cs):=rfl
theorem fz_fn (n:Nat) (zz:List D) (ee:List (List D)) (f:FuncId) (caps:List C):fzC n zz ee (C.fn f caps)=if (caps.flatMap capN).contains n=true then .any else .fn f caps:=rfl
theorem fz_vw (n:Nat) (zz:List D) (ee:List (List D)) (k u:Nat) (p:List (Nat×Nat)):fzC n zz ee (C.vw k u p)=if k=n then .any else .vw k u p:=rfl
theorem fz_q (n:Nat) (zz:List D) (ee:List (List D)) (k u:Nat) (p:List (Nat×Nat)) (s m o:Nat):fzC n zz ee (C.q k u p s m o)=if k=n then .any else .q k u p s m o:=rfl
theorem fz_ov (n:Nat) (zz:List D) (ee:List (List D)) (z:List C) (es:List (List C)):fzC n zz ee (C.ov z es)=(C.ov z es):=rfl
theorem mv_any (n t:Nat):mvC n t (C.any)=(C.any):=rfl
theorem mv_v (n t:Nat) (x:Value):mvC n t (C.v x)=(C.v x):=rfl
theorem mv_p (n t:Nat) (k i j:Nat):mvC n t (C.p k i j)=if k=n then .p t i j else .p k i j:=rfl
theorem mv_s (n t:Nat) (k:Nat):mvC n t (C.s k)=if k=n then .s t else .s k:=rfl
theorem mv_d (n t:Nat) (x:D):mvC n t (C.d x)=(C.d x):=rfl
theorem mv_df (n t:Nat) (z:List D) (es:List (List D)):mvC n t (C.df z es)=(C.df z es):=rfl
theorem mv_dp (n t:Nat) (cs:List D):mvC n t (C.dp cs)=(C.dp cs):=rfl
theorem mv_fn (n t:Nat) (f:FuncId) (caps:List C):mvC n t (C.fn f caps)=if (caps.flatMap capN).contains n=true then .any else .fn f caps:=rfl
theorem mv_vw (n t:Nat) (k u:Nat) (p:List (Nat×Nat)):mvC n t (C.vw k u p)=if k=n then .any else .vw k u p:=rfl
theorem mv_q (n t:Nat) (k u:Nat) (p:List (Nat×Nat)) (s m o:Nat):mvC n t (C.q k u p s m o)=if k=n then .any else .q k u p s m o:=rfl
theorem mv_ov (n t:Nat) (z:List C) (es:List (List C)):mvC n t (C.ov z es)=(C.ov z es):=rfl
theorem oD_v (x:Value):oD (.v x)= .v x:=rfl
theorem oD_sl (z:List D) (es:List (List D)):oD (.sl z es)= .d (.sl z es):=rfl
theorem oD_pt (o:Option (List D)):oD (.pt o)= .d (.pt o):=rfl
theorem oD_mp (es:List (List UInt8×Value)):oD (.mp es)= .d (.mp es):=rfl
theorem fm_any (n:Nat) (ee:List (List UInt8×Value)):fzmC n ee C.any=C.any:=rfl
theorem fm_v (n:Nat) (ee:List (List UInt8×Value)) (x:Value):fzmC n ee (C.v x)=C.v x:=rfl
theorem fm_p (n:Nat) (ee:List (List UInt8×Value)) (k i j:Nat):fzmC n ee (C.p k i j)=if k=n then .any else .p k i j:=rfl
theorem fm_s (n:Nat) (ee:List (List UInt8×Value)) (k:Nat):fzmC n ee (C.s k)=if k=n then .d (.mp ee) else .s k:=rfl
theorem fm_d (n:Nat) (ee:List (List UInt8×Value)) (x:D):fzmC n ee (C.d x)=C.d x:=rfl
theorem fm_df (n:Nat) (ee:List (List UInt8×Value)) (z:List D) (es:List (List D)):fzmC n ee (C.df z es)=C.df z es:=rfl
theorem fm_dp (n:Nat) (ee:List (List UInt8×Value)) (cs:List D):fzmC n ee (C.dp cs)=C.dp cs:=rfl
theorem fm_fn (n:Nat) (ee:List (List UInt8×Value)) (f:FuncId) (caps:List C):fzmC n ee (C.fn f caps)=if (caps.flatMap capN).contains n=true then .any else .fn f caps:=rfl
theorem fm_ov (n:Nat) (ee:List (List UInt8×Value)) (z:List C) (es:List (List C)):fzmC n ee (C.ov z es)=C.ov z es:=rfl
theorem ni_n:nilC (.v (.pointer none))=some true:=rfl
theorem ni_p (a:Addr):nilC (.v (.pointer (some a)))=some false:=rfl
theorem ni_dn:nilC (.d (.pt none))=some true:=rfl
theorem ni_d (l:List D):nilC (.d (.pt (some l)))=some false:=rfl
theorem ni_dp (l:List D):nilC (.dp l)=some false:=rfl
theorem ni_pp (k i j:Nat):nilC (.p k i j)=none:=rfl
theorem ni_s (k:Nat):nilC (.s k)=none:=rfl
theorem ni_any:nilC .any=none:=rfl
theorem cl_any:clC (C.any)=none:=rfl
theorem cl_v (x:Value):clC (C.v x)=some x:=rfl
theorem cl_p (k i j:Nat):clC (C.p k i j)=none:=rfl
theorem cl_s (k:Nat):clC (C.s k)=none:=rfl
theorem cl_d (x:D):clC (C.d x)=none:=rfl
theorem cl_df (z:List D) (es:List (List D)):clC (C.df z es)=none:=rfl
theorem cl_dp (cs:List D):clC (C.dp cs)=none:=rfl
theorem cl_fn (f:FuncId) (caps:List C):clC (C.fn f caps)=none:=rfl
theorem cl_vw (k u:Nat) (p:List (Nat×Nat)):clC (C.vw k u p)=none:=rfl
theorem cl_q (k u:Nat) (p:List (Nat×Nat)) (s m o:Nat):clC (C.q k u p s m o)=none:=rfl
theorem cl_ov (z:List C) (es:List (List C)):clC (C.ov z es)=none:=rfl
end Go.Sy
