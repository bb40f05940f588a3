/- Results up to the empty slice; codings by injections; a pointer read where it lies. No conditions but those in each statement. -/
import Derived.Test.YtapedeoheilnnaaGreatSyC
import Derived.Test.YtapedeoheilnnaaGreatSyB
import Derived.Test.YtapedeoheilnnaaGreatRows
import Derived.KernelRfl
set_option linter.all false
open Option (map_eq_some_iff)
namespace Go.Sy
open Go Go.RowKit
theorem Ur{P:Prop}(h:P:=by
 obtain⟨u,hu,rfl,rfl⟩:=ht
 have hlt:t<args.length:=(List.getElem?_eq_some_iff.1 hu).1
 have hlt2:t<xs.length:=by omega
 refine⟨xs[t],?_,?_⟩
 .grind
 .simp only[if_true]
  exact hx t u _ hu (List.getElem?_eq_getElem hlt2)):P:=h
theorem AAO{P:Prop}(h:P:=by
 refine⟨by simp[h1],λj e he=>?_⟩
 cases j with
 |zero=>simp only[List.getElem?_cons_zero,jS]at he;subst he;exact⟨c,rfl,hl.1⟩
 |succ j=>simp_all):P:=h
theorem AAV{P:Prop}(h:P:=by
 obtain⟨u,hu,rfl,rfl⟩:=ht
 have:=hnm u (List.mem_of_getElem? hu) k hk
 show (lkp (GE 0 mem) k).isSome=true
 rw[GE,Hh]
 simp[this]):P:=h
def fS:C->Bool
 | .v (.slice none 0 0)=>true
 |_=>false
def emS:C->Bool
 | .d (.sl _ [])=>true
 |_=>false
def leC(c d:C):Prop:=c=d∨(fS c=true/\emS d=true)
def leL:List C->List C->Prop
 |[],[]=>True
 |c::l,d::m=>leC c d/\leL l m
 |_,_=>False
def leP:C ⊕ List C->C ⊕ List C->Prop
 | .inl c,.inl d=>leC c d
 | .inr l,.inr m=>leL l m
 |_,_=>False
def leT:List (C ⊕ List C)->List (C ⊕ List C)->Prop
 |[],[]=>True
 |p::l,q::m=>leP p q/\leT l m
 |_,_=>False
def leV:SV->SV->Prop
 | .one c,.one d=>leC c d
 | .agg l,.agg m=>leL l m
 | .tup l,.tup m=>leT l m
 |_,_=>False
theorem R2(c:C):leC c c:=.inl rfl
theorem Gt(c:C):leC c c=True:=by simp[leC]
theorem Hv(z:List D):leC (.v (.slice none 0 0)) (.d (.sl z []))=True:=by simp[leC,fS,emS]
theorem UX:∀l:List C,leL l l
 |[]=>trivial
 |c::l=>⟨R2 c,UX l⟩
theorem UY:∀l:List (C ⊕ List C),leT l l
 |[]=>trivial
 | .inl c::l=>⟨R2 c,UY l⟩
 | .inr c::l=>⟨UX c,UY l⟩
theorem F4(v:SV):leV v v:=by
 cases v with
 |one c=>exact R2 c
 |agg l=>exact UX l
 |tup l=>exact UY l
theorem TB{c:C}(h:fS c=true):c= .v (.slice none 0 0):=by
 unfold fS at h
 split at h
 .rfl
 cases h
theorem MO{c:C}(h:emS c=true):∃z,c= .d (.sl z []):=by
 unfold emS at h
 split at h
 .exact⟨_,rfl⟩
 cases h
section
variable {h:Bf}{fz:Nat->Prop}{lab:Lab}{I:Nm}{H:Hp}
theorem fT{c d:C}(hl:leC c d){x:Value}(r:SC h fz lab I H c x):SC h fz lab I H d x:=by
 rcases hl with rfl|⟨h1,h2⟩
 .exact r
 obtain rfl:=TB h1
 obtain⟨z,rfl⟩:=MO h2
 have r2:=r.2
 cases r2
 exact⟨rfl,.d _ _ _ (.nil z none 0 λ_=>rfl)⟩
theorem dH:∀{l m:List C},leL l m->l.length=m.length/\∀(j:Nat) (d:C),m[j]?=some d->∃c,l[j]?=some c/\leC c d
 |[],[],_=>⟨rfl,by simp⟩
 |c::l,d::m,hl=>by
  obtain⟨h1,h2⟩:=dH hl.2
  exact AAO
 |[],d::m,hl=>hl.elim
 |c::l,[],hl=>hl.elim
theorem qh{l m:List C}(hl:leL l m){arr:Array Value}(r:ER h fz lab I H l arr):ER h fz lab I H m arr:=by
 obtain⟨h1,h2⟩:=dH hl
 refine⟨by rw[r.1,h1],λj d hd=>?_⟩
 obtain⟨c,hc,hcd⟩:=h2 j d hd
 obtain⟨y,y1,y2⟩:=r.2 j c hc
 exact⟨y,y1,fT hcd y2⟩
theorem dJ:∀{l m:List (C ⊕ List C)},leT l m->l.length=m.length/\∀(j:Nat) (d:C ⊕ List C),m[j]?=some d->∃c,l[j]?=some c/\leP c d
 |[],[],_=>⟨rfl,by simp⟩
 |c::l,d::m,hl=>by
  obtain⟨h1,h2⟩:=dJ hl.2
  exact AAO
 |[],d::m,hl=>hl.elim
 |c::l,[],hl=>hl.elim
theorem VX{v v':SV}(hl:leV v v'){x:Value}(r:Ap h fz lab I H v x):Ap h fz lab I H v' x:=by
 cases v with
 |one c=>cases v' with
  |one d=>exact fT hl r
  |agg=>exact hl.elim
  |tup=>exact hl.elim
 |agg l=>cases v' with
  |one=>exact hl.elim
  |tup=>exact hl.elim
  |agg m=>obtain⟨arr,h1,h2⟩:=r;exact⟨arr,h1,qh hl h2⟩
 |tup l=>cases v' with
  |one=>exact hl.elim
  |agg=>exact hl.elim
  |tup m=>
   obtain⟨arr,h1,h2,h3⟩:=r
   obtain⟨g1,g2⟩:=dJ hl
   refine⟨arr,h1,by rw[h2,g1],λj p hp=>?_⟩
   obtain⟨q,hq,hqp⟩:=g2 j p hp
   obtain⟨y,y1,y2⟩:=h3 j q hq
   refine⟨y,y1,?_⟩
   cases q with
   |inl c=>cases p with
    |inl d=>exact fT hqp y2
    |inr=>exact hqp.elim
   |inr l=>cases p with
    |inl=>exact hqp.elim
    |inr m=>obtain⟨arr,e1,e2⟩:=y2;exact⟨arr,e1,qh hqp e2⟩
end
theorem Zq{c d:C}(hl:leC c d):d.names=c.names:=by
 rcases hl with rfl|⟨h1,h2⟩
 .rfl
 obtain rfl:=TB h1;obtain⟨z,rfl⟩:=MO h2;rfl
theorem Zr:∀{l m:List C},leL l m->m.flatMap C.names=l.flatMap C.names
 |[],[],_=>rfl
 |c::l,d::m,hl=>by simp only[List.flatMap_cons,Zq hl.1,Zr hl.2]
 |[],d::m,hl=>hl.elim
 |c::l,[],hl=>hl.elim
theorem iw:∀{l m:List (C ⊕ List C)},leT l m->m.flatMap pNames=l.flatMap pNames
 |[],[],_=>rfl
 |p::l,q::m,hl=>by
  have h1:pNames q=pNames p:=by
   have h0:=hl.1
   cases p<;>cases q<;>first|exact h0.elim|exact Zq h0|exact Zr h0
  simp only[List.flatMap_cons,h1,iw hl.2]
 |[],d::m,hl=>hl.elim
 |c::l,[],hl=>hl.elim
theorem yW{v v':SV}(hl:leV v v'):v'.names=v.names:=by
 cases v<;>cases v'<;>first|exact hl.elim|exact Zq hl|exact Zr hl|exact iw hl
def fU(r:SV):St->List SV->Prop:=λ_ vs=>(F0 vs).names=[]/\leV (F0 vs) r
theorem yX(r:SV)(s:St)(vs:List SV):fU r s vs=((F0 vs).names=[]/\leV (F0 vs) r):=rfl
section
variable {P:Program}
theorem UZ{w:World}{fz:Nat->Prop}{r:SV}{en:Ending}{w':World}(h:KS w fz (λv=>leV v r) en w'):KS w fz (λv=>v=r) en w':=by
 obtain⟨v,x,fz',rfl,h1,h2,h3,h4,h5,h6,h7⟩:=h
 exact⟨r,x,fz',rfl,rfl,by rw[yW h1];exact h2,h3,h4,h5,VX h1 h6,h7⟩
theorem Bg{f:FuncId}{fn:Func}{c:Code}(hf:P.funcs[f]?=some fn)(hb:fn.body=some c)(w:World)(fz:Nat->Prop)(sp:List (Spec P (clX fz) w))(g:Gh){A:Type}(ac:ArgC A)(F:A->SV)(a:A)(xs:List Value)(hfz:∀b,fz b->b<w.heap.size)(hl:xs.length=(ac.e a).length)
  (hx:∀(j:Nat) (v:SV) (x:Value),(ac.e a)[j]?=some v->xs[j]?=some x->CD (hp w) fz v x) (hn:(ac.e a).length<=fn.ntmps)
  (h:vc (clX fz) w sp fn.ntmps g c ⟨J7 0 (ac.e a),[]⟩ (My P (clX fz) fn.results.toList (fU (F a)))):Calls P f xs.toArray w (KS w fz (λv=>v=F a)):=
 (bh hf hb w fz sp g (ac.e a) (ac.n a) hfz xs hl hx (λv=>leV v (F a)) hn h).mono λ_ _ h=>UZ h
theorem Jr{f:FuncId}{fn:Func}{c:Code}(hf:P.funcs[f]?=some fn)(hb:fn.body=some c)(w:World)(fz:Nat->Prop)(sp:List (Spec P (clX fz) w))(g:Gh){A:Type}(ac:ArgH A)(F:A->SV)(a:A)(xs:List Value)(hfz:∀b,fz b->b<w.heap.size)(hl:xs.length=(ac.e a).length)
  (hx:∀(j:Nat) (v:SV) (x:Value),(ac.e a)[j]?=some v->xs[j]?=some x->CD (hp w) fz v x) (hn:(ac.e a).length<=fn.ntmps)
  (h:vc (clX fz) w sp fn.ntmps g c ⟨J7 0 (ac.e a),[]⟩ (My P (clX fz) fn.results.toList (fU (F a)))):Calls P f xs.toArray w (KS w fz (λv=>v=F a)):=
 (bh hf hb w fz sp g (ac.e a) (ac.n a) hfz xs hl hx (λv=>leV v (F a)) hn h).mono λ_ _ h=>UZ h
def VY(r:SV)(m':List (Option MV)):St->List SV->Prop:=λs vs=>leV (F0 vs) r/\LX (F0 vs)=true/\∀p∈memO 0 m',KR (lkp s.h p.1) p.2/\Kk (memO 0 m') (chNames p.2)
theorem tU(r:SV)(m':List (Option MV))(s:St)(vs:List SV):VY r m' s vs=(leV (F0 vs) r/\LX (F0 vs)=true/\∀p∈memO 0 m',KR (lkp s.h p.1) p.2/\Kk (memO 0 m') (chNames p.2)):=rfl
theorem Ac{f:FuncId}{fn:Func}{c:Code}(hf:P.funcs[f]?=some fn)(hb:fn.body=some c)(mem:List MV)(w:World)(M:Nat->Prop)(I:Nm)(lab:Lab)(fz:Nat->Prop)(sp:List (Spec P (mX M fz I mem.length) w))(g:Gh)(args:List SV)(mem':List (Option MV))(R:SV)(xs:List Value)
  (hA:AtW (mX M fz I mem.length) w I lab fz (lkp (GE 0 mem)) w) (hlen:xs.length=args.length) (hx:∀(j:Nat) (v:SV) (x:Value),args[j]?=some v->xs[j]?=some x->Ap (hp w) fz lab I (lkp (GE 0 mem)) v x)
  (hnm:∀v∈args,∀k∈v.names,k<mem.length) (hn:args.length<=fn.ntmps) (hl:mem.length<=mem'.length)
  (h:vc (mX M fz I mem.length) w sp fn.ntmps g c ⟨J7 0 args,GE 0 mem⟩ (My P (mX M fz I mem.length) fn.results.toList (VY R mem'))):Calls P f xs.toArray w (LZ w M fz I mem.length mem' R):=by
 refine calls_of_wp hf hb (Code.wp_mono ?_ (AP sp g c _ _ h _ w ?_))
 .rintro e a w' (⟨s,hq,hs⟩|⟨ch,rfl,_,_,I1,l1,f1,H1,_,hpn⟩)
  rotate_left
  .exact hpn.elim
  have fin:Mx P (mX M fz I mem.length) fn.results.toList (VY R mem') s->a.defers=[]/\∃v,(results fn a.tmps).run P w'= .ok v w'/\LZ w M fz I mem.length mem' R (Ending.returned v) w':=by
   rintro ⟨cs,s',vs,h1,h2,h3,h4,h5,h6⟩
   refine⟨hs.defers,?_⟩
   obtain⟨_,I',lab',fz',hA'⟩:=Gm h1 a w' hs
   obtain⟨x,x1,x2⟩:=K4 hA' h2 h3
   refine⟨x,x1,x,I',lab',fz',rfl,Qo hA'.m h6 (λp hp'=>?_),VX h4 (Nv h5 x2)⟩
   obtain⟨q1,q2,_⟩:=Ih hp'
   exact PI _ _ _ q1 (by omega)
  cases e with
  |normal=>exact fin hq
  |ret=>exact fin hq
  |_=>exact hq.elim
 .refine⟨?_,I,lab,fz,?_,⟨rfl,λp hp=>by cases hp⟩,?_,hA⟩
  .intro t g v ht _ k hk
   rw[H8]at ht
   simp only[Nat.zero_le,if_true,Nat.sub_zero,map_eq_some_iff,jP]at ht
   exact AAV
  .simp_all
  .intro t g v ht
   rw[H8]at ht
   simp only[Nat.zero_le,if_true,Nat.sub_zero,map_eq_some_iff,jP]at ht
   exact Ur
end
open Classical in
noncomputable def Hl{A:Type}(e:A->SV)(uq:∀v a b,leV v (e a)->leV v (e b)->a=b)(n:∀a,(e a).names=[]):Cod A where
 d v:=if h:∃a,leV v (e a) then some h.choose else none
 e:=e
 h s x y hd r:=by
  split at hd
  .rename_i h
   simp only[jS]at hd
   subst hd
   exact VX h.choose_spec r
  .cases hd
 n:=n
open Classical in
theorem E4{A:Type}{e:A->SV}{uq:∀v a b,leV v (e a)->leV v (e b)->a=b}{n:∀a,(e a).names=[]}{v:SV}{a:A}(h:leV v (e a)):(Hl e uq n).d v=some a:=by
 have hex:∃a,leV v (e a):=⟨a,h⟩
 show (if h:∃a,leV v (e a) then some h.choose else none)=some a
 rw[dif_pos hex]
 exact congrArg some (uq v _ _ hex.choose_spec h)
open Classical in
noncomputable def rowOf{A:Type}(z:List D)(e:A->List D)(uq:∀a b,e a=e b->a=b)(n:∀a,(e a).length=z.length):RowC A where
 z:=z
 d r:=if h:∃a,r=e a then some h.choose else none
 e:=e
 h r b hd:=by
  split at hd
  .grind
  .cases hd
 i b:=by
  have hex:∃a,e b=e a:=⟨b,rfl⟩
  rw[dif_pos hex]
  exact congrArg some (uq _ _ hex.choose_spec.symm)
 n:=n
open Classical in
noncomputable def MP{A:Type}(z:List C)(e:A->List C)(n:∀b,∀c∈e b,c.names=[])(t:zT z=none:=by first|rfl|decide):RowM A where
 t:=t
 z:=z
 d r:=if h:∃a,r=e a then some h.choose else none
 e:=e
 h r b hd:=by
  split at hd
  .grind
  .cases hd
 n:=n
open Classical in
theorem JG{A:Type}{z:List C}{e:A->List C}{n:∀b,∀c∈e b,c.names=[]}{t:zT z=none}(uq:∀a b,e a=e b->a=b)(a:A):(MP z e n t).d (e a)=some a:=by
 have hex:∃b,e a=e b:=⟨a,rfl⟩
 show (if h:∃b,e a=e b then some h.choose else none)=some a
 rw[dif_pos hex]
 exact congrArg some (uq _ _ hex.choose_spec.symm)
def ptR{B:Type}(c:RowC B)(H:Hp):SV->Option (B×List Nat)
 | .one (.p k 0 0)=>match H k with
  |some (.vec _ z [r])=>match GD z,GD r with
   |some _,some r'=>(c.d r').map λb=>(b,[k])
   |_,_=>none
  |_=>none
 | .one (.d (.pt (some r)))=>(c.d r).map λb=>(b,[])
 | .one (.dp r)=>(c.d r).map λb=>(b,[])
 |_=>none
def cPt{B:Type}(c:RowC B):CodH B where
 d:=ptR c
 e b:=.one (.d (.pt (some (c.e b))))
 h:=λ{X w0 w I lab fz H} v a fp x hA h r=>by
  unfold ptR at h
  split at h
  .rename_i k
   split at h
   .rename_i u z r0 hk
    split at h
    .rename_i z' r' hz hr
     simp only[map_eq_some_iff,jP]at h
     obtain⟨b,hb,rfl,rfl⟩:=h
     obtain⟨lab',fz',h1,_,_,h4⟩:=ZU hA hk (es':=[r']) hz (by simp only[EZ,hr])
     have h5:=h4 0 0 (by simp)
     have hx:=r.2
     cases hx
     simp only[List.getD_cons_zero,List.drop_zero]at h5
     rw[c.h _ _ hb]at h5
     exact⟨rfl,.d _ _ _ (Ff (λb hb=>⟨(h1.fzl b hb).1,rfl⟩) h5)⟩
    .cases h
   .cases h
  .simp only[map_eq_some_iff,jP]at h
   obtain⟨b,hb,rfl,rfl⟩:=h
   have hx:=r.2
   cases hx with|d _ _ _ r=>?_
   rw[c.h _ _ hb]at r
   exact⟨rfl,.d _ _ _ (Ff (λb hb=>⟨(hA.fzl b hb).1,rfl⟩) r)⟩
  .simp only[map_eq_some_iff,jP]at h
   obtain⟨b,hb,rfl,rfl⟩:=h
   have hx:=r.2
   cases hx with|dp _ _ _ r=>?_
   rw[c.h _ _ hb]at r
   exact⟨rfl,.d _ _ _ (Ff (λb hb=>⟨(hA.fzl b hb).1,rfl⟩) r)⟩
  .cases h
 n a:=rfl
 l H H' v a fp h hf:=by
  unfold ptR at*
  split at h
  .rename_i k
   split at h
   .rename_i u z r0 hk
    have hfp:k∈fp:=by
     split at h
     .simp only[map_eq_some_iff,jP]at h
      obtain⟨_,_,_,rfl⟩:=h;simp
     .cases h
    simp only[hf k hfp,hk]
    exact h
   .cases h
  .exact h
  .exact h
  .cases h
theorem Ao{B:Type}(c:RowC B)(H:Hp)(v:SV):(cPt c).d H v=ptR c H v:=rfl
theorem qi{B:Type}(c:RowC B)(b:B):(cPt c).e b= .one (.d (.pt (some (c.e b)))):=rfl
theorem yY:F3 (C.any)=true:=rfl
theorem A6u(x:Value):F3 (C.v x)=true:=rfl
theorem A6v(k i j:Nat):F3 (C.p k i j)=true:=rfl
theorem A6w(k:Nat):F3 (C.s k)=true:=rfl
theorem A6x(x:D):F3 (C.d x)=true:=rfl
theorem A3E(z:List D)(es:List (List D)):F3 (C.df z es)=true:=rfl
theorem A3F(cs:List D):F3 (C.dp cs)=true:=rfl
theorem A3G(f:FuncId)(caps:List C):F3 (C.fn f caps)=true:=rfl
theorem A3H(k u:Nat)(p:List (Nat×Nat)):F3 (C.vw k u p)=false:=rfl
theorem A6y(k u:Nat)(p:List (Nat×Nat))(s m o:Nat):F3 (C.q k u p s m o)=false:=rfl
theorem A3I(z:List C)(es:List (List C)):F3 (C.ov z es)=true:=rfl
theorem yZ:C.stor (C.any)=true:=rfl
theorem A6z(x:Value):C.stor (C.v x)=true:=rfl
theorem A70(k i j:Nat):C.stor (C.p k i j)=true:=rfl
theorem A71(k:Nat):C.stor (C.s k)=true:=rfl
theorem A72(x:D):C.stor (C.d x)=true:=rfl
theorem A3J(z:List D)(es:List (List D)):C.stor (C.df z es)=true:=rfl
theorem A3K(cs:List D):C.stor (C.dp cs)=true:=rfl
theorem A3L(f:FuncId)(caps:List C):C.stor (C.fn f caps)=true:=rfl
theorem A3M(k u:Nat)(p:List (Nat×Nat)):C.stor (C.vw k u p)=false:=rfl
theorem A73(k u:Nat)(p:List (Nat×Nat))(s m o:Nat):C.stor (C.q k u p s m o)=false:=rfl
theorem A3N(z:List C)(es:List (List C)):C.stor (C.ov z es)=false:=rfl
theorem yc:C.names (C.any)=[]:=rfl
theorem A74(x:Value):C.names (C.v x)=[]:=rfl
theorem A75(k i j:Nat):C.names (C.p k i j)=[k]:=rfl
theorem A76(k:Nat):C.names (C.s k)=[k]:=rfl
theorem A77(x:D):C.names (C.d x)=[]:=rfl
theorem A3O(z:List D)(es:List (List D)):C.names (C.df z es)=[]:=rfl
theorem A3P(cs:List D):C.names (C.dp cs)=[]:=rfl
theorem A3Q(f:FuncId)(caps:List C):C.names (C.fn f caps)=caps.flatMap capN:=rfl
theorem A3R(k u:Nat)(p:List (Nat×Nat)):C.names (C.vw k u p)=[k]:=rfl
theorem A78(k u:Nat)(p:List (Nat×Nat))(s m o:Nat):C.names (C.q k u p s m o)=[k]:=rfl
theorem A3S(z:List C)(es:List (List C)):C.names (C.ov z es)=[]:=rfl
theorem yd(g:Nat->Nat):GF g (C.any)= .any:=rfl
theorem A79(g:Nat->Nat)(x:Value):GF g (C.v x)= .v x:=rfl
theorem A7A(g:Nat->Nat)(k i j:Nat):GF g (C.p k i j)= .p (g k) i j:=rfl
theorem A7B(g:Nat->Nat)(k:Nat):GF g (C.s k)= .s (g k):=rfl
theorem A7C(g:Nat->Nat)(x:D):GF g (C.d x)= .d x:=rfl
theorem A3T(g:Nat->Nat)(z:List D)(es:List (List D)):GF g (C.df z es)= .df z es:=rfl
theorem A3U(g:Nat->Nat)(cs:List D):GF g (C.dp cs)= .dp cs:=rfl
theorem A3V(g:Nat->Nat)(f:FuncId)(caps:List C):GF g (C.fn f caps)= .any:=rfl
theorem A3W(g:Nat->Nat)(k u:Nat)(p:List (Nat×Nat)):GF g (C.vw k u p)= .any:=rfl
theorem A7D(g:Nat->Nat)(k u:Nat)(p:List (Nat×Nat))(s m o:Nat):GF g (C.q k u p s m o)= .any:=rfl
theorem A3X(g:Nat->Nat)(z:List C)(es:List (List C)):GF g (C.ov z es)= .any:=rfl
theorem ye(n:Nat)(zz:List D)(ee:List (List D)):fzC n zz ee (C.any)=(C.any):=rfl
theorem A7E(n:Nat)(zz:List D)(ee:List (List D))(x:Value):fzC n zz ee (C.v x)=(C.v x):=rfl
theorem A7F(n:Nat)(zz:List D)(ee:List (List D))(k i j:Nat):fzC n zz ee (C.p k i j)=if k=n then (if i<ee.length then .d (.pt (some ((ee.getD i zz).drop j))) else .any) else .p k i j:=rfl
theorem A7G(n:Nat)(zz:List D)(ee:List (List D))(k:Nat):fzC n zz ee (C.s k)=if k=n then .d (.sl zz ee) else .s k:=rfl
theorem A7H(n:Nat)(zz:List D)(ee:List (List D))(x:D):fzC n zz ee (C.d x)=(C.d x):=rfl
theorem A3Y(n:Nat)(zz:List D)(ee:List (List D))(z:List D)(es:List (List D)):fzC n zz ee (C.df z es)=(C.df z es):=rfl
theorem A3Z(n:Nat)(zz:List D)(ee:List (List D))(cs:List D):fzC n zz ee (C.dp cs)=(C.dp cs):=rfl
theorem A3a(n:Nat)(zz:List D)(ee:List (List D))(f:FuncId)(caps:List C):fzC n zz ee (C.fn f caps)=if (caps.flatMap capN).contains n=true then .any else .fn f caps:=rfl
theorem A3b(n:Nat)(zz:List D)(ee:List (List D))(k u:Nat)(p:List (Nat×Nat)):fzC n zz ee (C.vw k u p)=if k=n then .any else .vw k u p:=rfl
theorem A7I(n:Nat)(zz:List D)(ee:List (List D))(k u:Nat)(p:List (Nat×Nat))(s m o:Nat):fzC n zz ee (C.q k u p s m o)=if k=n then .any else .q k u p s m o:=rfl
theorem A3c(n:Nat)(zz:List D)(ee:List (List D))(z:List C)(es:List (List C)):fzC n zz ee (C.ov z es)=(C.ov z es):=rfl
theorem yf(n t:Nat):mvC n t (C.any)=(C.any):=rfl
theorem A7J(n t:Nat)(x:Value):mvC n t (C.v x)=(C.v x):=rfl
theorem A7K(n t:Nat)(k i j:Nat):mvC n t (C.p k i j)=if k=n then .p t i j else .p k i j:=rfl
theorem A7L(n t:Nat)(k:Nat):mvC n t (C.s k)=if k=n then .s t else .s k:=rfl
theorem A7M(n t:Nat)(x:D):mvC n t (C.d x)=(C.d x):=rfl
theorem A3d(n t:Nat)(z:List D)(es:List (List D)):mvC n t (C.df z es)=(C.df z es):=rfl
theorem A3e(n t:Nat)(cs:List D):mvC n t (C.dp cs)=(C.dp cs):=rfl
theorem A3f(n t:Nat)(f:FuncId)(caps:List C):mvC n t (C.fn f caps)=if (caps.flatMap capN).contains n=true then .any else .fn f caps:=rfl
theorem A3g(n t:Nat)(k u:Nat)(p:List (Nat×Nat)):mvC n t (C.vw k u p)=if k=n then .any else .vw k u p:=rfl
theorem A7N(n t:Nat)(k u:Nat)(p:List (Nat×Nat))(s m o:Nat):mvC n t (C.q k u p s m o)=if k=n then .any else .q k u p s m o:=rfl
theorem A3h(n t:Nat)(z:List C)(es:List (List C)):mvC n t (C.ov z es)=(C.ov z es):=rfl
theorem A7O(x:Value):oD (.v x)= .v x:=rfl
theorem A3i(z:List D)(es:List (List D)):oD (.sl z es)= .d (.sl z es):=rfl
theorem A3j(o:Option (List D)):oD (.pt o)= .d (.pt o):=rfl
theorem A3k(es:List (List UInt8×Value)):oD (.mp es)= .d (.mp es):=rfl
theorem yg(n:Nat)(ee:List (List UInt8×Value)):I7 n ee C.any=C.any:=rfl
theorem A7P(n:Nat)(ee:List (List UInt8×Value))(x:Value):I7 n ee (C.v x)=C.v x:=rfl
theorem A7Q(n:Nat)(ee:List (List UInt8×Value))(k i j:Nat):I7 n ee (C.p k i j)=if k=n then .any else .p k i j:=rfl
theorem A7R(n:Nat)(ee:List (List UInt8×Value))(k:Nat):I7 n ee (C.s k)=if k=n then .d (.mp ee) else .s k:=rfl
theorem A7S(n:Nat)(ee:List (List UInt8×Value))(x:D):I7 n ee (C.d x)=C.d x:=rfl
theorem A3l(n:Nat)(ee:List (List UInt8×Value))(z:List D)(es:List (List D)):I7 n ee (C.df z es)=C.df z es:=rfl
theorem A3m(n:Nat)(ee:List (List UInt8×Value))(cs:List D):I7 n ee (C.dp cs)=C.dp cs:=rfl
theorem A3n(n:Nat)(ee:List (List UInt8×Value))(f:FuncId)(caps:List C):I7 n ee (C.fn f caps)=if (caps.flatMap capN).contains n=true then .any else .fn f caps:=rfl
theorem A3o(n:Nat)(ee:List (List UInt8×Value))(z:List C)(es:List (List C)):I7 n ee (C.ov z es)=C.ov z es:=rfl
theorem A7T:LS (.v (.pointer none))=some true:=rfl
theorem A7U(a:Addr):LS (.v (.pointer (some a)))=some false:=rfl
theorem A3p:LS (.d (.pt none))=some true:=rfl
theorem A7V(l:List D):LS (.d (.pt (some l)))=some false:=rfl
theorem A3q(l:List D):LS (.dp l)=some false:=rfl
theorem A3r(k i j:Nat):LS (.p k i j)=none:=rfl
theorem A7W(k:Nat):LS (.s k)=none:=rfl
theorem yh:LS .any=none:=rfl
theorem yi:clC (C.any)=none:=rfl
theorem A7X(x:Value):clC (C.v x)=some x:=rfl
theorem A7Y(k i j:Nat):clC (C.p k i j)=none:=rfl
theorem A7Z(k:Nat):clC (C.s k)=none:=rfl
theorem A7a(x:D):clC (C.d x)=none:=rfl
theorem A3s(z:List D)(es:List (List D)):clC (C.df z es)=none:=rfl
theorem A3t(cs:List D):clC (C.dp cs)=none:=rfl
theorem A3u(f:FuncId)(caps:List C):clC (C.fn f caps)=none:=rfl
theorem A3v(k u:Nat)(p:List (Nat×Nat)):clC (C.vw k u p)=none:=rfl
theorem A7b(k u:Nat)(p:List (Nat×Nat))(s m o:Nat):clC (C.q k u p s m o)=none:=rfl
theorem A3w(z:List C)(es:List (List C)):clC (C.ov z es)=none:=rfl
end Go.Sy
namespace Go.Proofs.YtapedeoheilnnaaGreat
open Go Go.Sy
theorem ya2:Cw Tryz.prog 2=some false:=by kernel_rfl
theorem ys2:Aq Tryz.prog 2=some 1:=by kernel_rfl
theorem A89:GY Tryz.prog 2=some 8:=by kernel_rfl
theorem yz2:D6 Tryz.prog 2=some (.int .i64 0):=by kernel_rfl
theorem yi2:PX Tryz.prog 2=some .i64:=by kernel_rfl
theorem ya3:Cw Tryz.prog 3=some false:=by kernel_rfl
theorem ys3:Aq Tryz.prog 3=some 1:=by kernel_rfl
theorem yz3:D6 Tryz.prog 3=some (.int .i64 0):=by kernel_rfl
theorem yi3:PX Tryz.prog 3=some .i64:=by kernel_rfl
theorem ya4:Cw Tryz.prog 4=some false:=by kernel_rfl
theorem ys4:Aq Tryz.prog 4=some 1:=by kernel_rfl
theorem yb4:Tryz.prog.underlying 4=some .bool:=by kernel_rfl
theorem ya5:Cw Tryz.prog 5=some false:=by kernel_rfl
theorem ys5:Aq Tryz.prog 5=some 1:=by kernel_rfl
theorem yi5:PX Tryz.prog 5=some .u8:=by kernel_rfl
theorem ya9:Cw Tryz.prog 9=some false:=by kernel_rfl
theorem ys9:Aq Tryz.prog 9=some 1:=by kernel_rfl
theorem A8A:GY Tryz.prog 9=some 16:=by kernel_rfl
theorem yz9:D6 Tryz.prog 9=some (.string ByteArray.empty):=by kernel_rfl
theorem A8B:Mu Tryz.prog 9=true:=by kernel_rfl
theorem A8C:DU Tryz.prog 22=some 70:=by kernel_rfl
theorem A8D:Cw Tryz.prog 23=some false:=by kernel_rfl
theorem A8E:Aq Tryz.prog 23=some 1:=by kernel_rfl
theorem A8F:DU Tryz.prog 23=some 2:=by kernel_rfl
theorem A8G:Cw Tryz.prog 24=some false:=by kernel_rfl
theorem A8H:Aq Tryz.prog 24=some 1:=by kernel_rfl
theorem A8I:DU Tryz.prog 24=some 69:=by kernel_rfl
theorem A8J:Cw Tryz.prog 25=some false:=by kernel_rfl
theorem A8K:Aq Tryz.prog 25=some 1:=by kernel_rfl
theorem A8L:DU Tryz.prog 25=some 72:=by kernel_rfl
theorem A8M:Cw Tryz.prog 27=some true:=by kernel_rfl
theorem A8N:Aq Tryz.prog 27=some 2:=by kernel_rfl
theorem A8O:D6 Tryz.prog 27=some (.agg #[.slice none 0 0,.slice none 0 0]):=by kernel_rfl
theorem A13:AA Tryz.prog 27 0=some (0,24):=by kernel_rfl
theorem A14:AA Tryz.prog 27 1=some (1,25):=by kernel_rfl
theorem A8P:Dp Tryz.prog 27=some [(0,1),(1,1)]:=by kernel_rfl
theorem A8Q:Cw Tryz.prog 31=some false:=by kernel_rfl
theorem A8R:Aq Tryz.prog 31=some 1:=by kernel_rfl
theorem A8S:DU Tryz.prog 31=some 9:=by kernel_rfl
theorem A8T:Cw Tryz.prog 32=some false:=by kernel_rfl
theorem A8U:Aq Tryz.prog 32=some 1:=by kernel_rfl
theorem A8V:DU Tryz.prog 32=some 84:=by kernel_rfl
theorem A8W:Cw Tryz.prog 34=some true:=by kernel_rfl
theorem A8X:Aq Tryz.prog 34=some 2:=by kernel_rfl
theorem A8Y:D6 Tryz.prog 34=some (.agg #[.slice none 0 0,.slice none 0 0]):=by kernel_rfl
theorem A15:AA Tryz.prog 34 0=some (0,31):=by kernel_rfl
theorem A16:AA Tryz.prog 34 1=some (1,32):=by kernel_rfl
theorem A8Z:Cw Tryz.prog 35=some false:=by kernel_rfl
theorem A8a:Aq Tryz.prog 35=some 1:=by kernel_rfl
theorem A8b:DU Tryz.prog 35=some 77:=by kernel_rfl
theorem A8c:Cw Tryz.prog 37=some true:=by kernel_rfl
theorem A8d:Aq Tryz.prog 37=some 3:=by kernel_rfl
theorem A8e:D6 Tryz.prog 37=some (.agg #[.slice none 0 0,.slice none 0 0,.slice none 0 0]):=by kernel_rfl
theorem A17:AA Tryz.prog 37 0=some (0,34):=by kernel_rfl
theorem A18:AA Tryz.prog 37 1=some (2,35):=by kernel_rfl
theorem B1z:Cw Tryz.prog 41=some false:=by kernel_rfl
theorem B20:Aq Tryz.prog 41=some 1:=by kernel_rfl
theorem B1o:GY Tryz.prog 41=some 24:=by kernel_rfl
theorem B21:D6 Tryz.prog 41=some (.slice none 0 0):=by kernel_rfl
theorem A8f:DU Tryz.prog 41=some 67:=by kernel_rfl
theorem A8g:Cw Tryz.prog 45=some true:=by kernel_rfl
theorem A8h:Aq Tryz.prog 45=some 2:=by kernel_rfl
theorem A8i:D6 Tryz.prog 45=some (.agg #[.int .i64 0,.int .i64 0]):=by kernel_rfl
theorem A8j:Dp Tryz.prog 45=some [(0,1),(1,1)]:=by kernel_rfl
theorem A8k:tEq Tryz.prog 45=some [(0,.i),(1,.i)]:=by kernel_rfl
theorem A8l:Cw Tryz.prog 47=some true:=by kernel_rfl
theorem A8m:Aq Tryz.prog 47=some 7:=by kernel_rfl
theorem A8n:D6 Tryz.prog 47=some (.agg #[.int .i64 0,.int .i64 0,.string ByteArray.empty,.int .i64 0,.int .i64 0,.slice none 0 0,.slice none 0 0]):=by kernel_rfl
theorem A1B:AA Tryz.prog 47 0=some (0,3):=by kernel_rfl
theorem A1C:AA Tryz.prog 47 1=some (1,2):=by kernel_rfl
theorem A1D:AA Tryz.prog 47 2=some (2,9):=by kernel_rfl
theorem A1E:AA Tryz.prog 47 3=some (3,45):=by kernel_rfl
theorem A1F:AA Tryz.prog 47 4=some (5,27):=by kernel_rfl
theorem A8o:Dp Tryz.prog 47=some [(0,1),(1,1),(2,1),(3,2),(5,2)]:=by kernel_rfl
theorem B22:DU Tryz.prog 59=some 41:=by kernel_rfl
theorem A8p:Aq Tryz.prog 64=some 2:=by kernel_rfl
theorem A5X:GY Tryz.prog 64=some 32:=by kernel_rfl
theorem A8q:D6 Tryz.prog 64=some (.agg #[.string ByteArray.empty,.string ByteArray.empty]):=by kernel_rfl
theorem A1G:AA Tryz.prog 64 0=some (0,9):=by kernel_rfl
theorem A1H:AA Tryz.prog 64 1=some (1,9):=by kernel_rfl
theorem A8r:Dp Tryz.prog 64=some [(0,1),(1,1)]:=by kernel_rfl
theorem A8s:DU Tryz.prog 65=some 64:=by kernel_rfl
theorem A8t:Cw Tryz.prog 67=some true:=by kernel_rfl
theorem A8u:Aq Tryz.prog 67=some 3:=by kernel_rfl
theorem A5Y:GY Tryz.prog 67=some 32:=by kernel_rfl
theorem A8v:D6 Tryz.prog 67=some (.agg #[.bool false,.int .i64 0,.string ByteArray.empty]):=by kernel_rfl
theorem A1I:AA Tryz.prog 67 0=some (0,4):=by kernel_rfl
theorem A1J:AA Tryz.prog 67 1=some (1,2):=by kernel_rfl
theorem A1K:AA Tryz.prog 67 2=some (2,9):=by kernel_rfl
theorem A8w:Dp Tryz.prog 67=some [(0,1),(1,1),(2,1)]:=by kernel_rfl
theorem B23:tEq Tryz.prog 67=some [(0,.b),(1,.i),(2,.s)]:=by kernel_rfl
theorem A8x:Cw Tryz.prog 69=some true:=by kernel_rfl
theorem A8y:Aq Tryz.prog 69=some 2:=by kernel_rfl
theorem A5Z:GY Tryz.prog 69=some 24:=by kernel_rfl
theorem A8z:D6 Tryz.prog 69=some (.agg #[.string ByteArray.empty,.int .i64 0]):=by kernel_rfl
theorem A1L:AA Tryz.prog 69 0=some (0,9):=by kernel_rfl
theorem A1M:AA Tryz.prog 69 1=some (1,2):=by kernel_rfl
theorem A90:Dp Tryz.prog 69=some [(0,1),(1,1)]:=by kernel_rfl
theorem A91:tEq Tryz.prog 69=some [(0,.s),(1,.i)]:=by kernel_rfl
theorem A92:Cw Tryz.prog 70=some false:=by kernel_rfl
theorem A93:Aq Tryz.prog 70=some 1:=by kernel_rfl
theorem A94:DU Tryz.prog 70=some 5:=by kernel_rfl
theorem A95:Cw Tryz.prog 72=some true:=by kernel_rfl
theorem A96:Aq Tryz.prog 72=some 2:=by kernel_rfl
theorem A5a:GY Tryz.prog 72=some 40:=by kernel_rfl
theorem A97:D6 Tryz.prog 72=some (.agg #[.string ByteArray.empty,.slice none 0 0]):=by kernel_rfl
theorem A1N:AA Tryz.prog 72 0=some (0,9):=by kernel_rfl
theorem A1O:AA Tryz.prog 72 1=some (1,23):=by kernel_rfl
theorem A98:Dp Tryz.prog 72=some [(0,1),(1,1)]:=by kernel_rfl
theorem A99:Cw Tryz.prog 74=some false:=by kernel_rfl
theorem A9A:Aq Tryz.prog 74=some 1:=by kernel_rfl
theorem A9B:DU Tryz.prog 74=some 79:=by kernel_rfl
theorem A9C:Cw Tryz.prog 75=some false:=by kernel_rfl
theorem A9D:Aq Tryz.prog 75=some 1:=by kernel_rfl
theorem A9E:DU Tryz.prog 75=some 154:=by kernel_rfl
theorem A9F:Cw Tryz.prog 77=some true:=by kernel_rfl
theorem A9G:Aq Tryz.prog 77=some 4:=by kernel_rfl
theorem A5b:GY Tryz.prog 77=some 88:=by kernel_rfl
theorem A9H:D6 Tryz.prog 77=some (.agg #[.string ByteArray.empty,.slice none 0 0,.slice none 0 0,.slice none 0 0]):=by kernel_rfl
theorem A1P:AA Tryz.prog 77 0=some (0,9):=by kernel_rfl
theorem A1Q:AA Tryz.prog 77 1=some (1,74):=by kernel_rfl
theorem A1R:AA Tryz.prog 77 2=some (2,74):=by kernel_rfl
theorem A1S:AA Tryz.prog 77 3=some (3,75):=by kernel_rfl
theorem A9I:Dp Tryz.prog 77=some [(0,1),(1,1),(2,1),(3,1)]:=by kernel_rfl
theorem A9J:Cw Tryz.prog 79=some true:=by kernel_rfl
theorem A9K:Aq Tryz.prog 79=some 2:=by kernel_rfl
theorem A5c:GY Tryz.prog 79=some 24:=by kernel_rfl
theorem A9L:D6 Tryz.prog 79=some (.agg #[.string ByteArray.empty,.bool false]):=by kernel_rfl
theorem A1T:AA Tryz.prog 79 0=some (0,9):=by kernel_rfl
theorem A1U:AA Tryz.prog 79 1=some (1,4):=by kernel_rfl
theorem A9M:Dp Tryz.prog 79=some [(0,1),(1,1)]:=by kernel_rfl
theorem A9N:Cw Tryz.prog 80=some false:=by kernel_rfl
theorem A9O:Aq Tryz.prog 80=some 1:=by kernel_rfl
theorem A9P:Cw Tryz.prog 81=some false:=by kernel_rfl
theorem A9Q:Aq Tryz.prog 81=some 1:=by kernel_rfl
theorem A5d:RP Tryz.prog 81=some (9,3):=by kernel_rfl
theorem A9R:Cw Tryz.prog 84=some true:=by kernel_rfl
theorem A9S:Aq Tryz.prog 84=some 2:=by kernel_rfl
theorem A5e:GY Tryz.prog 84=some 24:=by kernel_rfl
theorem A9T:D6 Tryz.prog 84=some (.agg #[.string ByteArray.empty,.int .i64 0]):=by kernel_rfl
theorem A1V:AA Tryz.prog 84 0=some (0,9):=by kernel_rfl
theorem A1W:AA Tryz.prog 84 1=some (1,3):=by kernel_rfl
theorem A9U:Dp Tryz.prog 84=some [(0,1),(1,1)]:=by kernel_rfl
theorem A9V:D6 Tryz.prog 86=some (.agg #[.slice none 0 0,.slice none 0 0,.slice none 0 0,.int .i64 0,.int .i64 0,.map none,.map none,.map none,.slice none 0 0,.slice none 0 0,.int .i64 0,.int .i64 0,.string ByteArray.empty,.int .i64 0,.int .i64 0,.slice none 0 0,.slice none 0 0]):=by kernel_rfl
theorem A1X:AA Tryz.prog 86 0=some (0,37):=by kernel_rfl
theorem A1Y:AA Tryz.prog 86 1=some (3,3):=by kernel_rfl
theorem A1Z:AA Tryz.prog 86 2=some (4,3):=by kernel_rfl
theorem A1a:AA Tryz.prog 86 3=some (5,81):=by kernel_rfl
theorem A1b:AA Tryz.prog 86 4=some (6,81):=by kernel_rfl
theorem A1c:AA Tryz.prog 86 5=some (7,81):=by kernel_rfl
theorem A1d:AA Tryz.prog 86 6=some (8,27):=by kernel_rfl
theorem A1e:AA Tryz.prog 86 7=some (10,47):=by kernel_rfl
theorem A9W:Dp Tryz.prog 86=some [(0,3),(3,1),(4,1),(5,1),(6,1),(7,1),(8,2),(10,7)]:=by kernel_rfl
theorem A9X:D6 Tryz.prog 90=some (.agg #[.slice none 0 0,.slice none 0 0,.slice none 0 0,.slice none 0 0,.slice none 0 0,.int .i64 0,.int .i64 0,.int .i64 0,.int .i64 0,.string ByteArray.empty,.int .i64 0,.int .i64 0]):=by kernel_rfl
theorem A1f:AA Tryz.prog 90 0=some (0,37):=by kernel_rfl
theorem A1g:AA Tryz.prog 90 1=some (3,27):=by kernel_rfl
theorem A1h:AA Tryz.prog 90 2=some (5,3):=by kernel_rfl
theorem A1i:AA Tryz.prog 90 3=some (6,3):=by kernel_rfl
theorem A1j:AA Tryz.prog 90 4=some (7,3):=by kernel_rfl
theorem A1k:AA Tryz.prog 90 5=some (8,2):=by kernel_rfl
theorem A1l:AA Tryz.prog 90 6=some (9,9):=by kernel_rfl
theorem A1m:AA Tryz.prog 90 7=some (10,45):=by kernel_rfl
theorem A9Y:Dp Tryz.prog 90=some [(0,3),(3,2),(5,1),(6,1),(7,1),(8,1),(9,1),(10,2)]:=by kernel_rfl
theorem A5f:Cw Tryz.prog 113=some false:=by kernel_rfl
theorem A5g:Aq Tryz.prog 113=some 1:=by kernel_rfl
theorem A1n:RP Tryz.prog 113=some (9,2):=by kernel_rfl
theorem A5h:Cw Tryz.prog 114=some false:=by kernel_rfl
theorem A5i:Aq Tryz.prog 114=some 1:=by kernel_rfl
theorem A1o:RP Tryz.prog 114=some (9,9):=by kernel_rfl
theorem A5j:D6 Tryz.prog 116=some (.agg #[.string ByteArray.empty,.slice none 0 0,.slice none 0 0,.slice none 0 0,.map none,.map none]):=by kernel_rfl
theorem wE:AA Tryz.prog 116 0=some (0,77):=by kernel_rfl
theorem wF:AA Tryz.prog 116 1=some (4,113):=by kernel_rfl
theorem wG:AA Tryz.prog 116 2=some (5,114):=by kernel_rfl
theorem A5k:Dp Tryz.prog 116=some [(0,4),(4,1),(5,1)]:=by kernel_rfl
theorem A5l:Cw Tryz.prog 120=some false:=by kernel_rfl
theorem A5m:Aq Tryz.prog 120=some 1:=by kernel_rfl
theorem A5n:DU Tryz.prog 120=some 131:=by kernel_rfl
theorem A5o:D6 Tryz.prog 125=some (.agg #[.slice none 0 0,.int .i64 0,.int .i64 0,.int .i64 0,.int .i64 0,.int .i64 0,.int .i64 0]):=by kernel_rfl
theorem wH:AA Tryz.prog 125 0=some (0,120):=by kernel_rfl
theorem wI:AA Tryz.prog 125 1=some (1,3):=by kernel_rfl
theorem wJ:AA Tryz.prog 125 2=some (2,3):=by kernel_rfl
theorem wK:AA Tryz.prog 125 3=some (3,3):=by kernel_rfl
theorem wL:AA Tryz.prog 125 4=some (4,3):=by kernel_rfl
theorem wM:AA Tryz.prog 125 5=some (5,3):=by kernel_rfl
theorem wN:AA Tryz.prog 125 6=some (6,3):=by kernel_rfl
theorem A5p:Dp Tryz.prog 125=some [(0,1),(1,1),(2,1),(3,1),(4,1),(5,1),(6,1)]:=by kernel_rfl
theorem A5q:Aq Tryz.prog 131=some 3:=by kernel_rfl
theorem A1p:GY Tryz.prog 131=some 32:=by kernel_rfl
theorem A5r:D6 Tryz.prog 131=some (.agg #[.int .i64 0,.string ByteArray.empty,.int .i64 0]):=by kernel_rfl
theorem wO:AA Tryz.prog 131 0=some (0,3):=by kernel_rfl
theorem B1O:AA Tryz.prog 131 1=some (1,9):=by kernel_rfl
theorem wQ:AA Tryz.prog 131 2=some (2,3):=by kernel_rfl
theorem A5s:Dp Tryz.prog 131=some [(0,1),(1,1),(2,1)]:=by kernel_rfl
theorem A5t:D6 Tryz.prog 139=some (.agg #[.slice none 0 0,.int .i64 0,.int .i64 0]):=by kernel_rfl
theorem wR:AA Tryz.prog 139 0=some (0,70):=by kernel_rfl
theorem wS:AA Tryz.prog 139 1=some (1,3):=by kernel_rfl
theorem B1P:AA Tryz.prog 139 2=some (2,3):=by kernel_rfl
theorem A5u:Dp Tryz.prog 139=some [(0,1),(1,1),(2,1)]:=by kernel_rfl
theorem A5v:D6 Tryz.prog 143=some (.agg #[]):=by kernel_rfl
theorem A5w:rR Tryz.prog 143=true:=by kernel_rfl
theorem A5x:Dp Tryz.prog 143=some []:=by kernel_rfl
theorem A5y:Cw Tryz.prog 145=some false:=by kernel_rfl
theorem A5z:Aq Tryz.prog 145=some 1:=by kernel_rfl
theorem A1q:RP Tryz.prog 145=some (9,67):=by kernel_rfl
theorem A60:D6 Tryz.prog 147=some (.agg #[.pointer none,.string ByteArray.empty,.map none,.int .i64 0]):=by kernel_rfl
theorem wU:AA Tryz.prog 147 0=some (0,80):=by kernel_rfl
theorem wV:AA Tryz.prog 147 1=some (1,9):=by kernel_rfl
theorem wW:AA Tryz.prog 147 2=some (2,145):=by kernel_rfl
theorem wX:AA Tryz.prog 147 3=some (3,2):=by kernel_rfl
theorem A61:Dp Tryz.prog 147=some [(0,1),(1,1),(2,1),(3,1)]:=by kernel_rfl
theorem A62:Cw Tryz.prog 150=some false:=by kernel_rfl
theorem A63:Aq Tryz.prog 150=some 1:=by kernel_rfl
theorem A1r:tPtr Tryz.prog 150=some 177:=by kernel_rfl
theorem A64:Cw Tryz.prog 151=some false:=by kernel_rfl
theorem A65:Aq Tryz.prog 151=some 1:=by kernel_rfl
theorem A1s:tPtr Tryz.prog 151=some 190:=by kernel_rfl
theorem A66:Cw Tryz.prog 152=some false:=by kernel_rfl
theorem A67:Aq Tryz.prog 152=some 1:=by kernel_rfl
theorem A68:DU Tryz.prog 152=some 179:=by kernel_rfl
theorem A69:Cw Tryz.prog 154=some true:=by kernel_rfl
theorem A6A:Aq Tryz.prog 154=some 10:=by kernel_rfl
theorem A1t:GY Tryz.prog 154=some 144:=by kernel_rfl
theorem A6B:D6 Tryz.prog 154=some (.agg #[.int .i64 0,.string ByteArray.empty,.string ByteArray.empty,.pointer none,.pointer none,.pointer none,.slice none 0 0,.slice none 0 0,.slice none 0 0,.int .i64 0]):=by kernel_rfl
theorem wY:AA Tryz.prog 154 0=some (0,3):=by kernel_rfl
theorem wZ:AA Tryz.prog 154 1=some (1,9):=by kernel_rfl
theorem wa:AA Tryz.prog 154 2=some (2,9):=by kernel_rfl
theorem wc:AA Tryz.prog 154 3=some (3,150):=by kernel_rfl
theorem we:AA Tryz.prog 154 4=some (4,150):=by kernel_rfl
theorem wg:AA Tryz.prog 154 5=some (5,151):=by kernel_rfl
theorem wh:AA Tryz.prog 154 6=some (6,152):=by kernel_rfl
theorem wj:AA Tryz.prog 154 7=some (7,75):=by kernel_rfl
theorem wk:AA Tryz.prog 154 8=some (8,75):=by kernel_rfl
theorem wl:AA Tryz.prog 154 9=some (9,3):=by kernel_rfl
theorem A6C:Dp Tryz.prog 154=some [(0,1),(1,1),(2,1),(3,1),(4,1),(5,1),(6,1),(7,1),(8,1),(9,1)]:=by kernel_rfl
theorem A6D:PX Tryz.prog 156=some .u64:=by kernel_rfl
theorem A6E:D6 Tryz.prog 177=some (.agg #[.int .i64 0,.int .i64 0,.string ByteArray.empty,.pointer none,.pointer none]):=by kernel_rfl
theorem wm:AA Tryz.prog 177 0=some (0,3):=by kernel_rfl
theorem wn:AA Tryz.prog 177 1=some (1,2):=by kernel_rfl
theorem wo:AA Tryz.prog 177 2=some (2,9):=by kernel_rfl
theorem wr:AA Tryz.prog 177 3=some (3,150):=by kernel_rfl
theorem ws:AA Tryz.prog 177 4=some (4,150):=by kernel_rfl
theorem A6F:Dp Tryz.prog 177=some [(0,1),(1,1),(2,1),(3,1),(4,1)]:=by kernel_rfl
theorem A6G:Cw Tryz.prog 179=some true:=by kernel_rfl
theorem A6H:Aq Tryz.prog 179=some 3:=by kernel_rfl
theorem A1u:GY Tryz.prog 179=some 32:=by kernel_rfl
theorem A6I:D6 Tryz.prog 179=some (.agg #[.bool false,.string ByteArray.empty,.pointer none]):=by kernel_rfl
theorem wt:AA Tryz.prog 179 0=some (0,4):=by kernel_rfl
theorem wu:AA Tryz.prog 179 1=some (1,9):=by kernel_rfl
theorem wv:AA Tryz.prog 179 2=some (2,150):=by kernel_rfl
theorem A6J:Dp Tryz.prog 179=some [(0,1),(1,1),(2,1)]:=by kernel_rfl
theorem A6K:D6 Tryz.prog 190=some (.agg #[.int .i64 0,.pointer none,.pointer none,.pointer none,.pointer none,.string ByteArray.empty]):=by kernel_rfl
theorem ww:AA Tryz.prog 190 0=some (0,3):=by kernel_rfl
theorem wx:AA Tryz.prog 190 1=some (1,150):=by kernel_rfl
theorem wy:AA Tryz.prog 190 2=some (2,150):=by kernel_rfl
theorem wz:AA Tryz.prog 190 3=some (3,151):=by kernel_rfl
theorem x7:AA Tryz.prog 190 4=some (4,151):=by kernel_rfl
theorem x8:AA Tryz.prog 190 5=some (5,9):=by kernel_rfl
theorem A6L:Dp Tryz.prog 190=some [(0,1),(1,1),(2,1),(3,1),(4,1),(5,1)]:=by kernel_rfl
end Go.Proofs.YtapedeoheilnnaaGreat
