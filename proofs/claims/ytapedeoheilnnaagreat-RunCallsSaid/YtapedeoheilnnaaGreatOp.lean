/- Arguments that come in, opened: plain data of any type as data that nobody writes. No conditions but those in each statement. -/
import Derived.Test.YtapedeoheilnnaaGreatSyC
import Derived.Deep.Draws
import Derived.LaidMore
import Derived.ProofKit
import Derived.OpenShut
set_option linter.all false
open Option (map_eq_some_iff)
open List (getElem?_eq_getElem)
namespace Go.Sy
open Go Go.RowKit Go.ChangeShapes Go.WideShapes Go.ChangeAt
theorem AAh{P:Prop}(h:P:=by
 refine⟨by simp[h1],λj e he=>?_⟩
 cases j with
 |zero=>simp only[List.getElem?_cons_zero,jS]at he;subst he;exact⟨c,rfl,hl.1⟩
 |succ j=>simp_all):P:=h
theorem AAn{P:Prop}(h:P:=by
 obtain⟨u,hu,rfl,rfl⟩:=ht
 have:=hnm u (List.mem_of_getElem? hu) k hk
 show (lkp (GE 0 mem) k).isSome=true
 rw[GE,Hh]
 simp[this]):P:=h
variable{v x:Value}{c:C}{r:Reach}{base:Nat}{f:FuncId}{fn:Func}
def J3{H:Type}(enc:TypeId×Value->H)(P:Program)(W:World)(t:TypeId)(fuel:Nat){A:Type}(e:A->List D)(Q:A->Prop):Prop:=
 ∀(cs:List Value) (x:DataW H×List MemPlace),DataW.trod enc P W 0 (λ_=>true) true fuel t cs=some x->
  ∃a:A,Q a/\(e a).length=cs.length/\∀(j:Nat) (d:D),(e a)[j]?=some d->∃v,cs[j]?=some v/\Rd (hp W) (λb=>b<W.heap.size) d v
abbrev Opn{H:Type}(enc:TypeId×Value->H)(P:Program)(W:World)(t:TypeId){A:Type}(e:A->List D)(Q:A->Prop):Prop:=∀fuel,J3 enc P W t fuel e Q
section
variable {H:Type}{enc:TypeId×Value->H}{P:Program}{W:World}{t:TypeId}{fuel:Nat}{A B:Type}{e:A->List D}{Q:A->Prop}
theorem I9:J3 enc P W t 0 e Q:=by intro cs x h;simp[DataW.trod]at h
theorem Lj(f:A->B)(e':B->List D)(Q':B->Prop)(h:J3 enc P W t fuel e Q)(he:∀a,e' (f a)=e a)(hq:∀a,Q a->Q' (f a)):J3 enc P W t fuel e' Q':=by
 intro cs x hx
 obtain⟨a,h1,h2,h3⟩:=h cs x hx
 exact⟨f a,hq a h1,by rw[he];exact h2,by rw[he];exact h3⟩
theorem Q0{d:D}(r:Rd (hp W) (λb=>b<W.heap.size) d v):∀(j:Nat) (d':D),[d][j]?=some d'->∃v',[v][j]?=some v'/\Rd (hp W) (λb=>b<W.heap.size) d' v':=by
 intro j d' h
 cases j with
 |zero=>simp only[List.getElem?_cons_zero,jS]at h;subst h;exact⟨v,rfl,r⟩
 |succ j=>simp at h
theorem UV{k:IntKind}(ht:P.underlying t=some (.int k)):J3 enc P W t fuel (λn:Int=>[.v (.int k n)]) (λn=>(Lit.int k n).wf=true):=by
 intro cs x h
 obtain⟨n,rfl,_,hw⟩:=DataW.trod_int ht h
 exact⟨n,hw,rfl,Q0 (.v _ rfl)⟩
theorem Zn(ht:P.underlying t=some .string):J3 enc P W t fuel (λl:List UInt8=>[.v (.string (bs l))]) (λl=>l.length<=maxLen):=by
 intro cs x h
 obtain⟨s,rfl,_,hs⟩:=DataW.trod_string ht h
 refine⟨s.toList,by rw[Hf]at hs;exact hs,rfl,?_⟩
 simp only[PB]
 exact Q0 (.v _ rfl)
theorem MN{a:Addr}{n:Nat}{cs:List Value}(h:W.cells? 0 a n=some cs):cs.length=n/\∀j,j<n->W.cell? (a.add j)=cs[j]?:=by
 unfold World.cells? at h
 rw[if_pos (Nat.zero_le _)]at h
 exact⟨by simpa using mapM_some_length h,λj hj=>mapM_some_get h j j (by simp[hj])⟩
theorem YV{a:Addr}(h:W.cell? a=some v):a.spot=none/\∃arr T m,W.heap[a.block]?=some (.cells arr T m)/\arr[a.off]?=some v:=by
 unfold World.cell? at h
 split at h
 .rename_i c e m hh
  split at h
  .cases h
  rename_i hs
  exact⟨by simpa using hs,c,e,m,hh,h⟩
 cases h
theorem YW(a:Addr):a.add 0=a:=rfl
theorem YX(b off k:Nat):(⟨b,off,none⟩:Addr).add k=⟨b,off+k,none⟩:=by
 unfold Addr.add
 split
 .rename_i h0
  have h0:k=0:=by simpa using h0
  subst h0;rfl
 rfl
theorem LD{et:TypeId}(ht:P.underlying t=some (.slice et))(z:List D)(hz:P.cellsOf et=z.length)(hp0:0<z.length)(h:J3 enc P W et fuel e Q):
  J3 enc P W t (fuel+1) (λl:List A=>[.sl z (l.map e)]) (λl=>l.length<=maxLen/\∀a∈l,Q a):=by
 classical
 intro cs x hx
 rcases DataW.trod_slice ht hx with⟨rfl,_⟩|⟨a,len,cap,elems,rest,n,hn,rfl,_,_,hlc,hcm,hlen,hel,_,_⟩
 .exact⟨[],⟨by simp,by simp⟩,rfl,Q0 (.nil _ _ _ λ_=>rfl)⟩
 .obtain rfl:fuel=n:=by omega
  by_cases h0:len=0
  .subst h0
   exact⟨[],⟨by simp,by simp⟩,rfl,Q0 (.nil _ _ _ λh=>by cases h)⟩
  rw[hz]at hel
  have hE:∀i,i<len->∃cs' b,W.cells? 0 (a.add (i*z.length)) z.length=some cs'/\Q b/\(e b).length=z.length/\∀(j:Nat) (d:D),(e b)[j]?=some d->∃v,cs'[j]?=some v/\Rd (hp W) (λb=>b<W.heap.size) d v:=by
   intro i hi
   have h1:=hel i hi
   rw[getElem?_eq_getElem (by omega)]at h1
   obtain⟨cs',c1,c2⟩:=Option.bind_eq_some_iff.1 h1
   obtain⟨b,b1,b2,b3⟩:=h cs' _ c2
   exact⟨cs',b,c1,b1,by rw[b2,(MN c1).1],b3⟩
  have hne:Nonempty A:=by obtain⟨_,b,_⟩:=hE 0 (by omega);exact⟨b⟩
  have hspot:a.spot=none:=by
   obtain⟨cs',_,c1,_⟩:=hE 0 (by omega)
   have h2:=(MN c1).2 0 hp0
   rw[Nat.zero_mul,YW,YW]at h2
   have h3:∃v,cs'[0]?=some v:=⟨_,getElem?_eq_getElem (by rw[(MN c1).1];exact hp0)⟩
   obtain⟨v,hv⟩:=h3
   rw[hv]at h2
   exact(YV h2).1
  obtain⟨b,off,spot⟩:=a
  have hspot:spot=none:=hspot
  subst hspot
  obtain⟨f,hf⟩:∃f:Nat->A,∀i,i<len->∃cs',W.cells? 0 ((⟨b,off,none⟩:Addr).add (i*z.length)) z.length=some cs'/\Q (f i)/\(e (f i)).length=z.length/\∀(j:Nat) (d:D),(e (f i))[j]?=some d->∃v,cs'[j]?=some v/\Rd (hp W) (λb=>b<W.heap.size) d v:=by
   refine Classical.axiomOfChoice (r:=λi g=>i<len->∃cs',W.cells? 0 ((⟨b,off,none⟩:Addr).add (i*z.length)) z.length=some cs'/\Q g/\(e g).length=z.length/\∀(j:Nat) (d:D),(e g)[j]?=some d->∃v,cs'[j]?=some v/\Rd (hp W) (λb=>b<W.heap.size) d v) ?_
   intro i
   by_cases hi:i<len
   .obtain⟨cs',g,g1⟩:=hE i hi
    exact⟨g,λ_=>⟨cs',g1⟩⟩
   .exact⟨Classical.choice hne,λhi'=>absurd hi' hi⟩
  have hcell:∀i j,i<len->j<z.length->∃arr T m v,W.heap[b]?=some (.cells arr T m)/\arr[off+i*z.length+j]?=some v/\∀d,(e (f i))[j]?=some d->Rd (hp W) (λb=>b<W.heap.size) d v:=by
   intro i j hi hj
   obtain⟨cs',c1,_,_,c2⟩:=hf i hi
   have h2:=(MN c1).2 j hj
   obtain⟨v,hv⟩:∃v,cs'[j]?=some v:=⟨_,getElem?_eq_getElem (by rw[(MN c1).1];exact hj)⟩
   rw[hv,YX,YX]at h2
   obtain⟨_,arr,T,m,h3,h4⟩:=YV h2
   refine⟨arr,T,m,v,h3,h4,λd hd=>?_⟩
   obtain⟨v',h5,h6⟩:=c2 j d hd
   rw[hv]at h5
   obtain rfl:=Option.some.inj h5
   exact h6
  obtain⟨arr,T,m,_,hb,_,_⟩:=hcell 0 0 (by omega) hp0
  have hlt:b<W.heap.size:=(Array.getElem?_eq_some_iff.1 hb).1
  have hcell':∀i j,i<len->j<z.length->∃v,arr[off+i*z.length+j]?=some v/\∀d,(e (f i))[j]?=some d->Rd (hp W) (λb=>b<W.heap.size) d v:=by
   intro i j hi hj
   obtain⟨arr',T',m',v,h1,h2,h3⟩:=hcell i j hi hj
   rw[hb]at h1
   simp only[jS,Obj.cells.injEq]at h1
   obtain⟨rfl,_,_⟩:=h1
   exact⟨v,h2,h3⟩
  have hget:∀(i:Nat) (r:List D),(((List.range len).map f).map e)[i]?=some r->i<len/\r=e (f i):=by
   intro i r hr
   simp only[List.getElem?_map,map_eq_some_iff]at hr
   obtain⟨a',⟨a'',h1,rfl⟩,rfl⟩:=hr
   have hi:=(List.getElem?_eq_some_iff.1 h1).1
   simp only[List.length_range]at hi
   rw[List.getElem?_range hi]at h1
   obtain rfl:=Option.some.inj h1
   exact⟨hi,rfl⟩
  have hll:(((List.range len).map f).map e).length=len:=by simp
  have key:Rd (hp W) (λb=>b<W.heap.size) (.sl z (((List.range len).map f).map e)) (.slice (some ⟨b,off,none⟩) (((List.range len).map f).map e).length cap):=by
   refine .sl z _ b off cap arr T m (λi j=>(arr[off+i*z.length+j]?).getD (.bool false)) hlt hb (by omega) ?_ ?_ ?_
   .intro i r hr
    obtain⟨h1,rfl⟩:=hget i r hr
    obtain⟨_,_,_,h2,_⟩:=hf i h1
    exact h2
   .intro i j r d hr hd
    obtain⟨h1,rfl⟩:=hget i r hr
    obtain⟨_,_,_,h2,_⟩:=hf i h1
    obtain⟨v,h3,_⟩:=hcell' i j h1 (by have:=(List.getElem?_eq_some_iff.1 hd).1;omega)
    rw[h3];rfl
   .intro i j r d hr hd
    obtain⟨h1,rfl⟩:=hget i r hr
    obtain⟨_,_,_,h2,_⟩:=hf i h1
    obtain⟨v,h3,h4⟩:=hcell' i j h1 (by have:=(List.getElem?_eq_some_iff.1 hd).1;omega)
    simp only[h3,Option.getD_some]
    exact h4 d hd
  rw[hll]at key
  refine⟨(List.range len).map f,⟨by simp;omega,?_⟩,rfl,Q0 key⟩
  intro a' ha
  obtain⟨i,hi,rfl⟩:=List.mem_map.1 ha
  obtain⟨_,_,h1,_⟩:=hf i (by simpa using hi)
  exact h1
def fQ{H:Type}(enc:TypeId×Value->H)(P:Program)(W:World)(fs:List Field)(fuel o n:Nat){A:Type}(e:A->List D)(Q:A->Prop):Prop:=
 ∀(cs:List Value) (xs:List (DataW H×List MemPlace)),(∀(i:Nat) (f:Field),fs[i]?=some f->DataW.trod enc P W 0 (λ_=>true) true fuel f.type ((cs.drop f.offset).take (P.cellsOf f.type))=xs[i]?)->xs.length=fs.length->cs.length=o+n->
  ∃a:A,Q a/\(e a).length=n/\∀(j:Nat) (d:D),(e a)[j]?=some d->∃v,cs[o+j]?=some v/\Rd (hp W) (λb=>b<W.heap.size) d v
theorem UW(o:Nat):fQ enc P W [] fuel o 0 (λ_:Unit=>[]) (λ_=>True):=by
 intro cs xs _ _ _
 exact⟨(),trivial,rfl,by simp⟩
theorem Ks{f:Field}{fs:List Field}{o m n:Nat}{e2:B->List D}{Q2:B->Prop}(hf:f.offset=o)(hm:P.cellsOf f.type=m)(h1:J3 enc P W f.type fuel e Q)(h2:fQ enc P W fs fuel (o+m) n e2 Q2):
  fQ enc P W (f::fs) fuel o (m+n) (λp:A×B=>e p.1++e2 p.2) (λp=>Q p.1/\Q2 p.2):=by
 intro cs xs hx hl hcl
 have g0:=hx 0 f rfl
 rw[getElem?_eq_getElem (by simp[hl]),hf,hm]at g0
 obtain⟨a,a1,a2,a3⟩:=h1 _ _ g0
 obtain⟨b,b1,b2,b3⟩:=h2 cs (xs.drop 1) (λi g hg=>by
  have:=hx (i+1) g (by simpa using hg)
  rw[this,List.getElem?_drop,Nat.add_comm]) (by simp[hl]) (by omega)
 have hal:(e a).length=m:=by rw[a2,List.length_take,List.length_drop,hcl];omega
 refine⟨(a,b),⟨a1,b1⟩,by simp[hal,b2],λj d hd=>?_⟩
 simp only at hd
 by_cases hj:j<m
 .rw[List.getElem?_append_left (by omega)]at hd
  obtain⟨v,v1,v2⟩:=a3 j d hd
  rw[List.getElem?_take,if_pos hj,List.getElem?_drop]at v1
  exact⟨v,v1,v2⟩
 .rw[List.getElem?_append_right (by omega),hal]at hd
  obtain⟨v,v1,v2⟩:=b3 _ d hd
  exact⟨v,by rw[<- v1];congr 1;omega,v2⟩
theorem PP{fs:Array Field}{n:Nat}(ht:P.underlying t=some (.struct fs))(hn:P.cellsOf t=n)(h:fQ enc P W fs.toList fuel 0 n e Q):J3 enc P W t (fuel+1) e Q:=by
 intro cs x hx
 obtain⟨xs,m,hm,_,hl,hxl,hf⟩:=DataW.trod_struct ht hx
 obtain rfl:fuel=m:=by omega
 obtain⟨a,a1,a2,a3⟩:=h cs xs (λi f hi=>hf i f (by simpa using hi)) (by simpa using hxl) (by omega)
 exact⟨a,a1,by omega,λj d hd=>by simpa using a3 j d hd⟩
end
section
variable {H:Type}{enc:TypeId×Value->H}{P:Program}{W:World}{t:TypeId}{A:Type}{e:A->List D}{Q:A->Prop}
theorem qg{h:Bf}{fz:Nat->Prop}{d:D}(r:Rd h fz d x):CD h fz (.one (oD d)) x:=HN (H:=λ_=>none) (Nr d) (bA r)
theorem Zo{r:Reach}{base:Nat}{d:DataW H}{p:List MemPlace}{f:A->D}(hv:v.cells.toList=[v])(h:DataW.Trod enc P W 0 (λ_=>true) true t v d p)(ho:Opn enc P W t (λa=>[f a]) Q):
  ∃a:A,Q a/\CD (hp W) (λb=>b<W.heap.size) (.one (oD (f a))) v:=by
 obtain⟨fuel,hf⟩:=h
 obtain⟨a,a1,a2,a3⟩:=ho fuel _ _ hf
 obtain⟨v',v1,v2⟩:=a3 0 (f a) rfl
 rw[hv]at v1
 simp only[List.getElem?_cons_zero,jS]at v1
 subst v1
 exact⟨a,a1,qg v2⟩
theorem nD{d:DataW H}{p:List MemPlace}(hv:∃cs,v= .agg cs)(h:DataW.Trod enc P W 0 (λ_=>true) true t v d p)(ho:Opn enc P W t e Q):
  ∃a:A,Q a/\CD (hp W) (λb=>b<W.heap.size) (.agg ((e a).map oD)) v:=by
 obtain⟨fuel,hf⟩:=h
 obtain⟨cs,rfl⟩:=hv
 obtain⟨a,a1,a2,a3⟩:=ho fuel _ _ hf
 refine⟨a,a1,cs,rfl,by simpa [Value.cells] using a2.symm,λj c hc=>?_⟩
 simp only[List.getElem?_map,map_eq_some_iff]at hc
 obtain⟨d,hd,rfl⟩:=hc
 obtain⟨v,v1,v2⟩:=a3 j d hd
 exact⟨v,by simpa [Value.cells] using v1,qg v2⟩
theorem fR{fs:Array Field}(ht:P.underlying t=some (.struct fs))(hv:Value.okWide P W r base t v):∃cs,v= .agg cs:=by
 unfold Value.okWide at hv
 rw[ht]at hv
 obtain⟨cs,h,_⟩:=hv
 exact⟨cs,h⟩
theorem YY{et:TypeId}(ht:P.underlying t=some (.slice et))(hv:Value.okWide P W r base t v):v.cells.toList=[v]:=by
 obtain⟨a,l,c,rfl⟩:=okWide_slice ht hv
 rfl
end
open Go Go.RowKit
def fS:C->Bool
 | .v (.slice none 0 0)=>true
 |_=>false
def emS:C->Bool
 | .d (.sl _ [])=>true
 |_=>false
def leC(c d:C):Prop:=c=d∨(fS c=true/\emS d=true)
def leL:List C->List C->Prop
 |[],[]=>True
 |c::l,d::m=>leC c d/\leL l m
 |_,_=>False
def leP:C ⊕ List C->C ⊕ List C->Prop
 | .inl c,.inl d=>leC c d
 | .inr l,.inr m=>leL l m
 |_,_=>False
def leT:List (C ⊕ List C)->List (C ⊕ List C)->Prop
 |[],[]=>True
 |p::l,q::m=>leP p q/\leT l m
 |_,_=>False
def leV:SV->SV->Prop
 | .one c,.one d=>leC c d
 | .agg l,.agg m=>leL l m
 | .tup l,.tup m=>leT l m
 |_,_=>False
theorem R2(c:C):leC c c:=.inl rfl
theorem Gt(c:C):leC c c=True:=by simp[leC]
theorem Hv(z:List D):leC (.v (.slice none 0 0)) (.d (.sl z []))=True:=by simp[leC,fS,emS]
theorem UX:∀l:List C,leL l l
 |[]=>trivial
 |c::l=>⟨R2 c,UX l⟩
theorem UY:∀l:List (C ⊕ List C),leT l l
 |[]=>trivial
 | .inl c::l=>⟨R2 c,UY l⟩
 | .inr c::l=>⟨UX c,UY l⟩
theorem F4(v:SV):leV v v:=by
 cases v with
 |one c=>exact R2 c
 |agg l=>exact UX l
 |tup l=>exact UY l
theorem TB(h:fS c=true):c= .v (.slice none 0 0):=by
 unfold fS at h
 split at h
 .rfl
 cases h
theorem MO(h:emS c=true):∃z,c= .d (.sl z []):=by
 unfold emS at h
 split at h
 .exact⟨_,rfl⟩
 cases h
section
variable {h:Bf}{fz:Nat->Prop}{lab:Lab}{I:Nm}{H:Hp}
theorem fT{d:C}(hl:leC c d)(r:SC h fz lab I H c x):SC h fz lab I H d x:=by
 rcases hl with rfl|⟨h1,h2⟩
 .exact r
 obtain rfl:=TB h1
 obtain⟨z,rfl⟩:=MO h2
 have r2:=r.2
 cases r2
 exact⟨rfl,.d _ _ _ (.nil z none 0 λ_=>rfl)⟩
theorem dH:∀{l m:List C},leL l m->l.length=m.length/\∀(j:Nat) (d:C),m[j]?=some d->∃c,l[j]?=some c/\leC c d
 |[],[],_=>⟨rfl,by simp⟩
 |c::l,d::m,hl=>by
  obtain⟨h1,h2⟩:=dH hl.2
  exact AAh
 |[],d::m,hl=>hl.elim
 |c::l,[],hl=>hl.elim
theorem qh{l m:List C}(hl:leL l m){arr:Array Value}(r:ER h fz lab I H l arr):ER h fz lab I H m arr:=by
 obtain⟨h1,h2⟩:=dH hl
 refine⟨by rw[r.1,h1],λj d hd=>?_⟩
 obtain⟨c,hc,hcd⟩:=h2 j d hd
 obtain⟨y,y1,y2⟩:=r.2 j c hc
 exact⟨y,y1,fT hcd y2⟩
theorem dJ:∀{l m:List (C ⊕ List C)},leT l m->l.length=m.length/\∀(j:Nat) (d:C ⊕ List C),m[j]?=some d->∃c,l[j]?=some c/\leP c d
 |[],[],_=>⟨rfl,by simp⟩
 |c::l,d::m,hl=>by
  obtain⟨h1,h2⟩:=dJ hl.2
  exact AAh
 |[],d::m,hl=>hl.elim
 |c::l,[],hl=>hl.elim
theorem VX{v v':SV}(hl:leV v v')(r:Ap h fz lab I H v x):Ap h fz lab I H v' x:=by
 cases v with
 |one c=>cases v' with
  |one d=>exact fT hl r
  |agg=>exact hl.elim
  |tup=>exact hl.elim
 |agg l=>cases v' with
  |one=>exact hl.elim
  |tup=>exact hl.elim
  |agg m=>obtain⟨arr,h1,h2⟩:=r;exact⟨arr,h1,qh hl h2⟩
 |tup l=>cases v' with
  |one=>exact hl.elim
  |agg=>exact hl.elim
  |tup m=>
   obtain⟨arr,h1,h2,h3⟩:=r
   obtain⟨g1,g2⟩:=dJ hl
   refine⟨arr,h1,by rw[h2,g1],λj p hp=>?_⟩
   obtain⟨q,hq,hqp⟩:=g2 j p hp
   obtain⟨y,y1,y2⟩:=h3 j q hq
   refine⟨y,y1,?_⟩
   cases q with
   |inl c=>cases p with
    |inl d=>exact fT hqp y2
    |inr=>exact hqp.elim
   |inr l=>cases p with
    |inl=>exact hqp.elim
    |inr m=>obtain⟨arr,e1,e2⟩:=y2;exact⟨arr,e1,qh hqp e2⟩
end
theorem Zq{d:C}(hl:leC c d):d.names=c.names:=by
 rcases hl with rfl|⟨h1,h2⟩
 .rfl
 obtain rfl:=TB h1;obtain⟨z,rfl⟩:=MO h2;rfl
theorem Zr:∀{l m:List C},leL l m->m.flatMap C.names=l.flatMap C.names
 |[],[],_=>rfl
 |c::l,d::m,hl=>by simp only[List.flatMap_cons,Zq hl.1,Zr hl.2]
 |[],d::m,hl=>hl.elim
 |c::l,[],hl=>hl.elim
theorem iw:∀{l m:List (C ⊕ List C)},leT l m->m.flatMap pNames=l.flatMap pNames
 |[],[],_=>rfl
 |p::l,q::m,hl=>by
  have h1:pNames q=pNames p:=by
   have h0:=hl.1
   cases p<;>cases q<;>first|exact h0.elim|exact Zq h0|exact Zr h0
  simp only[List.flatMap_cons,h1,iw hl.2]
 |[],d::m,hl=>hl.elim
 |c::l,[],hl=>hl.elim
theorem yW{v v':SV}(hl:leV v v'):v'.names=v.names:=by
 cases v<;>cases v'<;>first|exact hl.elim|exact Zq hl|exact Zr hl|exact iw hl
def fU(r:SV):St->List SV->Prop:=λ_ vs=>(F0 vs).names=[]/\leV (F0 vs) r
theorem yX(r:SV)(s:St)(vs:List SV):fU r s vs=((F0 vs).names=[]/\leV (F0 vs) r):=rfl
section
variable {P:Program}
theorem UZ{w:World}{fz:Nat->Prop}{r:SV}{en:Ending}{w':World}(h:KS w fz (λv=>leV v r) en w'):KS w fz (λv=>v=r) en w':=by
 obtain⟨v,x,fz',rfl,h1,h2,h3,h4,h5,h6,h7⟩:=h
 exact⟨r,x,fz',rfl,rfl,by rw[yW h1];exact h2,h3,h4,h5,VX h1 h6,h7⟩
theorem Bg{c:Code}(hf:P.funcs[f]?=some fn)(hb:fn.body=some c)(w:World)(fz:Nat->Prop)(sp:List (Spec P (clX fz) w))(g:Gh){A:Type}(ac:ArgC A)(F:A->SV)(a:A)(xs:List Value)(hfz:∀b,fz b->b<w.heap.size)(hl:xs.length=(ac.e a).length)
  (hx:∀(j:Nat) (v:SV) (x:Value),(ac.e a)[j]?=some v->xs[j]?=some x->CD (hp w) fz v x) (hn:(ac.e a).length<=fn.ntmps)
  (h:vc (clX fz) w sp fn.ntmps g c ⟨J7 0 (ac.e a),[]⟩ (My P (clX fz) fn.results.toList (fU (F a)))):Calls P f xs.toArray w (KS w fz (λv=>v=F a)):=
 (bh hf hb w fz sp g (ac.e a) (ac.n a) hfz xs hl hx (λv=>leV v (F a)) hn h).mono λ_ _ h=>UZ h
theorem Jr{c:Code}(hf:P.funcs[f]?=some fn)(hb:fn.body=some c)(w:World)(fz:Nat->Prop)(sp:List (Spec P (clX fz) w))(g:Gh){A:Type}(ac:ArgH A)(F:A->SV)(a:A)(xs:List Value)(hfz:∀b,fz b->b<w.heap.size)(hl:xs.length=(ac.e a).length)
  (hx:∀(j:Nat) (v:SV) (x:Value),(ac.e a)[j]?=some v->xs[j]?=some x->CD (hp w) fz v x) (hn:(ac.e a).length<=fn.ntmps)
  (h:vc (clX fz) w sp fn.ntmps g c ⟨J7 0 (ac.e a),[]⟩ (My P (clX fz) fn.results.toList (fU (F a)))):Calls P f xs.toArray w (KS w fz (λv=>v=F a)):=
 (bh hf hb w fz sp g (ac.e a) (ac.n a) hfz xs hl hx (λv=>leV v (F a)) hn h).mono λ_ _ h=>UZ h
def VY(r:SV)(m':List (Option MV)):St->List SV->Prop:=λs vs=>leV (F0 vs) r/\LX (F0 vs)=true/\∀p∈memO 0 m',KR (lkp s.h p.1) p.2/\Kk (memO 0 m') (chNames p.2)
theorem tU(r:SV)(m':List (Option MV))(s:St)(vs:List SV):VY r m' s vs=(leV (F0 vs) r/\LX (F0 vs)=true/\∀p∈memO 0 m',KR (lkp s.h p.1) p.2/\Kk (memO 0 m') (chNames p.2)):=rfl
theorem Ac{c:Code}(hf:P.funcs[f]?=some fn)(hb:fn.body=some c)(mem:List MV)(w:World)(M:Nat->Prop)(I:Nm)(lab:Lab)(fz:Nat->Prop)(sp:List (Spec P (mX M fz I mem.length) w))(g:Gh)(args:List SV)(mem':List (Option MV))(R:SV)(xs:List Value)
  (hA:AtW (mX M fz I mem.length) w I lab fz (lkp (GE 0 mem)) w) (hlen:xs.length=args.length) (hx:∀(j:Nat) (v:SV) (x:Value),args[j]?=some v->xs[j]?=some x->Ap (hp w) fz lab I (lkp (GE 0 mem)) v x)
  (hnm:∀v∈args,∀k∈v.names,k<mem.length) (hn:args.length<=fn.ntmps) (hl:mem.length<=mem'.length)
  (h:vc (mX M fz I mem.length) w sp fn.ntmps g c ⟨J7 0 args,GE 0 mem⟩ (My P (mX M fz I mem.length) fn.results.toList (VY R mem'))):Calls P f xs.toArray w (LZ w M fz I mem.length mem' R):=by
 refine calls_of_wp hf hb (Code.wp_mono ?_ (AP sp g c _ _ h _ w ?_))
 .rintro e a w' (⟨s,hq,hs⟩|⟨ch,rfl,_,_,I1,l1,f1,H1,_,hpn⟩)
  rotate_left
  .exact hpn.elim
  have fin:Mx P (mX M fz I mem.length) fn.results.toList (VY R mem') s->a.defers=[]/\∃v,(results fn a.tmps).run P w'= .ok v w'/\LZ w M fz I mem.length mem' R (Ending.returned v) w':=by
   rintro ⟨cs,s',vs,h1,h2,h3,h4,h5,h6⟩
   refine⟨hs.defers,?_⟩
   obtain⟨_,I',lab',fz',hA'⟩:=Gm h1 a w' hs
   obtain⟨x,x1,x2⟩:=K4 hA' h2 h3
   refine⟨x,x1,x,I',lab',fz',rfl,Qo hA'.m h6 (λp hp'=>?_),VX h4 (Nv h5 x2)⟩
   obtain⟨q1,q2,_⟩:=Ih hp'
   exact PI _ _ _ q1 (by omega)
  cases e with
  |normal=>exact fin hq
  |ret=>exact fin hq
  |_=>exact hq.elim
 .refine⟨?_,I,lab,fz,?_,⟨rfl,λp hp=>by cases hp⟩,?_,hA⟩
  .intro t g v ht _ k hk
   rw[H8]at ht
   simp only[Nat.zero_le,if_true,Nat.sub_zero,map_eq_some_iff,jP]at ht
   exact AAn
  .simp_all
  .intro t g v ht
   rw[H8]at ht
   simp only[Nat.zero_le,if_true,Nat.sub_zero,map_eq_some_iff,jP]at ht
   obtain⟨u,hu,rfl,rfl⟩:=ht
   have hlt:t<args.length:=(List.getElem?_eq_some_iff.1 hu).1
   have hlt2:t<xs.length:=by omega
   refine⟨xs[t],?_,?_⟩
   .grind
   .simp only[if_true]
    exact hx t u _ hu (getElem?_eq_getElem hlt2)
end
open Classical in
noncomputable def Hl{A:Type}(e:A->SV)(uq:∀v a b,leV v (e a)->leV v (e b)->a=b)(n:∀a,(e a).names=[]):Cod A where
 d v:=if h:∃a,leV v (e a) then some h.choose else none
 e:=e
 h s x y hd r:=by
  split at hd
  .rename_i h
   simp only[jS]at hd
   subst hd
   exact VX h.choose_spec r
  .cases hd
 n:=n
open Classical in
theorem E4{A:Type}{e:A->SV}{uq:∀v a b,leV v (e a)->leV v (e b)->a=b}{n:∀a,(e a).names=[]}{v:SV}{a:A}(h:leV v (e a)):(Hl e uq n).d v=some a:=by
 have hex:∃a,leV v (e a):=⟨a,h⟩
 show (if h:∃a,leV v (e a) then some h.choose else none)=some a
 rw[dif_pos hex]
 exact congrArg some (uq v _ _ hex.choose_spec h)
open Classical in
noncomputable def rowOf{A:Type}(z:List D)(e:A->List D)(uq:∀a b,e a=e b->a=b)(n:∀a,(e a).length=z.length):RowC A where
 z:=z
 d r:=if h:∃a,r=e a then some h.choose else none
 e:=e
 h r b hd:=by
  split at hd
  .grind
  .cases hd
 i b:=by
  have hex:∃a,e b=e a:=⟨b,rfl⟩
  rw[dif_pos hex]
  exact congrArg some (uq _ _ hex.choose_spec.symm)
 n:=n
open Classical in
noncomputable def MP{A:Type}(z:List C)(e:A->List C)(n:∀b,∀c∈e b,c.names=[])(t:zT z=none:=by first|rfl|decide):RowM A where
 t:=t
 z:=z
 d r:=if h:∃a,r=e a then some h.choose else none
 e:=e
 h r b hd:=by
  split at hd
  .grind
  .cases hd
 n:=n
open Classical in
theorem JG{A:Type}{z:List C}{e:A->List C}{n:∀b,∀c∈e b,c.names=[]}{t:zT z=none}(uq:∀a b,e a=e b->a=b)(a:A):(MP z e n t).d (e a)=some a:=by
 have hex:∃b,e a=e b:=⟨a,rfl⟩
 show (if h:∃b,e a=e b then some h.choose else none)=some a
 rw[dif_pos hex]
 exact congrArg some (uq _ _ hex.choose_spec.symm)
def ptR{B:Type}(c:RowC B)(H:Hp):SV->Option (B×List Nat)
 | .one (.p k 0 0)=>match H k with
  |some (.vec _ z [r])=>match GD z,GD r with
   |some _,some r'=>(c.d r').map λb=>(b,[k])
   |_,_=>none
  |_=>none
 | .one (.d (.pt (some r)))=>(c.d r).map λb=>(b,[])
 | .one (.dp r)=>(c.d r).map λb=>(b,[])
 |_=>none
def cPt{B:Type}(c:RowC B):CodH B where
 d:=ptR c
 e b:=.one (.d (.pt (some (c.e b))))
 h:=λ{X w0 w I lab fz H} v a fp x hA h r=>by
  unfold ptR at h
  split at h
  .rename_i k
   split at h
   .rename_i u z r0 hk
    split at h
    .rename_i z' r' hz hr
     simp only[map_eq_some_iff,jP]at h
     obtain⟨b,hb,rfl,rfl⟩:=h
     obtain⟨lab',fz',h1,_,_,h4⟩:=ZU hA hk (es':=[r']) hz (by simp only[EZ,hr])
     have h5:=h4 0 0 (by simp)
     have hx:=r.2
     cases hx
     simp only[List.getD_cons_zero,List.drop_zero]at h5
     rw[c.h _ _ hb]at h5
     exact⟨rfl,.d _ _ _ (Ff (λb hb=>⟨(h1.fzl b hb).1,rfl⟩) h5)⟩
    .cases h
   .cases h
  .simp only[map_eq_some_iff,jP]at h
   obtain⟨b,hb,rfl,rfl⟩:=h
   have hx:=r.2
   cases hx with|d _ _ _ r=>?_
   rw[c.h _ _ hb]at r
   exact⟨rfl,.d _ _ _ (Ff (λb hb=>⟨(hA.fzl b hb).1,rfl⟩) r)⟩
  .simp only[map_eq_some_iff,jP]at h
   obtain⟨b,hb,rfl,rfl⟩:=h
   have hx:=r.2
   cases hx with|dp _ _ _ r=>?_
   rw[c.h _ _ hb]at r
   exact⟨rfl,.d _ _ _ (Ff (λb hb=>⟨(hA.fzl b hb).1,rfl⟩) r)⟩
  .cases h
 n a:=rfl
 l H H' v a fp h hf:=by
  unfold ptR at*
  split at h
  .rename_i k
   split at h
   .rename_i u z r0 hk
    have hfp:k∈fp:=by
     split at h
     .simp only[map_eq_some_iff,jP]at h
      obtain⟨_,_,_,rfl⟩:=h;simp
     .cases h
    simp only[hf k hfp,hk]
    exact h
   .cases h
  .exact h
  .exact h
  .cases h
theorem Ao{B:Type}(c:RowC B)(H:Hp)(v:SV):(cPt c).d H v=ptR c H v:=rfl
theorem qi{B:Type}(c:RowC B)(b:B):(cPt c).e b= .one (.d (.pt (some (c.e b)))):=rfl
theorem yY:F3 (C.any)=true:=rfl
theorem A6u(x:Value):F3 (C.v x)=true:=rfl
theorem A6v(k i j:Nat):F3 (C.p k i j)=true:=rfl
theorem A6w(k:Nat):F3 (C.s k)=true:=rfl
theorem A6x(x:D):F3 (C.d x)=true:=rfl
theorem A3E(z:List D)(es:List (List D)):F3 (C.df z es)=true:=rfl
theorem A3F(cs:List D):F3 (C.dp cs)=true:=rfl
theorem A3G(f:FuncId)(caps:List C):F3 (C.fn f caps)=true:=rfl
theorem A3H(k u:Nat)(p:List (Nat×Nat)):F3 (C.vw k u p)=false:=rfl
theorem A6y(k u:Nat)(p:List (Nat×Nat))(s m o:Nat):F3 (C.q k u p s m o)=false:=rfl
theorem A3I(z:List C)(es:List (List C)):F3 (C.ov z es)=true:=rfl
theorem yZ:C.stor (C.any)=true:=rfl
theorem A6z(x:Value):C.stor (C.v x)=true:=rfl
theorem A70(k i j:Nat):C.stor (C.p k i j)=true:=rfl
theorem A71(k:Nat):C.stor (C.s k)=true:=rfl
theorem A72(x:D):C.stor (C.d x)=true:=rfl
theorem A3J(z:List D)(es:List (List D)):C.stor (C.df z es)=true:=rfl
theorem A3K(cs:List D):C.stor (C.dp cs)=true:=rfl
theorem A3L(f:FuncId)(caps:List C):C.stor (C.fn f caps)=true:=rfl
theorem A3M(k u:Nat)(p:List (Nat×Nat)):C.stor (C.vw k u p)=false:=rfl
theorem A73(k u:Nat)(p:List (Nat×Nat))(s m o:Nat):C.stor (C.q k u p s m o)=false:=rfl
theorem A3N(z:List C)(es:List (List C)):C.stor (C.ov z es)=false:=rfl
theorem yc:C.names (C.any)=[]:=rfl
theorem A74(x:Value):C.names (C.v x)=[]:=rfl
theorem A75(k i j:Nat):C.names (C.p k i j)=[k]:=rfl
theorem A76(k:Nat):C.names (C.s k)=[k]:=rfl
theorem A77(x:D):C.names (C.d x)=[]:=rfl
theorem A3O(z:List D)(es:List (List D)):C.names (C.df z es)=[]:=rfl
theorem A3P(cs:List D):C.names (C.dp cs)=[]:=rfl
theorem A3Q(f:FuncId)(caps:List C):C.names (C.fn f caps)=caps.flatMap capN:=rfl
theorem A3R(k u:Nat)(p:List (Nat×Nat)):C.names (C.vw k u p)=[k]:=rfl
theorem A78(k u:Nat)(p:List (Nat×Nat))(s m o:Nat):C.names (C.q k u p s m o)=[k]:=rfl
theorem A3S(z:List C)(es:List (List C)):C.names (C.ov z es)=[]:=rfl
theorem yd(g:Nat->Nat):GF g (C.any)= .any:=rfl
theorem A79(g:Nat->Nat)(x:Value):GF g (C.v x)= .v x:=rfl
theorem A7A(g:Nat->Nat)(k i j:Nat):GF g (C.p k i j)= .p (g k) i j:=rfl
theorem A7B(g:Nat->Nat)(k:Nat):GF g (C.s k)= .s (g k):=rfl
theorem A7C(g:Nat->Nat)(x:D):GF g (C.d x)= .d x:=rfl
theorem A3T(g:Nat->Nat)(z:List D)(es:List (List D)):GF g (C.df z es)= .df z es:=rfl
theorem A3U(g:Nat->Nat)(cs:List D):GF g (C.dp cs)= .dp cs:=rfl
theorem A3V(g:Nat->Nat)(f:FuncId)(caps:List C):GF g (C.fn f caps)= .any:=rfl
theorem A3W(g:Nat->Nat)(k u:Nat)(p:List (Nat×Nat)):GF g (C.vw k u p)= .any:=rfl
theorem A7D(g:Nat->Nat)(k u:Nat)(p:List (Nat×Nat))(s m o:Nat):GF g (C.q k u p s m o)= .any:=rfl
theorem A3X(g:Nat->Nat)(z:List C)(es:List (List C)):GF g (C.ov z es)= .any:=rfl
theorem ye(n:Nat)(zz:List D)(ee:List (List D)):fzC n zz ee (C.any)=(C.any):=rfl
theorem A7E(n:Nat)(zz:List D)(ee:List (List D))(x:Value):fzC n zz ee (C.v x)=(C.v x):=rfl
theorem A7F(n:Nat)(zz:List D)(ee:List (List D))(k i j:Nat):fzC n zz ee (C.p k i j)=if k=n then (if i<ee.length then .d (.pt (some ((ee.getD i zz).drop j))) else .any) else .p k i j:=rfl
theorem A7G(n:Nat)(zz:List D)(ee:List (List D))(k:Nat):fzC n zz ee (C.s k)=if k=n then .d (.sl zz ee) else .s k:=rfl
theorem A7H(n:Nat)(zz:List D)(ee:List (List D))(x:D):fzC n zz ee (C.d x)=(C.d x):=rfl
theorem A3Y(n:Nat)(zz:List D)(ee:List (List D))(z:List D)(es:List (List D)):fzC n zz ee (C.df z es)=(C.df z es):=rfl
theorem A3Z(n:Nat)(zz:List D)(ee:List (List D))(cs:List D):fzC n zz ee (C.dp cs)=(C.dp cs):=rfl
theorem A3a(n:Nat)(zz:List D)(ee:List (List D))(f:FuncId)(caps:List C):fzC n zz ee (C.fn f caps)=if (caps.flatMap capN).contains n=true then .any else .fn f caps:=rfl
theorem A3b(n:Nat)(zz:List D)(ee:List (List D))(k u:Nat)(p:List (Nat×Nat)):fzC n zz ee (C.vw k u p)=if k=n then .any else .vw k u p:=rfl
theorem A7I(n:Nat)(zz:List D)(ee:List (List D))(k u:Nat)(p:List (Nat×Nat))(s m o:Nat):fzC n zz ee (C.q k u p s m o)=if k=n then .any else .q k u p s m o:=rfl
theorem A3c(n:Nat)(zz:List D)(ee:List (List D))(z:List C)(es:List (List C)):fzC n zz ee (C.ov z es)=(C.ov z es):=rfl
theorem yf(n t:Nat):mvC n t (C.any)=(C.any):=rfl
theorem A7J(n t:Nat)(x:Value):mvC n t (C.v x)=(C.v x):=rfl
theorem A7K(n t:Nat)(k i j:Nat):mvC n t (C.p k i j)=if k=n then .p t i j else .p k i j:=rfl
theorem A7L(n t:Nat)(k:Nat):mvC n t (C.s k)=if k=n then .s t else .s k:=rfl
theorem A7M(n t:Nat)(x:D):mvC n t (C.d x)=(C.d x):=rfl
theorem A3d(n t:Nat)(z:List D)(es:List (List D)):mvC n t (C.df z es)=(C.df z es):=rfl
theorem A3e(n t:Nat)(cs:List D):mvC n t (C.dp cs)=(C.dp cs):=rfl
theorem A3f(n t:Nat)(f:FuncId)(caps:List C):mvC n t (C.fn f caps)=if (caps.flatMap capN).contains n=true then .any else .fn f caps:=rfl
theorem A3g(n t:Nat)(k u:Nat)(p:List (Nat×Nat)):mvC n t (C.vw k u p)=if k=n then .any else .vw k u p:=rfl
theorem A7N(n t:Nat)(k u:Nat)(p:List (Nat×Nat))(s m o:Nat):mvC n t (C.q k u p s m o)=if k=n then .any else .q k u p s m o:=rfl
theorem A3h(n t:Nat)(z:List C)(es:List (List C)):mvC n t (C.ov z es)=(C.ov z es):=rfl
theorem A7O(x:Value):oD (.v x)= .v x:=rfl
theorem A3i(z:List D)(es:List (List D)):oD (.sl z es)= .d (.sl z es):=rfl
theorem A3j(o:Option (List D)):oD (.pt o)= .d (.pt o):=rfl
theorem A3k(es:List (List UInt8×Value)):oD (.mp es)= .d (.mp es):=rfl
theorem yg(n:Nat)(ee:List (List UInt8×Value)):I7 n ee C.any=C.any:=rfl
theorem A7P(n:Nat)(ee:List (List UInt8×Value))(x:Value):I7 n ee (C.v x)=C.v x:=rfl
theorem A7Q(n:Nat)(ee:List (List UInt8×Value))(k i j:Nat):I7 n ee (C.p k i j)=if k=n then .any else .p k i j:=rfl
theorem A7R(n:Nat)(ee:List (List UInt8×Value))(k:Nat):I7 n ee (C.s k)=if k=n then .d (.mp ee) else .s k:=rfl
theorem A7S(n:Nat)(ee:List (List UInt8×Value))(x:D):I7 n ee (C.d x)=C.d x:=rfl
theorem A3l(n:Nat)(ee:List (List UInt8×Value))(z:List D)(es:List (List D)):I7 n ee (C.df z es)=C.df z es:=rfl
theorem A3m(n:Nat)(ee:List (List UInt8×Value))(cs:List D):I7 n ee (C.dp cs)=C.dp cs:=rfl
theorem A3n(n:Nat)(ee:List (List UInt8×Value))(f:FuncId)(caps:List C):I7 n ee (C.fn f caps)=if (caps.flatMap capN).contains n=true then .any else .fn f caps:=rfl
theorem A3o(n:Nat)(ee:List (List UInt8×Value))(z:List C)(es:List (List C)):I7 n ee (C.ov z es)=C.ov z es:=rfl
theorem A7T:LS (.v (.pointer none))=some true:=rfl
theorem A7U(a:Addr):LS (.v (.pointer (some a)))=some false:=rfl
theorem A3p:LS (.d (.pt none))=some true:=rfl
theorem A7V(l:List D):LS (.d (.pt (some l)))=some false:=rfl
theorem A3q(l:List D):LS (.dp l)=some false:=rfl
theorem A3r(k i j:Nat):LS (.p k i j)=none:=rfl
theorem A7W(k:Nat):LS (.s k)=none:=rfl
theorem yh:LS .any=none:=rfl
theorem yi:clC (C.any)=none:=rfl
theorem A7X(x:Value):clC (C.v x)=some x:=rfl
theorem A7Y(k i j:Nat):clC (C.p k i j)=none:=rfl
theorem A7Z(k:Nat):clC (C.s k)=none:=rfl
theorem A7a(x:D):clC (C.d x)=none:=rfl
theorem A3s(z:List D)(es:List (List D)):clC (C.df z es)=none:=rfl
theorem A3t(cs:List D):clC (C.dp cs)=none:=rfl
theorem A3u(f:FuncId)(caps:List C):clC (C.fn f caps)=none:=rfl
theorem A3v(k u:Nat)(p:List (Nat×Nat)):clC (C.vw k u p)=none:=rfl
theorem A7b(k u:Nat)(p:List (Nat×Nat))(s m o:Nat):clC (C.q k u p s m o)=none:=rfl
theorem A3w(z:List C)(es:List (List C)):clC (C.ov z es)=none:=rfl
end Go.Sy
