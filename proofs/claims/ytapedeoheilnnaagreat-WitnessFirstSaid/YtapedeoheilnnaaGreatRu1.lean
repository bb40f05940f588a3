/- More fuel: a run that ends with some ends so with more, plain. No conditions but those in each statement. -/
import Derived.Test.YtapedeoheilnnaaGreatMi0
import Derived.Test.YtapedeoheilnnaaGreatPs
import Derived.Test.YtapedeoheilnnaaGreatMk5
import Derived.Test.YtapedeoheilnnaaGreatZs3
import Derived.Test.YtapedeoheilnnaaGreatRml
import Derived.Test.YtapedeoheilnnaaGreatSyC
import Derived.Deep.Draws
import Derived.LaidMore
import Derived.ProofKit
import Derived.OpenShut
import Derived.Test.YtapedeoheilnnaaGreatZp
set_option linter.all false
set_option maxRecDepth 20000
set_option maxHeartbeats 8000000
namespace Go.Proofs.YtapedeoheilnnaaGreat
open Go Go.Sy Go.RowKit
def Ms.pl(m:Ms)(d:Int):Ms:={ m with fuel:=m.fuel+d }
def Fa.pl(q:Fa)(d:Int):Fa:={ q with m:=q.m.pl d }
def Ro.pl(r:Ro)(d:Int):Ro:=⟨r.b,r.t,r.q.pl d⟩
def Ro.ex(r:Ro):Prop:=r.b=true/\r.q.m.e=2
section
variable (d:Int)
end
structure Fu(q:Fa)(r:Ro):Prop where
 l:0<=r.q.m.fuel
 u:r.q.m.fuel<=q.m.fuel
theorem Fu.of{q q':Fa}{b t:Bool}(h:0<=q.m.fuel)(e:q'.m.fuel=q.m.fuel):Fu q ⟨b,t,q'⟩:=⟨by show 0<=q'.m.fuel;omega,by show q'.m.fuel<=_;omega⟩
theorem Fu.tr{q q':Fa}{r:Ro}(h:q'.m.fuel<=q.m.fuel)(k:Fu q' r):Fu q r:=⟨k.l,by have:=k.u;omega⟩
open Go Go.Sy Go.RowKit
theorem A4c{n:Nat}{P:Pg}{f:List UInt8}{va:List Va}{s:Sta}{a:Int}(h2:a<=1000000):(clF n P f va s a).cs.length=(stCs P.g.c s.cs).length/\(clF n P f va s a).ar.map naL=(stA P.g.a s.ar).map naL:=by
 unfold clF
 split
 .rename_i h
  have e1:mn a 1048576=a:=by unfold mn;split<;>omega
  have key:(rnA n P f va (ms0 P s a)).2.2.cs.length=(stCs P.g.c s.cs).length/\(rnA n P f va (ms0 P s a)).2.2.ar.map naL=(stA P.g.a s.ar).map naL:=by
   unfold rnA
   cases P.fi f with
   |none=>exact⟨rfl,rfl⟩
   |some i=>
   dsimp only
   split
   .exact⟨rfl,rfl⟩
   split
   .exact⟨rfl,rfl⟩
   have k:=Vn (ME n) ⟨[],0,P,ms0 P s a,[]⟩ (P.fs.getD i.toNat ⟨[],[],[],[]⟩) va (by show 0<=mn a 1048576;omega) (by show mn a 1048576<=_;omega)
   exact⟨k.c,k.a⟩
  unfold rnZ OL
  split
  .split
   .exact key
   exact key
  exact key
 exact⟨rfl,rfl⟩
def ltF(l:List (List Int))(n:Int):Bool:=!(decide (4<(l.length:Int)))&&l.all λb=>!(decide (n<(b.length:Int)))
theorem A4d{l:List (List Int)}{i:Nat}(h:i<l.length)(p:List Int->Bool):(l.drop i).all p=(p (l.getD i [])&&(l.drop (i+1)).all p):=by
 rw[List.drop_eq_getElem_cons h,List.all_cons]
 simp only[List.getD,List.getElem?_eq_getElem h,Option.getD_some]
abbrev oO(l:List (List Int))(n:Int):Prop:=l.length<=maxLen
abbrev Lr(l:List (List Int))(n:Int):SV:=.one (.v (.bool (ltF l n)))
noncomputable abbrev Uq:ArgC ((List (List Int))×(Int)×Unit):=(acS (cBl) (acS (cInt .i64) ac0))
abbrev oP:Prop:=Ca Tryz.prog 7 Uq (λp:(List (List Int))×(Int)×Unit=>oO p.1 p.2.1) (λp:(List (List Int))×(Int)×Unit=>Lr p.1 p.2.1)
section
attribute [local go_sem] ZE ZD yT
theorem uz:oP:=by
 rintro ⟨l,n,_u⟩ w fz xs hc hfz hl hx
 refine Bg Tryz.func7 rfl w fz [] [] Uq (λp:(List (List Int))×(Int)×Unit=>Lr p.1 p.2.1) _ xs hfz hl hx (jN rfl) ?_
 clear hx hl hfz xs
 simp only[Tryz.f7]
 have hc:l.length<=9223372036854775807:=Nat.le_trans (show l.length<=maxLen from hc) (by decide)
 cases h4:decide (4<(l.length:Int)) with
 |true=>
  have hr:ltF l n=false:=by unfold ltF;rw[h4];rfl
  simp only[seval,go_sem,h4]
  refine A1 [] ?_;simp only[seval,go_sem,bne,Lr,hr]
 |false=>
 obtain⟨p,hp⟩:∃p:List Int->Bool,(λb=>!(decide (n<(b.length:Int))))=p:=⟨_,rfl⟩
 have hr:ltF l n=l.all p:=by unfold ltF;rw[h4,<- hp];rfl
 simp only[seval,go_sem,h4]
 refine AC (Y:=Nat) (λi=>i<=l.length/\(l.drop i).all p=l.all p)
  (λi=>⟨[(0,true,.one (.d (.sl JB (l.map Hu)))),(1,true,.one (.v (.int .i64 n))),(5,true,.one (.v (.int .i64 (i:Int))))],[]⟩)
  (λi=>l.length-i) 0 ⟨Nat.zero_le _,rfl⟩ ?_ ?_
 .exact N4
 rintro i ⟨hi,hJ⟩
 refine AP [] [] _ _ _ ?_
 by_cases hlt:i<l.length
 .have h1:decide ((i:Int)<(l.length:Int))=true:=decide_eq_true (by omega)
  have w1:IntKind.i64.wrap ((i:Int)+1)=((i+1:Nat):Int):=by rw[wrap_i64 (by omega) (by omega)];rfl
  have hz:=iv hlt
  have hil:(i:Int)<(l.length:Int):=by omega
  rw[A4d hlt]at hJ
  have hpb:p (l.getD i []) = !(decide (n<((l.getD i []).length:Int))):=by rw[<- hp]
  rw[hpb]at hJ
  generalize l.getD i []=b at hz hJ hpb
  cases hb:decide (n<(b.length:Int)) with
  |true=>
   have hr2:ltF l n=false:=by rw[hr,<- hJ,hb];rfl
   simp only[seval,go_sem,h1,hz,hb]
   refine⟨⟨hil,rfl⟩,?_⟩
   refine A1 [] ?_;simp only[seval,go_sem,bne,Lr,hr2]
  |false=>
  have hJ2:(l.drop (i+1)).all p=l.all p:=by rw[<- hJ,hb];rfl
  simp only[seval,go_sem,h1,w1,hz,hb]
  refine⟨⟨hil,rfl⟩,i+1,⟨hlt,hJ2⟩,(by omega),?_⟩
  exact N4
 have h1:decide ((i:Int)<(l.length:Int))=false:=decide_eq_false (by omega)
 have hr2:ltF l n=true:=by rw[hr,<- hJ,List.drop_of_length_le (by omega)];rfl
 simp only[seval,go_sem,h1]
 refine A1 [] ?_;simp only[seval,go_sem,bne,Lr,hr2]
noncomputable def aQ{X:Ctx}{w0:World}:Sy.Spec Tryz.prog X w0:=Dq 7 Tryz.call7 Uq _ _ KF2 uz
end
open Go Go.Sy Go.RowKit
noncomputable def suN(g:Int)(l:List (List Int)):Nat:=(sUn g l).choose
noncomputable def suM(g:Int)(l:List (List Int)):Nat:=(sUn g l).choose_spec.choose
theorem A4e(g:Int)(l:List (List Int)):∀u∈utF g l,okUn (suN g l) (suM g l) (wgl g) u:=(sUn g l).choose_spec.choose_spec.2
theorem A08{k:Int}{l:List (List Int)}(hk:k<=1000)(h:ltF l k=true)(hb:∀x∈l,x.length<=maxLen/\∀y∈x,u8R y):l.length<=4/\∀b∈l,okY b:=by
 unfold ltF at h
 rw[Bool.and_eq_true]at h
 have h1:¬(4:Int)<(l.length:Int):=by
  intro hh;rw[decide_eq_true hh]at h;exact absurd h.1 (by decide)
 refine⟨by omega,λb hbl=>?_⟩
 have h2:=List.all_eq_true.1 h.2 b hbl
 have h3:¬k<(b.length:Int):=by
  intro hh;rw[decide_eq_true hh]at h2;exact absurd h2 (by decide)
 exact⟨by omega,λy hy=>by have:=(hb b hbl).2 y hy;unfold u8R at this;omega⟩
end Go.Proofs.YtapedeoheilnnaaGreat
namespace Go.Sy
open Go Go.RowKit Go.ChangeShapes Go.WideShapes Go.ChangeAt
def J3{H:Type}(enc:TypeId×Value->H)(P:Program)(W:World)(t:TypeId)(fuel:Nat){A:Type}(e:A->List D)(Q:A->Prop):Prop:=
 ∀(cs:List Value) (x:DataW H×List MemPlace),DataW.trod enc P W 0 (λ_=>true) true fuel t cs=some x->
  ∃a:A,Q a/\(e a).length=cs.length/\∀(j:Nat) (d:D),(e a)[j]?=some d->∃v,cs[j]?=some v/\Rd (hp W) (λb=>b<W.heap.size) d v
abbrev Opn{H:Type}(enc:TypeId×Value->H)(P:Program)(W:World)(t:TypeId){A:Type}(e:A->List D)(Q:A->Prop):Prop:=∀fuel,J3 enc P W t fuel e Q
section
variable {H:Type}{enc:TypeId×Value->H}{P:Program}{W:World}{t:TypeId}{fuel:Nat}{A B:Type}{e:A->List D}{Q:A->Prop}
theorem I9:J3 enc P W t 0 e Q:=by intro cs x h;simp[DataW.trod]at h
theorem Lj(f:A->B)(e':B->List D)(Q':B->Prop)(h:J3 enc P W t fuel e Q)(he:∀a,e' (f a)=e a)(hq:∀a,Q a->Q' (f a)):J3 enc P W t fuel e' Q':=by
 intro cs x hx
 obtain⟨a,h1,h2,h3⟩:=h cs x hx
 exact⟨f a,hq a h1,by rw[he];exact h2,by rw[he];exact h3⟩
theorem Q0{d:D}{v:Value}(r:Rd (hp W) (λb=>b<W.heap.size) d v):∀(j:Nat) (d':D),[d][j]?=some d'->∃v',[v][j]?=some v'/\Rd (hp W) (λb=>b<W.heap.size) d' v':=by
 intro j d' h
 cases j with
 |zero=>simp only[List.getElem?_cons_zero,jS]at h;subst h;exact⟨v,rfl,r⟩
 |succ j=>simp at h
theorem UV{k:IntKind}(ht:P.underlying t=some (.int k)):J3 enc P W t fuel (λn:Int=>[.v (.int k n)]) (λn=>(Lit.int k n).wf=true):=by
 intro cs x h
 obtain⟨n,rfl,_,hw⟩:=DataW.trod_int ht h
 exact⟨n,hw,rfl,Q0 (.v _ rfl)⟩
theorem MN{a:Addr}{n:Nat}{cs:List Value}(h:W.cells? 0 a n=some cs):cs.length=n/\∀j,j<n->W.cell? (a.add j)=cs[j]?:=by
 unfold World.cells? at h
 rw[if_pos (Nat.zero_le _)]at h
 exact⟨by simpa using mapM_some_length h,λj hj=>mapM_some_get h j j (by simp[hj])⟩
theorem YV{a:Addr}{v:Value}(h:W.cell? a=some v):a.spot=none/\∃arr T m,W.heap[a.block]?=some (.cells arr T m)/\arr[a.off]?=some v:=by
 unfold World.cell? at h
 split at h
 .rename_i c e m hh
  split at h
  .cases h
  rename_i hs
  exact⟨by simpa using hs,c,e,m,hh,h⟩
 cases h
theorem YW(a:Addr):a.add 0=a:=rfl
theorem YX(b off k:Nat):(⟨b,off,none⟩:Addr).add k=⟨b,off+k,none⟩:=by
 unfold Addr.add
 split
 .rename_i h0
  have h0:k=0:=by simpa using h0
  subst h0;rfl
 rfl
theorem LD{et:TypeId}(ht:P.underlying t=some (.slice et))(z:List D)(hz:P.cellsOf et=z.length)(hp0:0<z.length)(h:J3 enc P W et fuel e Q):
  J3 enc P W t (fuel+1) (λl:List A=>[.sl z (l.map e)]) (λl=>l.length<=maxLen/\∀a∈l,Q a):=by
 classical
 intro cs x hx
 rcases DataW.trod_slice ht hx with⟨rfl,_⟩|⟨a,len,cap,elems,rest,n,hn,rfl,_,_,hlc,hcm,hlen,hel,_,_⟩
 .exact⟨[],⟨by simp,by simp⟩,rfl,Q0 (.nil _ _ _ λ_=>rfl)⟩
 .obtain rfl:fuel=n:=by omega
  by_cases h0:len=0
  .subst h0
   exact⟨[],⟨by simp,by simp⟩,rfl,Q0 (.nil _ _ _ λh=>by cases h)⟩
  rw[hz]at hel
  have hE:∀i,i<len->∃cs' b,W.cells? 0 (a.add (i*z.length)) z.length=some cs'/\Q b/\(e b).length=z.length/\∀(j:Nat) (d:D),(e b)[j]?=some d->∃v,cs'[j]?=some v/\Rd (hp W) (λb=>b<W.heap.size) d v:=by
   intro i hi
   have h1:=hel i hi
   rw[List.getElem?_eq_getElem (by omega)]at h1
   obtain⟨cs',c1,c2⟩:=Option.bind_eq_some_iff.1 h1
   obtain⟨b,b1,b2,b3⟩:=h cs' _ c2
   exact⟨cs',b,c1,b1,by rw[b2,(MN c1).1],b3⟩
  have hne:Nonempty A:=by obtain⟨_,b,_⟩:=hE 0 (by omega);exact⟨b⟩
  have hspot:a.spot=none:=by
   obtain⟨cs',_,c1,_⟩:=hE 0 (by omega)
   have h2:=(MN c1).2 0 hp0
   rw[Nat.zero_mul,YW,YW]at h2
   have h3:∃v,cs'[0]?=some v:=⟨_,List.getElem?_eq_getElem (by rw[(MN c1).1];exact hp0)⟩
   obtain⟨v,hv⟩:=h3
   rw[hv]at h2
   exact(YV h2).1
  obtain⟨b,off,spot⟩:=a
  have hspot:spot=none:=hspot
  subst hspot
  obtain⟨f,hf⟩:∃f:Nat->A,∀i,i<len->∃cs',W.cells? 0 ((⟨b,off,none⟩:Addr).add (i*z.length)) z.length=some cs'/\Q (f i)/\(e (f i)).length=z.length/\∀(j:Nat) (d:D),(e (f i))[j]?=some d->∃v,cs'[j]?=some v/\Rd (hp W) (λb=>b<W.heap.size) d v:=by
   refine Classical.axiomOfChoice (r:=λi g=>i<len->∃cs',W.cells? 0 ((⟨b,off,none⟩:Addr).add (i*z.length)) z.length=some cs'/\Q g/\(e g).length=z.length/\∀(j:Nat) (d:D),(e g)[j]?=some d->∃v,cs'[j]?=some v/\Rd (hp W) (λb=>b<W.heap.size) d v) ?_
   intro i
   by_cases hi:i<len
   .obtain⟨cs',g,g1⟩:=hE i hi
    exact⟨g,λ_=>⟨cs',g1⟩⟩
   .exact⟨Classical.choice hne,λhi'=>absurd hi' hi⟩
  have hcell:∀i j,i<len->j<z.length->∃arr T m v,W.heap[b]?=some (.cells arr T m)/\arr[off+i*z.length+j]?=some v/\∀d,(e (f i))[j]?=some d->Rd (hp W) (λb=>b<W.heap.size) d v:=by
   intro i j hi hj
   obtain⟨cs',c1,_,_,c2⟩:=hf i hi
   have h2:=(MN c1).2 j hj
   obtain⟨v,hv⟩:∃v,cs'[j]?=some v:=⟨_,List.getElem?_eq_getElem (by rw[(MN c1).1];exact hj)⟩
   rw[hv,YX,YX]at h2
   obtain⟨_,arr,T,m,h3,h4⟩:=YV h2
   refine⟨arr,T,m,v,h3,h4,λd hd=>?_⟩
   obtain⟨v',h5,h6⟩:=c2 j d hd
   rw[hv]at h5
   obtain rfl:=Option.some.inj h5
   exact h6
  obtain⟨arr,T,m,_,hb,_,_⟩:=hcell 0 0 (by omega) hp0
  have hlt:b<W.heap.size:=(Array.getElem?_eq_some_iff.1 hb).1
  have hcell':∀i j,i<len->j<z.length->∃v,arr[off+i*z.length+j]?=some v/\∀d,(e (f i))[j]?=some d->Rd (hp W) (λb=>b<W.heap.size) d v:=by
   intro i j hi hj
   obtain⟨arr',T',m',v,h1,h2,h3⟩:=hcell i j hi hj
   rw[hb]at h1
   simp only[jS,Obj.cells.injEq]at h1
   obtain⟨rfl,_,_⟩:=h1
   exact⟨v,h2,h3⟩
  have hget:∀(i:Nat) (r:List D),(((List.range len).map f).map e)[i]?=some r->i<len/\r=e (f i):=by
   intro i r hr
   simp only[List.getElem?_map,Option.map_eq_some_iff]at hr
   obtain⟨a',⟨a'',h1,rfl⟩,rfl⟩:=hr
   have hi:=(List.getElem?_eq_some_iff.1 h1).1
   simp only[List.length_range]at hi
   rw[List.getElem?_range hi]at h1
   obtain rfl:=Option.some.inj h1
   exact⟨hi,rfl⟩
  have hll:(((List.range len).map f).map e).length=len:=by simp
  have key:Rd (hp W) (λb=>b<W.heap.size) (.sl z (((List.range len).map f).map e)) (.slice (some ⟨b,off,none⟩) (((List.range len).map f).map e).length cap):=by
   refine .sl z _ b off cap arr T m (λi j=>(arr[off+i*z.length+j]?).getD (.bool false)) hlt hb (by omega) ?_ ?_ ?_
   .intro i r hr
    obtain⟨h1,rfl⟩:=hget i r hr
    obtain⟨_,_,_,h2,_⟩:=hf i h1
    exact h2
   .intro i j r d hr hd
    obtain⟨h1,rfl⟩:=hget i r hr
    obtain⟨_,_,_,h2,_⟩:=hf i h1
    obtain⟨v,h3,_⟩:=hcell' i j h1 (by have:=(List.getElem?_eq_some_iff.1 hd).1;omega)
    rw[h3];rfl
   .intro i j r d hr hd
    obtain⟨h1,rfl⟩:=hget i r hr
    obtain⟨_,_,_,h2,_⟩:=hf i h1
    obtain⟨v,h3,h4⟩:=hcell' i j h1 (by have:=(List.getElem?_eq_some_iff.1 hd).1;omega)
    simp only[h3,Option.getD_some]
    exact h4 d hd
  rw[hll]at key
  refine⟨(List.range len).map f,⟨by simp;omega,?_⟩,rfl,Q0 key⟩
  intro a' ha
  obtain⟨i,hi,rfl⟩:=List.mem_map.1 ha
  obtain⟨_,_,h1,_⟩:=hf i (by simpa using hi)
  exact h1
end
section
variable {H:Type}{enc:TypeId×Value->H}{P:Program}{W:World}{t:TypeId}{A:Type}{e:A->List D}{Q:A->Prop}
theorem qg{h:Bf}{fz:Nat->Prop}{d:D}{x:Value}(r:Rd h fz d x):CD h fz (.one (oD d)) x:=HN (H:=λ_=>none) (Nr d) (bA r)
theorem Zo{r:Reach}{base:Nat}{v:Value}{d:DataW H}{p:List MemPlace}{f:A->D}(hv:v.cells.toList=[v])(h:DataW.Trod enc P W 0 (λ_=>true) true t v d p)(ho:Opn enc P W t (λa=>[f a]) Q):
  ∃a:A,Q a/\CD (hp W) (λb=>b<W.heap.size) (.one (oD (f a))) v:=by
 obtain⟨fuel,hf⟩:=h
 obtain⟨a,a1,a2,a3⟩:=ho fuel _ _ hf
 obtain⟨v',v1,v2⟩:=a3 0 (f a) rfl
 rw[hv]at v1
 simp only[List.getElem?_cons_zero,jS]at v1
 subst v1
 exact⟨a,a1,qg v2⟩
theorem YY{r:Reach}{base:Nat}{v:Value}{et:TypeId}(ht:P.underlying t=some (.slice et))(hv:Value.okWide P W r base t v):v.cells.toList=[v]:=by
 obtain⟨a,l,c,rfl⟩:=okWide_slice ht hv
 rfl
end
end Go.Sy
namespace Go.Proofs.YtapedeoheilnnaaGreat
open Go Go.Sy Go.RowKit
def plG(k n:Int):Int:=if decide (k.tmod n<0)=true then w64i (k.tmod n+n) else k.tmod n
theorem qY(k:Int){n:Int}(h:1<=n): -n<k.tmod n/\k.tmod n<n:=by
 refine⟨?_,Int.tmod_lt_of_pos k (by omega)⟩
 have:=Int.tmod_lt_of_pos (-k) (b:=n) (by omega)
 rw[Int.neg_tmod]at this
 omega
theorem iU(k:Int){n:Int}(h:1<=n)(h2:n<=1000000):0<=plG k n/\plG k n<n:=by
 have:=qY k h
 unfold plG
 split
 .rename_i h
  have h:=of_decide_eq_true h
  unfold w64i;rw[wrap_i64 (by omega) (by omega)];omega
 rename_i h
 simp only[decide_eq_true_eq]at h
 omega
abbrev iV(k:Int)(n:Int):Prop:=1<=n/\n<=1000000
abbrev Oy(k:Int)(n:Int):SV:=.one (.v (.int .i64 (plG k n)))
noncomputable abbrev SA:ArgC ((Int)×(Int)×Unit):=(acS (cInt .i64) (acS (cInt .i64) ac0))
abbrev iW:Prop:=Ca Tryz.prog 11 SA (λp:(Int)×(Int)×Unit=>iV p.1 p.2.1) (λp:(Int)×(Int)×Unit=>Oy p.1 p.2.1)
theorem mZ:iW:=by
 rintro ⟨k,n,_u⟩ w fz xs hc hfz hl hx
 refine Bg Tryz.func11 rfl w fz [] [] SA (λp:(Int)×(Int)×Unit=>Oy p.1 p.2.1) _ xs hfz hl hx (jN rfl) ?_
 clear hx hl hfz xs
 simp only[Tryz.f11]
 obtain⟨hc1,hc2⟩:=hc
 dsimp only at hc1 hc2
 have h1:=qY k hc1
 have hn0:n≠0:=by omega
 cases h2:decide (k.tmod n<0) with
 |true=>
  have hr:plG k n=w64i (k.tmod n+n):=by unfold plG;rw[if_pos h2]
  simp only[seval,go_sem,h2]
  repeat refine AX ?_
  refine A1 [] ?_;simp only[seval,go_sem,bne,Oy,hr]
 |false=>
 have hr:plG k n=k.tmod n:=by unfold plG;rw[if_neg (by rw[h2];decide)]
 simp only[seval,go_sem,h2]
 repeat refine AX ?_
 refine A1 [] ?_;simp only[seval,go_sem,bne,Oy,hr]
noncomputable def YL{X:Ctx}{w0:World}:Sy.Spec Tryz.prog X w0:=Dq 11 Tryz.call11 SA _ _ KF2 mZ
abbrev iY(N:Nat)(n:Nat)(p:Pg)(f:List UInt8)(va:List Va)(s:Sta)(fuel:Int):Prop:=okR N n p va s fuel/\Ii p
abbrev YO(N:Nat)(n:Nat)(p:Pg)(f:List UInt8)(va:List Va)(s:Sta)(fuel:Int):SV:=.agg (ouC (clF n p f va s fuel))
noncomputable abbrev YP:ArgC ((Pg)×(List UInt8)×(List Va)×(Sta)×(Int)×Unit):=(acS (cPg) (acS (cStr) (acS (Mr) (acS (cSta) (acS (cInt .i64) ac0)))))
abbrev YQ(N:Nat)(n:Nat):Prop:=Ca Tryz.prog 15 YP (λp:(Pg)×(List UInt8)×(List Va)×(Sta)×(Int)×Unit=>iY N n p.1 p.2.1 p.2.2.1 p.2.2.2.1 p.2.2.2.2.1) (λp:(Pg)×(List UInt8)×(List Va)×(Sta)×(Int)×Unit=>YO N n p.1 p.2.1 p.2.2.1 p.2.2.2.1 p.2.2.2.2.1)
noncomputable def YR{X:Ctx}{w0:World}(N:Nat)(n:Nat)(h:YQ N n):Sy.Spec Tryz.prog X w0:=Dq 15 Tryz.call15 YP _ _ KF2 h
theorem iZ{P:Program}{f:FuncId}{A:Type}{ac:ArgC A}{Cd Cd':A->Prop}{F G:A->SV}(h:Ca P f ac Cd F)(hc:∀a,Cd' a->Cd a/\F a=G a):Ca P f ac Cd' G:=by
 intro a w fz xs ha hfz hl hx
 obtain⟨h1,h2⟩:=hc a ha
 have:=h a w fz xs h1 hfz hl hx
 rw[h2]at this
 exact this
theorem mf(N n:Nat):YQ N n:=iZ (xi N n) λa ha=>⟨⟨ha.1,xK ha.2⟩,congrArg SV.agg (A2B ha.2 ha.1.f)⟩
theorem y7(p:List (List UInt8)):stCs p []=blC p:=by
 unfold stCs
 conv=>rhs;rw[<- List.map_id (blC p)]
 exact List.map_congr_left λx _=>rfl
theorem A30(p:List Gy):stA p []=blA p:=by
 unfold stA
 conv=>rhs;rw[<- List.map_id (blA p)]
 exact List.map_congr_left λx _=>rfl
theorem sd{N n:Nat}{P:Pg}{f:List UInt8}{va:List Va}{s:Sta}{fuel:Int}(h:okR N n P va s fuel)(h2:fuel<=1000000):(clF n P f va s fuel).cs.length<=1000000/\(clF n P f va s fuel).ar.length<=1000000/\∀x∈(clF n P f va s fuel).ar,x.l.length<=1000000000:=by
 have hk:=A4c (n:=n) (P:=P) (f:=f) (va:=va) (s:=s) (a:=fuel) h2
 have hst:=Xb P.g.a s.ar (λx hx=>(h.l x hx).2)
 refine⟨?_,?_,λx hx=>?_⟩
 .have h1:=hk.1;rw[ON]at h1;have:=h.c;omega
 .have h1:=congrArg List.length hk.2
  rw[List.length_map,List.length_map,W6]at h1
  have:=h.a;omega
 have h1:naL x∈(clF n P f va s fuel).ar.map naL:=List.mem_map_of_mem hx
 rw[hk.2]at h1
 obtain⟨y,hy,e⟩:=List.mem_map.1 h1
 have:=hst y hy
 show naL x<=_
 rw[<- e];exact this
end Go.Proofs.YtapedeoheilnnaaGreat
