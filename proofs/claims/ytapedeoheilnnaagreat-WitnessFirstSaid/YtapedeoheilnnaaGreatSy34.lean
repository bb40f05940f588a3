/- Calls in memory whose places name one another: rows, and maps; the call may panic. No conditions but those in each statement. -/
import Derived.Test.YtapedeoheilnnaaGreatMi0
set_option linter.all false
open List (length_cons mem_of_getElem? getElem?_map mem_singleton mem_flatMap mem_map mem_cons)
namespace Go.Sy
open Go Go.RowKit
theorem qE{P:Prop}(h:P:=by
 obtain⟨r,hr,hk⟩:=mem_flatMap.1 hk
 obtain⟨r0,hr0,rfl⟩:=mem_map.1 hr
 obtain⟨c,hc,hk⟩:=mem_flatMap.1 hk
 obtain⟨c0,hc0,rfl⟩:=mem_map.1 hc
 exact Yg (hm c0 (mem_flatMap.2 ⟨r0,hr0,hc0⟩)) hk):P:=h
theorem AAE{P:Prop}(h:P:=by
 simp only[getElem?_map,Option.map_eq_some_iff]at h2
 obtain⟨c,h2,rfl⟩:=h2
 exact⟨c,h2,kS (h c (mem_flatMap.2 ⟨r,mem_of_getElem? h1,mem_of_getElem? h2⟩)) hI⟩):P:=h
theorem AAm{P:Prop}(h:P:=by
 obtain⟨r,hr,hk⟩:=mem_flatMap.1 hk
 obtain⟨c,hc,hk⟩:=mem_flatMap.1 hk
 exact Yf (hm c (mem_flatMap.2 ⟨r,hr,hc⟩)) k hk):P:=h
variable{I I':Nm}{f:Nat->Nat}{c:C}{fz fz':Nat->Prop}{lab lab':Lab}{k t k':Nat}{h':Bf}{π π':List Nat}{x:Value}{es:List (List C)}
inductive ML where
 |vec (z:List C) (es:List (List C))
 |mp (ag:Bool) (es:List (List UInt8×List C))
def ML.ch:ML->Ch
 | .vec z es=>.vec 0 z es
 | .mp ag es=>.mp ag es
def chL:Option ML->Ch
 |some m=>m.ch
 |none=>.dead
def lmO:Nat->List (Option ML)->List (Nat×Ch)
 |_,[]=>[]
 |i,o::r=>(i,chL o)::lmO (i+1) r
def lmH(i:Nat)(l:List ML):List (Nat×Ch):=lmO i (l.map some)
theorem eE:∀(l:List (Option ML)) (i k:Nat),lkp (lmO i l) k=if i<=k then (l[k-i]?).map chL else none
 |[],i,k=>by simp[lmO,lkp]
 |o::r,i,k=>by
  simp only[lmO,lkp]
  by_cases h:k=i
  .subst h;simp
  rw[if_neg h,eE r (i+1) k]
  by_cases h2:i<=k
  .grind
  grind
theorem Hz(l:List (Option ML))(k:Nat):lkp (lmO 0 l) k=(l[k]?).map chL:=by rw[eE];simp
theorem aW:∀(l:List (Option ML)) (i k:Nat),i<=k->k<i+l.length->((lmO i l).map (·.1)).contains k=true
 |[],i,k,h1,h2=>by simp at h2;omega
 |o::r,i,k,h1,h2=>by
  simp only[lmO,List.map_cons,List.contains_cons,Bool.or_eq_true,beq_iff_eq]
  by_cases e:k=i
  .exact .inl e
  exact .inr (aW r (i+1) k (by omega) (by simp only[length_cons]at h2;omega))
def rnK(f:Nat->Nat):C->C
 | .s n=>.s (f n)
 | .p n i j=>.p (f n) i j
 |c=>c
def rnC(f:Nat->Nat):C->C
 | .s n=>.s (f n)
 | .p n i j=>.p (f n) i j
 | .any=>.any
 | .v x=>.v x
 | .d x=>.d x
 | .df z es=>.df z es
 | .dp cs=>.dp cs
 | .ov z es=>.ov z es
 | .fn g caps=>.fn g (caps.map (rnK f))
 | .vw k u p=>.vw k u p
 | .q k u p s m o=>.q k u p s m o
def rnV(f:Nat->Nat):SV->SV
 | .one c=>.one (rnC f c)
 | .agg l=>.agg (l.map (rnC f))
 | .tup l=>.tup l
def ML.ren(f:Nat->Nat):ML->ML
 | .vec z es=>.vec z (es.map λr=>r.map (rnC f))
 | .mp ag es=>.mp ag (es.map λp=>(p.1,p.2.map (rnC f)))
def A0E(n:Nat)(c:C):Prop:=(∃x,c= .v x)∨(∃k,c= .s k/\k<n)∨∃k i j,c= .p k i j/\k<n
def okL(n:Nat)(c:C):Prop:=c.names=[]∨(∃k,c= .s k/\k<n)∨(∃k i j,c= .p k i j/\k<n)∨∃g caps,c= .fn g caps/\∀x∈caps,A0E n x
def ML.cells:ML->List C
 | .vec _ es=>es.flatMap id
 | .mp _ es=>es.flatMap (·.2)
def Ka(n:Nat)(m:ML):Prop:=∀c∈m.cells,okL n c
def A0F(n:Nat):SV->Prop
 | .one c=>okL n c
 | .agg l=>∀c∈l,okL n c
 | .tup _=>False
theorem Yf{n:Nat}{c:C}(h:okL n c):∀k∈c.names,k<n:=by
 intro k hk
 rcases h with h|⟨j,rfl,hj⟩|⟨j,a,b,rfl,hj⟩|⟨g,caps,rfl,hc⟩
 .simp_all
 .simp only[C.names,mem_singleton]at hk;omega
 .simp only[C.names,mem_singleton]at hk;omega
 obtain⟨x,hx,hk⟩:=mem_flatMap.1 hk
 rcases hc x hx with⟨v,rfl⟩|⟨j,rfl,hj⟩|⟨j,a,b,rfl,hj⟩
 .cases hk
 .simp only[capN,mem_singleton]at hk;omega
 simp only[capN,mem_singleton]at hk;omega
theorem DR{α:Type}{f:α->α}:∀{l:List α},(∀x∈l,f x=x)->l.map f=l
 |[],_=>rfl
 |x::l,h=>by rw[List.map_cons,h x (by simp),DR λy hy=>h y (List.mem_cons_of_mem _ hy)]
theorem F8(h:c.names=[]):rnC f c=c:=by
 cases c with
 |fn g caps=>
  show C.fn g (caps.map (rnK f))=_
  rw[DR λx hx=>?_]
  have hx2:capN x=[]:=List.eq_nil_iff_forall_not_mem.2 λk hk=>by
   have:k∈(C.fn g caps).names:=mem_flatMap.2 ⟨x,hx,hk⟩
   rw[h]at this;cases this
  cases x<;>first|rfl|cases hx2
 |_=>first|rfl|cases h
theorem Yg{n:Nat}(h:okL n c)(hk:k∈(rnC f c).names):∃i,i<n/\k=f i:=by
 rcases h with h|⟨j,rfl,hj⟩|⟨j,a,b,rfl,hj⟩|⟨g,caps,rfl,hc⟩
 .rw[F8 h,h]at hk;cases hk
 .simp only[rnC,C.names,mem_singleton]at hk;exact⟨j,hj,hk⟩
 .simp only[rnC,C.names,mem_singleton]at hk;exact⟨j,hj,hk⟩
 obtain⟨x,hx,hk⟩:=mem_flatMap.1 (show k∈(caps.map (rnK f)).flatMap capN from hk)
 obtain⟨y,hy,rfl⟩:=mem_map.1 hx
 rcases hc y hy with⟨v,rfl⟩|⟨j,rfl,hj⟩|⟨j,a,b,rfl,hj⟩
 .cases hk
 .simp only[rnK,capN,mem_singleton]at hk;exact⟨j,hj,hk⟩
 simp only[rnK,capN,mem_singleton]at hk;exact⟨j,hj,hk⟩
def Xg(I I':Nm)(c c':C):Prop:=(c.names=[]/\c'=c)∨(∃k k',c= .s k/\c'= .s k'/\I' k'=I k)∨(∃k k' i j,c= .p k i j/\c'= .p k' i j/\I' k'=I k)∨∃g caps caps',c= .fn g caps/\c'= .fn g caps'/\caps'.map (Mt I')=caps.map (Mt I)
theorem aX{n:Nat}{caps:List C}(hc:∀x∈caps,A0E n x)(hI:∀i,i<n->I' (f i)=I i):(caps.map (rnK f)).map (Mt I')=caps.map (Mt I):=by
 rw[List.map_map]
 refine List.map_congr_left λx hx=>?_
 rcases hc x hx with⟨v,rfl⟩|⟨j,rfl,hj⟩|⟨j,a,b,rfl,hj⟩
 .rfl
 .show some (I' (f j)).v=some (I j).v
  rw[hI j hj]
 show some ((I' (f j)).p a b)=some ((I j).p a b)
 rw[hI j hj]
theorem kS{n:Nat}(h:okL n c)(hI:∀i,i<n->I' (f i)=I i):Xg I I' c (rnC f c):=by
 rcases h with h|⟨j,rfl,hj⟩|⟨j,a,b,rfl,hj⟩|⟨g,caps,rfl,hc⟩
 .exact .inl ⟨h,F8 h⟩
 .exact .inr (.inl ⟨j,f j,rfl,rfl,hI j hj⟩)
 .exact .inr (.inr (.inl ⟨j,f j,a,b,rfl,rfl,hI j hj⟩))
 exact .inr (.inr (.inr ⟨g,caps,_,rfl,rfl,aX hc hI⟩))
theorem kU{n:Nat}(h:okL n c)(hI:∀i,i<n->I' i=I (f i)):Xg I I' (rnC f c) c:=by
 rcases h with h|⟨j,rfl,hj⟩|⟨j,a,b,rfl,hj⟩|⟨g,caps,rfl,hc⟩
 .exact .inl ⟨by rw[F8 h];exact h,(F8 h).symm⟩
 .exact .inr (.inl ⟨f j,j,rfl,rfl,hI j hj⟩)
 .exact .inr (.inr (.inl ⟨f j,j,a,b,rfl,rfl,hI j hj⟩))
 exact .inr (.inr (.inr ⟨g,_,caps,rfl,rfl,(aX hc λi hi=>(hI i hi).symm).symm⟩))
theorem vF{h:Bf}(hz:∀b,fz b->fz' b/\h' b=h b){c':C}(hr:Xg I I' c c')(r:Den h fz lab I π c x)
  (hl:∀b ρ,lab b=some (π++ρ)->lab' b=some (π'++ρ)/\h' b=h b):Den h' fz' lab' I' π' c' x:=by
 rcases hr with⟨h1,rfl⟩|⟨k,k',rfl,rfl,h3⟩|⟨k,k',i,j,rfl,rfl,h3⟩|⟨g,caps,caps',rfl,rfl,h3⟩
 .exact Kb hz r π' hl (λk hk=>by rw[h1]at hk;cases hk)
 .cases r;rw[<- h3];exact .s _ _
 .cases r;rw[<- h3];exact .p _ _ _ _
 .cases r with|fn _ _ _ vals hv h1=>exact .fn _ _ _ _ (h3.trans hv) h1
theorem aY{h:Bf}(hz:∀b,fz b->fz' b/\h' b=h b){c':C}(hs:c.stor=true)(hr:Xg I I' c c')(r:Den h fz lab I π c x):c'.stor=true/\Den h' fz' lab' I' π' c' x:=by
 rcases hr with⟨h1,rfl⟩|⟨k,k',rfl,rfl,h3⟩|⟨k,k',i,j,rfl,rfl,h3⟩|⟨g,caps,caps',rfl,rfl,h3⟩
 .refine⟨hs,DT hz ?_ r (λk hk=>by rw[h1]at hk;cases hk)⟩
  cases c'<;>first|rfl|cases hs
 .cases r;rw[<- h3];exact⟨rfl,.s _ _⟩
 .cases r;rw[<- h3];exact⟨rfl,.p _ _ _ _⟩
 cases r with|fn _ _ _ vals hv h1=>exact⟨rfl,.fn _ _ _ _ (h3.trans hv) h1⟩
def oX(I I':Nm)(es es':List (List C)):Prop:=es'.length=es.length/\∀(i:Nat) (r':List C),es'[i]?=some r'->∃r,es[i]?=some r/\r'.length=r.length/\∀(j:Nat) (c':C),r'[j]?=some c'->∃c,r[j]?=some c/\Xg I I' c c'
theorem eF{h:Bf}(hz:∀b,fz b->fz' b/\h' b=h b){z:List C}{es':List (List C)}(hr:oX I I' es es')(r:EY h fz lab I π z es x)
  (hl:∀b ρ,lab b=some (π++ρ)->lab' b=some (π'++ρ)/\h' b=h b):EY h' fz' lab' I' π' z es' x:=by
 rcases r with⟨rfl,h2⟩|⟨b,off,cap,arr,T,rfl,hb,hh,hsz,hcap,hc⟩
 .exact .inl ⟨List.length_eq_zero_iff.1 hr.1,h2⟩
 .have h0:=hl b [] (by simpa using hb)
  refine .inr ⟨b,off,cap,arr,T,by rw[hr.1],by simpa using h0.1,h0.2.trans hh,hsz,by rw[hr.1];exact hcap,λi cs' h1=>?_⟩
  obtain⟨cs,g1,g2,g3⟩:=hr.2 i cs' h1
  refine⟨by rw[g2];exact(hc i cs g1).1,λj c' h2=>?_⟩
  obtain⟨c,g4,g5⟩:=g3 j c' h2
  obtain⟨y,hy,hd⟩:=(hc i cs g1).2 j c g4
  refine⟨y,hy,vF hz g5 hd ?_⟩
  intro b' ρ hb'
  have:=hl b' ([i,j]++ρ) (by rw[<- List.append_assoc];exact hb')
  rwa [<- List.append_assoc]at this
theorem vG{n:Nat}{es:List (List C)}(h:∀c∈es.flatMap id,okL n c)(hI:∀i,i<n->I' (f i)=I i):oX I I' es (es.map λr=>r.map (rnC f)):=by
 refine⟨by simp,λi r' h1=>?_⟩
 simp only[getElem?_map,Option.map_eq_some_iff]at h1
 obtain⟨r,h1,rfl⟩:=h1
 refine⟨r,h1,by simp,λj c' h2=>?_⟩
 exact AAE
theorem vH{n:Nat}{es:List (List C)}(h:∀c∈es.flatMap id,okL n c)(hI:∀i,i<n->I' i=I (f i)):oX I I' (es.map λr=>r.map (rnC f)) es:=by
 refine⟨by simp,λi r h1=>?_⟩
 refine⟨r.map (rnC f),by simp[h1],by simp,λj c h2=>?_⟩
 exact⟨rnC f c,by simp[h2],kU (h c (mem_flatMap.2 ⟨r,mem_of_getElem? h1,mem_of_getElem? h2⟩)) hI⟩
def oY(I I':Nm)(es es':List (List UInt8×List C)):Prop:=es'.length=es.length/\∀(i:Nat) (r':List UInt8×List C),es'[i]?=some r'->∃r,es[i]?=some r/\r'.1=r.1/\r'.2.length=r.2.length/\∀(j:Nat) (c':C),r'.2[j]?=some c'->∃c,r.2[j]?=some c/\Xg I I' c c'
theorem kV{h:Bf}(hz:∀b,fz b->fz' b/\h' b=h b){ag:Bool}{es es':List (List UInt8×List C)}(hr:oY I I' es es')(r:b6 h fz lab I k ag es)
  (hk:I' k'=I k) (hl:∀b,lab b=some [k]->lab' b=some [k']/\h' b=h b):b6 h' fz' lab' I' k' ag es':=by
 obtain⟨b,entries,clock,h1,h2,h3,h4,h5⟩:=r
 obtain⟨l1,l2⟩:=hl b h2
 refine⟨b,entries,clock,hk.trans h1,l1,l2.trans h3,by rw[hr.1];exact h4,λi p' hp'=>?_⟩
 obtain⟨p,g1,g2,g3,g4⟩:=hr.2 i p' hp'
 obtain⟨e,e1,e2,e3⟩:=h5 i p g1
 refine⟨e,e1,by rw[g2];exact e2,?_⟩
 cases ag with
 |true=>
  obtain⟨arr,a1,a2,a3⟩:=e3
  refine⟨arr,a1,by rw[g3];exact a2,λj c' hc'=>?_⟩
  obtain⟨c,g5,g6⟩:=g4 j c' hc'
  obtain⟨y,y1,y2,y3⟩:=a3 j c g5
  obtain⟨z1,z2⟩:=aY (lab':=lab') (π':=[]) hz y2 g6 y3
  exact⟨y,y1,z1,z2⟩
 |false=>
  obtain⟨c,a1,a2,a3⟩:=e3
  have hlen:p'.2.length=1:=by rw[g3,a1];rfl
  obtain⟨c',hc'⟩:=List.length_eq_one_iff.1 hlen
  obtain⟨c0,g5,g6⟩:=g4 0 c' (by rw[hc'];rfl)
  rw[a1]at g5
  simp only[List.getElem?_cons_zero,jS]at g5
  subst g5
  obtain⟨z1,z2⟩:=aY (lab':=lab') (π':=[]) hz a2 g6 a3
  exact⟨c',hc',z1,z2⟩
theorem vI{n:Nat}{es:List (List UInt8×List C)}(h:∀c∈es.flatMap (·.2),okL n c)(hI:∀i,i<n->I' (f i)=I i):oY I I' es (es.map λp=>(p.1,p.2.map (rnC f))):=by
 refine⟨by simp,λi r' h1=>?_⟩
 simp only[getElem?_map,Option.map_eq_some_iff]at h1
 obtain⟨r,h1,rfl⟩:=h1
 refine⟨r,h1,rfl,by simp,λj c' h2=>?_⟩
 exact AAE
theorem vJ{n:Nat}{es:List (List UInt8×List C)}(h:∀c∈es.flatMap (·.2),okL n c)(hI:∀i,i<n->I' i=I (f i)):oY I I' (es.map λp=>(p.1,p.2.map (rnC f))) es:=by
 refine⟨by simp,λi r h1=>?_⟩
 refine⟨(r.1,r.2.map (rnC f)),by simp[h1],rfl,by simp,λj c h2=>?_⟩
 exact⟨rnC f c,by simp[h2],kU (h c (mem_flatMap.2 ⟨r,mem_of_getElem? h1,mem_of_getElem? h2⟩)) hI⟩
theorem A0G{h:Bf}{n:Nat}{m:ML}(hz:∀b,fz b->fz' b/\h' b=h b)(hm:Ka n m)(hI:∀i,i<n->I' (f i)=I i)(hk:I' k'=I k)
  (hl:∀b ρ,lab b=some ([k]++ρ)->lab' b=some ([k']++ρ)/\h' b=h b) (r:Mw h fz lab I k m.ch):Mw h' fz' lab' I' k' (m.ren f).ch:=by
 cases m with
 |vec z es=>
  obtain⟨h1,h2,h3⟩:=r
  refine⟨by rw[hk];exact h1,by rw[hk];exact h2,?_⟩
  rw[hk]
  exact eF hz (vG hm hI) h3 hl
 |mp ag es=>exact kV hz (vI hm hI) r hk (λb hb=>hl b [] hb)
def chM:Option Ch->ML->Prop
 |some (.vec _ z es),.vec z' es'=>es=es'/\z.length=z'.length/\(zT z'=none∨zT z'=zT z)
 |some (.mp ag es),.mp ag' es'=>ag=ag'/\es=es'
 |_,_=>False
theorem A4i{h:Bf}{n:Nat}{m:ML}{ch:Ch}(hc:chM (some ch) (m.ren f))(hm:Ka n m)(hI:∀i,i<n->I' i=I (f i))(hk:I' k'=I k)
  (hl:∀b ρ,lab b=some ([k]++ρ)->lab' b=some ([k']++ρ)) (r:Mw h fz lab I k ch):Mw h fz lab' I' k' m.ch:=by
 cases m with
 |vec z es=>
  cases ch with
  |vec u z0 es0=>
   obtain⟨e1,e2,e3⟩:=(show es0=_/\z0.length=z.length/\(zT z=none∨zT z=zT z0) from hc)
   subst e1
   obtain⟨h1,h2,h3⟩:=r
   refine⟨by rw[hk];exact h1,by rw[hk,h2,e2],?_⟩
   rw[hk]
   rcases eF (λb hb=>⟨hb,rfl⟩) (vH hm hI) h3 (λb ρ hb=>⟨hl b ρ hb,rfl⟩) with g|⟨b,off,cap,arr,T,g3,g4,g5,g6,g7,g8⟩
   .exact .inl g
   .rw[e2]at g6 g8
    exact .inr ⟨b,off,cap,arr,T,g3,g4,g5,⟨g6.1,Xm e3 g6.2⟩,g7,g8⟩
  |_=>exact hc.elim
 |mp ag es=>
  cases ch with
  |mp ag0 es0=>
   obtain⟨e1,e2⟩:=(show ag0=ag/\es0=_ from hc)
   subst e1;subst e2
   exact kV (λb hb=>⟨hb,rfl⟩) (vJ hm hI) r hk (λb hb=>⟨hl b [] hb,rfl⟩)
  |_=>exact hc.elim
theorem oZ{n:Nat}{m:ML}(hm:Ka n m):∀k∈chNames m.ch,k<n:=by
 intro k hk
 cases m with
 |vec z es=>
  exact AAm
 |mp ag es=>
 exact AAm
theorem kW{n:Nat}{m:ML}(hm:Ka n m):∀k∈chNames (m.ren f).ch,∃i,i<n/\k=f i:=by
 intro k hk
 cases m with
 |vec z es=>
  exact qE
 |mp ag es=>
 exact qE
def nmK(ks:List Nat)(i:Nat):Nat:=(ks[i]?).getD 0
structure ArgL(A:Type) where
 d:Hp->List SV->Option (A×List Nat)
 args:A->List SV
 mem:A->List ML
 h:∀(H:Hp) (l:List SV) (a:A) (ks:List Nat),d H l=some (a,ks)->l=(args a).map (rnV (nmK ks))/\ks.length=(mem a).length/\∀(i k:Nat),ks[i]?=some k->∃m,(mem a)[i]?=some m/\chM (H k) (m.ren (nmK ks))
 n:∀a,∀m∈mem a,Ka (mem a).length m
 an:∀a,∀v∈args a,A0F (mem a).length v
 l:∀(H H':Hp) (v:List SV) (a:A) (ks:List Nat),d H v=some (a,ks)->(∀k∈ks,H' k=H k)->d H' v=some (a,ks)
def Di:Option Ch->Option ML->Ch
 |some (.vec u _ _),some (.vec z es)=>.vec (u+1) z es
 |_,some m=>m.ch
 |_,none=>.dead
def xt(t:Nat):Nat->Nat
 |0=>t
 |i+1=>t+600000+i
def J5(t n:Nat):Option Nat:=if n=t then some 0 else if n=t+600000 then some 1 else none
theorem PA{n e:Nat}(h:J5 t n=some e):n=xt t e/\e<=1:=by
 unfold J5 at h
 split at h
 .cases h;exact⟨by assumption,by omega⟩
 split at h
 .cases h;exact⟨by assumption,by omega⟩
 cases h
theorem Tt{e:Nat}(h:e<=1):J5 t (xt t e)=some e:=by
 match e,h with
 |0,_=>simp[J5,xt]
 |1,_=>simp[J5,xt]
 |e+2,h=>exact absurd h (by omega)
def nmX(ks:List Nat)(t i:Nat):Nat:=match ks[i]? with
 |some k=>k
 |none=>xt t (i-ks.length)
theorem RL{ks:List Nat}{i:Nat}(h:ks[i]?=some k):nmX ks t i=k:=by unfold nmX;rw[h]
theorem Tu{ks:List Nat}{i:Nat}(h:¬i<ks.length):nmX ks t i=xt t (i-ks.length):=by unfold nmX;rw[List.getElem?_eq_none (Nat.le_of_not_lt h)]
def E8(t:Nat)(f:Nat->Nat):Nat->List (Option ML)->List (Nat×Ch)
 |i,some m::r=>(xt t i,(m.ren f).ch)::E8 t f (i+1) r
 |_,_=>[]
def CU(H:Hp)(t:Nat)(f:Nat->Nat):List Nat->List (Option ML)->List (Nat×Ch)
 |k::ks,o::r=>(k,Di (H k) (o.map (ML.ren f)))::CU H t f ks r
 |[],m=>E8 t f 0 m
 |_::_,[]=>[]
def PW:Nat->List (Option ML)->Bool
 |0,[]=>true
 |0,[some _]=>true
 |0,[some _,some _]=>true
 |n+1,_::r=>PW n r
 |_,_=>false
theorem Us:∀{n:Nat} {m:List (Option ML)},PW n m=true->n<=m.length/\m.length<=n+2/\(∀e o,m[n+e]?=some o->∃q,o=some q)
 |0,[],_=>⟨by simp,by simp,λe o ho=>by simp at ho⟩
 |0,[some q],_=>⟨by simp,by simp,λe o ho=>by grind⟩
 |0,[some q,some q2],_=>⟨by simp,by simp,λe o ho=>by
   match e with
   |0=>exact⟨q,by simpa using ho.symm⟩
   |1=>exact⟨q2,by simpa using ho.symm⟩
   |e+2=>simp at ho⟩
 |n+1,_::r,h=>by
  obtain⟨h1,h2,h3⟩:=Us (n:=n) (m:=r) h
  exact⟨by simp;omega,by simp;omega,λe o ho=>h3 e o (by rw[show n+1+e=(n+e)+1 by omega]at ho;simpa using ho)⟩
def kdL:List ML->List (Option ML)->Bool
 | .mp _ _::_,some (.vec _ _)::_=>false
 |_::r,_::r'=>kdL r r'
 |_,_=>true
theorem Xh:∀{l:List ML} {m:List (Option ML)} {i:Nat} {ag:Bool} {es:List (List UInt8×List C)} {z:List C} {es':List (List C)},kdL l m=true->l[i]?=some (.mp ag es)->m[i]?=some (some (.vec z es'))->False
 |[],_,i,_,_,_,_,_,h,_=>by simp at h
 |_::_,[],i,_,_,_,_,_,_,h=>by simp at h
 |a::r,b::r',0,_,_,_,_,hk,h1,h2=>by
  simp only[List.getElem?_cons_zero,jS]at h1 h2
  subst h1;subst h2;cases hk
 |a::r,b::r',i+1,_,_,_,_,hk,h1,h2=>by
  simp only[List.getElem?_cons_succ]at h1 h2
  refine Xh (l:=r) (m:=r') ?_ h1 h2
  cases a with
  |vec z es=>simpa only[kdL] using hk
  |mp ag es=>
  cases b with
  |none=>simpa only[kdL] using hk
  |some q=>cases q with
   |vec z es=>cases hk
   |mp ag' es'=>simpa only[kdL] using hk
theorem RM(H:Hp)(t:Nat)(f:Nat->Nat):∀(ks:List Nat) (m:List (Option ML)) (H1:Hp) (n:Nat),ndB ks=true->(∀e,e<=1->xt t e∉ks)->PW ks.length m=true->
  updH H1 (CU H t f ks m) n=(match pos ks n with
   |some i=>some (Di (H n) (((m[i]?).getD none).map (ML.ren f)))
   |none=>match J5 t n with
    |some e=>(match m[ks.length+e]? with|some (some q)=>some (q.ren f).ch|_=>H1 n)
    |none=>H1 n)
 |[],m,H1,n,_,_,hl=>by
  match m,hl with
  |[],_=>
   simp only[CU,E8,updH,pos]
   split<;>rfl
  |[some q],_=>
   simp only[CU,E8,updH,pos,upd,List.length_nil,xt]
   unfold J5
   by_cases e:n=t
   .simp[e]
   grind
  |[some q,some q2],_=>
   simp only[CU,E8,updH,pos,upd,List.length_nil,xt]
   unfold J5
   by_cases e:n=t
   .subst e;simp
   grind
 |k::r,m,H1,n,hd,ht,hl=>by
  match m,hl with
  |o::m,hl=>
   have hd':=hd
   simp only[ndB,Bool.and_eq_true,Bool.not_eq_true',List.contains_eq_mem,decide_eq_false_iff_not]at hd
   simp only[mem_cons,not_or]at ht
   simp only[CU,updH]
   rw[RM H t f r m (upd H1 k (Di (H k) (o.map (ML.ren f)))) n hd.2 (λe he=>(ht e he).2) hl]
   simp only[pos]
   by_cases e:n=k
   .subst e
    have:pos r n=none:=by
     cases hp:pos r n with
     |none=>rfl
     |some i=>exact absurd (mem_of_getElem? (FG hp)) hd.1
    rw[this,if_pos rfl]
    have hx:J5 t n=none:=by
     cases hx:J5 t n with
     |none=>rfl
     |some e=>obtain⟨h1,h2⟩:=PA hx;exact absurd h1.symm (ht e h2).1
    simp only[hx,upd,if_true,List.getElem?_cons_zero,Option.getD_some]
   rw[if_neg e]
   cases hp:pos r n with
   |none=>
    cases hx:J5 t n with
    |none=>simp only[Option.map_none,upd,e,if_false]
    |some e2=>
    simp only[Option.map_none,upd,e,if_false,length_cons]
    rw[show r.length+1+e2=(r.length+e2)+1 by omega,List.getElem?_cons_succ]
   |some i=>simp_all
theorem Yh(t:Nat)(f:Nat->Nat){p:Nat×Ch}:∀(m:List (Option ML)) (i:Nat),i+m.length<=2->p∈E8 t f i m->p.1=xt t 0∨p.1=xt t 1
 |[],i,_,h=>by simp[E8]at h
 |none::r,i,_,h=>by simp[E8]at h
 |some q::r,i,hi,h=>by
  simp only[length_cons]at hi
  simp only[E8]at h
  rcases mem_cons.1 h with rfl|h
  .grind
  exact Yh t f r (i+1) (by omega) h
theorem Yi(H:Hp)(t:Nat)(f:Nat->Nat){p:Nat×Ch}:∀(ks:List Nat) (m:List (Option ML)),m.length<=ks.length+2->p∈CU H t f ks m->p.1∈xt t 0::xt t 1::ks
 |[],m,hm,h=>by
  rcases Yh t f m 0 (by simpa using hm) h with h|h<;>simp[h]
 |k::r,m,hm,h=>by
  match m,hm,h with
  |o::m,hm,h=>
   simp only[CU]at h
   rcases mem_cons.1 h with rfl|h
   .simp
   have:=Yi H t f r m (by simp only[length_cons]at hm;omega) h
   simp only[mem_cons]at this ⊢
   rcases this with h|h|h
   .exact .inl h
   .omega
   simp_all
theorem W7{H H':Hp}(t:Nat)(f:Nat->Nat):∀(ks:List Nat) (m:List (Option ML)),(∀k∈ks,H' k=H k)->CU H' t f ks m=CU H t f ks m
 |[],m,_=>rfl
 |k::r,m,hk=>by match m with
  |[]=>rfl
  |o::m=>simp only[CU,hk k (List.mem_cons_self ..),W7 t f r m λq hq=>hk q (List.mem_cons_of_mem _ hq)]
def Tv(w:World)(M fz:Nat->Prop)(I:Nm)(n:Nat)(m':List (Option ML))(R:SV)(en:Ending)(w':World):Prop:=
 ∃x I' lab' fz',en= .returned x/\AtW (mX M fz I n) w I' lab' fz' (lkp (lmO 0 m')) w'/\Ap (hp w') fz' lab' I' (lkp (lmO 0 m')) R x
def aZ(w:World)(M fz:Nat->Prop)(I:Nm)(n:Nat)(m':List (Option ML))(en:Ending)(w':World):Prop:=
 ∃ch,en= .panicked ch/\b7 ch/\∃I' lab' fz',AtW (mX M fz I n) w I' lab' fz' (lkp (lmO 0 m')) w'
def Dj(P:Program)(f:FuncId){A:Type}(args:A->List SV)(mem:A->List ML)(Cd:A->Prop)(bad:A->Bool)(res:A->SV)(mem' pan:A->List (Option ML)):Prop:=
 ∀(a:A) (w:World) (M:Nat->Prop) (I:Nm) (lab:Lab) (fz:Nat->Prop) (xs:List Value),Cd a->AtW (mX M fz I (mem a).length) w I lab fz (lkp (lmH 0 (mem a))) w->xs.length=(args a).length->
  (∀(j:Nat) (v:SV) (x:Value),(args a)[j]?=some v->xs[j]?=some x->Ap (hp w) fz lab I (lkp (lmH 0 (mem a))) v x)->
  Calls P f xs.toArray w (λen w'=>(bad a=false/\Tv w M fz I (mem a).length (mem' a) (res a) en w')∨(bad a=true/\aZ w M fz I (mem a).length (pan a) en w'))
end Go.Sy
