/- One unit of a program: parsed and resolved. No conditions but those in each statement. -/
import Derived.Test.YtapedeoheilnnaaGreatPa9
import Derived.Test.YtapedeoheilnnaaGreatRs2
import Derived.Test.YtapedeoheilnnaaGreatTy2
import Derived.Test.YtapedeoheilnnaaGreatPa8
import Derived.Test.YtapedeoheilnnaaGreatOp
set_option linter.all false
open List (length_map mem_cons_of_mem)
namespace Go.Proofs.YtapedeoheilnnaaGreat
open Go Go.Sy Go.RowKit
structure Un where
 s:List UInt8
 t:List UInt8
def Un.c(u:Un):List C:=[.v (.string (bs u.s)),.v (.string (bs u.t))]
abbrev zUc:List C:=[.v (.string (bs [])),.v (.string (bs []))]
theorem jG(u:Un):∀c∈u.c,c.names=[]:=by
 intro c hc
 simp only[Un.c,List.mem_cons,List.not_mem_nil,or_false]at hc
 rcases hc with rfl|rfl<;>rfl
noncomputable def mUn:RowM Un:=MP zUc Un.c jG
theorem LF:mUn.z=zUc:=rfl
theorem LG:mUn.e=Un.c:=rfl
theorem dO(a b:Un)(h:a.c=b.c):a=b:=by
 obtain⟨s,t⟩:=a
 obtain⟨s',t'⟩:=b
 simp only[Un.c,List.cons.injEq,C.v.injEq,Value.string.injEq,and_true]at h
 rw[bs_inj h.1,bs_inj h.2]
theorem yr(l:List Un):∀q,some q∈[some ((zUc,l.map Un.c):MV)]->∀r∈q.2,∀c∈r,c.names=[]:=by
 intro q hq r hr c hc
 simp only[List.mem_singleton,jS]at hq
 subst hq
 obtain⟨u,_,rfl⟩:=List.mem_map.1 hr
 exact jG u c hc
def fl3:List C:=[.v (.bool false),.v (.bool false),.v (.bool false)]
def rxG:Nat->Nat->List UInt8->List Tok->List Tok×Int×Int
 |0,_,_,out=>(out,0,0)
 |_+1,_,[],out=>(out,0,0)
 |f+1,i,c::r,out=>
  if blB (c.toNat:Int)=true then rxG f (i+1) r out
  else if ((c.toNat:Int)==35)=true then rxG f (i+Dr nlB (c::r)) ((c::r).drop (Dr nlB (c::r))) out
  else if M3 (c.toNat:Int)=true then (if decide (32<((Dr idB (c::r):Nat):Int))=true then ([],(i:Int),53) else rxG f (i+Dr idB (c::r)) ((c::r).drop (Dr idB (c::r))) (out++[⟨0,(c::r).take (Dr idB (c::r)),(i:Int)⟩]))
  else if F9 (c.toNat:Int)=true then
   (
    if Y8 (c::r)=true then ([],(i:Int),53)
    else if (decide (0<((c::r).drop (Dr F9 (c::r))).length)&&M3 ((((c::r).drop (Dr F9 (c::r))).getD 0 0).toNat:Int)||((c.toNat:Int)==48&&decide (1<((Dr F9 (c::r):Nat):Int))))=true then ([],(i:Int),50)
    else rxG f (i+Dr F9 (c::r)) ((c::r).drop (Dr F9 (c::r))) (out++[⟨1,(c::r).take (Dr F9 (c::r)),(i:Int)⟩]))
  else if (decide (2<=(c::r).length)&&((c::r).take 2==[61,61]||(c::r).take 2==[33,61]||(c::r).take 2==[60,61]||(c::r).take 2==[62,61]||(c::r).take 2==[38,38]||(c::r).take 2==[124,124]))=true then rxG f (i+2) ((c::r).drop 2) (out++[⟨2,(c::r).take 2,(i:Int)⟩])
  else if Oh WQ (c.toNat:Int)=true then rxG f (i+1) r (out++[⟨2,(c::r).take 1,(i:Int)⟩])
  else ([],(i:Int),50)
def kt(t:Tok):Int×List UInt8:=(t.k,t.t)
def Lx(p:List UInt8)(n:Nat)(ts:List (Int×List UInt8)):Prop:=
 ∀(f i:Nat) (r:List UInt8) (out:List Tok),∃o2,o2.map kt=ts/\rxG (f+n) i (p++r) out=rxG f (i+p.length) r (out++o2)
theorem Lx.app{p q:List UInt8}{n m:Nat}{ts us:List (Int×List UInt8)}(h:Lx p n ts)(k:Lx q m us):Lx (p++q) (n+m) (ts++us):=by
 intro f i r out
 obtain⟨o1,a1,a2⟩:=h (f+m) i (q++r) out
 obtain⟨o2,b1,b2⟩:=k f (i+p.length) r (out++o1)
 refine⟨o1++o2,by rw[List.map_append,a1,b1],?_⟩
 rw[List.append_assoc,show f+(n+m)=f+m+n by omega,a2,b2,List.length_append,Nat.add_assoc,List.append_assoc]
theorem Lx.nil:Lx [] 0 []:=λf i r out=>⟨[],rfl,by simp⟩
abbrev Kt:=Int×List UInt8
structure Sfx(p:Pr)(ts:List Kt):Prop where
 ok:okP p
 e:p.e=0
 t:(p.l.drop p.i.toNat).map kt=ts
section
variable {p:Pr}{k:Int}{t:List UInt8}{ts:List Kt}
theorem Sfx.lt(h:Sfx p ((k,t)::ts)):p.i<(p.l.length:Int):=by
 have:=congrArg List.length h.t
 simp only[length_map,List.length_drop,List.length_cons]at this
 have:=h.ok.1
 omega
theorem Sfx.hd(h:Sfx p ((k,t)::ts)):(tk p).k=k/\(tk p).t=t:=by
 have hlt:=h.lt
 have h0:=h.ok.1
 have hi:p.i.toNat<p.l.length:=by omega
 have e:=h.t
 rw[List.drop_eq_getElem_cons hi,List.map_cons]at e
 have e1:=(List.cons.inj e).1
 have e2:tk p=p.l[p.i.toNat]:=by simp[tk,List.getD,hi]
 rw[e2]
 exact⟨congrArg Prod.fst e1,congrArg Prod.snd e1⟩
theorem Sfx.adv(h:Sfx p ((k,t)::ts)):Sfx (adv p) ts:=by
 have hlt:=h.lt
 have h0:=h.ok.1
 have hi:p.i.toNat<p.l.length:=by omega
 refine⟨(Ey h.ok hlt h.e).ok,h.e,?_⟩
 have e:=h.t
 rw[List.drop_eq_getElem_cons hi,List.map_cons]at e
 have ei:(Go.Proofs.YtapedeoheilnnaaGreat.adv p).i.toNat=p.i.toNat+1:=by rw[J9 h.ok hlt];omega
 show (p.l.drop (Go.Proofs.YtapedeoheilnnaaGreat.adv p).i.toNat).map kt=ts
 rw[ei]
 exact(List.cons.inj e).2
theorem Sfx.isT(h:Sfx p ((k,t)::ts))(u:List UInt8):isT u p=(k != 1&&t==u):=by
 obtain⟨h1,h2⟩:=h.hd
 have h3:=h.lt
 have h4:=h.e
 unfold Go.Proofs.YtapedeoheilnnaaGreat.isT
 rw[h1,h2,h4]
 simp[h3]
theorem Sfx.nameB(h:Sfx p ((k,t)::ts)):nameB p=(k==0&&!KN t):=by
 obtain⟨h1,h2⟩:=h.hd
 have h3:=h.lt
 have h4:=h.e
 unfold Go.Proofs.YtapedeoheilnnaaGreat.nameB
 rw[h1,h2,h4]
 simp[h3]
theorem Sfx.outB(h:Sfx p ((k,t)::ts)):outB p=false:=by
 have h3:=h.lt
 unfold Go.Proofs.YtapedeoheilnnaaGreat.outB
 rw[h.e]
 simp;omega
theorem Sfx.wan(h:Sfx p ((k,t)::ts))(hk:(k != 1)=true):Bd t p=Go.Proofs.YtapedeoheilnnaaGreat.adv p:=by
 unfold Bd
 rw[if_pos (by rw[h.isT,hk];simp)]
theorem Sfx.nam(h:Sfx p ((0,t)::ts))(hw:KN t=false):CI p=Go.Proofs.YtapedeoheilnnaaGreat.adv p:=by
 unfold CI
 rw[if_pos (by rw[h.nameB,hw];rfl)]
theorem Sfx.nil(h:Sfx p []):p.i=(p.l.length:Int):=by
 have:=congrArg List.length h.t
 simp only[length_map,List.length_drop,List.length_nil]at this
 have:=h.ok.1
 have:=h.ok.2.1
 omega
theorem Sfx.len(h:Sfx p ts):(ts.length:Int)=(p.l.length:Int)-p.i:=by
 have:=congrArg List.length h.t
 simp only[length_map,List.length_drop]at this
 have:=h.ok.1
 have:=h.ok.2.1
 omega
end
end Go.Proofs.YtapedeoheilnnaaGreat
namespace Go.Sy
open Go Go.RowKit
def sC(k:Nat):C->C
 | .p _ x y=>.p k x y
 |c=>c
def sR(k:Nat)(es:List (List C)):List (List C):=es.map λr=>r.map (sC k)
def sI:Nat->Nat->List (List C)->List (List C)
 |0,k,es=>sR k es
 |_+1,_,es=>es
def cOK(i:Nat)(c:C):Prop:=c.names=[]∨i=0/\∃x y,c= .p 0 x y
structure ArgN(A:Type) where
 d:Hp->List SV->Option (A×List Nat)
 args:A->List SV
 mem:A->List MV
 h:∀(H:Hp) (l:List SV) (a:A) (ks:List Nat),d H l=some (a,ks)->(args a).length=l.length/\ks.length=(mem a).length/\∀(i k:Nat),ks[i]?=some k->∃u z m,H k=some (.vec u z (sI i k m.2))/\(mem a)[i]?=some m/\z.length=m.1.length/\(zT m.1=none∨zT m.1=zT z)
 ha:∀(H:Hp) (l:List SV) (a:A) (ks:List Nat) (j:Nat) (v v':SV) (x:Value) {hh:Bf} {fz:Nat->Prop} {lab lab':Lab} {I I':Nm} {H0 H':Hp},d H l=some (a,ks)->l[j]?=some v->(args a)[j]?=some v'->(∀i k,ks[i]?=some k->I' i=I k)->Ap hh fz lab I H0 v x->Ap hh fz lab' I' H' v' x
 n:∀a (i:Nat) m,(mem a)[i]?=some m->∀r∈m.2,∀c∈r,cOK i c
 an:∀a,∀v∈args a,∀k∈v.names,k<(mem a).length
 l:∀(H H':Hp) (v:List SV) (a:A) (ks:List Nat),d H v=some (a,ks)->(∀k∈ks,H' k=H k)->d H' v=some (a,ks)
section
variable {P:Program}
end
abbrev T0:World->Prop:=λ_=>True
structure RowB(B:Type) where
 z:List C
 d:Nat->List C->Option B
 e:B->List C
 h:∀k r b,d k r=some b->r=(e b).map (sC k)
 n:∀b,∀c∈e b,cOK 0 c
open Go Go.RowKit
section
variable {X:Ctx}{w0 w:World}{I:Nm}{lab:Lab}{fz:Nat->Prop}{H:Hp}
end
section
variable {P:Program}
end
open Go Go.RowKit
def Q5(P:Program)(f:FuncId){A:Type}(args:A->List SV)(mem:A->List MV)(Cd:A->Prop)(bad:A->Bool)(res:A->SV)(mem':A->List (Option MV)):Prop:=
 ∀(a:A) (w:World) (M:Nat->Prop) (I:Nm) (lab:Lab) (fz:Nat->Prop) (xs:List Value),Cd a->AtW (mX M fz I (mem a).length) w I lab fz (lkp (GE 0 (mem a))) w->xs.length=(args a).length->
  (∀(j:Nat) (v:SV) (x:Value),(args a)[j]?=some v->xs[j]?=some x->Ap (hp w) fz lab I (lkp (GE 0 (mem a))) v x)->
  Calls P f xs.toArray w (λen w'=>(bad a=false/\LZ w M fz I (mem a).length (mem' a) (res a) en w')∨(bad a=true/\∃ch,en= .panicked ch/\b7 ch/\∃I' lab' fz',AtW (mX M fz I (mem a).length) w I' lab' fz' (lkp (memO 0 (mem' a))) w'))
theorem dP{X:Ctx}{w0 w:World}{I:Nm}{lab:Lab}{fz:Nat->Prop}{H:Hp}(hA:AtW X w0 I lab fz H w){t:Nat}(ht:H t=none){p:Prop}(hp':p):AtW X w0 I lab fz (upd H t (.fact p)) w:=by
 refine⟨λk ch hk=>?_,λk ch hk=>?_,hA.own,hA.fzl,hA.fzo,hA.kept,λq hq=>⟨?_,(hA.fix q hq).2⟩⟩
 .by_cases e:k=t
  .subst e;rw[BM]at hk;simp only[jS]at hk;subst hk;exact hp'
  rw[Bm _ _ e]at hk;exact hA.h k ch hk
 .exact AAz
 exact Bc (l:=[q.1]) (by intro n hn;simp at hn;subst hn;exact(hA.fix q hq).1) _ _ q.1 (by simp)
theorem A3z{α:Type}(f:Nat->Option α)(k:Nat)(x:α)(j:Nat):upd f k x j=if j=k then some x else f j:=rfl
theorem JH:∀(u v:List (Nat×Ch)) (H:Hp),updH H (u++v)=updH (updH H u) v
 |[],_,_=>rfl
 |(k,c)::u,v,H=>by simp only[List.cons_append,updH];exact JH u v _
theorem Ww:∀{n:Nat} {m:List (Option MV)},m.length=n->Ri n m=true
 |0,[],_=>rfl
 |n+1,_::r,h=>by simp only[Ri];exact Ww (by simpa using h)
theorem Wx{n:Nat}{f:Nat->Nat}{c:C}(h:J8 n c=true):F3 (GF f c)=true:=by
 cases c<;>first|rfl|(simp[J8]at h)
theorem tf{n:Nat}{f:Nat->Nat}{v:SV}(h:Rj n v=true):LX (Pi f v)=true:=by
 have key:∀{l:List C},l.all (J8 n)=true->(l.map (GF f)).all F3=true:=by
  intro l hl
  rw[List.all_map]
  exact List.all_eq_true.2 λc hc=>Wx (List.all_eq_true.1 hl c hc)
 cases v with
 |one c=>exact Wx h
 |agg l=>exact key h
 |tup l=>
 show (List.map _ l).all _=true
 rw[List.all_map]
 refine List.all_eq_true.2 λp hp'=>?_
 have:=List.all_eq_true.1 h p hp'
 cases p with
 |inl c=>exact Wx this
 |inr l=>exact key this
def Wy(X:Ctx){A:Type}(o:Option (A×List Nat))(t:Nat)(H:Hp)(Cd:A->Prop)(bad:A->Bool)(res:A->SV)(mem':A->List (Option MV)):Res:=
 match o with
 |some (a,ks)=>some (Cd a/\ndB ks=true/\(bad a=true->pnO X.pn (updH H (updM H t ks (mem' a)))),⟨Pi (nmM ks t) (res a),updM H t ks (mem' a)++[(t,.fact (bad a=false))]⟩,t::(ks++pnN X.pn))
 |none=>none
theorem jH(X:Ctx){A:Type}(a:A)(ks:List Nat)(t:Nat)(H:Hp)(Cd:A->Prop)(bad:A->Bool)(res:A->SV)(mem':A->List (Option MV)):Wy X (some (a,ks)) t H Cd bad res mem'=some (Cd a/\ndB ks=true/\(bad a=true->pnO X.pn (updH H (updM H t ks (mem' a)))),⟨Pi (nmM ks t) (res a),updM H t ks (mem' a)++[(t,.fact (bad a=false))]⟩,t::(ks++pnN X.pn)):=rfl
theorem YZ(H:Hp)(t:Nat):∀(ks:List Nat) (m:List (Option MV)),m.length=ks.length->∀p∈updM H t ks m,p.1∈ks
 |[],[],_,p,hp=>by simp[updM]at hp
 |k::ks,o::m,h,p,hp=>by
  simp only[updM,List.mem_cons]at hp
  rcases hp with rfl|hp
  .simp_all
  exact mem_cons_of_mem _ (YZ H t ks m (by simpa using h) p hp)
section
variable {P:Program}
def Q6{X:Ctx}{w0:World}(f:FuncId)(call:∀(args:Array Value) (w:World),(callFunc f args).run P w= .ok (.enter f args) w){A:Type}(am:ArgM A)(Cd:A->Prop)(bad:A->Bool)(res:A->SV)(mem':A->List (Option MV))
  (hl:∀a,Cd a->(mem' a).length=(am.mem a).length) (ho:∀a,Cd a->Rj (mem' a).length (res a)=true) (hn:∀a,Cd a->∀q,some q∈mem' a->∀r∈q.2,∀c∈r,c.names=[]) (ok:Q5 P f (am.args 0) am.mem Cd bad res mem'):Spec P X w0 where
 f:=f
 call:=call
 fn t args H:=Wy X (am.d H args) t H Cd bad res mem'
 ok w I lab fz H t args xs c e fp hA ht h hc hd hlx hx:=by
  unfold Wy at h
  split at h
  .rename_i a ks ha
   simp only[jS,jP]at h
   obtain⟨rfl,rfl,rfl⟩:=h
   obtain⟨hCd,hnd,hbad⟩:=hc
   have hlen:=hl a hCd
   have hlm:Ri (am.mem a).length (mem' a)=true:=Ww hlen
   obtain⟨g1,g2,g3⟩:=am.h H args a ks ha
   have htk:t∉ks:=by
    intro hm
    obtain⟨i,hi⟩:=List.mem_iff_getElem?.1 hm
    obtain⟨u,z,m,e1,_⟩:=g3 i t hi
    rw[ht]at e1;cases e1
   obtain⟨Mc,Ic,labc,hAc,hlen',hargs,key⟩:=rY am hA ht ha hnd hd hlx hx hlm (hn a hCd)
   have hget:=Oe H t ks (mem' a) H
   rw[<- g2]at hlm
   have htn:updH H (updM H t ks (mem' a)) t=none:=by
    rw[hget t hnd htk hlm]
    have hp':pos ks t=none:=by
     cases hp':pos ks t with
     |none=>rfl
     |some j=>exact absurd (List.mem_of_getElem? (FG hp')) htk
    rw[hp',List.getElem?_eq_none (by omega:(mem' a).length<=ks.length)]
    simp[ht]
   refine(ok a w Mc Ic labc fz xs hCd hAc hlen' hargs).mono ?_
   rintro en w' (⟨hb,hm⟩|⟨hb,ch,rfl,hch,I',lab',fz',hB⟩)
   .obtain⟨x,rfl,I2,lab2,fz2,q1,q2,q3⟩:=key (res a) (ho a hCd) en w' hm
    refine .inl ⟨x,rfl,I2,lab2,fz2,?_,λs hs=>?_,q3.z,q3.n,λk u p y hk hv=>?_⟩
    .rw[JH];exact dP q1 htn hb
    .simp only[jS]at hs
     subst hs
     exact Nv (tf (ho a hCd)) (q2 _ rfl)
    .have hkt:k≠t:=by rintro rfl;rw[ht]at hk;cases hk
     have h0:=q3.w k u p y hk hv
     refine⟨h0.1,λu' z es hk'=>h0.2 u' z es ?_⟩
     rw[JH]at hk'
     simpa only[updH,Bm _ _ hkt] using hk'
   .obtain⟨x,_,I2,lab2,fz2,q1,_,_⟩:=key (.one (.v (.bool false))) rfl (.returned (.bool false)) w' ⟨.bool false,I',lab',fz',rfl,hB,Hg rfl⟩
    exact .inr ⟨ch,rfl,hch,I2,lab2,fz2,_,q1,hbad hb⟩
  .cases h
 dom t args H c e fp ht hc h hd:=by
  unfold Wy at h
  split at h
  .rename_i a ks ha
   simp only[jS,jP]at h
   obtain⟨rfl,rfl,rfl⟩:=h
   obtain⟨hCd,hnd,_⟩:=hc
   obtain⟨g1,g2,g3⟩:=am.h H args a ks ha
   have hlen:=hl a hCd
   have hlm:Ri ks.length (mem' a)=true:=Ww (by omega)
   have htk:t∉ks:=by
    intro hm
    obtain⟨i,hi⟩:=List.mem_iff_getElem?.1 hm
    obtain⟨u,z,m,e1,_⟩:=g3 i t hi
    rw[ht]at e1;cases e1
   refine⟨λk hk=>?_,λp hp'=>?_⟩
   .obtain⟨i,hi,rfl⟩:=La (ho a hCd) hk
    have h1:i<ks.length:=by omega
    have hk:ks[i]?=some ks[i]:=List.getElem?_eq_getElem h1
    have e1:nmM ks t i=ks[i]:=by simp only[nmM,hk,Option.getD_some]
    rw[JH]
    refine Bc (l:=[nmM ks t i]) (λn hn'=>?_) _ _ _ (by simp)
    simp only[List.mem_singleton]at hn'
    subst hn'
    rw[Oe H t ks (mem' a) H _ hnd htk hlm,e1,Od hnd hk];rfl
   .rcases List.mem_append.1 hp' with hp'|hp'
    .exact mem_cons_of_mem _ (List.mem_append_left _ (YZ H t ks _ (by omega) p hp'))
    .simp_all
  .cases h
 loc t args H H' c e fp h hf:=by
  unfold Wy at h ⊢
  split at h
  .rename_i a ks ha
   simp only[jS,jP]at h
   obtain⟨rfl,rfl,rfl⟩:=h
   have h1:=am.l H H' args a ks ha λk hk=>hf k (mem_cons_of_mem _ (List.mem_append_left _ hk))
   rw[h1]
   have h2:∀(ks:List Nat) (m:List (Option MV)),(∀k∈ks,H' k=H k)->updM H' t ks m=updM H t ks m:=by
    intro ks
    induction ks with
    |nil=>intro m _;match m with
     |[]=>rfl
     |none::_=>rfl
     |some _::_=>rfl
    |cons k r ih=>
     intro m hk
     match m with
     |[]=>rfl
     |o::m=>simp only[updM];rw[hk k (List.mem_cons_self ..),ih m λj hj=>hk j (mem_cons_of_mem _ hj)]
   have h3:=h2 ks (mem' a) λk hk=>hf k (mem_cons_of_mem _ (List.mem_append_left _ hk))
   have h4:pnO X.pn (updH H' (updM H t ks (mem' a)))=pnO X.pn (updH H (updM H t ks (mem' a))):=Sd λk hk=>RY _ (hf k (mem_cons_of_mem _ (List.mem_append_right _ hk)))
   simp only[h3,h4]
  .cases h
theorem nI{X:Ctx}{w0:World}{A:Type}(f call)(am:ArgM A)(Cd bad res mem' hl ho hn ok):(Q6 (P:=P) (X:=X) (w0:=w0) f call am Cd bad res mem' hl ho hn ok).f=f:=rfl
theorem jI{X:Ctx}{w0:World}{A:Type}(f call)(am:ArgM A)(Cd bad res mem' hl ho hn ok)(t:Nat)(args:List SV)(H:Hp):(Q6 (P:=P) (X:=X) (w0:=w0) f call am Cd bad res mem' hl ho hn ok).fn t args H=Wy X (am.d H args) t H Cd bad res mem':=rfl
end
open Go Go.RowKit
def nJ(b:Bool)(q:MV):Option (List (Nat×List C×List (List C))):=if b=true then some [(0,q)] else none
theorem GV(q:MV):nJ true q=some [(0,q)]:=rfl
theorem GW(q:MV):nJ false q=none:=rfl
abbrev mXP(M fz:Nat->Prop)(I:Nm)(n:Nat)(b:Bool)(q:MV):Ctx:=⟨M,fz,memF I 0 n,nJ b q,[],[]⟩
theorem Ve{X X':Ctx}{w0 w:World}{I:Nm}{lab:Lab}{fz:Nat->Prop}{H:Hp}(hM:X'.M=X.M)(hZ:X'.Z=X.Z)(hF:X'.F=X.F)(h:AtW X w0 I lab fz H w):AtW X' w0 I lab fz H w:=
 ⟨h.h,h.wf,by rw[hM];exact h.own,h.fzl,by rw[hM,hZ];exact h.fzo,by rw[hM];exact h.kept,by rw[hF];exact h.fix⟩
def fZ(b:Bool)(r:SV)(m':List (Option MV)):St->List SV->Prop:=λs vs=>b=false/\VY r m' s vs
theorem Lk(b:Bool)(r:SV)(m':List (Option MV))(s:St)(vs:List SV):fZ b r m' s vs=(b=false/\VY r m' s vs):=rfl
section
variable {P:Program}
theorem N0{f:FuncId}{fn:Func}{c:Code}(hf:P.funcs[f]?=some fn)(hb:fn.body=some c)(m0:MV)(w:World)(M:Nat->Prop)(I:Nm)(lab:Lab)(fz:Nat->Prop)(bad:Bool)(q:MV)(sp:List (Spec P (mXP M fz I 1 bad q) w))(g:Gh)(args:List SV)(R:SV)
  (xs:List Value) (hA:AtW (mX M fz I 1) w I lab fz (lkp (GE 0 [m0])) w) (hlen:xs.length=args.length) (hx:∀(j:Nat) (v:SV) (x:Value),args[j]?=some v->xs[j]?=some x->Ap (hp w) fz lab I (lkp (GE 0 [m0])) v x)
  (hnm:∀v∈args,∀k∈v.names,k<1) (hn:args.length<=fn.ntmps) (hq:∀r∈q.2,∀c∈r,c.names=[])
  (h:vc (mXP M fz I 1 bad q) w sp fn.ntmps g c ⟨J7 0 args,GE 0 [m0]⟩ (My P (mXP M fz I 1 bad q) fn.results.toList (fZ bad R [some q]))) :
  Calls P f xs.toArray w (λen w'=>(bad=false/\LZ w M fz I 1 [some q] R en w')∨(bad=true/\∃ch,en= .panicked ch/\b7 ch/\∃I' lab' fz',AtW (mX M fz I 1) w I' lab' fz' (lkp (memO 0 [some q])) w')):=by
 refine calls_of_wp hf hb (Code.wp_mono ?_ (AP sp g c _ _ h _ w ?_))
 .rintro e a w' (⟨s,hq',hs⟩|⟨ch,rfl,hd,hch,I1,l1,f1,H1,hA1,hpn⟩)
  .have fin:Mx P (mXP M fz I 1 bad q) fn.results.toList (fZ bad R [some q]) s->a.defers=[]/\∃v,(results fn a.tmps).run P w'= .ok v w'/\((bad=false/\LZ w M fz I 1 [some q] R (Ending.returned v) w')∨(bad=true/\∃ch,Ending.returned v= .panicked ch/\b7 ch/\∃I' lab' fz',AtW (mX M fz I 1) w I' lab' fz' (lkp (memO 0 [some q])) w')):=by
    rintro ⟨cs,s',vs,h1,h2,h3,h0,h4,h5,h6⟩
    refine⟨hs.defers,?_⟩
    obtain⟨_,I',lab',fz',hA'⟩:=Gm h1 a w' hs
    obtain⟨x,x1,x2⟩:=K4 hA' h2 h3
    refine⟨x,x1,.inl ⟨h0,x,I',lab',fz',rfl,Qo (Ve (X:=mXP M fz I 1 bad q) (X':=mX M fz I 1) rfl rfl rfl hA'.m) h6 (λp hp'=>?_),VX h4 (Nv h5 x2)⟩⟩
    obtain⟨q1,q2,_⟩:=Ih hp'
    exact PI _ _ _ q1 (by simpa using q2)
   cases e with
   |normal=>exact fin hq'
   |ret=>exact fin hq'
   |_=>exact hq'.elim
  .have hbt:bad=true:=by
    cases bad with
    |true=>rfl
    |false=>exact hpn.elim
   subst hbt
   obtain⟨hk0,_⟩:=(show LV [(0,q)] H1 from hpn)
   cases hk:H1 0 with
   |none=>rw[hk]at hk0;exact hk0.elim
   |some ch0=>
   rw[hk]at hk0
   cases ch0 with
   |dead=>exact hk0.elim
   |mp=>exact hk0.elim
   |fact=>exact hk0.elim
   |vec u z es=>
   obtain⟨hz,hw⟩:=hk0
   have hc0:=hA1.h 0 _ hk
   refine⟨hd.1,.inr ⟨rfl,ch,rfl,hch,I1,l1,f1,?_,?_,hA1.own,hA1.fzl,hA1.fzo,hA1.kept,λp hp'=>⟨?_,(hA1.fix p hp').2⟩⟩⟩
   .intro k ch hk2
    rw[Hh]at hk2
    match k,hk2 with
    |0,hk2=>
     simp only[List.getElem?_cons_zero,Option.map_some,chO,jS]at hk2
     subst hk2
     obtain⟨c1,c2,c3⟩:=hc0
     exact⟨c1,by rw[c2,<- hz],by rw[<- hz];exact Ux c3 (RU hw)⟩
    |k+1,hk2=>simp at hk2
   .intro k ch hk2 n hn'
    rw[Hh]at hk2
    match k,hk2 with
    |0,hk2=>
     simp only[List.getElem?_cons_zero,Option.map_some,chO,jS]at hk2
     subst hk2
     obtain⟨r,hr,hn'⟩:=List.mem_flatMap.1 hn'
     obtain⟨c,hc,hn'⟩:=List.mem_flatMap.1 hn'
     rw[hq r hr c hc]at hn';cases hn'
    |k+1,hk2=>simp at hk2
   .obtain⟨q1,q2,_⟩:=Ih hp'
    rw[Hh]
    have:p.1=0:=by omega
    rw[this];rfl
 .refine⟨?_,I,lab,fz,?_,⟨rfl,λp hp=>by cases hp⟩,?_,Ve (X:=mX M fz I 1) (X':=mXP M fz I 1 bad q) rfl rfl rfl hA⟩
  .intro t g v ht _ k hk
   rw[H8]at ht
   simp only[Nat.zero_le,if_true,Nat.sub_zero,Option.map_eq_some_iff,jP]at ht
   obtain⟨u,hu,rfl,rfl⟩:=ht
   have:=hnm u (List.mem_of_getElem? hu) k hk
   show (lkp (GE 0 [m0]) k).isSome=true
   rw[GE,Hh]
   simp[this]
  .simp_all
  .intro t g v ht
   rw[H8]at ht
   simp only[Nat.zero_le,if_true,Nat.sub_zero,Option.map_eq_some_iff,jP]at ht
   obtain⟨u,hu,rfl,rfl⟩:=ht
   have hlt:t<args.length:=(List.getElem?_eq_some_iff.1 hu).1
   have hlt2:t<xs.length:=by omega
   refine⟨xs[t],?_,?_⟩
   .grind
   .simp only[if_true]
    exact hx t u _ hu (List.getElem?_eq_getElem hlt2)
end
attribute [go_sem] nI jI jH A3z GV GW
end Go.Sy
