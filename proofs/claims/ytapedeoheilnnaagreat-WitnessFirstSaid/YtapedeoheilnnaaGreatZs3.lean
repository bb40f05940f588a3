/- The program's machine and the document's: runs come to the same. Plain. No conditions but those in each statement. -/
import Derived.Test.YtapedeoheilnnaaGreatRst
import Derived.Test.YtapedeoheilnnaaGreatRml
import Derived.Test.YtapedeoheilnnaaGreatZrb
import Derived.Test.YtapedeoheilnnaaGreatWi
set_option linter.all false
set_option maxRecDepth 20000
set_option maxHeartbeats 16000000
namespace Go.Proofs.YtapedeoheilnnaaGreat
open Go Go.Sy Go.RowKit
theorem cV{P:Prop}(h:P:=by
 dsimp only
 rw[if_neg (by decide)]
 exact EL h s j):P:=h
variable{n i:Nat}{st:Sm->Fa->Ro}{sz:Sm->Rz->Rz}
structure tyT(f:Fn)(s:Sm):Prop where
 y:tyS f s
 t:∃m,tyB f m s.th
 e:∃m,tyB f m s.el
theorem Ze{f:Fn}{m:Nat}{l:List Sm}{s:Sm}(h:tyB f m l)(hs:s∈l):tyT f s:=by
 cases m with
 |zero=>exact h.elim
 |succ m=>obtain⟨a,b,c⟩:=h s hs;exact⟨a,⟨m,b⟩,⟨m,c⟩⟩
theorem xk{st:Sm->Rz->Rz}{q:Rz}(h:q.m.on=false):∀l,blZ st l q=q
 |[]=>rfl
 |s::l=>by simp only[blZ];rw[if_neg (by rw[h];decide)]
theorem Out.off{f:Fn}{o:Ro}{r:Rz}(h:Out f o r)(hb:o.b=true∨o.t=true):r.m.on=false:=by
 rcases h with h|h|h
 .exact h.2.off
 .unfold Ms.on;rw[h.2.2.e];rfl
 simp_all
def cK(n:Nat)(st:Sm->Fa->Ro)(sz:Sm->Rz->Rz):Prop:=∀(f:Fn) (s:Sm) (q:Fa) (r:Rz),Ii q.P->tyT f s->Sim f q r->q.m.fuel<n->Out f (st s q) (sz s r)
theorem Sw(hk:KqS st)(hs:cK n st sz):∀(l:List Sm) (f:Fn) (q:Fa) (r:Rz),Ii q.P->(∀s∈l,tyT f s)->Sim f q r->q.m.fuel<n->Out f (blF st l q) (blZ sz l r)
 |[],f,q,r,_,_,h,_=>Io h
 |s::l,f,q,r,hP,ht,h,hn=>by
  have ho:=hs f s q r hP (ht s (List.mem_cons_self ..)) h hn
  have k:=hk s q h.l h.u
  simp only[blF,blZ]
  rw[if_pos h.M.on]
  by_cases hb:(st s q).b=true∨(st s q).t=true
  .rw[if_pos hb,xk (ho.off hb)];exact ho
  rw[if_neg hb]
  rcases ho with ho|ho|ho
  .simp_all
  .simp_all
  exact Sw hk hs l f _ _ (by rw[k.P];exact hP) (λs' hs'=>ht s' (List.mem_cons_of_mem _ hs')) ho.2.2 (by have:=k.u;omega)
theorem Sim.with{f:Fn}{q:Fa}{r:Rz}(h:Sim f q r){m m':Ms}(hM:Mq q.P m m')(hl:0<=m.fuel)(hu:m.fuel<=1000000000):Sim f { q with m:=m } { r with m:=m' }:=⟨hM,h.P,h.rf,h.nm,h.rt,hl,hu,h.v⟩
theorem ez{f:Fn}{q:Fa}{r:Rz}(h:Sim f q r):(q.m.out=true/\r.m.zspd.on=false/\Pq q.m.exh r.m.zspd)∨(q.m.out=false/\r.m.zspd.on=true/\Sim f { q with m:=q.m.spd } { r with m:=r.m.zspd }/\q.m.spd.fuel=q.m.fuel-1):=by
 have hon:=h.M.on
 have he:r.m.e=0:=eq_of_beq (show (r.m.e==0)=true from hon)
 by_cases hf:q.m.fuel<1
 .left
  have hz:r.m.zspd.e=3:=if_pos ⟨hon,by rw[h.M.fu];exact hf⟩
  exact⟨decide_eq_true hf,by unfold Ms.on;rw[hz];rfl,h.M.cs,h.M.ar,.inr ⟨rfl,hz,rfl,rfl,rfl,rfl⟩⟩
 right
 have ho:q.m.out=false:=decide_eq_false hf
 obtain⟨k1,k2⟩:=ff ho h.l h.u
 have hz:r.m.zspd.e=0:=by rw[<- he];exact if_neg (λhh=>hf (by rw[<- h.M.fu];exact hh.2))
 have hz2:r.m.zspd.on=true:=by unfold Ms.on;rw[hz];rfl
 exact⟨ho,hz2,h.with ⟨h.M.cs,h.M.ar,by show w64i (r.m.fuel-1)=w64i (q.m.fuel-1);rw[h.M.fu],h.M.dp,hz2,h.M.nc,h.M.na⟩ (by omega) (by have:=h.u;omega),k1⟩
theorem A2h{f:Fn}{q:Fa}{r:Rz}(h:Sim f q r)(s:Sm)(k:Int){m:Ms}(hm:m=r.m.zfail r.f.name s.no k):Out f (q.brk s k) { r with m:=m }:=by rw[hm];exact EL h s k
section
variable {f:Fn}{s:Sm}{q:Fa}{r:Rz}
theorem UK(h:Sim f q r){e:Ex}(he:exY f e)(al:Int):(∃v,evF q.P q.m q.vs e= .ok v/\evZ r.f.name al r.is e r.m=(v,r.m))∨∃k,evF q.P q.m q.vs e= .no k/\evZ r.f.name al r.is e r.m=(0,r.m.zfail r.f.name al k):=by
 have hs:=Ow (nm:=r.f.name) (al:=al) h.M h.v e he.1 he.2
 cases hv:evF q.P q.m q.vs e with
 |ok v=>rw[hv]at hs;exact .inl ⟨v,rfl,hs⟩
 |no k=>rw[hv]at hs;exact .inr ⟨k,rfl,hs⟩
theorem iQ(h:Sim f q r){c:Cd}(hc:cdY f c)(al:Int):(∃v,cdF q.P q.m q.vs c= .ok v/\cdZ r.f.name al r.is r.ps c r.m=(v,r.m))∨∃k b,cdF q.P q.m q.vs c= .no k/\cdZ r.f.name al r.is r.ps c r.m=(b,r.m.zfail r.f.name al k):=by
 have hs:=Qr (nm:=r.f.name) (al:=al) h.M h.v c hc.1 hc.2
 cases hv:cdF q.P q.m q.vs c with
 |ok v=>rw[hv]at hs;exact .inl ⟨v,rfl,hs⟩
 |no k=>
 rw[hv]at hs
 have hs:(cdZ r.f.name al r.is r.ps c r.m).2=_:=hs
 exact .inr ⟨k,(cdZ r.f.name al r.is r.ps c r.m).1,rfl,by rw[<- hs]⟩
theorem mH(h:r.m.on=false)(al:Int)(x:List UInt8)(v:Int):seZ r al x v=r:=by unfold seZ;rw[if_pos h]
theorem A2i(h:r.m.on=false)(al:Int)(x:List UInt8):thZ r al x=(-1,r.m):=by unfold thZ;rw[if_pos h]
theorem cL(h:r.m.on=false)(al:Int)(x:List UInt8)(i:Int):idZ r al x i=((-1,-1),r.m):=by unfold idZ;rw[if_pos h]
end
theorem mJ{bl:Fa->Ro}{bz:Rz->Rz}{f:Fn}{s:Sm}(hc:cdY f s.cd)(hk:∀q,0<=q.m.fuel->q.m.fuel<=1000000000->Kq q (bl q).q)
  (hb:∀q r,Ii q.P->Sim f q r->q.m.fuel<n->Out f (bl q) (bz r)):∀(k:Nat) (q:Fa) (r:Rz),Ii q.P->Sim f q r->q.m.fuel<n+1->q.m.fuel<k->Out f (lpF bl s k q) (lpZ bz s k r)
 |0,q,r,_,h,_,hk0=>by have:=h.l;omega
 |k+1,q,r,hP,h,hn,hk0=>by
  rcases ez h with⟨h1,h2,h3⟩|⟨h1,h2,h3,h4⟩
  .rw[je h1,m9 h2];exact .inl ⟨rfl,h3⟩
  rw[qy h1]
  rcases iQ h3 hc s.no with⟨v,e1,e2⟩|⟨j,b,e1,e2⟩
  .have e1:cdF q.P q.m.spd q.vs s.cd= .ok v:=e1
   have e2:cdZ r.f.name s.no r.is r.ps s.cd r.m.zspd=(v,r.m.zspd):=e2
   rw[e1]
   cases v with
   |false=>
    rw[iP h2 e2]
    exact Io h3
   |true=>
   rw[sK h2 e2 h2 rfl]
   dsimp only
   have hO:=hb { q with m:=q.m.spd } { r with m:=r.m.zspd } hP h3 (by show q.m.spd.fuel<_;omega)
   have kq:=hk { q with m:=q.m.spd } h3.l h3.u
   by_cases hbt:(bl { q with m:=q.m.spd }).b=true∨(bl { q with m:=q.m.spd }).t=true
   .rw[if_pos hbt,if_pos (hO.off hbt)];exact hO
   rw[if_neg hbt]
   rcases hO with hO|hO|hO
   .simp_all
   .simp_all
   have hS:=hO.2.2
   have hu:(bl { q with m:=q.m.spd }).q.m.fuel<=q.m.spd.fuel:=kq.u
   rw[if_neg (by rw[hS.M.on];decide)]
   exact mJ hc hk hb k _ _ (by rw[kq.P];exact hP) hS (by omega) (by omega)
  have e1:cdF q.P q.m.spd q.vs s.cd= .no j:=e1
  have e2:cdZ r.f.name s.no r.is r.ps s.cd r.m.zspd=(b,r.m.zspd.zfail r.f.name s.no j):=e2
  have ho:(r.m.zspd.zfail r.f.name s.no j).on=false:=K5 _ _ _ _ h2
  rw[e1]
  dsimp only
  cases b with
  |false=>rw[iP h2 e2];exact EL h3 s j
  |true=>rw[mD h2 e2 ho];exact EL h3 s j
structure Cq(P:Pg)(x:Bool×Int×Ms)(y:Int×Ms):Prop where
 b:x.1=true->Pq x.2.2 y.2
 g:x.1=false->y.1=x.2.1/\Mq P x.2.2 y.2
theorem fA(hk:KqS st)(hs:cK n st sz)(P:Pg)(g:Fn)(va:List Va)(m r:Ms)(hP:Ii P)(hg:goodF g)(hf:Dw g.ps va=true)(hv:∀a∈va,poV P a)(hM:Mq P m r)(h0:0<=m.fuel)(h1:m.fuel<=1000000000)(hn:m.fuel<n):Cq P (IX st P g va m) (enZ sz P g va r):=by
 by_cases hd:200<=m.deep
 .rw[dj hd,ek hM.on (by rw[hM.dp];exact hd)]
  exact⟨λ_=>⟨hM.cs,hM.ar,.inr ⟨rfl,rfl,rfl,rfl,rfl,rfl⟩⟩,λh=>by cases h⟩
 obtain⟨mb,hb⟩:=hg.b
 have hS:Sim g ⟨g.name,0,P,{ m with deep:=w64i (m.deep+1) },vsP g.ps va (vsL g.ls [])⟩ ⟨P,{ r with deep:=w64i (r.deep+1) },g,isP g.ps va (isL g.ls []),psP' g.ps va (psL' g.ls [])⟩:=
  ⟨⟨hM.cs,hM.ar,hM.fu,by show w64i (r.deep+1)=w64i (m.deep+1);rw[hM.dp],hM.on,hM.nc,hM.na⟩,rfl,rfl,rfl,rfl,h0,h1,A6m hg hf hv⟩
 have hO:=Sw hk hs g.body g _ _ hP (λs h=>Ze hb h) hS hn
 have kq:=N2 hk g.body ⟨g.name,0,P,{ m with deep:=w64i (m.deep+1) },vsP g.ps va (vsL g.ls [])⟩ h0 h1
 have kP:(blF st g.body ⟨g.name,0,P,{ m with deep:=w64i (m.deep+1) },vsP g.ps va (vsL g.ls [])⟩).q.P=P:=kq.P
 obtain⟨o,ho⟩:∃o,blF st g.body ⟨g.name,0,P,{ m with deep:=w64i (m.deep+1) },vsP g.ps va (vsL g.ls [])⟩=o:=⟨_,rfl⟩
 obtain⟨z,hz⟩:∃z,blZ sz g.body ⟨P,{ r with deep:=w64i (r.deep+1) },g,isP g.ps va (isL g.ls []),psP' g.ps va (psL' g.ls [])⟩=z:=⟨_,rfl⟩
 rw[jf hd ho,sG hM.on (by rw[hM.dp];exact hd) hz]
 rw[ho]at hO kP
 rw[hz]at hO
 rcases hO with⟨hb1,hO⟩|⟨hb1,ht,hO⟩|⟨hb1,ht,hO⟩
 .rw[if_pos hb1]
  have he:¬(z.m.e==1)=true:=by
   rw[beq_iff_eq]
   rcases hO.e with h|h
   .omega
   omega
  rw[if_neg he]
  exact⟨λ_=>⟨hO.cs,hO.ar,hO.e⟩,λh=>by cases h⟩
 .rw[if_neg (by rw[hb1];decide),if_pos (by rw[hO.e];rfl)]
  refine⟨λh=>(by cases h),λ_=>⟨hO.v,⟨hO.cs,hO.ar,hO.fu,by show w64i (z.m.deep-1)=w64i (o.q.m.deep-1);rw[hO.dp],rfl,?_,?_⟩⟩⟩
  .rw[<- kP];exact hO.P.1.symm
  rw[<- kP];exact hO.P.2.symm
 rw[if_neg (by rw[hb1];decide),if_neg (by rw[show z.m.e=0 from eq_of_beq (show (z.m.e==0)=true from hO.M.on)];decide)]
 refine⟨λh=>(by cases h),λ_=>⟨hO.rt.symm,⟨hO.M.cs,hO.M.ar,hO.M.fu,by show w64i (z.m.deep-1)=w64i (o.q.m.deep-1);rw[hO.M.dp],hO.M.on,?_,?_⟩⟩⟩
 .rw[<- kP];exact hO.M.nc
 rw[<- kP];exact hO.M.na
theorem fB(s:List UInt8):∀l:List Fn,(idx s (l.map Fn.name)=none/\fnG s l=none)∨∃j g,idx s (l.map Fn.name)=some j/\fnG s l=some g/\l[j]?=some g
 |[]=>.inl ⟨rfl,rfl⟩
 |x::r=>by
  simp only[List.map_cons,idx,fnG]
  by_cases h:(x.name==s)=true
  .simp_all
  rw[if_neg h,if_neg h]
  rcases fB s r with⟨a,b⟩|⟨j,g,a,b,c⟩
  .simp_all
  simp_all
theorem mK(P:Pg)(s:List UInt8):(P.fi s=none/\fnG s P.fs=none)∨∃i:Int,∃g,P.fi s=some i/\fnG s P.fs=some g/\P.fs.getD i.toNat ⟨[],[],[],[]⟩=g/\g∈P.fs:=by
 unfold Pg.fi
 rw[SW]
 rcases fB s P.fs with⟨a,b⟩|⟨j,g,a,b,c⟩
 .simp_all
 grind
theorem Out.ite{f:Fn}{c:Prop}[Decidable c]{a b:Ro}{x y:Rz}(h1:c->Out f a x)(h2:¬c->Out f b y):Out f (if c then a else b) (if c then x else y):=by grind
theorem A2j(hk:KqS st)(hs:cK n st sz){f:Fn}{s:Sm}{q:Fa}{r:Rz}(hP:Ii q.P)(hx:s.x=[]∨AK f s.x≠2)(ha:∀a∈s.ar,(a.p=true->AK f a.s=2)/\(a.p=false->exY f a.e))(h:Sim f q r)(hn:q.m.fuel<n):Out f (GQ st s q) (caZ sz s r):=by
 have fP:=h.P
 rcases mE h s.no s.ar ha with⟨va,e1,e2,e3⟩|⟨k,e1,e2⟩
 .rcases mK q.P s.y with⟨g1,g2⟩|⟨i,g,g1,g2,g3,g4⟩
  .rw[qz e1 g1,eo e2 h.M.on (by rw[fP];exact g2)]
   exact EL h s 4
  have g2':fnG s.y r.P.fs=some g:=by rw[fP];exact g2
  cases hf:Dw g.ps va with
  |false=>rw[rC e1 g1 g3 hf,ep e2 h.M.on g2' hf];exact EL h s 4
  |true=>
  have hc:=fA hk hs q.P g va q.m r.m hP (hP g g4) hf e3 h.M h.l h.u hn
  have kc:=Vn hk q g va h.l h.u
  obtain⟨x,hx1⟩:∃x,IX st q.P g va q.m=x:=⟨_,rfl⟩
  obtain⟨y,hy1⟩:∃y,enZ sz q.P g va r.m=y:=⟨_,rfl⟩
  rw[hx1]at hc kc
  rw[hy1]at hc
  obtain⟨yv,ym⟩:=y
  have hy2:enZ sz r.P g va r.m=(yv,ym):=by rw[fP];exact hy1
  rw[rD e1 g1 g3 hf,hx1,sJ e2 h.M.on g2' hf hy2]
  obtain⟨xb,xv,xm⟩:=x
  cases xb with
  |true=>
   have hp:Pq xm ym:=hc.b rfl
   have hq:RO s q (true,xv,xm)=⟨true,false,{ q with m:=xm }⟩:=if_pos rfl
   rw[hq]
   split
   .exact .inl ⟨rfl,hp⟩
   rw[mH hp.off]
   exact .inl ⟨rfl,hp⟩
  |false=>
  obtain⟨hv,hM⟩:=hc.g rfl
  have hv:yv=xv:=hv
  have hM:Mq q.P xm ym:=hM
  have hu:xm.fuel<=q.m.fuel:=kc.u
  have hS:Sim f { q with m:=xm } { r with m:=ym }:=h.with hM kc.l (by have:=h.u;omega)
  have hq:RO s q (false,xv,xm)=if (s.x==[])=true then Fa.go { q with m:=xm } else Fk { q with m:=xm } s xv:=if_neg (λh=>(by cases h))
  rw[hq,hv]
  refine Out.ite (λ_=>Io hS) λh0=>UJ hS s xv ?_
  rcases hx with hx|hx
  .simp_all
  exact hx
 have ho:(agZ r.f.name s.no r.is r.ps s.ar r.m).2.on=false:=by rw[e2];exact K5 _ _ _ _ h.M.on
 rw[jg e1,m7 (l:=(agZ r.f.name s.no r.is r.ps s.ar r.m).1) rfl ho]
 exact A2h h s k e2
theorem A2k(hk:KqS st)(hs:cK n st sz){f:Fn}{s:Sm}{q:Fa}{r:Rz}(hP:Ii q.P)(ht:tyT f s)(h:Sim f q r)(hn:q.m.fuel<n):Out f (smF st s q) (smZ sz s r):=by
 have hoff:∀k,(r.m.zfail r.f.name s.no k).on=false:=λk=>K5 _ _ _ _ h.M.on
 obtain⟨mt,hth⟩:=ht.t
 obtain⟨me,hel⟩:=ht.e
 unfold smF smZ
 refine Out.ite (λk=>?_) λn0=>Out.ite (λk=>?_) λn1=>Out.ite (λk=>?_) λn2=>Out.ite (λk=>?_) λn3=>Out.ite (λk=>?_) λn4=>Out.ite (λk=>?_) λn5=>Out.ite (λk=>?_) λn6=>Out.ite (λk=>?_) λn7=>Out.ite (λk=>?_) λn8=>Out.ite (λk=>?_) λn9=>Out.ite (λk=>?_) λn10=>Out.ite (λk=>?_) λn12=>?_
 .obtain⟨hx,he⟩:=ht.y.k0 k
  rcases UK h he s.no with⟨v,e1,e2⟩|⟨j,e1,e2⟩
  .rw[e1,e2];exact UJ h s v hx
  rw[e1,e2]
  dsimp only
  rw[mH (hoff j)]
  exact EL h s j
 .have hx:=ht.y.k1 k
  rcases h.M.ci s.y with⟨e1,e2⟩|⟨i,e1,e2,e3⟩
  .rw[e1,e2,if_pos (by decide)];exact EL h s 4
  rw[e1,e2,if_neg (by omega)]
  exact Io ⟨h.M,h.P,h.rf,h.nm,h.rt,h.l,h.u,YF hx (.inr (by rw[e1];rfl)) h.v⟩
 .obtain⟨hx,hy⟩:=ht.y.k2 k
  obtain⟨t,g1,g2,g3⟩:=YG h hy
  rw[g1,g2]
  exact Io ⟨h.M,h.P,h.rf,h.nm,h.rt,h.l,h.u,YF hx g3 h.v⟩
 .have hx:=ht.y.k3 k
  exact Io ⟨h.M,h.P,h.rf,h.nm,h.rt,h.l,h.u,YF hx (.inl rfl) h.v⟩
 .obtain⟨hx,hy⟩:=ht.y.k4 k
  rcases er h hy s.no with⟨i,e1,e2,e3⟩|⟨j,e1,e2⟩
  .rw[e1,e2]
   dsimp only
   rw[if_pos e3,h.M.cell]
   exact UJ h s _ hx
  rw[e1,e2]
  exact cV
 .obtain⟨hx,he⟩:=ht.y.k5 k
  rcases UK h he s.no with⟨v,e1,e2⟩|⟨j,e1,e2⟩
  .rw[e1,e2]
   dsimp only
   rcases er h hx s.no with⟨i,d1,d2,d3⟩|⟨j,d1,d2⟩
   .rw[d1,show thZ { r with m:=r.m } s.no s.x=(i,r.m) from d2]
    dsimp only
    rw[if_pos d3]
    exact Io ⟨h.M.set i v,h.P,h.rf,h.nm,h.rt,h.l,h.u,h.v⟩
   rw[d1,show thZ { r with m:=r.m } s.no s.x=(-1,r.m.zfail r.f.name s.no j) from d2]
   exact cV
  rw[e1,e2]
  dsimp only
  rw[A2i (hoff j)]
  exact cV
 .obtain⟨hx,he⟩:=ht.y.k6 k
  rcases UK h he s.no with⟨v,e1,e2⟩|⟨j,e1,e2⟩
  .rw[e1,e2]
   dsimp only
   rcases eu h s v s.no with⟨i,d1,d2,d3⟩|⟨j,d1,d2⟩
   .rw[d1,show idZ { r with m:=r.m } s.no s.y v=((i,v),r.m) from d2]
    dsimp only
    rw[if_pos d3,h.M.arr]
    exact UJ h s _ hx
   rw[d1,show idZ { r with m:=r.m } s.no s.y v=((-1,-1),r.m.zfail r.f.name s.no j) from d2]
   exact cV
  rw[e1,e2]
  dsimp only
  rw[cL (hoff j)]
  exact cV
 .obtain⟨he,hf⟩:=ht.y.k7 k
  rcases UK h he s.no with⟨v,e1,e2⟩|⟨j,e1,e2⟩
  .rw[e1,e2]
   dsimp only
   rcases UK h hf s.no with⟨u,c1,c2⟩|⟨j,c1,c2⟩
   .rw[c1,c2]
    dsimp only
    rcases eu h s v s.no with⟨i,d1,d2,d3⟩|⟨j,d1,d2⟩
    .rw[d1,show idZ { r with m:=r.m } s.no s.y v=((i,v),r.m) from d2]
     dsimp only
     rw[if_pos d3]
     exact Io ⟨h.M.put i v u,h.P,h.rf,h.nm,h.rt,h.l,h.u,h.v⟩
    rw[d1,show idZ { r with m:=r.m } s.no s.y v=((-1,-1),r.m.zfail r.f.name s.no j) from d2]
    exact cV
   rw[c1,c2]
   dsimp only
   rw[cL (hoff j)]
   exact cV
  rw[e1,e2]
  dsimp only
  rw[UI (hoff j)]
  dsimp only
  rw[cL (hoff j)]
  exact cV
 .obtain⟨hx,ha⟩:=ht.y.k8 k
  exact A2j hk hs hP hx ha h hn
 .have he:=ht.y.k9 k
  rcases UK h he s.no with⟨v,e1,e2⟩|⟨j,e1,e2⟩
  .rw[e1,e2]
   dsimp only
   rw[if_pos h.M.on]
   exact .inr (.inl ⟨rfl,rfl,h.M.cs,h.M.ar,h.M.fu,h.M.dp,rfl,rfl,h.M.nc.symm,h.M.na.symm⟩)
  rw[e1,e2]
  dsimp only
  rw[if_neg (by rw[hoff j];decide)]
  exact EL h s j
 .have hc:=ht.y.kc (.inl k)
  rcases iQ h hc s.no with⟨v,e1,e2⟩|⟨j,b,e1,e2⟩
  .rw[e1,e2]
   dsimp only
   rw[if_neg (by rw[h.M.on];decide)]
   cases v with
   |true=>exact Sw hk hs s.th f q r hP (λs' h'=>Ze hth h') h hn
   |false=>exact Sw hk hs s.el f q r hP (λs' h'=>Ze hel h') h hn
  rw[e1,e2]
  dsimp only
  rw[if_pos (hoff j)]
  exact EL h s j
 .have hc:=ht.y.kc (.inr (.inr k))
  rcases iQ h hc s.no with⟨v,e1,e2⟩|⟨j,b,e1,e2⟩
  .rw[e1,e2]
   dsimp only
   cases v with
   |true=>exact Io h
   |false=>exact EL h s 3
  rw[e1,e2]
  dsimp only
  split
  .exact EL h s j
  rw[lw (hoff j)];exact EL h s j
 exact Io h
theorem mL:∀n,cK n (stF n) (stZ n)
 |0=>λf s q r _ _ h hn=>by have:=h.l;omega
 |n+1=>λf s q r hP ht h hn=>by
  have ih:=mL n
  obtain⟨mt,hth⟩:=ht.t
  simp only[stF,stZ]
  by_cases k:s.k=11
  .rw[if_pos k,if_pos k]
   exact mJ (n:=n) (ht.y.kc (.inr (.inl k))) (λq h0 h1=>N2 (ME n) s.th q h0 h1) (λq r hp hS hf=>Sw (ME n) ih s.th f q r hp (λs' h'=>Ze hth h') hS hf) (n+1) q r hP h (by omega) hn
  rw[if_neg k,if_neg k]
  rcases ez h with⟨h1,h2,h3⟩|⟨h1,h2,h3,h4⟩
  .rw[if_pos h1,if_pos h2];exact .inl ⟨rfl,h3⟩
  rw[if_neg (by rw[h1];decide),if_neg (by rw[h2];decide)]
  exact A2k (ME n) ih (q:={ q with m:=q.m.spd }) (r:={ r with m:=r.m.zspd }) hP ht h3 (by show q.m.spd.fuel<_;omega)
open Go Go.Sy Go.RowKit
def nF(l:List Va):List D:=[.sl IQ (l.map Va.r)]
def A9q(l:List Va):List C:=[.d (.sl IQ (l.map Va.r))]
def v5:List D:=[.v (.slice none 0 0)]
def A9m:List C:=[.v (.slice none 0 0)]
theorem B1R(a b:Va)(h:a.r=b.r):a=b:=by
 obtain⟨p,n,s⟩:=a
 obtain⟨p',n',s'⟩:=b
 simp only[Va.r,dI,dS,List.cons.injEq,D.v.injEq,Value.string.injEq,Value.int.injEq,Value.bool.injEq,true_and,and_true]at h
 obtain⟨rfl,rfl,h1⟩:=h
 rw[bs_inj h1]
theorem B1D(a b:List Va)(h:nF a=nF b):a=b:=by
 simp only[nF,List.cons.injEq,D.sl.injEq,true_and,and_true]at h
 exact Aj B1R h
noncomputable def cCh:Cod (List (List Va)):=Hl (λl=>.one (.d (.sl v5 (l.map nF)))) (λv a b h h'=>by
 cases v with
 |one c=>exact Aj B1D (GH h h')
 |agg l=>exact h.elim
 |tup l=>exact h.elim) (λl=>rfl)
theorem B0n(l:List (List Va)):cCh.e l= .one (.d (.sl v5 (l.map nF))):=rfl
theorem B0o(l:List (List Va)):cCh.d (.one (.d (.sl v5 (l.map nF))))=some l:=E4 (e:=λl:List (List Va)=>.one (.d (.sl v5 (l.map nF)))) (F4 _)
theorem B1S(l:List (List Va)):List.flatMap (λr=>List.flatMap C.names r) (l.map A9q)=[]:=List.flatMap_eq_nil_iff.2 λp hp=>by
 exact eC
theorem B1b(k t:Nat)(l:List (List Va)):(l.map A9q).map (λr=>r.map (mvC k t))=l.map A9q:=HU A9q (λ_=>rfl) l
theorem B1T(l:List (List Va)):EZ (l.map A9q)=some (l.map nF):=Hi A9q (λ_=>rfl) l
def fnd(f:List UInt8):List Fn->Option Fn
 |[]=>none
 |g::r=>if (g.name==f)=true then some g else fnd f r
def A7t(P:Pg)(l:List Int)(v:Vr):List Va:=if v.p=true then A7s P else A4b l
def canF(P:Pg)(f:List UInt8)(l:List Int):List (List Va):=match fnd f P.fs with
 |some g=>g.ps.map (A7t P l)
 |none=>[]
def A9w(P:Pg)(l:List Int)(ps:List Vr)(i:Nat):List (List Va):=(ps.take i).map (A7t P l)
theorem B1c(P:Pg)(l:List Int)(ps:List Vr):A9w P l ps 0=[]:=rfl
theorem B0x(x:List Va):BS [[C.d (.sl IQ (x.map Va.r))]]:=by
 intro r h c hc
 rw[List.mem_singleton.1 h,List.mem_singleton]at hc
 subst hc;rfl
theorem A06{l:List Vr}{x:Vr}(h:l[i]?=some x)(z:List D):(l.map Vr.r).getD i z=x.r:=by simp[List.getD,h]
theorem A07{l:List Fn}{x:Fn}(h:l[i]?=some x)(z:List D):(l.map Fn.r).getD i z=x.r:=by simp[List.getD,h]
abbrev B04(p:Pg)(f:List UInt8)(l:List Int):Prop:=p.g.c.length<=1000000/\l.length<=1000000/\p.fs.length<=1000000/\∀g∈p.fs,g.ps.length<=5000
abbrev Q2(p:Pg)(f:List UInt8)(l:List Int):SV:=.tup [.inl (.d (.sl v5 ((canF p f l).map nF))),.inl (.v (.bool (fnd f p.fs).isSome))]
noncomputable abbrev A9t:ArgC ((Pg)×(List UInt8)×(List Int)×Unit):=(acS (cPg) (acS (cStr) (acS (cI6) ac0)))
abbrev B0S:Prop:=Ca Tryz.prog 37 A9t (λp:(Pg)×(List UInt8)×(List Int)×Unit=>B04 p.1 p.2.1 p.2.2.1) (λp:(Pg)×(List UInt8)×(List Int)×Unit=>Q2 p.1 p.2.1 p.2.2.1)
section
attribute [local go_sem] Va.c Va.r B0o B0n rM rL GM GL pgR kR ZS Jb B1T B1b B1S A9q nF
theorem B0U:B0S:=by
 rintro ⟨p,f,l,_u⟩ w fz xs hc hfz hl hx
 refine Bg Tryz.func37 rfl w fz [A9f,A9g] [] A9t (λp:(Pg)×(List UInt8)×(List Int)×Unit=>Q2 p.1 p.2.1 p.2.2.1) _ xs hfz hl hx (jN rfl) ?_
 clear hx hl hfz xs
 simp only[Tryz.f37]
 obtain⟨h1,h2,h3,h4⟩:=hc
 obtain⟨⟨pc,pa⟩,pf⟩:=p
 dsimp only at h1 h2 h3 h4
 simp only[seval,go_sem,A9f,A9g]
 refine AC (Y:=Nat) (λi=>i<=pf.length/\fnd f pf=fnd f (pf.drop i))
  (λi=>⟨[(1,true,.one (.v (.string (bs f)))),(2,true,.one (.d (.sl zIw (l.map iD)))),(3,true,.one (.p 3 0 0)),(16,true,.one (.d (.sl zFn (pf.map Fn.r)))),(17,true,.one (.v (.int .i64 (pf.length:Int)))),(18,true,.one (.v (.int .i64 (i:Int))))],
   [(3,Gb pc pa pf)]⟩)
  (λi=>pf.length-i) 0 ⟨Nat.zero_le _,rfl⟩ ?_ ?_
 .exact N4
 rintro i ⟨hi,hJ⟩
 refine AP [A9f,A9g] [] _ _ _ ?_
 have w1:IntKind.i64.wrap ((i:Int)+1)=((i+1:Nat):Int):=by rw[wrap_i64 (by omega) (by omega)];rfl
 cases hx:pf[i]? with
 |none=>
  have g2:=List.getElem?_eq_none_iff.1 hx
  have g1:=Ai g2
  have hn:fnd f pf=none:=by rw[hJ,List.drop_eq_nil_of_le g2];rfl
  have hr:canF ⟨⟨pc,pa⟩,pf⟩ f l=[]:=by unfold canF;dsimp only;rw[hn]
  simp only[seval,go_sem,A9f,A9g,g1]
  refine A1 [] ?_;simp only[seval,go_sem,bne,Q2,hr,hn,Option.isSome_none]
 |some x=>
 have hlt:=(List.getElem?_eq_some_iff.1 hx).1
 have g1:=Ah hlt
 have hil:(i:Int)<(pf.length:Int):=by omega
 have hz:=A07 hx
 have hps:=h4 x (List.mem_of_getElem? hx)
 rw[BF hx]at hJ
 obtain⟨xn,xp,xl,xb⟩:=x
 dsimp only at hps
 cases hq:(xn==f) with
 |false=>
  have hJ2:fnd f pf=fnd f (pf.drop (i+1)):=by rw[hJ];exact if_neg (by rw[hq];decide)
  have hq2:(xn != f)=true:=by simp[bne,hq]
  simp only[seval,go_sem,A9f,A9g,g1,hz,Fn.r,hq,hq2,w1]
  refine⟨⟨hil,rfl⟩,i+1,⟨hlt,hJ2⟩,(by omega),?_⟩
  exact N4
 |true=>
 have hJ2:fnd f pf=some ⟨xn,xp,xl,xb⟩:=by rw[hJ];exact if_pos hq
 have hq2:(xn != f)=false:=by simp[bne,hq]
 simp only[seval,go_sem,A9f,A9g,g1,hz,Fn.r,hq,hq2]
 refine⟨⟨hil,rfl⟩,h1,h2,?_⟩
 refine AC (Y:=Nat) (λj=>j<=xp.length)
  (λj=>⟨[(10,true,.one (.d (.sl IQ ((A7s ⟨⟨pc,pa⟩,pf⟩).map Va.r)))),(11,true,.one (.d (.sl IQ ((A4b l).map Va.r)))),(12,true,.one (.s 1000)),(31,true,.one (.d (.sl zVr (xp.map Vr.r)))),(32,true,.one (.v (.int .i64 (xp.length:Int)))),(33,true,.one (.v (.int .i64 ((j:Int)))))],[(1000,.vec 0 A9m ((A9w ⟨⟨pc,pa⟩,pf⟩ l xp (j)).map A9q))]⟩)
  (λj=>xp.length-j) 0 (Nat.zero_le _) ?_ ?_
 .refine A2 [.nil 12 1000 A9m] ?_;simp only[seval,go_sem,A9m,B1c,A9r,A9j]
 rintro j hj
 refine AP [] [] _ _ _ ?_
 have w2:IntKind.i64.wrap ((j:Int)+1)=((j+1:Nat):Int):=by rw[wrap_i64 (by omega) (by omega)];rfl
 cases hy:xp[j]? with
 |none=>
  have k2:=List.getElem?_eq_none_iff.1 hy
  have k1:=Ai k2
  have hr:canF ⟨⟨pc,pa⟩,pf⟩ f l=A9w ⟨⟨pc,pa⟩,pf⟩ l xp j:=by
   unfold canF A9w;dsimp only;rw[hJ2,List.take_of_length_le k2]
  simp only[seval,go_sem,k1]
  refine A1 [.fz 1000] ?_;simp only[seval,go_sem,bne,Q2,hr,hJ2,Option.isSome_some,A9m,v5]
 |some v=>
 have hlt2:=(List.getElem?_eq_some_iff.1 hy).1
 have k1:=Ah hlt2
 have hjl:(j:Int)<(xp.length:Int):=by omega
 have hv:=A06 hy
 have hln:(A9w ⟨⟨pc,pa⟩,pf⟩ l xp j).length=j:=by simp[A9w];omega
 have ht:(A9w ⟨⟨pc,pa⟩,pf⟩ l xp (j+1)).map A9q=(A9w ⟨⟨pc,pa⟩,pf⟩ l xp j).map A9q++[[.d (.sl IQ ((A7t ⟨⟨pc,pa⟩,pf⟩ l v).map Va.r))]]:=by
  unfold A9w;rw[List.take_add_one,hy];simp[A9q]
 obtain⟨vs,vp⟩:=v
 cases vp with
 |true=>
  have hcv:A7t ⟨⟨pc,pa⟩,pf⟩ l ⟨vs,true⟩=A7s ⟨⟨pc,pa⟩,pf⟩:=rfl
  rw[hcv]at ht
  simp only[seval,go_sem,k1,hv,Vr.r,w2]
  refine⟨⟨hjl,rfl⟩,⟨⟨rfl,.inl rfl⟩,(λq h=>by cases h;rfl),B0x _,(by decide),(by omega),(by omega)⟩,j+1,hlt2,(by omega),BU (t:=⟨[(10,true,.one (.d (.sl IQ ((A7s ⟨⟨pc,pa⟩,pf⟩).map Va.r)))),(11,true,.one (.d (.sl IQ ((A4b l).map Va.r)))),(12,true,.one (.s 42)),(31,true,.one (.d (.sl zVr (xp.map Vr.r)))),(32,true,.one (.v (.int .i64 (xp.length:Int)))),(33,true,.one (.v (.int .i64 (((j+1:Nat):Int)))))],[(42,.vec 0 A9m ((A9w ⟨⟨pc,pa⟩,pf⟩ l xp (j+1)).map A9q))]⟩) ?_ ?_⟩
  .exact AAS
  refine A2 [.mv 42 1000] ?_;simp only[seval,go_sem]
 |false=>
 have hcv:A7t ⟨⟨pc,pa⟩,pf⟩ l ⟨vs,false⟩=A4b l:=rfl
 rw[hcv]at ht
 simp only[seval,go_sem,k1,hv,Vr.r,w2]
 refine⟨⟨hjl,rfl⟩,⟨⟨rfl,.inl rfl⟩,(λq h=>by cases h;rfl),B0x _,(by decide),(by omega),(by omega)⟩,j+1,hlt2,(by omega),BU (t:=⟨[(10,true,.one (.d (.sl IQ ((A7s ⟨⟨pc,pa⟩,pf⟩).map Va.r)))),(11,true,.one (.d (.sl IQ ((A4b l).map Va.r)))),(12,true,.one (.s 46)),(31,true,.one (.d (.sl zVr (xp.map Vr.r)))),(32,true,.one (.v (.int .i64 (xp.length:Int)))),(33,true,.one (.v (.int .i64 (((j+1:Nat):Int)))))],[(46,.vec 0 A9m ((A9w ⟨⟨pc,pa⟩,pf⟩ l xp (j+1)).map A9q))]⟩) ?_ ?_⟩
 .exact AAS
 refine A2 [.mv 46 1000] ?_;simp only[seval,go_sem]
noncomputable def kG{X:Ctx}{w0:World}:Sy.Spec Tryz.prog X w0:=Dq 37 Tryz.call37 A9t _ _ KF2 B0U
def B03:List (List Va)->Int->Int
 |[],n=>n
 |c::r,n=>if decide (2000<=(c.length:Int))=true then 2000 else B03 r (mn (IntKind.i64.wrap (n*(c.length:Int))) 2000)
def A9n(l:List (List Va)):Int:=B03 l 1
theorem B0G{l:List (List Va)}{x:List Va}(h:l[i]?=some x)(z:List D):(l.map nF).getD i z=[.sl IQ (x.map Va.r)]:=by simp[List.getD,h,nF]
abbrev B1E(l:List (List Va)):Prop:=l.length<=1000000
abbrev A9b(l:List (List Va)):SV:=.one (.v (.int .i64 (A9n l)))
noncomputable abbrev B0E:ArgC ((List (List Va))×Unit):=(acS (cCh) ac0)
abbrev B1F:Prop:=Ca Tryz.prog 38 B0E (λp:(List (List Va))×Unit=>B1E p.1) (λp:(List (List Va))×Unit=>A9b p.1)
theorem B1U:B1F:=by
 rintro ⟨l,_u⟩ w fz xs hc hfz hl hx
 refine Bg Tryz.func38 rfl w fz [] [] B0E (λp:(List (List Va))×Unit=>A9b p.1) _ xs hfz hl hx (jN rfl) ?_
 clear hx hl hfz xs
 simp only[Tryz.f38]
 have hc:l.length<=1000000:=hc
 simp only[seval,go_sem]
 refine AC (Y:=Nat×Int) (λq=>q.1<=l.length/\A9n l=B03 (l.drop q.1) q.2)
  (λq=>⟨[(3,true,.one (.v (.int .i64 q.2))),(6,true,.one (.d (.sl v5 (l.map nF)))),(7,true,.one (.v (.int .i64 (l.length:Int)))),(8,true,.one (.v (.int .i64 (q.1:Int))))],[]⟩)
  (λq=>l.length-q.1) (0,1) ⟨Nat.zero_le _,rfl⟩ ?_ ?_
 .exact N4
 rintro ⟨i,n⟩ ⟨hi,hJ⟩
 dsimp only at hi hJ
 refine AP [] [] _ _ _ ?_
 have w1:IntKind.i64.wrap ((i:Int)+1)=((i+1:Nat):Int):=by rw[wrap_i64 (by omega) (by omega)];rfl
 cases hx:l[i]? with
 |none=>
  have g2:=List.getElem?_eq_none_iff.1 hx
  have g1:=Ai g2
  have hr:A9n l=n:=by rw[hJ,List.drop_eq_nil_of_le g2];rfl
  simp only[seval,go_sem,g1]
  refine A1 [] ?_;simp only[seval,go_sem,bne,A9b,hr]
 |some x=>
 have hlt:=(List.getElem?_eq_some_iff.1 hx).1
 have g1:=Ah hlt
 have hil:(i:Int)<(l.length:Int):=by omega
 have hz:=B0G hx
 rw[BF hx]at hJ
 cases hq:decide (2000<=(x.length:Int)) with
 |true=>
  have hr:A9n l=2000:=by rw[hJ];exact if_pos hq
  simp only[seval,go_sem,g1,hz,hq]
  refine⟨⟨hil,rfl⟩,?_⟩
  refine A1 [] ?_;simp only[seval,go_sem,bne,A9b,hr]
 |false=>
 have hJ2:A9n l=B03 (l.drop (i+1)) (mn (IntKind.i64.wrap (n*(x.length:Int))) 2000):=by rw[hJ];exact if_neg (by rw[hq];decide)
 simp only[seval,go_sem,g1,hz,hq,w1]
 refine⟨⟨hil,rfl⟩,(i+1,mn (IntKind.i64.wrap (n*(x.length:Int))) 2000),⟨hlt,hJ2⟩,(by dsimp only;omega),?_⟩
 exact N4
noncomputable def A9e{X:Ctx}{w0:World}:Sy.Spec Tryz.prog X w0:=Dq 38 Tryz.call38 B0E _ _ KF2 B1U
end
open Go Go.Sy Go.RowKit
def pkR:List (List Va)->Int->List Va×Int
 |[],n=>([],n)
 |c::r,n=>(c.getD ((pkR r n).2.tmod (c.length:Int)).toNat va0::(pkR r n).1,(pkR r n).2.tdiv (c.length:Int))
def pkF(l:List (List Va))(n:Int):List Va:=(pkR l n).1
theorem B0y:∀(l:List (List Va)) (n:Int),(∀x∈l,0<x.length)->0<=n->0<=(pkR l n).2/\(pkR l n).2<=n/\(pkR l n).1.length=l.length
 |[],n,_,h=>⟨h,Int.le_refl _,rfl⟩
 |c::r,n,h,h0=>by
  obtain⟨h1,h2,h3⟩:=B0y r n (λx hx=>h x (List.mem_cons_of_mem _ hx)) h0
  have hc:=h c (List.mem_cons_self ..)
  refine⟨?_,?_,?_⟩
  .show 0<=(pkR r n).2.tdiv _
   rw[Int.tdiv_eq_ediv_of_nonneg h1];exact Int.ediv_nonneg h1 (by omega)
  .show (pkR r n).2.tdiv _<=n
   rw[Int.tdiv_eq_ediv_of_nonneg h1]
   have:=Int.ediv_le_self (c.length:Int) h1
   omega
  show ((pkR r n).1.length+1)=_
  rw[h3];rfl
theorem B1d{l:List Va}(h:i<l.length)(z:List D):(l.map Va.r).getD i z=(l.getD i va0).r:=by simp[List.getD,h]
theorem B1e{k:Nat}{z:List C}{T:List (List C)}{r:List C}:(List.replicate (k+1) z++T).set k r=List.replicate k z++r::T:=by
 rw[List.replicate_succ',List.append_assoc,List.set_append_right _ _ (by simp),List.length_replicate,Nat.sub_self];rfl
theorem B0z{k:Nat}{z d:List C}{T:List (List C)}:(List.replicate (k+1) z++T).getD k d=z:=by
 rw[List.getD_eq_getElem?_getD,List.getElem?_append_left (by simp)];simp
theorem B1L(k:Nat):List.flatMap (λr=>List.flatMap C.names r) (List.replicate k [C.v (.bool false),C.v (.int .i64 0),C.v (.string (bs []))])=[]:=List.flatMap_eq_nil_iff.2 λp hp=>by
 rw[List.eq_of_mem_replicate hp];rfl
theorem B1p(k a b:Nat):(List.replicate k [C.v (.bool false),C.v (.int .i64 0),C.v (.string (bs []))]).map (λr=>r.map (mvC a b))=List.replicate k [C.v (.bool false),C.v (.int .i64 0),C.v (.string (bs []))]:=by rw[List.map_replicate];rfl
abbrev B0d(l:List (List Va))(n:Int):Prop:=l.length<=5000/\(∀x∈l,0<x.length/\x.length<=1000000000)/\0<=n/\n<=1000000
abbrev A9h(l:List (List Va))(n:Int):SV:=.one (.d (.sl IQ ((pkF l n).map Va.r)))
noncomputable abbrev B0K:ArgC ((List (List Va))×(Int)×Unit):=(acS (cCh) (acS (cInt .i64) ac0))
abbrev B1V:Prop:=Ca Tryz.prog 39 B0K (λp:(List (List Va))×(Int)×Unit=>B0d p.1 p.2.1) (λp:(List (List Va))×(Int)×Unit=>A9h p.1 p.2.1)
attribute [local go_sem] Va.c Va.r B0o B0n kR ZS Jb
theorem B1f:B1V:=by
 rintro ⟨l,n,_u⟩ w fz xs hc hfz hl hx
 refine Bg Tryz.func39 rfl w fz [] [] B0K (λp:(List (List Va))×(Int)×Unit=>A9h p.1 p.2.1) _ xs hfz hl hx (jN rfl) ?_
 clear hx hl hfz xs
 simp only[Tryz.f39]
 obtain⟨h1,h2,h3,h4⟩:=hc
 dsimp only at h1 h2 h3 h4
 have w0:IntKind.i64.wrap ((l.length:Int)-1)=(l.length:Int)-1:=wrap_i64 (by omega) (by omega)
 simp only[seval,go_sem,w0]
 refine⟨⟨(by omega),(by omega)⟩,?_⟩
 refine AC (Y:=Nat) (λkk=>kk<=l.length)
  (λkk=>⟨[(0,true,.one (.d (.sl v5 (l.map nF)))),(1,true,.one (.v (.int .i64 (pkR (l.drop kk) n).2))),(5,true,.one (.s 1000)),(6,true,.one (.v (.int .i64 ((kk:Int)-1))))],
   [(1000,.vec 0 GA (List.replicate kk [C.v (.bool false),C.v (.int .i64 0),C.v (.string (bs []))]++(pkR (l.drop kk) n).1.map Va.c))]⟩)
  (λkk=>kk) l.length (Nat.le_refl _) ?_ ?_
 .refine A2 [.mv 9 1000] ?_;simp only[seval,go_sem,GA,List.drop_length,pkR,B1L,B1p]
 rintro kk hk
 refine AP [] [] _ _ _ ?_
 cases kk with
 |zero=>
  have e0:decide ((0:Int)<=((0:Nat):Int)-1)=false:=by decide
  simp only[seval,go_sem,e0,List.replicate_zero]
  refine A1 [.fz 1000] ?_;simp only[seval,go_sem,bne,A9h,pkF,GA]
 |succ k=>
 have e1:((k+1:Nat):Int)-1=(k:Int):=by omega
 have e2:decide ((0:Int)<=(k:Int))=true:=by simp
 have w4:IntKind.i64.wrap ((k:Int)-1)=(k:Int)-1:=wrap_i64 (by omega) (by omega)
 have hkl:(k:Int)<(l.length:Int):=by omega
 have hq0:l[k]?=some (l.getD k []):=by rw[List.getD,List.getElem?_eq_getElem hk];rfl
 generalize l.getD k []=x at hq0
 have hz:=B0G hq0
 obtain⟨hx0,hx1⟩:=h2 x (List.mem_of_getElem? hq0)
 obtain⟨r1,r2,r3⟩:=B0y (l.drop (k+1)) n (λy hy=>(h2 y (List.mem_of_mem_drop hy)).1) h3
 have hd:pkR (l.drop k) n=(x.getD ((pkR (l.drop (k+1)) n).2.tmod (x.length:Int)).toNat va0::(pkR (l.drop (k+1)) n).1,(pkR (l.drop (k+1)) n).2.tdiv (x.length:Int)):=by rw[BF hq0];rfl
 generalize hT:(pkR (l.drop (k+1)) n).1=T at*
 generalize hM:(pkR (l.drop (k+1)) n).2=M at*
 have m1:0<=M.tmod (x.length:Int):=by rw[Int.tmod_eq_emod_of_nonneg r1];exact Int.emod_nonneg _ (by omega)
 have m2:M.tmod (x.length:Int)<(x.length:Int):=by rw[Int.tmod_eq_emod_of_nonneg r1];exact Int.emod_lt_of_pos _ (by omega)
 have m3:(M.tmod (x.length:Int)).toNat<x.length:=by omega
 have hvz:=B1d m3
 have d1:IntKind.i64.wrap (M.tdiv (x.length:Int))=M.tdiv (x.length:Int):=by
  rw[Int.tdiv_eq_ediv_of_nonneg r1]
  have:=Int.ediv_le_self (x.length:Int) r1
  have:=Int.ediv_nonneg r1 (show (0:Int)<=(x.length:Int) by omega)
  exact wrap_i64 (by omega) (by omega)
 have hlen:k<(List.replicate (k+1) [C.v (.bool false),C.v (.int .i64 0),C.v (.string (bs []))]++T.map Va.c).length:=by simp;omega
 simp only[seval,go_sem,e1,e2,w4,hz,hvz,d1,B1e,B0z]
 refine⟨⟨hkl,rfl⟩,⟨hkl,rfl⟩,(by omega),⟨m1,m2⟩,⟨(by omega),rfl⟩,⟨hlen,(by decide)⟩,Bn (by kernel_rfl),⟨hkl,rfl⟩,(by omega),k,Nat.le_of_lt hk,Nat.lt_succ_self k,?_⟩
 refine A2 [] ?_;simp only[seval,go_sem,hd,B1L,B0z,List.flatMap_append]
noncomputable def A9l{X:Ctx}{w0:World}:Sy.Spec Tryz.prog X w0:=Dq 39 Tryz.call39 B0K _ _ KF2 B1f
end Go.Proofs.YtapedeoheilnnaaGreat
