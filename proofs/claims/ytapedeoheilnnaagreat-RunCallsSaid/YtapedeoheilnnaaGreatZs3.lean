/- The program's machine and the document's: runs come to the same. Plain. No conditions but those in each statement. -/
import Derived.Test.YtapedeoheilnnaaGreatZs2
import Derived.Test.YtapedeoheilnnaaGreatRmn
import Derived.Test.YtapedeoheilnnaaGreatZrb
import Derived.Test.YtapedeoheilnnaaGreatMk5
import Derived.Test.YtapedeoheilnnaaGreatPa9
import Derived.Test.YtapedeoheilnnaaGreatCo
set_option linter.all false
open Nat (le_max_right zero_le)
open List (length_append length_cons length_nil mem_append mem_cons_of_mem mem_cons mem_map)
namespace Go.Proofs.YtapedeoheilnnaaGreat
open Go Go.Sy Go.RowKit
theorem wX{P:Prop}(h:P:=by
 dsimp only
 rw[if_neg (by decide)]
 exact EL h s j):P:=h
theorem AAN{P:Prop}(h:P:=by exact⟨Ni (by decide),by decide,by decide,by decide⟩):P:=h
theorem ABL{P:Prop}(h:P:=by exact ID _ _ _ _ _ _ [] _ (zero_le _)):P:=h
variable{n m:Nat}{p:Pr}{st:Pr->R Sm}{sz:Sm->Rz->Rz}{l:List (List Int)}{u:Un}
structure tyT(f:Fn)(s:Sm):Prop where
 y:tyS f s
 t:∃m,tyB f m s.th
 e:∃m,tyB f m s.el
theorem Ze{f:Fn}{l:List Sm}{s:Sm}(h:tyB f m l)(hs:s∈l):tyT f s:=by
 cases m with
 |zero=>exact h.elim
 |succ m=>obtain⟨a,b,c⟩:=h s hs;exact⟨a,⟨m,b⟩,⟨m,c⟩⟩
theorem xk{st:Sm->Rz->Rz}{q:Rz}(h:q.m.on=false):∀l,blZ st l q=q
 |[]=>rfl
 |s::l=>by simp only[blZ];rw[if_neg (by rw[h];decide)]
theorem Out.off{f:Fn}{o:Ro}{r:Rz}(h:Out f o r)(hb:o.b=true∨o.t=true):r.m.on=false:=by
 rcases h with h|h|h
 .exact h.2.off
 .unfold Ms.on;rw[h.2.2.e];rfl
 simp_all
def cK(n:Nat)(st:Sm->Fa->Ro)(sz:Sm->Rz->Rz):Prop:=∀(f:Fn) (s:Sm) (q:Fa) (r:Rz),Ii q.P->tyT f s->Sim f q r->q.m.fuel<n->Out f (st s q) (sz s r)
theorem Sw{st:Sm->Fa->Ro}(hk:KqS st)(hs:cK n st sz):∀(l:List Sm) (f:Fn) (q:Fa) (r:Rz),Ii q.P->(∀s∈l,tyT f s)->Sim f q r->q.m.fuel<n->Out f (blF st l q) (blZ sz l r)
 |[],f,q,r,_,_,h,_=>Io h
 |s::l,f,q,r,hP,ht,h,hn=>by
  have ho:=hs f s q r hP (ht s (List.mem_cons_self ..)) h hn
  have k:=hk s q h.l h.u
  simp only[blF,blZ]
  rw[if_pos h.M.on]
  by_cases hb:(st s q).b=true∨(st s q).t=true
  .rw[if_pos hb,xk (ho.off hb)];exact ho
  rw[if_neg hb]
  rcases ho with ho|ho|ho
  .simp_all
  .simp_all
  exact Sw hk hs l f _ _ (by rw[k.P];exact hP) (λs' hs'=>ht s' (mem_cons_of_mem _ hs')) ho.2.2 (by have:=k.u;omega)
theorem Sim.with{f:Fn}{q:Fa}{r:Rz}(h:Sim f q r){m m':Ms}(hM:Mq q.P m m')(hl:0<=m.fuel)(hu:m.fuel<=1000000000):Sim f { q with m:=m } { r with m:=m' }:=⟨hM,h.P,h.rf,h.nm,h.rt,hl,hu,h.v⟩
theorem ez{f:Fn}{q:Fa}{r:Rz}(h:Sim f q r):(q.m.out=true/\r.m.zspd.on=false/\Pq q.m.exh r.m.zspd)∨(q.m.out=false/\r.m.zspd.on=true/\Sim f { q with m:=q.m.spd } { r with m:=r.m.zspd }/\q.m.spd.fuel=q.m.fuel-1):=by
 have hon:=h.M.on
 have he:r.m.e=0:=eq_of_beq (show (r.m.e==0)=true from hon)
 by_cases hf:q.m.fuel<1
 .left
  have hz:r.m.zspd.e=3:=if_pos ⟨hon,by rw[h.M.fu];exact hf⟩
  exact⟨decide_eq_true hf,by unfold Ms.on;rw[hz];rfl,h.M.cs,h.M.ar,.inr ⟨rfl,hz,rfl,rfl,rfl,rfl⟩⟩
 right
 have ho:q.m.out=false:=decide_eq_false hf
 obtain⟨k1,k2⟩:=ff ho h.l h.u
 have hz:r.m.zspd.e=0:=by rw[<- he];exact if_neg (λhh=>hf (by rw[<- h.M.fu];exact hh.2))
 have hz2:r.m.zspd.on=true:=by unfold Ms.on;rw[hz];rfl
 exact⟨ho,hz2,h.with ⟨h.M.cs,h.M.ar,by show w64i (r.m.fuel-1)=w64i (q.m.fuel-1);rw[h.M.fu],h.M.dp,hz2,h.M.nc,h.M.na⟩ (by omega) (by have:=h.u;omega),k1⟩
theorem A2h{f:Fn}{q:Fa}{r:Rz}(h:Sim f q r)(s:Sm)(k:Int){m:Ms}(hm:m=r.m.zfail r.f.name s.no k):Out f (q.brk s k) { r with m:=m }:=by rw[hm];exact EL h s k
section
variable {f:Fn}{s:Sm}{q:Fa}{r:Rz}
theorem UK(h:Sim f q r){e:Ex}(he:exY f e)(al:Int):(∃v,evF q.P q.m q.vs e= .ok v/\evZ r.f.name al r.is e r.m=(v,r.m))∨∃k,evF q.P q.m q.vs e= .no k/\evZ r.f.name al r.is e r.m=(0,r.m.zfail r.f.name al k):=by
 have hs:=Ow (nm:=r.f.name) (al:=al) h.M h.v e he.1 he.2
 cases hv:evF q.P q.m q.vs e with
 |ok v=>rw[hv]at hs;exact .inl ⟨v,rfl,hs⟩
 |no k=>rw[hv]at hs;exact .inr ⟨k,rfl,hs⟩
theorem iQ(h:Sim f q r){c:Cd}(hc:cdY f c)(al:Int):(∃v,cdF q.P q.m q.vs c= .ok v/\cdZ r.f.name al r.is r.ps c r.m=(v,r.m))∨∃k b,cdF q.P q.m q.vs c= .no k/\cdZ r.f.name al r.is r.ps c r.m=(b,r.m.zfail r.f.name al k):=by
 have hs:=Qr (nm:=r.f.name) (al:=al) h.M h.v c hc.1 hc.2
 cases hv:cdF q.P q.m q.vs c with
 |ok v=>rw[hv]at hs;exact .inl ⟨v,rfl,hs⟩
 |no k=>
 rw[hv]at hs
 have hs:(cdZ r.f.name al r.is r.ps c r.m).2=_:=hs
 exact .inr ⟨k,(cdZ r.f.name al r.is r.ps c r.m).1,rfl,by rw[<- hs]⟩
theorem mH(h:r.m.on=false)(al:Int)(x:List UInt8)(v:Int):seZ r al x v=r:=by unfold seZ;rw[if_pos h]
theorem A2i(h:r.m.on=false)(al:Int)(x:List UInt8):thZ r al x=(-1,r.m):=by unfold thZ;rw[if_pos h]
theorem cL(h:r.m.on=false)(al:Int)(x:List UInt8)(i:Int):idZ r al x i=((-1,-1),r.m):=by unfold idZ;rw[if_pos h]
end
theorem mJ{bl:Fa->Ro}{bz:Rz->Rz}{f:Fn}{s:Sm}(hc:cdY f s.cd)(hk:∀q,0<=q.m.fuel->q.m.fuel<=1000000000->Kq q (bl q).q)
  (hb:∀q r,Ii q.P->Sim f q r->q.m.fuel<n->Out f (bl q) (bz r)):∀(k:Nat) (q:Fa) (r:Rz),Ii q.P->Sim f q r->q.m.fuel<n+1->q.m.fuel<k->Out f (lpF bl s k q) (lpZ bz s k r)
 |0,q,r,_,h,_,hk0=>by have:=h.l;omega
 |k+1,q,r,hP,h,hn,hk0=>by
  rcases ez h with⟨h1,h2,h3⟩|⟨h1,h2,h3,h4⟩
  .rw[je h1,m9 h2];exact .inl ⟨rfl,h3⟩
  rw[qy h1]
  rcases iQ h3 hc s.no with⟨v,e1,e2⟩|⟨j,b,e1,e2⟩
  .have e1:cdF q.P q.m.spd q.vs s.cd= .ok v:=e1
   have e2:cdZ r.f.name s.no r.is r.ps s.cd r.m.zspd=(v,r.m.zspd):=e2
   rw[e1]
   cases v with
   |false=>
    rw[iP h2 e2]
    exact Io h3
   |true=>
   rw[sK h2 e2 h2 rfl]
   dsimp only
   have hO:=hb { q with m:=q.m.spd } { r with m:=r.m.zspd } hP h3 (by show q.m.spd.fuel<_;omega)
   have kq:=hk { q with m:=q.m.spd } h3.l h3.u
   by_cases hbt:(bl { q with m:=q.m.spd }).b=true∨(bl { q with m:=q.m.spd }).t=true
   .rw[if_pos hbt,if_pos (hO.off hbt)];exact hO
   rw[if_neg hbt]
   rcases hO with hO|hO|hO
   .simp_all
   .simp_all
   have hS:=hO.2.2
   have hu:(bl { q with m:=q.m.spd }).q.m.fuel<=q.m.spd.fuel:=kq.u
   rw[if_neg (by rw[hS.M.on];decide)]
   exact mJ hc hk hb k _ _ (by rw[kq.P];exact hP) hS (by omega) (by omega)
  have e1:cdF q.P q.m.spd q.vs s.cd= .no j:=e1
  have e2:cdZ r.f.name s.no r.is r.ps s.cd r.m.zspd=(b,r.m.zspd.zfail r.f.name s.no j):=e2
  have ho:(r.m.zspd.zfail r.f.name s.no j).on=false:=K5 _ _ _ _ h2
  rw[e1]
  dsimp only
  cases b with
  |false=>rw[iP h2 e2];exact EL h3 s j
  |true=>rw[mD h2 e2 ho];exact EL h3 s j
structure Cq(P:Pg)(x:Bool×Int×Ms)(y:Int×Ms):Prop where
 b:x.1=true->Pq x.2.2 y.2
 g:x.1=false->y.1=x.2.1/\Mq P x.2.2 y.2
theorem fA{st:Sm->Fa->Ro}(hk:KqS st)(hs:cK n st sz)(P:Pg)(g:Fn)(va:List Va)(m r:Ms)(hP:Ii P)(hg:goodF g)(hf:Dw g.ps va=true)(hv:∀a∈va,poV P a)(hM:Mq P m r)(h0:0<=m.fuel)(h1:m.fuel<=1000000000)(hn:m.fuel<n):Cq P (IX st P g va m) (enZ sz P g va r):=by
 by_cases hd:200<=m.deep
 .rw[dj hd,ek hM.on (by rw[hM.dp];exact hd)]
  exact⟨λ_=>⟨hM.cs,hM.ar,.inr ⟨rfl,rfl,rfl,rfl,rfl,rfl⟩⟩,λh=>by cases h⟩
 obtain⟨mb,hb⟩:=hg.b
 have hS:Sim g ⟨g.name,0,P,{ m with deep:=w64i (m.deep+1) },vsP g.ps va (vsL g.ls [])⟩ ⟨P,{ r with deep:=w64i (r.deep+1) },g,isP g.ps va (isL g.ls []),psP' g.ps va (psL' g.ls [])⟩:=
  ⟨⟨hM.cs,hM.ar,hM.fu,by show w64i (r.deep+1)=w64i (m.deep+1);rw[hM.dp],hM.on,hM.nc,hM.na⟩,rfl,rfl,rfl,rfl,h0,h1,A6m hg hf hv⟩
 have hO:=Sw hk hs g.body g _ _ hP (λs h=>Ze hb h) hS hn
 have kq:=N2 hk g.body ⟨g.name,0,P,{ m with deep:=w64i (m.deep+1) },vsP g.ps va (vsL g.ls [])⟩ h0 h1
 have kP:(blF st g.body ⟨g.name,0,P,{ m with deep:=w64i (m.deep+1) },vsP g.ps va (vsL g.ls [])⟩).q.P=P:=kq.P
 obtain⟨o,ho⟩:∃o,blF st g.body ⟨g.name,0,P,{ m with deep:=w64i (m.deep+1) },vsP g.ps va (vsL g.ls [])⟩=o:=⟨_,rfl⟩
 obtain⟨z,hz⟩:∃z,blZ sz g.body ⟨P,{ r with deep:=w64i (r.deep+1) },g,isP g.ps va (isL g.ls []),psP' g.ps va (psL' g.ls [])⟩=z:=⟨_,rfl⟩
 rw[jf hd ho,sG hM.on (by rw[hM.dp];exact hd) hz]
 rw[ho]at hO kP
 rw[hz]at hO
 rcases hO with⟨hb1,hO⟩|⟨hb1,ht,hO⟩|⟨hb1,ht,hO⟩
 .rw[if_pos hb1]
  have he:¬(z.m.e==1)=true:=by
   rw[beq_iff_eq]
   rcases hO.e with h|h
   .omega
   omega
  rw[if_neg he]
  exact⟨λ_=>⟨hO.cs,hO.ar,hO.e⟩,λh=>by cases h⟩
 .rw[if_neg (by rw[hb1];decide),if_pos (by rw[hO.e];rfl)]
  refine⟨λh=>(by cases h),λ_=>⟨hO.v,⟨hO.cs,hO.ar,hO.fu,by show w64i (z.m.deep-1)=w64i (o.q.m.deep-1);rw[hO.dp],rfl,?_,?_⟩⟩⟩
  .rw[<- kP];exact hO.P.1.symm
  rw[<- kP];exact hO.P.2.symm
 rw[if_neg (by rw[hb1];decide),if_neg (by rw[show z.m.e=0 from eq_of_beq (show (z.m.e==0)=true from hO.M.on)];decide)]
 refine⟨λh=>(by cases h),λ_=>⟨hO.rt.symm,⟨hO.M.cs,hO.M.ar,hO.M.fu,by show w64i (z.m.deep-1)=w64i (o.q.m.deep-1);rw[hO.M.dp],hO.M.on,?_,?_⟩⟩⟩
 .rw[<- kP];exact hO.M.nc
 rw[<- kP];exact hO.M.na
theorem fB(s:List UInt8):∀l:List Fn,(idx s (l.map Fn.name)=none/\fnG s l=none)∨∃j g,idx s (l.map Fn.name)=some j/\fnG s l=some g/\l[j]?=some g
 |[]=>.inl ⟨rfl,rfl⟩
 |x::r=>by
  simp only[List.map_cons,idx,fnG]
  by_cases h:(x.name==s)=true
  .simp_all
  rw[if_neg h,if_neg h]
  rcases fB s r with⟨a,b⟩|⟨j,g,a,b,c⟩
  .simp_all
  simp_all
theorem mK(P:Pg)(s:List UInt8):(P.fi s=none/\fnG s P.fs=none)∨∃i:Int,∃g,P.fi s=some i/\fnG s P.fs=some g/\P.fs.getD i.toNat ⟨[],[],[],[]⟩=g/\g∈P.fs:=by
 unfold Pg.fi
 rw[SW]
 rcases fB s P.fs with⟨a,b⟩|⟨j,g,a,b,c⟩
 .simp_all
 grind
theorem Out.ite{f:Fn}{c:Prop}[Decidable c]{a b:Ro}{x y:Rz}(h1:c->Out f a x)(h2:¬c->Out f b y):Out f (if c then a else b) (if c then x else y):=by grind
theorem A2j{st:Sm->Fa->Ro}(hk:KqS st)(hs:cK n st sz){f:Fn}{s:Sm}{q:Fa}{r:Rz}(hP:Ii q.P)(hx:s.x=[]∨AK f s.x≠2)(ha:∀a∈s.ar,(a.p=true->AK f a.s=2)/\(a.p=false->exY f a.e))(h:Sim f q r)(hn:q.m.fuel<n):Out f (GQ st s q) (caZ sz s r):=by
 have fP:=h.P
 rcases mE h s.no s.ar ha with⟨va,e1,e2,e3⟩|⟨k,e1,e2⟩
 .rcases mK q.P s.y with⟨g1,g2⟩|⟨i,g,g1,g2,g3,g4⟩
  .rw[qz e1 g1,eo e2 h.M.on (by rw[fP];exact g2)]
   exact EL h s 4
  have g2':fnG s.y r.P.fs=some g:=by rw[fP];exact g2
  cases hf:Dw g.ps va with
  |false=>rw[rC e1 g1 g3 hf,ep e2 h.M.on g2' hf];exact EL h s 4
  |true=>
  have hc:=fA hk hs q.P g va q.m r.m hP (hP g g4) hf e3 h.M h.l h.u hn
  have kc:=Vn hk q g va h.l h.u
  obtain⟨x,hx1⟩:∃x,IX st q.P g va q.m=x:=⟨_,rfl⟩
  obtain⟨y,hy1⟩:∃y,enZ sz q.P g va r.m=y:=⟨_,rfl⟩
  rw[hx1]at hc kc
  rw[hy1]at hc
  obtain⟨yv,ym⟩:=y
  have hy2:enZ sz r.P g va r.m=(yv,ym):=by rw[fP];exact hy1
  rw[rD e1 g1 g3 hf,hx1,sJ e2 h.M.on g2' hf hy2]
  obtain⟨xb,xv,xm⟩:=x
  cases xb with
  |true=>
   have hp:Pq xm ym:=hc.b rfl
   have hq:RO s q (true,xv,xm)=⟨true,false,{ q with m:=xm }⟩:=if_pos rfl
   rw[hq]
   split
   .exact .inl ⟨rfl,hp⟩
   rw[mH hp.off]
   exact .inl ⟨rfl,hp⟩
  |false=>
  obtain⟨hv,hM⟩:=hc.g rfl
  have hv:yv=xv:=hv
  have hM:Mq q.P xm ym:=hM
  have hu:xm.fuel<=q.m.fuel:=kc.u
  have hS:Sim f { q with m:=xm } { r with m:=ym }:=h.with hM kc.l (by have:=h.u;omega)
  have hq:RO s q (false,xv,xm)=if (s.x==[])=true then Fa.go { q with m:=xm } else Fk { q with m:=xm } s xv:=if_neg (λh=>(by cases h))
  rw[hq,hv]
  refine Out.ite (λ_=>Io hS) λh0=>UJ hS s xv ?_
  rcases hx with hx|hx
  .simp_all
  exact hx
 have ho:(agZ r.f.name s.no r.is r.ps s.ar r.m).2.on=false:=by rw[e2];exact K5 _ _ _ _ h.M.on
 rw[jg e1,m7 (l:=(agZ r.f.name s.no r.is r.ps s.ar r.m).1) rfl ho]
 exact A2h h s k e2
theorem A2k{st:Sm->Fa->Ro}(hk:KqS st)(hs:cK n st sz){f:Fn}{s:Sm}{q:Fa}{r:Rz}(hP:Ii q.P)(ht:tyT f s)(h:Sim f q r)(hn:q.m.fuel<n):Out f (smF st s q) (smZ sz s r):=by
 have hoff:∀k,(r.m.zfail r.f.name s.no k).on=false:=λk=>K5 _ _ _ _ h.M.on
 obtain⟨mt,hth⟩:=ht.t
 obtain⟨me,hel⟩:=ht.e
 unfold smF smZ
 refine Out.ite (λk=>?_) λn0=>Out.ite (λk=>?_) λn1=>Out.ite (λk=>?_) λn2=>Out.ite (λk=>?_) λn3=>Out.ite (λk=>?_) λn4=>Out.ite (λk=>?_) λn5=>Out.ite (λk=>?_) λn6=>Out.ite (λk=>?_) λn7=>Out.ite (λk=>?_) λn8=>Out.ite (λk=>?_) λn9=>Out.ite (λk=>?_) λn10=>Out.ite (λk=>?_) λn12=>?_
 .obtain⟨hx,he⟩:=ht.y.k0 k
  rcases UK h he s.no with⟨v,e1,e2⟩|⟨j,e1,e2⟩
  .rw[e1,e2];exact UJ h s v hx
  rw[e1,e2]
  dsimp only
  rw[mH (hoff j)]
  exact EL h s j
 .have hx:=ht.y.k1 k
  rcases h.M.ci s.y with⟨e1,e2⟩|⟨i,e1,e2,e3⟩
  .rw[e1,e2,if_pos (by decide)];exact EL h s 4
  rw[e1,e2,if_neg (by omega)]
  exact Io ⟨h.M,h.P,h.rf,h.nm,h.rt,h.l,h.u,YF hx (.inr (by rw[e1];rfl)) h.v⟩
 .obtain⟨hx,hy⟩:=ht.y.k2 k
  obtain⟨t,g1,g2,g3⟩:=YG h hy
  rw[g1,g2]
  exact Io ⟨h.M,h.P,h.rf,h.nm,h.rt,h.l,h.u,YF hx g3 h.v⟩
 .have hx:=ht.y.k3 k
  exact Io ⟨h.M,h.P,h.rf,h.nm,h.rt,h.l,h.u,YF hx (.inl rfl) h.v⟩
 .obtain⟨hx,hy⟩:=ht.y.k4 k
  rcases er h hy s.no with⟨i,e1,e2,e3⟩|⟨j,e1,e2⟩
  .rw[e1,e2]
   dsimp only
   rw[if_pos e3,h.M.cell]
   exact UJ h s _ hx
  rw[e1,e2]
  exact wX
 .obtain⟨hx,he⟩:=ht.y.k5 k
  rcases UK h he s.no with⟨v,e1,e2⟩|⟨j,e1,e2⟩
  .rw[e1,e2]
   dsimp only
   rcases er h hx s.no with⟨i,d1,d2,d3⟩|⟨j,d1,d2⟩
   .rw[d1,show thZ { r with m:=r.m } s.no s.x=(i,r.m) from d2]
    dsimp only
    rw[if_pos d3]
    exact Io ⟨h.M.set i v,h.P,h.rf,h.nm,h.rt,h.l,h.u,h.v⟩
   rw[d1,show thZ { r with m:=r.m } s.no s.x=(-1,r.m.zfail r.f.name s.no j) from d2]
   exact wX
  rw[e1,e2]
  dsimp only
  rw[A2i (hoff j)]
  exact wX
 .obtain⟨hx,he⟩:=ht.y.k6 k
  rcases UK h he s.no with⟨v,e1,e2⟩|⟨j,e1,e2⟩
  .rw[e1,e2]
   dsimp only
   rcases eu h s v s.no with⟨i,d1,d2,d3⟩|⟨j,d1,d2⟩
   .rw[d1,show idZ { r with m:=r.m } s.no s.y v=((i,v),r.m) from d2]
    dsimp only
    rw[if_pos d3,h.M.arr]
    exact UJ h s _ hx
   rw[d1,show idZ { r with m:=r.m } s.no s.y v=((-1,-1),r.m.zfail r.f.name s.no j) from d2]
   exact wX
  rw[e1,e2]
  dsimp only
  rw[cL (hoff j)]
  exact wX
 .obtain⟨he,hf⟩:=ht.y.k7 k
  rcases UK h he s.no with⟨v,e1,e2⟩|⟨j,e1,e2⟩
  .rw[e1,e2]
   dsimp only
   rcases UK h hf s.no with⟨u,c1,c2⟩|⟨j,c1,c2⟩
   .rw[c1,c2]
    dsimp only
    rcases eu h s v s.no with⟨i,d1,d2,d3⟩|⟨j,d1,d2⟩
    .rw[d1,show idZ { r with m:=r.m } s.no s.y v=((i,v),r.m) from d2]
     dsimp only
     rw[if_pos d3]
     exact Io ⟨h.M.put i v u,h.P,h.rf,h.nm,h.rt,h.l,h.u,h.v⟩
    rw[d1,show idZ { r with m:=r.m } s.no s.y v=((-1,-1),r.m.zfail r.f.name s.no j) from d2]
    exact wX
   rw[c1,c2]
   dsimp only
   rw[cL (hoff j)]
   exact wX
  rw[e1,e2]
  dsimp only
  rw[UI (hoff j)]
  dsimp only
  rw[cL (hoff j)]
  exact wX
 .obtain⟨hx,ha⟩:=ht.y.k8 k
  exact A2j hk hs hP hx ha h hn
 .have he:=ht.y.k9 k
  rcases UK h he s.no with⟨v,e1,e2⟩|⟨j,e1,e2⟩
  .rw[e1,e2]
   dsimp only
   rw[if_pos h.M.on]
   exact .inr (.inl ⟨rfl,rfl,h.M.cs,h.M.ar,h.M.fu,h.M.dp,rfl,rfl,h.M.nc.symm,h.M.na.symm⟩)
  rw[e1,e2]
  dsimp only
  rw[if_neg (by rw[hoff j];decide)]
  exact EL h s j
 .have hc:=ht.y.kc (.inl k)
  rcases iQ h hc s.no with⟨v,e1,e2⟩|⟨j,b,e1,e2⟩
  .rw[e1,e2]
   dsimp only
   rw[if_neg (by rw[h.M.on];decide)]
   cases v with
   |true=>exact Sw hk hs s.th f q r hP (λs' h'=>Ze hth h') h hn
   |false=>exact Sw hk hs s.el f q r hP (λs' h'=>Ze hel h') h hn
  rw[e1,e2]
  dsimp only
  rw[if_pos (hoff j)]
  exact EL h s j
 .have hc:=ht.y.kc (.inr (.inr k))
  rcases iQ h hc s.no with⟨v,e1,e2⟩|⟨j,b,e1,e2⟩
  .rw[e1,e2]
   dsimp only
   cases v with
   |true=>exact Io h
   |false=>exact EL h s 3
  rw[e1,e2]
  dsimp only
  split
  .exact EL h s j
  rw[lw (hoff j)];exact EL h s j
 exact Io h
theorem mL:∀n,cK n (stF n) (stZ n)
 |0=>λf s q r _ _ h hn=>by have:=h.l;omega
 |n+1=>λf s q r hP ht h hn=>by
  have ih:=mL n
  obtain⟨mt,hth⟩:=ht.t
  simp only[stF,stZ]
  by_cases k:s.k=11
  .rw[if_pos k,if_pos k]
   exact mJ (n:=n) (ht.y.kc (.inr (.inl k))) (λq h0 h1=>N2 (ME n) s.th q h0 h1) (λq r hp hS hf=>Sw (ME n) ih s.th f q r hp (λs' h'=>Ze hth h') hS hf) (n+1) q r hP h (by omega) hn
  rw[if_neg k,if_neg k]
  rcases ez h with⟨h1,h2,h3⟩|⟨h1,h2,h3,h4⟩
  .rw[if_pos h1,if_pos h2];exact .inl ⟨rfl,h3⟩
  rw[if_neg (by rw[h1];decide),if_neg (by rw[h2];decide)]
  exact A2k (ME n) ih (q:={ q with m:=q.m.spd }) (r:={ r with m:=r.m.zspd }) hP ht h3 (by show q.m.spd.fuel<_;omega)
open Go Go.Sy Go.RowKit
theorem A2l{l:List Un}:∀q,some q∈[some (ML.vec zUc (l.map Un.c))]->Ka 1 q:=by
 intro q hq c hc
 simp only[mem_cons,jS,List.not_mem_nil,or_false]at hq
 subst hq
 simp only[ML.cells]at hc
 obtain⟨r,hr,hcr⟩:=List.mem_flatMap.1 hc
 obtain⟨u,_,rfl⟩:=mem_map.1 hr
 simp only[Un.c,id,mem_cons,List.not_mem_nil,or_false]at hcr
 rcases hcr with rfl|rfl<;>exact .inl rfl
section
variable {X:Ctx}{w0:World}
noncomputable def VF:Sy.Spec Tryz.prog X w0:=Dc 26 Tryz.call26 VW ZF (λ_=>false) R1 M_Un (λ_=>mlO [])
 (λp _ _=>⟨rfl,rfl,rfl,A2l⟩) (λa _ h=>by cases h) (λa _ h=>by cases h) (λ_=>rfl) tS
theorem qQ:(VF (X:=X) (w0:=w0)).f=26:=rfl
theorem qR(t:Nat)(args:List SV)(H:Hp):(VF (X:=X) (w0:=w0)).fn t args H=spL X (VW.d H args) t H ZF (λ_=>false) R1 M_Un (λ_=>mlO []):=rfl
end
theorem A2m(ρ:Nat->Nat)(l:List Un):(l.map Un.c).map (λr=>r.map (rnC ρ))=l.map Un.c:=HU Un.c (λ_=>rfl) l
theorem mM:∀l:List Un,Ph mUn.d (l.map Un.c)=some l
 |[]=>rfl
 |u::l=>by
  have h:mUn.d (Un.c u)=some u:=JG dO u
  simp only[List.map_cons,Ph,h,mM l]
theorem fC(g:Int)(l:List (List Int)):(utF g l).length<=10:=by
 have h1:=Wq l (utN l)
 have h2:utN l<=4:=by unfold utN;split<;>omega
 unfold utF
 split
 .simp only[length_append,List.length_take,length_cons,List.length_drop];omega
 simp only[jL3];omega
def sPg(m:Nat)(gl:List UInt8->List Gi)(g:Int)(l:List (List Int)):Pg:=prF m gl (utF g l)
abbrev mN(n:Nat)(m:Nat)(gl:List UInt8->List Gi)(g:Int)(l:List (List Int)):Prop:=ZF (g,l,())/\∀u∈utF g l,okUn n m gl u
abbrev cM(n:Nat)(m:Nat)(gl:List UInt8->List Gi)(g:Int)(l:List (List Int)):SV:=.agg (pqR (sPg m gl g l))
noncomputable abbrev cN:ArgC ((Int)×(List (List Int))×Unit):=(acS (cInt .u8) (acS (cBl) ac0))
abbrev mO(n:Nat)(m:Nat)(gl:List UInt8->List Gi):Prop:=Ca Tryz.prog 9 cN (λp:(Int)×(List (List Int))×Unit=>mN n m gl p.1 p.2.1) (λp:(Int)×(List (List Int))×Unit=>cM n m gl p.1 p.2.1)
noncomputable def mP{X:Ctx}{w0:World}(n:Nat)(m:Nat)(gl:List UInt8->List Gi)(h:mO n m gl):Sy.Spec Tryz.prog X w0:=Dq 9 Tryz.call9 cN _ _ KF3 h
set_option maxRecDepth 20000 in set_option maxHeartbeats 16000000 in
theorem A6n(n:Nat)(m:Nat)(gl:List UInt8->List Gi):mO n m gl:=by
 rintro ⟨g,l,_u⟩ w fz xs hc hfz hl hx
 refine Bg Tryz.func9 rfl w fz [VF,(TL n m gl (y_Prog n m gl))] [] cN (λp:(Int)×(List (List Int))×Unit=>cM n m gl p.1 p.2.1) _ xs hfz hl hx (jN rfl) ?_
 clear hx hl hfz xs
 simp only[Tryz.f9]
 obtain⟨h1,h2⟩:=hc
 simp only[seval,go_sem,qQ,qR,TL,OI,LL,LM,MU,lmH,lmO,chL,ML.ch,Cj,Ck,DH,CU,E8,nmX,xt,Di,ML.ren,rnC,E5,EE,vrQ,Ci,fcN,↓A0,ZD,ZE,Un.c,zUc,Hw,iu,LG,LF,R1,M_Un,A2m,mM,pqR]
 refine⟨h1,⟨fC g l,h2⟩,?_⟩
 refine A1 [] ?_;simp only[seval,go_sem,bne,cM,sPg,pqR]
open Go Go.Sy Go.RowKit
def n4:List (List Int):=[[],[],[],[]]
def wgl(g:Int):List UInt8->List Gi:=λ_=>glLs g
theorem OkS.mono{n':Nat}{s:Sm}(h:OkS n s)(hn:n<=n'):OkS n' s:=
 ⟨Nat.lt_of_lt_of_le h.e hn,Nat.lt_of_lt_of_le h.f hn,Nat.lt_of_lt_of_le h.c hn,λa ha=>Nat.lt_of_lt_of_le (h.a a ha) hn,h.l⟩
theorem HA{n':Nat}(hn:n<=n'):∀{m m':Nat} {l:List Sm},okB n m l->m<=m'->okB n' m' l
 |0,_,_,h,_=>h.elim
 |m+1,0,_,_,hm=>absurd hm (by omega)
 |m+1,m'+1,l,h,hm=>⟨h.1,λs hs=>by
   obtain⟨h1,h2,h3⟩:=h.2 s hs
   exact⟨h1.mono hn,HA hn h2 (by omega),HA hn h3 (by omega)⟩⟩
def HF(s:Sm):Prop:=∃n m,OkS n s/\okB n m s.th/\okB n m s.el
theorem mQ:∀l:List Ar,∃n,∀a∈l,a.e.dp<n
 |[]=>⟨0,λa h=>by cases h⟩
 |b::l=>by
  obtain⟨n,h⟩:=mQ l
  refine⟨max n (b.e.dp+1),λa ha=>?_⟩
  rcases mem_cons.1 ha with rfl|ha
  .exact Nat.lt_of_lt_of_le (Nat.lt_succ_self _) (le_max_right _ _)
  exact Nat.lt_of_lt_of_le (h a ha) (Nat.le_max_left _ _)
theorem Yx:∀l:List Sm,(∀s∈l,HF s)->∃n m,∀s∈l,OkS n s/\okB n m s.th/\okB n m s.el
 |[],_=>⟨0,0,λs h=>by cases h⟩
 |t::l,h=>by
  obtain⟨n,m,h1⟩:=Yx l λs hs=>h s (mem_cons_of_mem _ hs)
  obtain⟨n',m',a,b,c⟩:=h t (List.mem_cons_self ..)
  refine⟨max n n',max m m',λs hs=>?_⟩
  rcases mem_cons.1 hs with rfl|hs
  .exact⟨a.mono (le_max_right _ _),HA (le_max_right _ _) b (le_max_right _ _),HA (le_max_right _ _) c (le_max_right _ _)⟩
  obtain⟨a,b,c⟩:=h1 s hs
  exact⟨a.mono (Nat.le_max_left _ _),HA (Nat.le_max_left _ _) b (Nat.le_max_left _ _),HA (Nat.le_max_left _ _) c (Nat.le_max_left _ _)⟩
theorem Sx{l:List Sm}(h:∀s∈l,HF s)(hl:l.length<=5000):∃n m,okB n m l:=by
 obtain⟨n,m,h1⟩:=Yx l h
 exact⟨n,m+1,hl,h1⟩
theorem UL(k:Int)(x y:List UInt8)(e g:Ex)(cd:Cd)(ar:List Ar)(th el:List Sm)(no:Int)(ha:ar.length<=5000)(ht:th.length<=5000)(he:el.length<=5000)(h1:∀s∈th,HF s)(h2:∀s∈el,HF s):HF (.mk k x y e g cd ar th el no):=by
 obtain⟨n1,m1,b1⟩:=Sx h1 ht
 obtain⟨n2,m2,b2⟩:=Sx h2 he
 obtain⟨n3,b3⟩:=mQ ar
 refine⟨n1+n2+n3+e.dp+g.dp+cd.dp+1,m1+m2,⟨?_,?_,?_,λa h=>?_,ha⟩,HA (by omega) b1 (by omega),HA (by omega) b2 (by omega)⟩
 .show e.dp<_;omega
 .show g.dp<_;omega
 .show cd.dp<_;omega
 have:=b3 a h;omega
theorem UR{st:Pr->R Sm}(hu:∀p,okP p->Nx p (st p).2)(hg:∀p,okP p->HF (st p).1):∀(k:Nat) (l:List Sm) (p:Pr),okP p->(∀s∈l,HF s)->(∀s∈(stmtsL st k l p).1,HF s)/\(stmtsL st k l p).1.length<=l.length+k
 |0,l,p,h,hl=>⟨hl,Nat.le_refl _⟩
 |k+1,l,p,h,hl=>by
  simp only[stmtsL]
  split
  .split
   .exact⟨hl,by simp only;omega⟩
   split
   .exact⟨λs hs=>(by cases hs),zero_le _⟩
   have h1:=UR hu hg k (l++[(st p).1]) (st p).2 (hu p h).ok (λs hs=>by
    rcases List.mem_append.1 hs with hs|hs
    .exact hl s hs
    rw[List.mem_singleton.1 hs];exact hg p h)
   refine⟨h1.1,?_⟩
   have h2:=h1.2
   simp only[jL3]at h2
   omega
  exact⟨hl,by simp only;omega⟩
theorem US{st:Pr->R Sm}(hu:∀p,okP p->Nx p (st p).2)(hg:∀p,okP p->HF (st p).1){p:Pr}(h:okP p):(∀s∈(stmtsW st p).1,HF s)/\(stmtsW st p).1.length<=5000:=by
 have h1:=UR hu hg (p.l.length+1) [] p h (λs hs=>by cases hs)
 have h2:=h.2.2.1
 refine⟨h1.1,?_⟩
 have h3:=h1.2
 simp only[length_nil]at h3
 show (stmtsL st (p.l.length+1) [] p).1.length<=5000
 omega
theorem cP:∀(k:Nat) (l:List Ar) (p:Pr),(argL k l p).1.length<=l.length+k
 |0,l,p=>by simp[argL]
 |k+1,l,p=>by
  simp only[argL]
  split
  .split
   .simp only[jL3];omega
   have h2:=cP k (l++[⟨false,[],(exS p).1⟩]) (Bd [44] (exS p).2)
   simp only[jL3]at h2
   omega
  simp
theorem cQ(h:okP p):(argW p).1.length<=5000:=by
 unfold argW
 split
 .simp
 have h1:=cP (p.l.length+1) [] p
 have h2:=h.2.2.1
 simp only[length_nil]at h1
 omega
theorem Yy{st:Pr->R Sm}(hu:∀p,okP p->Nx p (st p).2)(hg:∀p,okP p->HF (st p).1){p:Pr}(h:okP p):(∀s∈(blkW st p).1,HF s)/\(blkW st p).1.length<=5000:=by
 unfold blkW
 split
 .rename_i hi
  split
  .rename_i hb
   have h1:=Ef h hb (BA hi).2
   exact US hu hg h1.ok
  exact⟨λs hs=>(by cases hs),zero_le _⟩
 exact⟨λs hs=>(by cases hs),zero_le _⟩
theorem cR{st:Pr->R Sm}(hu:∀p,okP p->Nx p (st p).2)(hg:∀p,okP p->HF (st p).1){p:Pr}{t:List UInt8}(h:okP p)(hi:isT t p=true):(∀s∈(ifB (blkW st) p).1,HF s)/\(ifB (blkW st) p).1.length<=5000:=by
 have h1:=Pk h hi
 exact Yy hu hg (Ak (t:=[41]) h1.ok).ok
theorem ID(k:Int)(x y:List UInt8)(e g:Ex)(cd:Cd)(ar:List Ar)(no:Int)(ha:ar.length<=5000):HF (.mk k x y e g cd ar [] [] no):=
 UL k x y e g cd ar [] [] no ha (zero_le _) (zero_le _) (λs hs=>by cases hs) (λs hs=>by cases hs)
theorem xo(h:okP p):((valF p).1.a.getD []).length<=5000:=by
 unfold valF
 split
 .exact zero_le _
 split
 .exact zero_le _
 split
 .exact zero_le _
 split
 .exact zero_le _
 split
 .rename_i hb
  exact cQ (S9 h hb).ok
 exact zero_le _
theorem mR(hu:∀p,okP p->Nx p (st p).2)(hg:∀p,okP p->HF (st p).1)(no:Int)(h:okP p):HF (HW st no p).1:=by
 unfold HW
 split
 .exact ABL
 split
 .exact ABL
 split
 .rename_i hi
  have h1:=cR hu hg h hi
  exact UL _ _ _ _ _ _ [] _ [] _ (zero_le _) h1.2 (zero_le _) h1.1 (λs hs=>by cases hs)
 split
 .rename_i hi
  have h1:=cR hu hg h hi
  split
  .rename_i he
   have h2:=Pl hu h hi
   have h3:=Yy hu hg (B0 h2.ok he).ok
   exact UL _ _ _ _ _ _ [] _ _ _ (zero_le _) h1.2 h3.2 h1.1 h3.1
  exact UL _ _ _ _ _ _ [] _ [] _ (zero_le _) h1.2 (zero_le _) h1.1 (λs hs=>by cases hs)
 split
 .exact ABL
 split
 .rename_i hi
  exact ID _ _ _ _ _ _ _ _ (cQ (B0 (Fl h).ok hi).ok)
 split
 .exact ABL
 exact ID _ _ _ _ _ _ _ _ (xo (Ak (t:=[61]) (Fl h).ok).ok)
theorem Yz:∀(f:Nat) (p:Pr),okP p->HF (Ce f p).1
 |0,p,h=>ID _ _ _ _ _ _ [] _ (zero_le _)
 |f+1,p,h=>by
  simp only[Ce]
  split
  .exact ABL
  exact mR (L9 f) (Yz f) _ (Pj h).ok
theorem cT:∀(k:Nat) (l:List Vr) (p:Pr),(R6 k l p).1.length<=l.length+k
 |0,l,p=>Nat.le_refl _
 |k+1,l,p=>by
  have h1:=R5 l (isT [42] p) 6 (Bt [42] p)
  simp only[R6]
  split
  .split
   .simp only;omega
   have h2:=cT k (J4 l (isT [42] p) 6 (Bt [42] p)) (Bd [44] (Ga l 6 (Bt [42] p)))
   omega
  simp only;omega
theorem cU:∀(k:Nat) (l:List Vr) (p:Pr),(PQ k l p).1.length<=l.length+k
 |0,l,p=>Nat.le_refl _
 |k+1,l,p=>by
  have h1:=R5 l (isT tPtr p) 20 (adv p)
  simp only[PQ]
  split
  .have h2:=cU k (J4 l (isT tPtr p) 20 (adv p)) (Bd [59] (Ga l 20 (adv p)))
   omega
  simp only;omega
theorem qS(h:okP p):(Ua p).1.length<=5000:=by
 unfold Ua
 split
 .exact zero_le _
 have h1:=cT (p.l.length+1) [] p
 have h2:=h.2.2.1
 simp only[length_nil]at h1
 omega
theorem qT(h:okP p):(Wu p).1.length<=5000:=by
 have h1:=cU p.l.length [] p
 have h2:=h.2.2.1
 simp only[length_nil]at h1
 show (PQ p.l.length [] p).1.length<=5000
 omega
theorem xq(h:okP p):okP (KW p):=by
 unfold KW
 split
 .rename_i hi
  split
  .rename_i hb
   exact(Ef h hb (BA hi).2).ok
  rename_i hb
  exact(FY 51 (LA h (by simpa using hb)).ok).ok
 exact(FY 51 h).ok
theorem Z0(s:List UInt8):okF (Fp s).1/\∃n m,okB n m (Fp s).1.body:=by
 have hz:okF fn0/\∃n m,okB n m fn0.body:=⟨⟨zero_le _,zero_le _⟩,0,1,zero_le _,λs hs=>by cases hs⟩
 unfold Fp
 split
 .exact hz
 split
 .exact hz
 have h3:=(Zu s (s.length:Int)).ok
 have h4:okP (KW (fp3 (rxT s).1 (s.length:Int)).2):=xq (Wv h3).ok
 have h5:okP (fp4 (rxT s).1 (s.length:Int)).2:=(TG _ _ _ h4).ok
 have h6:=US (L9 41) (Yz 41) h5
 exact⟨⟨qS h3,qT h4⟩,Sx h6.1 h6.2⟩
theorem Zf(s:Sm)(a b:List Sm):(s.wi a b).th=a/\(s.wi a b).el=b:=by cases s;exact⟨rfl,rfl⟩
theorem A2n{f:Fn}{s:Sm}(h:OkS n s):OkS n (rsS f s).1:=by
 have h0:0<n:=Nat.lt_of_le_of_lt (zero_le _) h.e
 obtain⟨k,x,y,e,g,cd,ar,th,el,no⟩:=s
 have hr:OkS n (.mk k x y e g cd (raL f ar) th el no):=by
  refine⟨h.e,h.f,h.c,λa ha=>?_,by simpa [raL,Sm.ar] using h.l⟩
  obtain⟨b,hb,rfl⟩:=mem_map.1 ha
  unfold raS
  split
  .exact h.a b hb
  split
  .exact h0
  exact h.a b hb
 simp only[rsS]
 repeat' split
 all_goals first|exact h|exact hr|exact⟨h0,h0,h0,(λa ha=>by cases ha),zero_le _⟩
theorem A6o{s:Sm}(a b:List Sm)(h:OkS n s):OkS n (s.wi a b):=by cases s;exact⟨h.e,h.f,h.c,h.a,h.l⟩
theorem fD{f:Fn}{h:List Sm->List Sm×Int}:∀(l out:List Sm),(∀s∈out,OkS n s/\okB n m s.th/\okB n m s.el)->out.length+l.length<=5000->
  (∀s∈l,OkS n s/\okB n m (h (rsS f s).1.th).1/\okB n m (h (rsS f s).1.el).1)->okB n (m+1) (rsW h f out l).1
 |[],out,ho,hl,_=>⟨by simpa [rsW] using hl,ho⟩
 |s::r,out,ho,hl,hs=>by
  have h0:okB n (m+1) []:=⟨zero_le _,λs hs=>by cases hs⟩
  simp only[rsW]
  split
  .split
   .exact h0
   split
   .exact h0
   refine fD r _ ?_ (by simp only[jL3]at hl ⊢;omega) λs' hs'=>hs s' (mem_cons_of_mem _ hs')
   intro s' hs'
   rcases List.mem_append.1 hs' with h1|h1
   .exact ho s' h1
   obtain⟨a1,a2,a3⟩:=hs s (List.mem_cons_self ..)
   rw[List.mem_singleton.1 h1,(Zf _ _ _).1,(Zf _ _ _).2]
   exact⟨A6o _ _ (A2n a1),a2,a3⟩
  exact h0
theorem YJ{f:Fn}:∀(m:Nat) (l:List Sm),okB n m l->okB n m (rsN f m l).1
 |0,l,h=>h.elim
 |m+1,l,h=>fD l [] (λs hs=>by cases hs) (by simpa using h.1) λs hs=>by
  obtain⟨h0,h1,h2⟩:=h.2 s hs
  have h3:=W4 f s
  refine⟨h0,YJ m _ ?_,YJ m _ ?_⟩
  .rcases h3.1 with h|h<;>rw[h]
   .exact h1
   exact Sz h1
  rcases h3.2 with h|h<;>rw[h]
  .exact h2
  exact Sz h2
theorem xr(s:Int)(b:List Int):(txT s b).length<=2000000:=by
 have hv:nxV 6 (m0 b)<6:=Int.tmod_lt_of_pos _ (by decide)
 have h1:=Zl (f:=stT 2 s) (λq=>Pz 2 s q) (1+nxV 6 (m0 b)).toNat (txH s) (nxM (m0 b))
 have h2:=bn6 (c:=stL 2) (1+nxV 6 (m0 b)).toNat (by omega)
 have h3:=VU 2 (by decide)
 have h4:=dG s
 have h5:=Dx (nxM (txB s b).2)
 have h6:(txB s b).1.length<=60+6*200000:=by unfold txB;omega
 unfold txT
 split<;>simp only[jL3]<;>omega
theorem A2o{j:Nat}(h:j<4):(nmS (j:Int)==gloB)=false:=by
 match j,h with
 |0,_=>rfl
 |1,_=>rfl
 |2,_=>rfl
 |3,_=>rfl
theorem xu{i:Nat}(h:u∈utI l i):∃j,j<i/\u=⟨nmS (j:Int),txT (j:Int) (l.getD j [])⟩:=by
 obtain⟨j,hj,rfl⟩:=mem_map.1 h
 exact⟨j,List.mem_range.1 hj,rfl⟩
theorem xw{g:Int}(h:u∈utF g l):u=⟨gloB,glS g⟩∨∃j,j<4/\j<l.length/\u=⟨nmS (j:Int),txT (j:Int) (l.getD j [])⟩:=by
 have hN:utN l<=4/\utN l<=l.length:=by unfold utN;split<;>omega
 have key:u∈utI l (utN l)->∃j,j<4/\j<l.length/\u=⟨nmS (j:Int),txT (j:Int) (l.getD j [])⟩:=λhu=>by
  obtain⟨j,hj,e⟩:=xu hu
  exact⟨j,by omega,by omega,e⟩
 unfold utF at h
 split at h
 .rw[mem_append,mem_cons]at h
  rcases h with h|h|h
  .exact .inr (key (List.mem_of_mem_take h))
  .exact .inl h
  exact .inr (key (List.mem_of_mem_drop h))
 rw[mem_append,List.mem_singleton]at h
 rcases h with h|h
 .exact .inr (key h)
 exact .inl h
theorem UM(g:Int):TT (giV (glLs g)).ns/\(giV (glLs g)).c.length<=5000/\(giV (glLs g)).a.length<=5000/\∀x∈(giV (glLs g)).a,1<=x.n/\x.n<=1048576:=by
 unfold glLs
 split
 .exact AAN
 split
 .exact AAN
 split
 .exact AAN
 split
 .exact AAN
 exact AAN
theorem sP:∀l:List Un,∃n m,∀u∈l,okB n m (Fp u.t).1.body
 |[]=>⟨0,0,λu h=>by cases h⟩
 |u::l=>by
  obtain⟨n,m,h⟩:=sP l
  obtain⟨n',m',h'⟩:=(Z0 u.t).2
  refine⟨max n n',max m m',λv hv=>?_⟩
  rcases mem_cons.1 hv with rfl|hv
  .exact HA (le_max_right _ _) h' (le_max_right _ _)
  exact HA (Nat.le_max_left _ _) (h v hv) (Nat.le_max_left _ _)
theorem sUn(g:Int)(l:List (List Int)):∃n m,0<n/\∀u∈utF g l,okUn n m (wgl g) u:=by
 obtain⟨n,m,h⟩:=sP (utF g l)
 refine⟨n+1,m,Nat.succ_pos _,λu hu=>?_⟩
 rcases xw hu with rfl|⟨j,hj,hl,rfl⟩
 .exact jx (A4A g) (UM g).1 (UM g).2.1 (UM g).2.2.1
 have hn:=A2o hj
 exact⟨λh=>(by rw[hn]at h;cases h),λ_=>Nat.le_trans (xr _ _) (by decide),λ_=>(Z0 _).1,λ_=>HA (Nat.le_succ _) (h _ hu) (Nat.le_refl _)⟩
theorem qU{fs:List Fn}{f x:Fn}(h:x∈insF fs f):x∈fs∨x=f:=by
 unfold insF at h
 rw[mem_append,mem_cons]at h
 rcases h with h|h|h
 .exact .inl (List.mem_of_mem_take h)
 .exact .inr h
 exact .inl (List.mem_of_mem_drop h)
theorem A6p{m:Nat}{gl:List UInt8->List Gi}{P:Pg}{u:Un}(hu:okUn n m gl u)(h:∀f∈P.fs,okF f/\∃M,okB n M f.body):∀f∈(upP m gl P u).fs,okF f/\∃M,okB n M f.body:=by
 unfold upP
 split
 .exact h
 rename_i hg
 have hg:(u.s==gloB)=false:=by simpa using hg
 split
 .exact h
 split
 .exact h
 rename_i hr
 intro f hf
 rcases qU hf with hf|rfl
 .exact h f hf
 have h1:=hu.f hg
 have h2:=hu.b hg
 unfold IV at hr ⊢
 split
 .rename_i h3;rw[if_pos h3]at hr;exact absurd rfl hr
 rename_i h3;rw[if_neg h3]at hr
 split
 .rename_i h4;rw[if_pos h4]at hr;exact absurd rfl hr
 rename_i h4;rw[if_neg h4]at hr
 split
 .rename_i h5;rw[if_pos h5]at hr;exact absurd rfl hr
 exact⟨h1,m,YJ m _ h2⟩
theorem sQ{gl:List UInt8->List Gi}:∀(l:List Un) (P:Pg),(∀u∈l,okUn n m gl u)->(∀f∈P.fs,okF f/\∃M,okB n M f.body)->∀f∈(l.foldl (upP m gl) P).fs,okF f/\∃M,okB n M f.body
 |[],P,_,h=>h
 |u::l,P,hu,h=>sQ l (upP m gl P u) (λv hv=>hu v (mem_cons_of_mem _ hv)) (A6p (hu u (List.mem_cons_self ..)) h)
theorem A2p{g:Int}:∀(l:List Un) (P:Pg),(P.g=giV (glLs g)∨P.g=⟨[],[]⟩)->((l.foldl (upP m (wgl g)) P).g=giV (glLs g)∨(l.foldl (upP m (wgl g)) P).g=⟨[],[]⟩)
 |[],P,h=>h
 |u::l,P,h=>by
  refine A2p l (upP m (wgl g) P u) ?_
  unfold upP
  split
  .exact .inl rfl
  split
  .exact h
  split
  .exact h
  exact h
theorem A6q{g:Int}{l:List (List Int)}(hu:∀u∈utF g l,okUn n m (wgl g) u){va:List Va}{s:Sta}{fuel:Int}{k:Nat}(hv:va.length<=5000)(h1:s.cs.length<=1000000)(h2:s.ar.length<=1000000)(hf:fuel<k)(hk:k<=1000000000):okR n k (sPg m (wgl g) g l) va s fuel:=by
 have hg:(sPg m (wgl g) g l).g=giV (glLs g)∨(sPg m (wgl g) g l).g=⟨[],[]⟩:=A2p (utF g l) ⟨⟨[],[]⟩,[]⟩ (.inr rfl)
 have hl:(sPg m (wgl g) g l).fs.length<=10:=by
  have:=Wz m (wgl g) (utF g l) (utF g l).length (Nat.le_refl _)
  rw[List.take_length]at this
  exact Nat.le_trans this (fC g l)
 have ho:=UM g
 refine⟨⟨by omega,sQ (utF g l) _ hu (λf h=>by cases h)⟩,?_,?_,?_,h1,h2,hv,hf,hk⟩
 .rcases hg with e|e<;>rw[e]
  .have:=ho.2.1;omega
  exact zero_le _
 .rcases hg with e|e<;>rw[e]
  .have:=ho.2.2.1;omega
  exact zero_le _
 rcases hg with e|e<;>rw[e]
 .exact ho.2.2.2
 intro x hx;cases hx
end Go.Proofs.YtapedeoheilnnaaGreat
