/- Machines and frames in memory. No conditions but those in each statement. -/
import Derived.Test.YtapedeoheilnnaaGreatSy36
set_option linter.all false
open List (append_nil mem_singleton mem_cons not_mem_nil mem_flatMap flatMap_cons flatMap_nil)
namespace Go.Proofs.YtapedeoheilnnaaGreat
open Go Go.Sy Go.RowKit
variable{B:Type}{o:Option Ch}{v:SV}{ks:List Nat}
def Gy.r(x:Gy):List D:=[.v (.string (bs x.s)),.v (.int .i64 x.n)]
def cSd(x:List UInt8):List D:=[.v (.string (bs x))]
def Gf:List D:=[.v (.string (bs []))]
def Gw:List D:=[.v (.string (bs [])),.v (.int .i64 0)]
def Va.c(a:Va):List C:=[.v (.bool a.p),.v (.int .i64 a.n),.v (.string (bs a.s))]
def Nb.c(x:Nb):List C:=[.v (.string (bs x.s)),.v (.int .i64 x.n)]
def cI(n:Int):List C:=[.v (.int .i64 n)]
def zI:List C:=[.v (.int .i64 0)]
def Na.c(x:Na):List C:=[.v (.string (bs x.s)),.ov zI (x.l.map cI)]
def zNb:List C:=[.v (.string (bs [])),.v (.int .i64 0)]
def zNa:List C:=[.v (.string (bs [])),.v (.slice none 0 0)]
def mpI(es:List (List UInt8×Int)):List (List UInt8×Value):=es.map λp=>(p.1,.int .i64 p.2)
def mcC(P:Pg)(m:Ms):List C:=[.d (.sl Gf (P.g.c.map cSd)),.d (.sl Gw (P.g.a.map Gy.r)),.d (.sl zFn (P.fs.map Fn.r)),.v (.int .i64 m.fuel),.v (.int .i64 m.deep),.d (.mp (mpI (fI (P.fs.map Fn.name)))),.d (.mp (mpI (fI P.g.c))),.d (.mp (mpI (fI (P.g.a.map Gy.s)))),
 .ov zNb (m.cs.map Nb.c),.ov zNa (m.ar.map Na.c),.v (.int .i64 m.e),.v (.int .i64 m.v),.v (.string (bs m.f)),.v (.int .i64 m.al),.v (.int .i64 m.k),.v (.slice none 0 0),.v (.slice none 0 0)]
abbrev zMc:List C:=[.v (.int .i64 0),.v (.int .i64 0),.v (.int .i64 0),.v (.int .i64 0),.v (.int .i64 0),.v (.int .i64 0),.v (.int .i64 0),.v (.int .i64 0),.v (.int .i64 0),.v (.int .i64 0),.v (.int .i64 0),.v (.int .i64 0),.v (.int .i64 0),.v (.int .i64 0),.v (.int .i64 0),.v (.int .i64 0),.v (.int .i64 0)]
theorem Ps(a b:List UInt8)(h:cSd a=cSd b):a=b:=by
 simp only[cSd,List.cons.injEq,D.v.injEq,Value.string.injEq,and_true]at h
 exact bs_inj h
theorem Pt(a b:Gy)(h:a.r=b.r):a=b:=by
 obtain⟨s,n⟩:=a
 obtain⟨s',n'⟩:=b
 simp only[Gy.r,List.cons.injEq,D.v.injEq,Value.string.injEq,Value.int.injEq,true_and,and_true]at h
 obtain⟨h1,rfl⟩:=h
 rw[bs_inj h1]
theorem dB(a b:Nb)(h:a.c=b.c):a=b:=by
 obtain⟨s,n⟩:=a
 obtain⟨s',n'⟩:=b
 simp only[Nb.c,List.cons.injEq,C.v.injEq,Value.string.injEq,Value.int.injEq,true_and,and_true]at h
 obtain⟨h1,rfl⟩:=h
 rw[bs_inj h1]
theorem yV(a b:Int)(h:cI a=cI b):a=b:=by simpa [cI] using h
theorem dC(a b:Na)(h:a.c=b.c):a=b:=by
 obtain⟨s,l⟩:=a
 obtain⟨s',l'⟩:=b
 simp only[Na.c,List.cons.injEq,C.v.injEq,C.ov.injEq,Value.string.injEq,true_and,and_true]at h
 obtain⟨h1,h2⟩:=h
 rw[bs_inj h1,Ac yV h2]
theorem tO(a b:Va)(h:a.c=b.c):a=b:=by
 obtain⟨p,n,s⟩:=a
 obtain⟨p',n',s'⟩:=b
 simp only[Va.c,List.cons.injEq,C.v.injEq,Value.string.injEq,Value.int.injEq,Value.bool.injEq,true_and,and_true]at h
 obtain⟨rfl,rfl,h1⟩:=h
 rw[bs_inj h1]
theorem tP{P P':Pg}{m m':Ms}(h:mcC P m=mcC P' m'):P=P'/\m=m':=by
 obtain⟨⟨c,a⟩,fs⟩:=P
 obtain⟨⟨c',a'⟩,fs'⟩:=P'
 obtain⟨fuel,deep,cs,ar,e,v,f,al,k⟩:=m
 obtain⟨fuel',deep',cs',ar',e',v',f',al',k'⟩:=m'
 simp only[mcC,List.cons.injEq,C.d.injEq,C.v.injEq,C.ov.injEq,D.sl.injEq,Value.int.injEq,Value.string.injEq,true_and,and_true]at h
 obtain⟨h1,h2,h3,rfl,rfl,_,_,_,h4,h5,rfl,rfl,h6,rfl,rfl⟩:=h
 rw[Ac Ps h1,Ac Pt h2,Ac W9 h3,Ac dB h4,Ac dC h5,bs_inj h6]
 exact⟨rfl,rfl⟩
theorem JF(P:Pg)(m:Ms):∀c∈mcC P m,c.names=[]:=by
 intro c hc
 simp only[mcC,mem_cons,not_mem_nil,or_false]at hc
 rcases hc with rfl|rfl|rfl|rfl|rfl|rfl|rfl|rfl|rfl|rfl|rfl|rfl|rfl|rfl|rfl|rfl|rfl<;>rfl
open Classical in
noncomputable def mcR(r:List C):Option (Pg×Ms):=if h:∃a:Pg×Ms,mcC a.1 a.2=r then some h.choose else none
theorem im{r:List C}{a:Pg×Ms}(h:mcR r=some a):r=mcC a.1 a.2:=by
 unfold mcR at h
 split at h
 .rename_i hx
  rw[<- Option.some.inj h];exact hx.choose_spec.symm
 cases h
theorem qR(P:Pg)(m:Ms):mcR (mcC P m)=some (P,m):=by
 unfold mcR
 have hx:∃a:Pg×Ms,mcC a.1 a.2=mcC P m:=⟨(P,m),rfl⟩
 rw[dif_pos hx]
 obtain⟨h1,h2⟩:=tP hx.choose_spec
 exact congrArg some (Prod.ext h1 h2)
theorem IC(c:List (List UInt8))(a:List Gy)(fs:List Fn)(fuel deep e v al k:Int)(cs:List Nb)(ar:List Na)(f:List UInt8):mcR [.d (.sl Gf (c.map cSd)),.d (.sl Gw (a.map Gy.r)),.d (.sl zFn (fs.map Fn.r)),.v (.int .i64 fuel),.v (.int .i64 deep),.d (.mp (mpI (fI (fs.map Fn.name)))),.d (.mp (mpI (fI c))),.d (.mp (mpI (fI (a.map Gy.s)))),
 .ov zNb (cs.map Nb.c),.ov zNa (ar.map Na.c),.v (.int .i64 e),.v (.int .i64 v),.v (.string (bs f)),.v (.int .i64 al),.v (.int .i64 k),.v (.slice none 0 0),.v (.slice none 0 0)]=some (⟨⟨c,a⟩,fs⟩,⟨fuel,deep,cs,ar,e,v,f,al,k⟩):=qR ⟨⟨c,a⟩,fs⟩ ⟨fuel,deep,cs,ar,e,v,f,al,k⟩
noncomputable def mMc:RowM (Pg×Ms) where
 z:=zMc
 d:=mcR
 e a:=mcC a.1 a.2
 h r b h:=im h
 n b:=JF b.1 b.2
 t:=rfl
theorem ID:mMc.e=λa=>mcC a.1 a.2:=rfl
theorem IE:mMc.z=zMc:=rfl
theorem Gg(c:List (List UInt8))(a:List Gy)(fs:List Fn)(fuel deep e v al k:Int)(cs:List Nb)(ar:List Na)(f:List UInt8):mMc.d [.d (.sl Gf (c.map cSd)),.d (.sl Gw (a.map Gy.r)),.d (.sl zFn (fs.map Fn.r)),.v (.int .i64 fuel),.v (.int .i64 deep),.d (.mp (mpI (fI (fs.map Fn.name)))),.d (.mp (mpI (fI c))),.d (.mp (mpI (fI (a.map Gy.s)))),
 .ov zNb (cs.map Nb.c),.ov zNa (ar.map Na.c),.v (.int .i64 e),.v (.int .i64 v),.v (.string (bs f)),.v (.int .i64 al),.v (.int .i64 k),.v (.slice none 0 0),.v (.slice none 0 0)]=some (⟨⟨c,a⟩,fs⟩,⟨fuel,deep,cs,ar,e,v,f,al,k⟩):=IC ..
theorem Dq(P:Pg):(⟨⟨P.g.c,P.g.a⟩,P.fs⟩:Pg)=P:=rfl
theorem EG(m:Ms):(⟨m.fuel,m.deep,m.cs,m.ar,m.e,m.v,m.f,m.al,m.k⟩:Ms)=m:=rfl
def mcW(P:Pg)(m:Ms):MV:=(zMc,[mcC P m])
theorem Pu(P:Pg)(m:Ms):∀q,some q∈[some (mcW P m)]->∀r∈q.2,∀c∈r,c.names=[]:=by
 intro q hq r hr c hc
 simp only[mem_singleton,jS]at hq
 subst hq
 simp only[mcW,mem_singleton]at hr
 subst hr
 exact JF P m c hc
def vsC(vs:Vs):List (List UInt8×List C):=vs.map λp=>(p.1,p.2.c)
theorem tQ{a b:Vs}(h:vsC a=vsC b):a=b:=by
 refine Ac (f:=λp:List UInt8×Va=>(p.1,p.2.c)) (λx y hxy=>?_) h
 obtain⟨s,v⟩:=x
 obtain⟨s',v'⟩:=y
 simp only[jP]at hxy
 rw[hxy.1,tO _ _ hxy.2]
theorem VP(vs:Vs):∀c∈(vsC vs).flatMap (·.2),c.names=[]:=by
 intro c hc
 obtain⟨p,hp,hc⟩:=mem_flatMap.1 hc
 obtain⟨q,_,rfl⟩:=List.mem_map.1 hp
 simp only[Va.c,mem_cons,not_mem_nil,or_false]at hc
 rcases hc with rfl|rfl|rfl<;>rfl
open Classical in
noncomputable def vsR(es:List (List UInt8×List C)):Option Vs:=if h:∃vs,vsC vs=es then some h.choose else none
theorem yW{es:List (List UInt8×List C)}{vs:Vs}(h:vsR es=some vs):es=vsC vs:=by
 unfold vsR at h
 split at h
 .rename_i hx
  rw[<- Option.some.inj h];exact hx.choose_spec.symm
 cases h
theorem qS(vs:Vs):vsR (vsC vs)=some vs:=by
 unfold vsR
 have hx:∃a,vsC a=vsC vs:=⟨vs,rfl⟩
 rw[dif_pos hx,tQ hx.choose_spec]
abbrev zFr:List C:=[.v (.pointer none),.v (.string (bs [])),.v (.map none),.v (.int .i64 0)]
def frC(q:Fa):List C:=[.p 1 0 0,.v (.string (bs q.nm)),.s 2,.v (.int .i64 q.ret)]
def Fa.mem(q:Fa):List ML:=[.vec zFr [frC q],.vec zMc [mcC q.P q.m],.mp true (vsC q.vs)]
def Fa.memO(q:Fa):List (Option ML):=[some (.vec zFr [frC q]),some (.vec zMc [mcC q.P q.m]),some (.mp true (vsC q.vs))]
def Fa.pan(q:Fa):List (Option MV):=[none,some (zMc,[mcC q.P q.m]),none]
def frD:Option Ch->Option (List UInt8×Int×Nat×Nat)
 |some (.vec _ z [[.p k1 0 0,.v (.string s),.s k2,.v (.int .i64 n)]])=>if z.length=4 then some (s.toList,n,k1,k2) else none
 |_=>none
noncomputable def mcD:Option Ch->Option (Pg×Ms)
 |some (.vec _ z [r])=>if z.length=17 then mcR r else none
 |_=>none
noncomputable def vsD:Option Ch->Option Vs
 |some (.mp true es)=>vsR es
 |_=>none
noncomputable def faJ(k k1 k2:Nat)(nm:List UInt8)(ret:Int):Option (Pg×Ms)->Option Vs->Option (Fa×List Nat)
 |some (P,m),some vs=>some (⟨nm,ret,P,m,vs⟩,[k,k1,k2])
 |_,_=>none
noncomputable def faK(H:Hp)(k:Nat):Option (List UInt8×Int×Nat×Nat)->Option (Fa×List Nat)
 |some (nm,ret,k1,k2)=>faJ k k1 k2 nm ret (mcD (H k1)) (vsD (H k2))
 |none=>none
noncomputable def faD(H:Hp):SV->Option (Fa×List Nat)
 | .one (.p k 0 0)=>faK H k (frD (H k))
 |_=>none
theorem yX{nm:List UInt8}{ret:Int}{k1 k2:Nat}(h:frD o=some (nm,ret,k1,k2)):∃u z,o=some (.vec u z [[.p k1 0 0,.v (.string (bs nm)),.s k2,.v (.int .i64 ret)]])/\z.length=4:=by
 unfold frD at h
 split at h
 .split at h
  .rename_i hz
   simp only[jS,jP]at h
   obtain⟨rfl,rfl,rfl,rfl⟩:=h
   exact⟨_,_,by rw[Ot],hz⟩
  cases h
 cases h
theorem yY{a:Pg×Ms}(h:mcD o=some a):∃u z,o=some (.vec u z [mcC a.1 a.2])/\z.length=17:=by
 unfold mcD at h
 split at h
 .split at h
  .rename_i hz
   rw[im h]
   exact⟨_,_,rfl,hz⟩
  cases h
 cases h
theorem yZ{vs:Vs}(h:vsD o=some vs):o=some (.mp true (vsC vs)):=by
 unfold vsD at h
 split at h
 .rw[yW h]
 cases h
theorem io{H:Hp}{q:Fa}(h:faD H v=some (q,ks)):∃k k1 k2,ks=[k,k1,k2]/\v= .one (.p k 0 0)/\
  (∃u z,H k=some (.vec u z [[.p k1 0 0,.v (.string (bs q.nm)),.s k2,.v (.int .i64 q.ret)]])/\z.length=4)/\(∃u z,H k1=some (.vec u z [mcC q.P q.m])/\z.length=17)/\H k2=some (.mp true (vsC q.vs)):=by
 unfold faD at h
 split at h
 .rename_i k
  cases hf:frD (H k) with
  |none=>rw[hf]at h;cases h
  |some x=>
   obtain⟨nm,ret,k1,k2⟩:=x
   rw[hf]at h
   simp only[faK]at h
   cases hm:mcD (H k1) with
   |none=>rw[hm]at h;cases h
   |some a=>
    cases hv:vsD (H k2) with
    |none=>rw[hm,hv]at h;cases h
    |some vs=>
     rw[hm,hv]at h
     simp only[faJ,jS,jP]at h
     obtain⟨rfl,rfl⟩:=h
     exact⟨k,k1,k2,rfl,rfl,yX hf,yY hm,yZ hv⟩
 .cases h
theorem ir{H H':Hp}{q:Fa}{ks:List Nat}(h:faD H v=some (q,ks))(hk:∀k∈ks,H' k=H k):faD H' v=some (q,ks):=by
 obtain⟨k,k1,k2,rfl,rfl,⟨u,z,h1,hz⟩,⟨u',z',h2,hz'⟩,h3⟩:=io h
 show faK H' k (frD (H' k))=_
 rw[hk k (by simp),h1]
 simp only[frD,if_pos hz,faK,I6]
 rw[hk k1 (by simp),hk k2 (by simp),h2,h3]
 simp only[mcD,if_pos hz',qR,vsD,qS,faJ]
theorem UL{f:Nat->Nat}(h:v.names=[]):rnV f v=v:=by
 cases v with
 |one c=>exact congrArg SV.one (F1 h)
 |agg l=>
  refine congrArg SV.agg (DB λc hc=>F1 ?_)
  exact List.eq_nil_iff_forall_not_mem.2 λk hk=>by
   have:k∈(SV.agg l).names:=mem_flatMap.2 ⟨c,hc,hk⟩
   rw[h]at this;cases this
 |tup l=>rfl
open Classical in
noncomputable def frJ{B:Type}(ac:ArgC B)(r:List SV):Option (Fa×List Nat)->Option B->Option ((Fa×B)×List Nat)
 |some (q,ks),some b=>if ac.e b=r then some ((q,b),ks) else none
 |_,_=>none
theorem Ze(ac:ArgC B)(r:List SV)(q:Fa)(ks:List Nat)(b:B)(h:ac.e b=r):frJ ac r (some (q,ks)) (some b)=some ((q,b),ks):=if_pos h
open Classical in
theorem H8(ac:ArgC B)(r:List SV)(q:Fa)(ks:List Nat)(b:B):frJ ac r (some (q,ks)) (some b)=if ac.e b=r then some ((q,b),ks) else none:=rfl
theorem iu{ac:ArgC B}{r:List SV}{o:Option (Fa×List Nat)}{p:Option B}{a:Fa×B}(h:frJ ac r o p=some (a,ks)):∃q b,o=some (q,ks)/\p=some b/\ac.e b=r/\a=(q,b):=by
 cases o with
 |none=>cases h
 |some x=>
 obtain⟨q,ks'⟩:=x
 cases p with
 |none=>cases h
 |some b=>
 by_cases he:ac.e b=r
 .rw[Ze ac r q ks' b he]at h
  simp only[jS,jP]at h
  obtain⟨rfl,rfl⟩:=h
  exact⟨q,b,rfl,rfl,he,rfl⟩
 have:frJ ac r (some (q,ks')) (some b)=none:=if_neg he
 rw[this]at h;cases h
noncomputable def amFr{B:Type}(ac:ArgC B)(nt:∀b,∀v∈ac.e b,v.tupB=false):ArgL (Fa×B) where
 d H l:=match l with
  |v::r=>frJ ac r (faD H v) (ac.d r)
  |[]=>none
 args p:=.one (.p 0 0 0)::ac.e p.2
 mem p:=p.1.mem
 h H l a ks h:=by
  match l with
  |[]=>cases h
  |v::r=>
   obtain⟨q,b,hf,hb,he,rfl⟩:=iu h
   obtain⟨k,k1,k2,rfl,rfl,⟨u,z,h1,hz⟩,⟨u',z',h2,hz'⟩,h3⟩:=io hf
   refine⟨?_,rfl,λi n hi=>?_⟩
   .show _=(SV.one (.p 0 0 0)::ac.e b).map (rnV (nmK [k,k1,k2]))
    rw[List.map_cons,DB (l:=ac.e b) λv hv=>UL (ac.n b v hv),he];rfl
   .match i,hi with
    |0,hi=>
     obtain rfl:=Option.some.inj hi
     refine⟨_,rfl,?_⟩
     rw[h1]
     exact⟨rfl,hz,.inl rfl⟩
    |1,hi=>
     obtain rfl:=Option.some.inj hi
     refine⟨_,rfl,?_⟩
     rw[h2]
     refine⟨?_,hz',.inl rfl⟩
     show [mcC q.P q.m]=[(mcC q.P q.m).map _]
     rw[DB λc hc=>F1 (JF q.P q.m c hc)]
    |2,hi=>
     obtain rfl:=Option.some.inj hi
     refine⟨_,rfl,?_⟩
     rw[h3]
     refine⟨rfl,?_⟩
     show vsC q.vs=(vsC q.vs).map _
     rw[DB λp hp=>?_]
     show (p.1,p.2.map _)=p
     rw[DB λc hc=>F1 (VP q.vs c (mem_flatMap.2 ⟨p,hp,hc⟩))]
    |i+3,hi=>simp at hi
 n a m hm c hc:=by
  simp only[Fa.mem,mem_cons,not_mem_nil,or_false]at hm
  rcases hm with rfl|rfl|rfl
  .simp only[ML.cells,flatMap_cons,flatMap_nil,append_nil,id,frC,mem_cons,not_mem_nil,or_false]at hc
   rcases hc with rfl|rfl|rfl|rfl
   .exact .inr (.inr (.inl ⟨1,0,0,rfl,by show 1<3;decide⟩))
   .exact .inl rfl
   .exact .inr (.inl ⟨2,rfl,by show 2<3;decide⟩)
   .exact .inl rfl
  .simp only[ML.cells,flatMap_cons,flatMap_nil,append_nil,id]at hc
   exact .inl (JF _ _ c hc)
  .exact .inl (VP _ c hc)
 an a v hv:=by
  rcases mem_cons.1 hv with rfl|hv
  .exact .inr (.inr (.inl ⟨0,0,0,rfl,by show 0<3;decide⟩))
  .have:=ac.n a.2 v hv
   cases v with
   |one c=>exact .inl this
   |agg l=>
    intro c hc
    exact .inl (List.eq_nil_iff_forall_not_mem.2 λk hk=>by
     have h2:k∈(SV.agg l).names:=mem_flatMap.2 ⟨c,hc,hk⟩
     rw[this]at h2;cases h2)
   |tup l=>cases nt a.2 _ hv
 l H H' v a ks h hk:=by
  match v with
  |[]=>cases h
  |x::r=>
   obtain⟨q,b,hf,hb,he,rfl⟩:=iu h
   show frJ ac r (faD H' x) (ac.d r)=_
   rw[ir hf hk,hb,Ze ac r q ks b he]
theorem H9(ac:ArgC B)(nt)(H:Hp)(v:SV)(r:List SV):(amFr ac nt).d H (v::r)=frJ ac r (faD H v) (ac.d r):=rfl
theorem HA(ac:ArgC B)(nt)(q:Fa)(b:B):(amFr ac nt).args (q,b)= .one (.p 0 0 0)::ac.e b:=rfl
theorem HB(ac:ArgC B)(nt)(q:Fa)(b:B):(amFr ac nt).mem (q,b)=q.mem:=rfl
theorem J0(H:Hp)(k:Nat):faD H (.one (.p k 0 0))=faK H k (frD (H k)):=rfl
theorem J1(u:Nat)(z:List C)(k1 k2:Nat)(s:List UInt8)(n:Int)(hz:z.length=4):frD (some (.vec u z [[.p k1 0 0,.v (.string (bs s)),.s k2,.v (.int .i64 n)]]))=some (s,n,k1,k2):=by
 simp only[frD,if_pos hz,I6]
theorem FF(H:Hp)(k k1 k2:Nat)(nm:List UInt8)(ret:Int):faK H k (some (nm,ret,k1,k2))=faJ k k1 k2 nm ret (mcD (H k1)) (vsD (H k2)):=rfl
theorem FG(k k1 k2:Nat)(nm:List UInt8)(ret:Int)(P:Pg)(m:Ms)(vs:Vs):faJ k k1 k2 nm ret (some (P,m)) (some vs)=some (⟨nm,ret,P,m,vs⟩,[k,k1,k2]):=rfl
theorem J2(u:Nat)(z r:List C)(hz:z.length=17):mcD (some (.vec u z [r]))=mcR r:=by simp only[mcD,if_pos hz]
theorem J3(vs:Vs):vsD (some (.mp true (vsC vs)))=some vs:=qS vs
theorem Ee(q q':Fa):PE (q.mem).length q'.memO=true/\kdL q.mem q'.memO=true/\∀m,some m∈q'.memO->KT q'.memO.length m:=by
 refine⟨rfl,rfl,λm hm=>?_⟩
 have:m∈q'.mem:=by
  simp only[Fa.memO,mem_cons,jS,not_mem_nil,or_false]at hm
  simp only[Fa.mem,mem_cons,not_mem_nil,or_false]
  exact hm
 exact(amFr ac0 (λb v hv=>by cases hv)).n (q',()) m this
theorem JG(q q':Fa):(mlO q'.pan).length=(q.mem).length/\kdL q.mem (mlO q'.pan)=true/\∀m,some m∈mlO q'.pan->KT (mlO q'.pan).length m:=by
 refine⟨rfl,rfl,λm hm=>?_⟩
 simp only[Fa.pan,mlO,List.map_cons,List.map_nil,Option.map_none,Option.map_some,mem_cons,not_mem_nil,or_false,reduceCtorEq,jS,false_or]at hm
 subst hm
 intro c hc
 simp only[ML.cells,flatMap_cons,flatMap_nil,append_nil,id]at hc
 exact .inl (JF _ _ c hc)
theorem JH(q:Fa):∀m,some m∈q.pan->∀r∈m.2,∀c∈r,c.names=[]:=by
 intro m hm r hr c hc
 simp only[Fa.pan,mem_cons,not_mem_nil,or_false,reduceCtorEq,jS,false_or]at hm
 subst hm
 simp only[mem_singleton]at hr
 subst hr
 exact JF _ _ c hc
theorem Ht(ac:ArgC B)(nt)(q:Fa)(b:B):∀v∈(amFr ac nt).args (q,b),∀k∈v.names,k<(Fa.mem q).length:=by
 intro v hv k hk
 rcases mem_cons.1 hv with rfl|hv
 .simp only[SV.names,C.names,mem_singleton]at hk
  subst hk;show 0<3;decide
 rw[ac.n b v hv]at hk;cases hk
theorem Yy(P:Pg)(m:Ms){r:List C}(h:r=mcC P m):∀c∈[r].flatMap id,c.names=[]:=by
 subst h
 intro c hc
 simp only[flatMap_cons,flatMap_nil,append_nil,id]at hc
 exact JF _ _ c hc
end Go.Proofs.YtapedeoheilnnaaGreat
