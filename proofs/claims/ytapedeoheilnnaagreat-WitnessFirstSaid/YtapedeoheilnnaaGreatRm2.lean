/- Machines and frames in memory. No conditions but those in each statement. -/
import Derived.Test.YtapedeoheilnnaaGreatSy36
import Derived.Test.YtapedeoheilnnaaGreatMi0
set_option linter.all false
open List (append_nil mem_singleton mem_cons not_mem_nil mem_flatMap flatMap_cons flatMap_nil)
namespace Go.Proofs.YtapedeoheilnnaaGreat
open Go Go.Sy Go.RowKit
theorem AAt{P:Prop}(h:P:=by rcases hc with rfl|rfl|rfl<;>rfl):P:=h
variable{B:Type}{o:Option Ch}{v:SV}{ks:List Nat}
def Gy.r(x:Gy):List D:=[.v (.string (bs x.s)),.v (.int .i64 x.n)]
def cSd(x:List UInt8):List D:=[.v (.string (bs x))]
def Fq:List D:=[.v (.string (bs []))]
def GP:List D:=[.v (.string (bs [])),.v (.int .i64 0)]
def Va.c(a:Va):List C:=[.v (.bool a.p),.v (.int .i64 a.n),.v (.string (bs a.s))]
def Nb.c(x:Nb):List C:=[.v (.string (bs x.s)),.v (.int .i64 x.n)]
def cI(n:Int):List C:=[.v (.int .i64 n)]
def zI:List C:=[.v (.int .i64 0)]
def Na.c(x:Na):List C:=[.v (.string (bs x.s)),.ov zI (x.l.map cI)]
def zNb:List C:=[.v (.string (bs [])),.v (.int .i64 0)]
def zNa:List C:=[.v (.string (bs [])),.v (.slice none 0 0)]
def mpI(es:List (List UInt8×Int)):List (List UInt8×Value):=es.map λp=>(p.1,.int .i64 p.2)
def mcC(P:Pg)(m:Ms):List C:=[.d (.sl Fq (P.g.c.map cSd)),.d (.sl GP (P.g.a.map Gy.r)),.d (.sl zFn (P.fs.map Fn.r)),.v (.int .i64 m.fuel),.v (.int .i64 m.deep),.d (.mp (mpI (fI (P.fs.map Fn.name)))),.d (.mp (mpI (fI P.g.c))),.d (.mp (mpI (fI (P.g.a.map Gy.s)))),
 .ov zNb (m.cs.map Nb.c),.ov zNa (m.ar.map Na.c),.v (.int .i64 m.e),.v (.int .i64 m.v),.v (.string (bs m.f)),.v (.int .i64 m.al),.v (.int .i64 m.k),.v (.slice none 0 0),.v (.slice none 0 0)]
abbrev zMc:List C:=[.v (.int .i64 0),.v (.int .i64 0),.v (.int .i64 0),.v (.int .i64 0),.v (.int .i64 0),.v (.int .i64 0),.v (.int .i64 0),.v (.int .i64 0),.v (.int .i64 0),.v (.int .i64 0),.v (.int .i64 0),.v (.int .i64 0),.v (.int .i64 0),.v (.int .i64 0),.v (.int .i64 0),.v (.int .i64 0),.v (.int .i64 0)]
theorem QE(a b:List UInt8)(h:cSd a=cSd b):a=b:=by
 simp only[cSd,List.cons.injEq,D.v.injEq,Value.string.injEq,and_true]at h
 exact bs_inj h
theorem QF(a b:Gy)(h:a.r=b.r):a=b:=by
 obtain⟨s,n⟩:=a
 obtain⟨s',n'⟩:=b
 simp only[Gy.r,List.cons.injEq,D.v.injEq,Value.string.injEq,Value.int.injEq,true_and,and_true]at h
 obtain⟨h1,rfl⟩:=h
 rw[bs_inj h1]
theorem dX(a b:Nb)(h:a.c=b.c):a=b:=by
 obtain⟨s,n⟩:=a
 obtain⟨s',n'⟩:=b
 simp only[Nb.c,List.cons.injEq,C.v.injEq,Value.string.injEq,Value.int.injEq,true_and,and_true]at h
 obtain⟨h1,rfl⟩:=h
 rw[bs_inj h1]
theorem z9(a b:Int)(h:cI a=cI b):a=b:=by simpa [cI] using h
theorem dY(a b:Na)(h:a.c=b.c):a=b:=by
 obtain⟨s,l⟩:=a
 obtain⟨s',l'⟩:=b
 simp only[Na.c,List.cons.injEq,C.v.injEq,C.ov.injEq,Value.string.injEq,true_and,and_true]at h
 obtain⟨h1,h2⟩:=h
 rw[bs_inj h1,Aj z9 h2]
theorem u3(a b:Va)(h:a.c=b.c):a=b:=by
 obtain⟨p,n,s⟩:=a
 obtain⟨p',n',s'⟩:=b
 simp only[Va.c,List.cons.injEq,C.v.injEq,Value.string.injEq,Value.int.injEq,Value.bool.injEq,true_and,and_true]at h
 obtain⟨rfl,rfl,h1⟩:=h
 rw[bs_inj h1]
theorem u4{P P':Pg}{m m':Ms}(h:mcC P m=mcC P' m'):P=P'/\m=m':=by
 obtain⟨⟨c,a⟩,fs⟩:=P
 obtain⟨⟨c',a'⟩,fs'⟩:=P'
 obtain⟨fuel,deep,cs,ar,e,v,f,al,k⟩:=m
 obtain⟨fuel',deep',cs',ar',e',v',f',al',k'⟩:=m'
 simp only[mcC,List.cons.injEq,C.d.injEq,C.v.injEq,C.ov.injEq,D.sl.injEq,Value.int.injEq,Value.string.injEq,true_and,and_true]at h
 obtain⟨h1,h2,h3,rfl,rfl,_,_,_,h4,h5,rfl,rfl,h6,rfl,rfl⟩:=h
 rw[Aj QE h1,Aj QF h2,Aj WO h3,Aj dX h4,Aj dY h5,bs_inj h6]
 exact⟨rfl,rfl⟩
theorem JL(P:Pg)(m:Ms):∀c∈mcC P m,c.names=[]:=by
 intro c hc
 simp only[mcC,mem_cons,not_mem_nil,or_false]at hc
 rcases hc with rfl|rfl|rfl|rfl|rfl|rfl|rfl|rfl|rfl|rfl|rfl|rfl|rfl|rfl|rfl|rfl|rfl<;>rfl
open Classical in
noncomputable def mcR(r:List C):Option (Pg×Ms):=if h:∃a:Pg×Ms,mcC a.1 a.2=r then some h.choose else none
theorem jT{r:List C}{a:Pg×Ms}(h:mcR r=some a):r=mcC a.1 a.2:=by
 unfold mcR at h
 exact AAh
theorem qq(P:Pg)(m:Ms):mcR (mcC P m)=some (P,m):=by
 unfold mcR
 have hx:∃a:Pg×Ms,mcC a.1 a.2=mcC P m:=⟨(P,m),rfl⟩
 rw[dif_pos hx]
 obtain⟨h1,h2⟩:=u4 hx.choose_spec
 exact congrArg some (Prod.ext h1 h2)
theorem Hm(c:List (List UInt8))(a:List Gy)(fs:List Fn)(fuel deep e v al k:Int)(cs:List Nb)(ar:List Na)(f:List UInt8):mcR [.d (.sl Fq (c.map cSd)),.d (.sl GP (a.map Gy.r)),.d (.sl zFn (fs.map Fn.r)),.v (.int .i64 fuel),.v (.int .i64 deep),.d (.mp (mpI (fI (fs.map Fn.name)))),.d (.mp (mpI (fI c))),.d (.mp (mpI (fI (a.map Gy.s)))),
 .ov zNb (cs.map Nb.c),.ov zNa (ar.map Na.c),.v (.int .i64 e),.v (.int .i64 v),.v (.string (bs f)),.v (.int .i64 al),.v (.int .i64 k),.v (.slice none 0 0),.v (.slice none 0 0)]=some (⟨⟨c,a⟩,fs⟩,⟨fuel,deep,cs,ar,e,v,f,al,k⟩):=qq ⟨⟨c,a⟩,fs⟩ ⟨fuel,deep,cs,ar,e,v,f,al,k⟩
noncomputable def mMc:RowM (Pg×Ms) where
 z:=zMc
 d:=mcR
 e a:=mcC a.1 a.2
 h r b h:=jT h
 n b:=JL b.1 b.2
 t:=rfl
theorem IH:mMc.e=λa=>mcC a.1 a.2:=rfl
theorem II:mMc.z=zMc:=rfl
theorem Gw(c:List (List UInt8))(a:List Gy)(fs:List Fn)(fuel deep e v al k:Int)(cs:List Nb)(ar:List Na)(f:List UInt8):mMc.d [.d (.sl Fq (c.map cSd)),.d (.sl GP (a.map Gy.r)),.d (.sl zFn (fs.map Fn.r)),.v (.int .i64 fuel),.v (.int .i64 deep),.d (.mp (mpI (fI (fs.map Fn.name)))),.d (.mp (mpI (fI c))),.d (.mp (mpI (fI (a.map Gy.s)))),
 .ov zNb (cs.map Nb.c),.ov zNa (ar.map Na.c),.v (.int .i64 e),.v (.int .i64 v),.v (.string (bs f)),.v (.int .i64 al),.v (.int .i64 k),.v (.slice none 0 0),.v (.slice none 0 0)]=some (⟨⟨c,a⟩,fs⟩,⟨fuel,deep,cs,ar,e,v,f,al,k⟩):=Hm ..
theorem Dz(P:Pg):(⟨⟨P.g.c,P.g.a⟩,P.fs⟩:Pg)=P:=rfl
theorem EQ(m:Ms):(⟨m.fuel,m.deep,m.cs,m.ar,m.e,m.v,m.f,m.al,m.k⟩:Ms)=m:=rfl
def mcW(P:Pg)(m:Ms):MV:=(zMc,[mcC P m])
theorem QG(P:Pg)(m:Ms):∀q,some q∈[some (mcW P m)]->∀r∈q.2,∀c∈r,c.names=[]:=by
 intro q hq r hr c hc
 simp only[mem_singleton,jS]at hq
 subst hq
 simp only[mcW,mem_singleton]at hr
 subst hr
 exact JL P m c hc
def vsC(vs:Vs):List (List UInt8×List C):=vs.map λp=>(p.1,p.2.c)
theorem u5{a b:Vs}(h:vsC a=vsC b):a=b:=by
 refine Aj (f:=λp:List UInt8×Va=>(p.1,p.2.c)) (λx y hxy=>?_) h
 obtain⟨s,v⟩:=x
 obtain⟨s',v'⟩:=y
 simp only[jP]at hxy
 rw[hxy.1,u3 _ _ hxy.2]
theorem Vi(vs:Vs):∀c∈(vsC vs).flatMap (·.2),c.names=[]:=by
 intro c hc
 obtain⟨p,hp,hc⟩:=mem_flatMap.1 hc
 obtain⟨q,_,rfl⟩:=List.mem_map.1 hp
 simp only[Va.c,mem_cons,not_mem_nil,or_false]at hc
 exact AAt
open Classical in
noncomputable def vsR(es:List (List UInt8×List C)):Option Vs:=if h:∃vs,vsC vs=es then some h.choose else none
theorem zA{es:List (List UInt8×List C)}{vs:Vs}(h:vsR es=some vs):es=vsC vs:=by
 unfold vsR at h
 exact AAh
theorem qt(vs:Vs):vsR (vsC vs)=some vs:=by
 unfold vsR
 have hx:∃a,vsC a=vsC vs:=⟨vs,rfl⟩
 rw[dif_pos hx,u5 hx.choose_spec]
abbrev zFr:List C:=[.v (.pointer none),.v (.string (bs [])),.v (.map none),.v (.int .i64 0)]
def frC(q:Fa):List C:=[.p 1 0 0,.v (.string (bs q.nm)),.s 2,.v (.int .i64 q.ret)]
def Fa.mem(q:Fa):List ML:=[.vec zFr [frC q],.vec zMc [mcC q.P q.m],.mp true (vsC q.vs)]
def Fa.memO(q:Fa):List (Option ML):=[some (.vec zFr [frC q]),some (.vec zMc [mcC q.P q.m]),some (.mp true (vsC q.vs))]
def Fa.pan(q:Fa):List (Option MV):=[none,some (zMc,[mcC q.P q.m]),none]
def frD:Option Ch->Option (List UInt8×Int×Nat×Nat)
 |some (.vec _ z [[.p k1 0 0,.v (.string s),.s k2,.v (.int .i64 n)]])=>if z.length=4 then some (s.toList,n,k1,k2) else none
 |_=>none
noncomputable def mcD:Option Ch->Option (Pg×Ms)
 |some (.vec _ z [r])=>if z.length=17 then mcR r else none
 |_=>none
noncomputable def vsD:Option Ch->Option Vs
 |some (.mp true es)=>vsR es
 |_=>none
noncomputable def faJ(k k1 k2:Nat)(nm:List UInt8)(ret:Int):Option (Pg×Ms)->Option Vs->Option (Fa×List Nat)
 |some (P,m),some vs=>some (⟨nm,ret,P,m,vs⟩,[k,k1,k2])
 |_,_=>none
noncomputable def faK(H:Hp)(k:Nat):Option (List UInt8×Int×Nat×Nat)->Option (Fa×List Nat)
 |some (nm,ret,k1,k2)=>faJ k k1 k2 nm ret (mcD (H k1)) (vsD (H k2))
 |none=>none
noncomputable def faD(H:Hp):SV->Option (Fa×List Nat)
 | .one (.p k 0 0)=>faK H k (frD (H k))
 |_=>none
theorem zB{nm:List UInt8}{ret:Int}{k1 k2:Nat}(h:frD o=some (nm,ret,k1,k2)):∃u z,o=some (.vec u z [[.p k1 0 0,.v (.string (bs nm)),.s k2,.v (.int .i64 ret)]])/\z.length=4:=by
 unfold frD at h
 split at h
 .split at h
  .rename_i hz
   simp only[jS,jP]at h
   obtain⟨rfl,rfl,rfl,rfl⟩:=h
   exact⟨_,_,by rw[PB],hz⟩
  cases h
 cases h
theorem zC{a:Pg×Ms}(h:mcD o=some a):∃u z,o=some (.vec u z [mcC a.1 a.2])/\z.length=17:=by
 unfold mcD at h
 split at h
 .split at h
  .rename_i hz
   rw[jT h]
   exact⟨_,_,rfl,hz⟩
  cases h
 cases h
theorem zD{vs:Vs}(h:vsD o=some vs):o=some (.mp true (vsC vs)):=by
 unfold vsD at h
 split at h
 .rw[zA h]
 cases h
theorem jU{H:Hp}{q:Fa}(h:faD H v=some (q,ks)):∃k k1 k2,ks=[k,k1,k2]/\v= .one (.p k 0 0)/\
  (∃u z,H k=some (.vec u z [[.p k1 0 0,.v (.string (bs q.nm)),.s k2,.v (.int .i64 q.ret)]])/\z.length=4)/\(∃u z,H k1=some (.vec u z [mcC q.P q.m])/\z.length=17)/\H k2=some (.mp true (vsC q.vs)):=by
 unfold faD at h
 split at h
 .rename_i k
  cases hf:frD (H k) with
  |none=>rw[hf]at h;cases h
  |some x=>
   obtain⟨nm,ret,k1,k2⟩:=x
   rw[hf]at h
   simp only[faK]at h
   cases hm:mcD (H k1) with
   |none=>rw[hm]at h;cases h
   |some a=>
    cases hv:vsD (H k2) with
    |none=>rw[hm,hv]at h;cases h
    |some vs=>
     rw[hm,hv]at h
     simp only[faJ,jS,jP]at h
     obtain⟨rfl,rfl⟩:=h
     exact⟨k,k1,k2,rfl,rfl,zB hf,zC hm,zD hv⟩
 .cases h
theorem jV{H H':Hp}{q:Fa}{ks:List Nat}(h:faD H v=some (q,ks))(hk:∀k∈ks,H' k=H k):faD H' v=some (q,ks):=by
 obtain⟨k,k1,k2,rfl,rfl,⟨u,z,h1,hz⟩,⟨u',z',h2,hz'⟩,h3⟩:=jU h
 show faK H' k (frD (H' k))=_
 rw[hk k (by simp),h1]
 simp only[frD,if_pos hz,faK,IB]
 rw[hk k1 (by simp),hk k2 (by simp),h2,h3]
 simp only[mcD,if_pos hz',qq,vsD,qt,faJ]
theorem Uc{f:Nat->Nat}(h:v.names=[]):rnV f v=v:=by
 cases v with
 |one c=>exact congrArg SV.one (F8 h)
 |agg l=>
  refine congrArg SV.agg (DR λc hc=>F8 ?_)
  exact List.eq_nil_iff_forall_not_mem.2 λk hk=>by
   have:k∈(SV.agg l).names:=mem_flatMap.2 ⟨c,hc,hk⟩
   rw[h]at this;cases this
 |tup l=>rfl
open Classical in
noncomputable def frJ{B:Type}(ac:ArgC B)(r:List SV):Option (Fa×List Nat)->Option B->Option ((Fa×B)×List Nat)
 |some (q,ks),some b=>if ac.e b=r then some ((q,b),ks) else none
 |_,_=>none
theorem aA(ac:ArgC B)(r:List SV)(q:Fa)(ks:List Nat)(b:B)(h:ac.e b=r):frJ ac r (some (q,ks)) (some b)=some ((q,b),ks):=if_pos h
open Classical in
theorem Gx(ac:ArgC B)(r:List SV)(q:Fa)(ks:List Nat)(b:B):frJ ac r (some (q,ks)) (some b)=if ac.e b=r then some ((q,b),ks) else none:=rfl
theorem jW{ac:ArgC B}{r:List SV}{o:Option (Fa×List Nat)}{p:Option B}{a:Fa×B}(h:frJ ac r o p=some (a,ks)):∃q b,o=some (q,ks)/\p=some b/\ac.e b=r/\a=(q,b):=by
 cases o with
 |none=>cases h
 |some x=>
 obtain⟨q,ks'⟩:=x
 cases p with
 |none=>cases h
 |some b=>
 by_cases he:ac.e b=r
 .rw[aA ac r q ks' b he]at h
  simp only[jS,jP]at h
  obtain⟨rfl,rfl⟩:=h
  exact⟨q,b,rfl,rfl,he,rfl⟩
 have:frJ ac r (some (q,ks')) (some b)=none:=if_neg he
 rw[this]at h;cases h
noncomputable def amFr{B:Type}(ac:ArgC B)(nt:∀b,∀v∈ac.e b,v.tupB=false):ArgL (Fa×B) where
 d H l:=match l with
  |v::r=>frJ ac r (faD H v) (ac.d r)
  |[]=>none
 args p:=.one (.p 0 0 0)::ac.e p.2
 mem p:=p.1.mem
 h H l a ks h:=by
  match l with
  |[]=>cases h
  |v::r=>
   obtain⟨q,b,hf,hb,he,rfl⟩:=jW h
   obtain⟨k,k1,k2,rfl,rfl,⟨u,z,h1,hz⟩,⟨u',z',h2,hz'⟩,h3⟩:=jU hf
   refine⟨?_,rfl,λi n hi=>?_⟩
   .show _=(SV.one (.p 0 0 0)::ac.e b).map (rnV (nmK [k,k1,k2]))
    rw[List.map_cons,DR (l:=ac.e b) λv hv=>Uc (ac.n b v hv),he];rfl
   .match i,hi with
    |0,hi=>
     obtain rfl:=Option.some.inj hi
     refine⟨_,rfl,?_⟩
     rw[h1]
     exact⟨rfl,hz,.inl rfl⟩
    |1,hi=>
     obtain rfl:=Option.some.inj hi
     refine⟨_,rfl,?_⟩
     rw[h2]
     refine⟨?_,hz',.inl rfl⟩
     show [mcC q.P q.m]=[(mcC q.P q.m).map _]
     rw[DR λc hc=>F8 (JL q.P q.m c hc)]
    |2,hi=>
     obtain rfl:=Option.some.inj hi
     refine⟨_,rfl,?_⟩
     rw[h3]
     refine⟨rfl,?_⟩
     show vsC q.vs=(vsC q.vs).map _
     rw[DR λp hp=>?_]
     show (p.1,p.2.map _)=p
     rw[DR λc hc=>F8 (Vi q.vs c (mem_flatMap.2 ⟨p,hp,hc⟩))]
    |i+3,hi=>simp at hi
 n a m hm c hc:=by
  simp only[Fa.mem,mem_cons,not_mem_nil,or_false]at hm
  rcases hm with rfl|rfl|rfl
  .simp only[ML.cells,flatMap_cons,flatMap_nil,append_nil,id,frC,mem_cons,not_mem_nil,or_false]at hc
   rcases hc with rfl|rfl|rfl|rfl
   .exact .inr (.inr (.inl ⟨1,0,0,rfl,by show 1<3;decide⟩))
   .exact .inl rfl
   .exact .inr (.inl ⟨2,rfl,by show 2<3;decide⟩)
   .exact .inl rfl
  .simp only[ML.cells,flatMap_cons,flatMap_nil,append_nil,id]at hc
   exact .inl (JL _ _ c hc)
  .exact .inl (Vi _ c hc)
 an a v hv:=by
  rcases mem_cons.1 hv with rfl|hv
  .exact .inr (.inr (.inl ⟨0,0,0,rfl,by show 0<3;decide⟩))
  .have:=ac.n a.2 v hv
   cases v with
   |one c=>exact .inl this
   |agg l=>
    intro c hc
    exact .inl (List.eq_nil_iff_forall_not_mem.2 λk hk=>by
     have h2:k∈(SV.agg l).names:=mem_flatMap.2 ⟨c,hc,hk⟩
     rw[this]at h2;cases h2)
   |tup l=>cases nt a.2 _ hv
 l H H' v a ks h hk:=by
  match v with
  |[]=>cases h
  |x::r=>
   obtain⟨q,b,hf,hb,he,rfl⟩:=jW h
   show frJ ac r (faD H' x) (ac.d r)=_
   rw[jV hf hk,hb,aA ac r q ks b he]
theorem Gz(ac:ArgC B)(nt)(H:Hp)(v:SV)(r:List SV):(amFr ac nt).d H (v::r)=frJ ac r (faD H v) (ac.d r):=rfl
theorem H4(ac:ArgC B)(nt)(q:Fa)(b:B):(amFr ac nt).args (q,b)= .one (.p 0 0 0)::ac.e b:=rfl
theorem H5(ac:ArgC B)(nt)(q:Fa)(b:B):(amFr ac nt).mem (q,b)=q.mem:=rfl
theorem IJ(H:Hp)(k:Nat):faD H (.one (.p k 0 0))=faK H k (frD (H k)):=rfl
theorem IK(u:Nat)(z:List C)(k1 k2:Nat)(s:List UInt8)(n:Int)(hz:z.length=4):frD (some (.vec u z [[.p k1 0 0,.v (.string (bs s)),.s k2,.v (.int .i64 n)]]))=some (s,n,k1,k2):=by
 simp only[frD,if_pos hz,IB]
theorem F5(H:Hp)(k k1 k2:Nat)(nm:List UInt8)(ret:Int):faK H k (some (nm,ret,k1,k2))=faJ k k1 k2 nm ret (mcD (H k1)) (vsD (H k2)):=rfl
theorem F6(k k1 k2:Nat)(nm:List UInt8)(ret:Int)(P:Pg)(m:Ms)(vs:Vs):faJ k k1 k2 nm ret (some (P,m)) (some vs)=some (⟨nm,ret,P,m,vs⟩,[k,k1,k2]):=rfl
theorem IL(u:Nat)(z r:List C)(hz:z.length=17):mcD (some (.vec u z [r]))=mcR r:=by simp only[mcD,if_pos hz]
theorem IM(vs:Vs):vsD (some (.mp true (vsC vs)))=some vs:=qt vs
theorem Ek(q q':Fa):PW (q.mem).length q'.memO=true/\kdL q.mem q'.memO=true/\∀m,some m∈q'.memO->Ka q'.memO.length m:=by
 refine⟨rfl,rfl,λm hm=>?_⟩
 have:m∈q'.mem:=by
  simp only[Fa.memO,mem_cons,jS,not_mem_nil,or_false]at hm
  simp only[Fa.mem,mem_cons,not_mem_nil,or_false]
  exact hm
 exact(amFr ac0 (λb v hv=>by cases hv)).n (q',()) m this
theorem JM(q q':Fa):(mlO q'.pan).length=(q.mem).length/\kdL q.mem (mlO q'.pan)=true/\∀m,some m∈mlO q'.pan->Ka (mlO q'.pan).length m:=by
 refine⟨rfl,rfl,λm hm=>?_⟩
 simp only[Fa.pan,mlO,List.map_cons,List.map_nil,Option.map_none,Option.map_some,mem_cons,not_mem_nil,or_false,reduceCtorEq,jS,false_or]at hm
 subst hm
 intro c hc
 simp only[ML.cells,flatMap_cons,flatMap_nil,append_nil,id]at hc
 exact .inl (JL _ _ c hc)
theorem JN(q:Fa):∀m,some m∈q.pan->∀r∈m.2,∀c∈r,c.names=[]:=by
 intro m hm r hr c hc
 simp only[Fa.pan,mem_cons,not_mem_nil,or_false,reduceCtorEq,jS,false_or]at hm
 subst hm
 simp only[mem_singleton]at hr
 subst hr
 exact JL _ _ c hc
theorem Hx(ac:ArgC B)(nt)(q:Fa)(b:B):∀v∈(amFr ac nt).args (q,b),∀k∈v.names,k<(Fa.mem q).length:=by
 intro v hv k hk
 rcases mem_cons.1 hv with rfl|hv
 .simp only[SV.names,C.names,mem_singleton]at hk
  subst hk;show 0<3;decide
 rw[ac.n b v hv]at hk;cases hk
theorem ZG(P:Pg)(m:Ms){r:List C}(h:r=mcC P m):∀c∈[r].flatMap id,c.names=[]:=by
 subst h
 intro c hc
 simp only[flatMap_cons,flatMap_nil,append_nil,id]at hc
 exact JL _ _ c hc
abbrev Zi:=List (List UInt8×Int)
abbrev Zp:=List (List UInt8×List UInt8)
structure Rz where
 P:Pg
 m:Ms
 f:Fn
 is:Zi
 ps:Zp
def ixN(s:List UInt8):List (List UInt8)->Int->Int
 |[],_ => -1
 |x::r,i=>if (x==s)=true then i else ixN s r (i+1)
def Ms.cx(m:Ms)(s:List UInt8):Int:=ixN s (m.cs.map Nb.s) 0
def Ms.ax(m:Ms)(s:List UInt8):Int:=ixN s (m.ar.map Na.s) 0
def Ms.on(m:Ms):Bool:=m.e==0
def Ms.zfail(m:Ms)(nm:List UInt8)(al k:Int):Ms:=if m.on=true then { m with e:=2,f:=nm,al:=al,k:=k } else m
def opZ(nm:List UInt8)(al k x y:Int)(m:Ms):Int×Ms:=if k=2 then (w64i (x+y),m) else if k=3 then (w64i (x-y),m) else if k=4 then (w64i (x*y),m) else if y=0 then (0,m.zfail nm al 0) else if k=5 then (w64i (x.tdiv y),m) else (x.tmod y,m)
def vrZ(nm:List UInt8)(al:Int)(is:Zi)(s:List UInt8)(m:Ms):Int×Ms:=match AH is s with
 |some v=>(v,m)
 |none=>if 0<=m.cx s then (m.cell (m.cx s),m) else (0,m.zfail nm al 4)
def evZ(nm:List UInt8)(al:Int)(is:Zi):Ex->Ms->Int×Ms
 | .nil,m=>(0,m)
 | .mk k n s a b,m=>
  if m.on=false then (0,m)
  else if k=0 then (n,m)
  else if k=1 then vrZ nm al is s m
  else if k=7 then (w64i (0-(evZ nm al is a m).1),(evZ nm al is a m).2)
  else if (evZ nm al is b (evZ nm al is a m).2).2.on=false then (0,(evZ nm al is b (evZ nm al is a m).2).2)
  else opZ nm al k (evZ nm al is a m).1 (evZ nm al is b (evZ nm al is a m).2).1 (evZ nm al is b (evZ nm al is a m).2).2
def cmZ(k x y:Int):Bool:=if k=0 then x==y else if k=1 then !(x==y) else if k=2 then decide (x<y) else if k=3 then decide (x<=y) else if k=4 then decide (y<x) else decide (y<=x)
def pgZ(ps:Zp)(s:List UInt8):List UInt8:=(AH ps s).getD []
def cdZ(nm:List UInt8)(al:Int)(is:Zi)(ps:Zp):Cd->Ms->Bool×Ms
 | .nil,m=>(false,m)
 | .mk k a b p q s,m=>
  if m.on=false then (false,m)
  else if k=9 then (pgZ ps s==[],m)
  else if k=8 then (!(cdZ nm al is ps p m).1,(cdZ nm al is ps p m).2)
  else if k=6 then if (cdZ nm al is ps p m).1=true then cdZ nm al is ps q (cdZ nm al is ps p m).2 else (false,(cdZ nm al is ps p m).2)
  else if k=7 then if (cdZ nm al is ps p m).1=true then (true,(cdZ nm al is ps p m).2) else if (cdZ nm al is ps p m).2.on=true then cdZ nm al is ps q (cdZ nm al is ps p m).2 else (false,(cdZ nm al is ps p m).2)
  else (cmZ k (evZ nm al is a m).1 (evZ nm al is b (evZ nm al is a m).2).1,(evZ nm al is b (evZ nm al is a m).2).2)
def seZ(q:Rz)(al:Int)(s:List UInt8)(v:Int):Rz:=
 if q.m.on=false then q
 else match AH q.is s with
  |some _=>{ q with is:=B5 q.is s v }
  |none=>if 0<=q.m.cx s then { q with m:=q.m.set (q.m.cx s) v } else { q with m:=q.m.zfail q.f.name al 4 }
def thZ(q:Rz)(al:Int)(s:List UInt8):Int×Ms:=
 if q.m.on=false then (-1,q.m)
 else if (pgZ q.ps s==[])=true then (-1,q.m.zfail q.f.name al 2)
 else if q.m.cx (pgZ q.ps s)<0 then (-1,q.m.zfail q.f.name al 2)
 else (q.m.cx (pgZ q.ps s),q.m)
def idZ(q:Rz)(al:Int)(s:List UInt8)(i:Int):(Int×Int)×Ms:=
 if q.m.on=false then ((-1,-1),q.m)
 else if q.m.ax s<0 then ((-1,-1),q.m.zfail q.f.name al 4)
 else if i<0∨((q.m.arr (q.m.ax s)).length:Int)<=i then ((-1,-1),q.m.zfail q.f.name al 1)
 else ((q.m.ax s,i),q.m)
def fnG(s:List UInt8):List Fn->Option Fn
 |[]=>none
 |g::r=>if (g.name==s)=true then some g else fnG s r
def agZ(nm:List UInt8)(al:Int)(is:Zi)(ps:Zp):List Ar->Ms->List Va×Ms
 |[],m=>([],m)
 |a::l,m=>if a.p=true then (⟨true,0,pgZ ps a.s⟩::(agZ nm al is ps l m).1,(agZ nm al is ps l m).2)
  else (⟨false,(evZ nm al is a.e m).1,[]⟩::(agZ nm al is ps l (evZ nm al is a.e m).2).1,(agZ nm al is ps l (evZ nm al is a.e m).2).2)
def isL:List Vr->Zi->Zi
 |[],is=>is
 |v::l,is=>isL l (if v.p=true then is else B5 is v.s 0)
def psL':List Vr->Zp->Zp
 |[],ps=>ps
 |v::l,ps=>psL' l (if v.p=true then B5 ps v.s [] else ps)
def isP:List Vr->List Va->Zi->Zi
 |v::l,a::r,is=>isP l r (if v.p=true then is else B5 is v.s a.n)
 |_,_,is=>is
def psP':List Vr->List Va->Zp->Zp
 |v::l,a::r,ps=>psP' l r (if v.p=true then B5 ps v.s a.s else ps)
 |_,_,ps=>ps
def blZ(st:Sm->Rz->Rz):List Sm->Rz->Rz
 |[],q=>q
 |s::l,q=>if q.m.on=true then blZ st l (st s q) else q
def enZ(st:Sm->Rz->Rz)(P:Pg)(g:Fn)(a:List Va)(m:Ms):Int×Ms:=
 if m.on=false then (0,m)
 else if 200<=m.deep then (0,{ m with e:=3 })
 else
  let r:=(blZ st g.body ⟨P,{ m with deep:=w64i (m.deep+1) },g,isP g.ps a (isL g.ls []),psP' g.ps a (psL' g.ls [])⟩).m
  if (r.e==1)=true then (r.v,{ r with deep:=w64i (r.deep-1),e:=0 }) else (0,{ r with deep:=w64i (r.deep-1) })
def Ms.zspd(m:Ms):Ms:={ m with e:=if m.on=true/\m.fuel<1 then 3 else m.e,fuel:=w64i (m.fuel-1) }
def lpZ(bl:Rz->Rz)(s:Sm):Nat->Rz->Rz
 |0,q=>q
 |k+1,q=>
  if q.m.zspd.on=false then { q with m:=q.m.zspd }
  else
   let c:=cdZ q.f.name s.no q.is q.ps s.cd q.m.zspd
   if c.1=false then { q with m:=c.2 }
   else if c.2.on=false then { q with m:=c.2 }
   else if (bl { q with m:=c.2 }).m.on=false then bl { q with m:=c.2 }
   else lpZ bl s k (bl { q with m:=c.2 })
def caZ(st:Sm->Rz->Rz)(s:Sm)(q:Rz):Rz:=
 let a:=agZ q.f.name s.no q.is q.ps s.ar q.m
 if a.2.on=false then { q with m:=a.2 }
 else match fnG s.y q.P.fs with
  |none=>{ q with m:=a.2.zfail q.f.name s.no 4 }
  |some g=>
   if Dw g.ps a.1=false then { q with m:=a.2.zfail q.f.name s.no 4 }
   else
    let r:=enZ st q.P g a.1 a.2
    if (s.x==[])=true then { q with m:=r.2 } else seZ { q with m:=r.2 } s.no s.x r.1
def smZ(st:Sm->Rz->Rz)(s:Sm)(q:Rz):Rz:=
 if s.k=0 then
  let v:=evZ q.f.name s.no q.is s.e q.m
  seZ { q with m:=v.2 } s.no s.x v.1
 else if s.k=1 then if q.m.cx s.y<0 then { q with m:=q.m.zfail q.f.name s.no 4 } else { q with ps:=B5 q.ps s.x s.y }
 else if s.k=2 then { q with ps:=B5 q.ps s.x (pgZ q.ps s.y) }
 else if s.k=3 then { q with ps:=B5 q.ps s.x [] }
 else if s.k=4 then
  let c:=thZ q s.no s.y
  if 0<=c.1 then seZ { q with m:=c.2 } s.no s.x (c.2.cell c.1) else { q with m:=c.2 }
 else if s.k=5 then
  let v:=evZ q.f.name s.no q.is s.e q.m
  let c:=thZ { q with m:=v.2 } s.no s.x
  if 0<=c.1 then { q with m:=c.2.set c.1 v.1 } else { q with m:=c.2 }
 else if s.k=6 then
  let v:=evZ q.f.name s.no q.is s.e q.m
  let c:=idZ { q with m:=v.2 } s.no s.y v.1
  if 0<=c.1.1 then seZ { q with m:=c.2 } s.no s.x ((c.2.arr c.1.1).getD c.1.2.toNat 0) else { q with m:=c.2 }
 else if s.k=7 then
  let v:=evZ q.f.name s.no q.is s.e q.m
  let u:=evZ q.f.name s.no q.is s.f v.2
  let c:=idZ { q with m:=u.2 } s.no s.y v.1
  if 0<=c.1.1 then { q with m:=c.2.put c.1.1 c.1.2 u.1 } else { q with m:=c.2 }
 else if s.k=8 then caZ st s q
 else if s.k=9 then
  let v:=evZ q.f.name s.no q.is s.e q.m
  if v.2.on=true then { q with m:={ v.2 with e:=1,v:=v.1 } } else { q with m:=v.2 }
 else if s.k=10 then
  let c:=cdZ q.f.name s.no q.is q.ps s.cd q.m
  if c.2.on=false then { q with m:=c.2 } else if c.1=true then blZ st s.th { q with m:=c.2 } else blZ st s.el { q with m:=c.2 }
 else if s.k=12 then
  let c:=cdZ q.f.name s.no q.is q.ps s.cd q.m
  if c.1=true then { q with m:=c.2 } else { q with m:=c.2.zfail q.f.name s.no 3 }
 else q
def stZ:Nat->Sm->Rz->Rz
 |0,_,q=>q
 |n+1,s,q=>
  if s.k=11 then lpZ (blZ (stZ n) s.th) s (n+1) q
  else if q.m.zspd.on=false then { q with m:=q.m.zspd }
  else smZ (stZ n) s { q with m:=q.m.zspd }
def exR:Ex->Prop
 | .nil=>False
 | .mk k _ _ a b=>k=0∨k=1∨(k=7/\exR a)∨((k=2∨k=3∨k=4∨k=5∨k=6)/\exR a/\exR b)
def cdR:Cd->Prop
 | .nil=>False
 | .mk k a b p q _=>k=9∨(k=8/\cdR p)∨((k=6∨k=7)/\cdR p/\cdR q)∨((k=0∨k=1∨k=2∨k=3∨k=4∨k=5)/\exR a/\exR b)
structure smR(s:Sm):Prop where
 e:s.k=0∨s.k=5∨s.k=6∨s.k=7∨s.k=9->exR s.e
 f:s.k=7->exR s.f
 c:s.k=10∨s.k=11∨s.k=12->cdR s.cd
 a:s.k=8->∀a∈s.ar,a.p=false->exR a.e
def bkR:Nat->List Sm->Prop
 |0,_=>False
 |m+1,l=>∀s∈l,smR s/\bkR m s.th/\bkR m s.el
theorem Zm(s:List UInt8):∀(l:List (List UInt8)) (i:Int),0<=i -> -1<=ixN s l i/\ixN s l i<i+(l.length:Int)
 |[],i,h=>⟨Int.le_refl _,by show (-1:Int)<_;simp;omega⟩
 |x::r,i,h=>by
  have ih:=Zm s r (i+1) (by omega)
  simp only[ixN,List.length_cons]
  split<;>omega
theorem Ms.cx_rg(m:Ms)(s:List UInt8): -1<=m.cx s/\m.cx s<(m.cs.length:Int):=by
 have:=Zm s (m.cs.map Nb.s) 0 (Int.le_refl _)
 rw[List.length_map]at this
 unfold Ms.cx;omega
theorem Ms.ax_rg(m:Ms)(s:List UInt8): -1<=m.ax s/\m.ax s<(m.ar.length:Int):=by
 have:=Zm s (m.ar.map Na.s) 0 (Int.le_refl _)
 rw[List.length_map]at this
 unfold Ms.ax;omega
end Go.Proofs.YtapedeoheilnnaaGreat
