/- Machines and frames in memory. No conditions but those in each statement. -/
import Derived.Test.YtapedeoheilnnaaGreatSy36
import Derived.Test.YtapedeoheilnnaaGreatPg1
import Derived.Test.YtapedeoheilnnaaGreatPa9
set_option linter.all false
set_option maxRecDepth 20000
set_option maxHeartbeats 16000000
open List (length_cons length_nil append_nil mem_singleton map_append mem_cons not_mem_nil mem_flatMap mem_map flatMap_cons flatMap_nil)
namespace Go.Proofs.YtapedeoheilnnaaGreat
open Go Go.Sy Go.RowKit
theorem AAk{P:Prop}(h:P:=by refine A2 [] ?_;simp only[seval,go_sem,CT.fn,CT.mv,zSr]):P:=h
variable{B:Type}{v:SV}{ks:List Nat}{p:Pr}{ts:List Kt}
def Gy.r(x:Gy):List D:=[.v (.string (bs x.s)),.v (.int .i64 x.n)]
def cSd(x:List UInt8):List D:=[.v (.string (bs x))]
def Fq:List D:=[.v (.string (bs []))]
def GP:List D:=[.v (.string (bs [])),.v (.int .i64 0)]
def Va.c(a:Va):List C:=[.v (.bool a.p),.v (.int .i64 a.n),.v (.string (bs a.s))]
def Nb.c(x:Nb):List C:=[.v (.string (bs x.s)),.v (.int .i64 x.n)]
def cI(n:Int):List C:=[.v (.int .i64 n)]
def zI:List C:=[.v (.int .i64 0)]
def Na.c(x:Na):List C:=[.v (.string (bs x.s)),.ov zI (x.l.map cI)]
def zNb:List C:=[.v (.string (bs [])),.v (.int .i64 0)]
def zNa:List C:=[.v (.string (bs [])),.v (.slice none 0 0)]
def mpI(es:List (List UInt8×Int)):List (List UInt8×Value):=es.map λp=>(p.1,.int .i64 p.2)
def mcC(P:Pg)(m:Ms):List C:=[.d (.sl Fq (P.g.c.map cSd)),.d (.sl GP (P.g.a.map Gy.r)),.d (.sl zFn (P.fs.map Fn.r)),.v (.int .i64 m.fuel),.v (.int .i64 m.deep),.d (.mp (mpI (fI (P.fs.map Fn.name)))),.d (.mp (mpI (fI P.g.c))),.d (.mp (mpI (fI (P.g.a.map Gy.s)))),
 .ov zNb (m.cs.map Nb.c),.ov zNa (m.ar.map Na.c),.v (.int .i64 m.e),.v (.int .i64 m.v),.v (.string (bs m.f)),.v (.int .i64 m.al),.v (.int .i64 m.k),.v (.slice none 0 0),.v (.slice none 0 0)]
abbrev zMc:List C:=[.v (.int .i64 0),.v (.int .i64 0),.v (.int .i64 0),.v (.int .i64 0),.v (.int .i64 0),.v (.int .i64 0),.v (.int .i64 0),.v (.int .i64 0),.v (.int .i64 0),.v (.int .i64 0),.v (.int .i64 0),.v (.int .i64 0),.v (.int .i64 0),.v (.int .i64 0),.v (.int .i64 0),.v (.int .i64 0),.v (.int .i64 0)]
theorem QE(a b:List UInt8)(h:cSd a=cSd b):a=b:=by
 simp only[cSd,List.cons.injEq,D.v.injEq,Value.string.injEq,and_true]at h
 exact bs_inj h
theorem QF(a b:Gy)(h:a.r=b.r):a=b:=by
 obtain⟨s,n⟩:=a
 obtain⟨s',n'⟩:=b
 simp only[Gy.r,List.cons.injEq,D.v.injEq,Value.string.injEq,Value.int.injEq,true_and,and_true]at h
 obtain⟨h1,rfl⟩:=h
 rw[bs_inj h1]
theorem dX(a b:Nb)(h:a.c=b.c):a=b:=by
 obtain⟨s,n⟩:=a
 obtain⟨s',n'⟩:=b
 simp only[Nb.c,List.cons.injEq,C.v.injEq,Value.string.injEq,Value.int.injEq,true_and,and_true]at h
 obtain⟨h1,rfl⟩:=h
 rw[bs_inj h1]
theorem z9(a b:Int)(h:cI a=cI b):a=b:=by simpa [cI] using h
theorem dY(a b:Na)(h:a.c=b.c):a=b:=by
 obtain⟨s,l⟩:=a
 obtain⟨s',l'⟩:=b
 simp only[Na.c,List.cons.injEq,C.v.injEq,C.ov.injEq,Value.string.injEq,true_and,and_true]at h
 obtain⟨h1,h2⟩:=h
 rw[bs_inj h1,Aj z9 h2]
theorem u3(a b:Va)(h:a.c=b.c):a=b:=by
 obtain⟨p,n,s⟩:=a
 obtain⟨p',n',s'⟩:=b
 simp only[Va.c,List.cons.injEq,C.v.injEq,Value.string.injEq,Value.int.injEq,Value.bool.injEq,true_and,and_true]at h
 obtain⟨rfl,rfl,h1⟩:=h
 rw[bs_inj h1]
theorem u4{P P':Pg}{m m':Ms}(h:mcC P m=mcC P' m'):P=P'/\m=m':=by
 obtain⟨⟨c,a⟩,fs⟩:=P
 obtain⟨⟨c',a'⟩,fs'⟩:=P'
 obtain⟨fuel,deep,cs,ar,e,v,f,al,k⟩:=m
 obtain⟨fuel',deep',cs',ar',e',v',f',al',k'⟩:=m'
 simp only[mcC,List.cons.injEq,C.d.injEq,C.v.injEq,C.ov.injEq,D.sl.injEq,Value.int.injEq,Value.string.injEq,true_and,and_true]at h
 obtain⟨h1,h2,h3,rfl,rfl,_,_,_,h4,h5,rfl,rfl,h6,rfl,rfl⟩:=h
 rw[Aj QE h1,Aj QF h2,Aj WO h3,Aj dX h4,Aj dY h5,bs_inj h6]
 exact⟨rfl,rfl⟩
theorem JL(P:Pg)(m:Ms):∀c∈mcC P m,c.names=[]:=by
 intro c hc
 simp only[mcC,mem_cons,not_mem_nil,or_false]at hc
 rcases hc with rfl|rfl|rfl|rfl|rfl|rfl|rfl|rfl|rfl|rfl|rfl|rfl|rfl|rfl|rfl|rfl|rfl<;>rfl
open Classical in
noncomputable def mcR(r:List C):Option (Pg×Ms):=if h:∃a:Pg×Ms,mcC a.1 a.2=r then some h.choose else none
theorem jT{r:List C}{a:Pg×Ms}(h:mcR r=some a):r=mcC a.1 a.2:=by
 unfold mcR at h
 exact AA1
theorem qq(P:Pg)(m:Ms):mcR (mcC P m)=some (P,m):=by
 unfold mcR
 have hx:∃a:Pg×Ms,mcC a.1 a.2=mcC P m:=⟨(P,m),rfl⟩
 rw[dif_pos hx]
 obtain⟨h1,h2⟩:=u4 hx.choose_spec
 exact congrArg some (Prod.ext h1 h2)
theorem Hm(c:List (List UInt8))(a:List Gy)(fs:List Fn)(fuel deep e v al k:Int)(cs:List Nb)(ar:List Na)(f:List UInt8):mcR [.d (.sl Fq (c.map cSd)),.d (.sl GP (a.map Gy.r)),.d (.sl zFn (fs.map Fn.r)),.v (.int .i64 fuel),.v (.int .i64 deep),.d (.mp (mpI (fI (fs.map Fn.name)))),.d (.mp (mpI (fI c))),.d (.mp (mpI (fI (a.map Gy.s)))),
 .ov zNb (cs.map Nb.c),.ov zNa (ar.map Na.c),.v (.int .i64 e),.v (.int .i64 v),.v (.string (bs f)),.v (.int .i64 al),.v (.int .i64 k),.v (.slice none 0 0),.v (.slice none 0 0)]=some (⟨⟨c,a⟩,fs⟩,⟨fuel,deep,cs,ar,e,v,f,al,k⟩):=qq ⟨⟨c,a⟩,fs⟩ ⟨fuel,deep,cs,ar,e,v,f,al,k⟩
noncomputable def mMc:RowM (Pg×Ms) where
 z:=zMc
 d:=mcR
 e a:=mcC a.1 a.2
 h r b h:=jT h
 n b:=JL b.1 b.2
 t:=rfl
theorem IH:mMc.e=λa=>mcC a.1 a.2:=rfl
theorem II:mMc.z=zMc:=rfl
theorem Gw(c:List (List UInt8))(a:List Gy)(fs:List Fn)(fuel deep e v al k:Int)(cs:List Nb)(ar:List Na)(f:List UInt8):mMc.d [.d (.sl Fq (c.map cSd)),.d (.sl GP (a.map Gy.r)),.d (.sl zFn (fs.map Fn.r)),.v (.int .i64 fuel),.v (.int .i64 deep),.d (.mp (mpI (fI (fs.map Fn.name)))),.d (.mp (mpI (fI c))),.d (.mp (mpI (fI (a.map Gy.s)))),
 .ov zNb (cs.map Nb.c),.ov zNa (ar.map Na.c),.v (.int .i64 e),.v (.int .i64 v),.v (.string (bs f)),.v (.int .i64 al),.v (.int .i64 k),.v (.slice none 0 0),.v (.slice none 0 0)]=some (⟨⟨c,a⟩,fs⟩,⟨fuel,deep,cs,ar,e,v,f,al,k⟩):=Hm ..
theorem Dz(P:Pg):(⟨⟨P.g.c,P.g.a⟩,P.fs⟩:Pg)=P:=rfl
theorem EQ(m:Ms):(⟨m.fuel,m.deep,m.cs,m.ar,m.e,m.v,m.f,m.al,m.k⟩:Ms)=m:=rfl
def mcW(P:Pg)(m:Ms):MV:=(zMc,[mcC P m])
theorem QG(P:Pg)(m:Ms):∀q,some q∈[some (mcW P m)]->∀r∈q.2,∀c∈r,c.names=[]:=by
 intro q hq r hr c hc
 simp only[mem_singleton,jS]at hq
 subst hq
 simp only[mcW,mem_singleton]at hr
 subst hr
 exact JL P m c hc
def vsC(vs:Vs):List (List UInt8×List C):=vs.map λp=>(p.1,p.2.c)
theorem u5{a b:Vs}(h:vsC a=vsC b):a=b:=by
 refine Aj (f:=λp:List UInt8×Va=>(p.1,p.2.c)) (λx y hxy=>?_) h
 obtain⟨s,v⟩:=x
 obtain⟨s',v'⟩:=y
 simp only[jP]at hxy
 rw[hxy.1,u3 _ _ hxy.2]
theorem Vi(vs:Vs):∀c∈(vsC vs).flatMap (·.2),c.names=[]:=by
 intro c hc
 obtain⟨p,hp,hc⟩:=mem_flatMap.1 hc
 obtain⟨q,_,rfl⟩:=mem_map.1 hp
 simp only[Va.c,mem_cons,not_mem_nil,or_false]at hc
 rcases hc with rfl|rfl|rfl<;>rfl
open Classical in
noncomputable def vsR(es:List (List UInt8×List C)):Option Vs:=if h:∃vs,vsC vs=es then some h.choose else none
theorem zA{es:List (List UInt8×List C)}{vs:Vs}(h:vsR es=some vs):es=vsC vs:=by
 unfold vsR at h
 exact AA1
theorem qt(vs:Vs):vsR (vsC vs)=some vs:=by
 unfold vsR
 have hx:∃a,vsC a=vsC vs:=⟨vs,rfl⟩
 rw[dif_pos hx,u5 hx.choose_spec]
abbrev zFr:List C:=[.v (.pointer none),.v (.string (bs [])),.v (.map none),.v (.int .i64 0)]
def frC(q:Fa):List C:=[.p 1 0 0,.v (.string (bs q.nm)),.s 2,.v (.int .i64 q.ret)]
def Fa.mem(q:Fa):List ML:=[.vec zFr [frC q],.vec zMc [mcC q.P q.m],.mp true (vsC q.vs)]
def Fa.memO(q:Fa):List (Option ML):=[some (.vec zFr [frC q]),some (.vec zMc [mcC q.P q.m]),some (.mp true (vsC q.vs))]
def Fa.pan(q:Fa):List (Option MV):=[none,some (zMc,[mcC q.P q.m]),none]
def frD:Option Ch->Option (List UInt8×Int×Nat×Nat)
 |some (.vec _ z [[.p k1 0 0,.v (.string s),.s k2,.v (.int .i64 n)]])=>if z.length=4 then some (s.toList,n,k1,k2) else none
 |_=>none
noncomputable def mcD:Option Ch->Option (Pg×Ms)
 |some (.vec _ z [r])=>if z.length=17 then mcR r else none
 |_=>none
noncomputable def vsD:Option Ch->Option Vs
 |some (.mp true es)=>vsR es
 |_=>none
noncomputable def faJ(k k1 k2:Nat)(nm:List UInt8)(ret:Int):Option (Pg×Ms)->Option Vs->Option (Fa×List Nat)
 |some (P,m),some vs=>some (⟨nm,ret,P,m,vs⟩,[k,k1,k2])
 |_,_=>none
noncomputable def faK(H:Hp)(k:Nat):Option (List UInt8×Int×Nat×Nat)->Option (Fa×List Nat)
 |some (nm,ret,k1,k2)=>faJ k k1 k2 nm ret (mcD (H k1)) (vsD (H k2))
 |none=>none
noncomputable def faD(H:Hp):SV->Option (Fa×List Nat)
 | .one (.p k 0 0)=>faK H k (frD (H k))
 |_=>none
theorem zB{o:Option Ch}{nm:List UInt8}{ret:Int}{k1 k2:Nat}(h:frD o=some (nm,ret,k1,k2)):∃u z,o=some (.vec u z [[.p k1 0 0,.v (.string (bs nm)),.s k2,.v (.int .i64 ret)]])/\z.length=4:=by
 unfold frD at h
 split at h
 .split at h
  .rename_i hz
   simp only[jS,jP]at h
   obtain⟨rfl,rfl,rfl,rfl⟩:=h
   exact⟨_,_,by rw[PB],hz⟩
  cases h
 cases h
theorem zC{o:Option Ch}{a:Pg×Ms}(h:mcD o=some a):∃u z,o=some (.vec u z [mcC a.1 a.2])/\z.length=17:=by
 unfold mcD at h
 split at h
 .split at h
  .rename_i hz
   rw[jT h]
   exact⟨_,_,rfl,hz⟩
  cases h
 cases h
theorem zD{o:Option Ch}{vs:Vs}(h:vsD o=some vs):o=some (.mp true (vsC vs)):=by
 unfold vsD at h
 split at h
 .rw[zA h]
 cases h
theorem jU{H:Hp}{q:Fa}(h:faD H v=some (q,ks)):∃k k1 k2,ks=[k,k1,k2]/\v= .one (.p k 0 0)/\
  (∃u z,H k=some (.vec u z [[.p k1 0 0,.v (.string (bs q.nm)),.s k2,.v (.int .i64 q.ret)]])/\z.length=4)/\(∃u z,H k1=some (.vec u z [mcC q.P q.m])/\z.length=17)/\H k2=some (.mp true (vsC q.vs)):=by
 unfold faD at h
 split at h
 .rename_i k
  cases hf:frD (H k) with
  |none=>rw[hf]at h;cases h
  |some x=>
   obtain⟨nm,ret,k1,k2⟩:=x
   rw[hf]at h
   simp only[faK]at h
   cases hm:mcD (H k1) with
   |none=>rw[hm]at h;cases h
   |some a=>
    cases hv:vsD (H k2) with
    |none=>rw[hm,hv]at h;cases h
    |some vs=>
     rw[hm,hv]at h
     simp only[faJ,jS,jP]at h
     obtain⟨rfl,rfl⟩:=h
     exact⟨k,k1,k2,rfl,rfl,zB hf,zC hm,zD hv⟩
 .cases h
theorem jV{H H':Hp}{q:Fa}{ks:List Nat}(h:faD H v=some (q,ks))(hk:∀k∈ks,H' k=H k):faD H' v=some (q,ks):=by
 obtain⟨k,k1,k2,rfl,rfl,⟨u,z,h1,hz⟩,⟨u',z',h2,hz'⟩,h3⟩:=jU h
 show faK H' k (frD (H' k))=_
 rw[hk k (by simp),h1]
 simp only[frD,if_pos hz,faK,IB]
 rw[hk k1 (by simp),hk k2 (by simp),h2,h3]
 simp only[mcD,if_pos hz',qq,vsD,qt,faJ]
theorem Uc{f:Nat->Nat}(h:v.names=[]):rnV f v=v:=by
 cases v with
 |one c=>exact congrArg SV.one (F8 h)
 |agg l=>
  refine congrArg SV.agg (DR λc hc=>F8 ?_)
  exact List.eq_nil_iff_forall_not_mem.2 λk hk=>by
   have:k∈(SV.agg l).names:=mem_flatMap.2 ⟨c,hc,hk⟩
   rw[h]at this;cases this
 |tup l=>rfl
open Classical in
noncomputable def frJ{B:Type}(ac:ArgC B)(r:List SV):Option (Fa×List Nat)->Option B->Option ((Fa×B)×List Nat)
 |some (q,ks),some b=>if ac.e b=r then some ((q,b),ks) else none
 |_,_=>none
theorem aA(ac:ArgC B)(r:List SV)(q:Fa)(ks:List Nat)(b:B)(h:ac.e b=r):frJ ac r (some (q,ks)) (some b)=some ((q,b),ks):=if_pos h
open Classical in
theorem Gx(ac:ArgC B)(r:List SV)(q:Fa)(ks:List Nat)(b:B):frJ ac r (some (q,ks)) (some b)=if ac.e b=r then some ((q,b),ks) else none:=rfl
theorem jW{ac:ArgC B}{r:List SV}{o:Option (Fa×List Nat)}{p:Option B}{a:Fa×B}(h:frJ ac r o p=some (a,ks)):∃q b,o=some (q,ks)/\p=some b/\ac.e b=r/\a=(q,b):=by
 cases o with
 |none=>cases h
 |some x=>
 obtain⟨q,ks'⟩:=x
 cases p with
 |none=>cases h
 |some b=>
 by_cases he:ac.e b=r
 .rw[aA ac r q ks' b he]at h
  simp only[jS,jP]at h
  obtain⟨rfl,rfl⟩:=h
  exact⟨q,b,rfl,rfl,he,rfl⟩
 have:frJ ac r (some (q,ks')) (some b)=none:=if_neg he
 rw[this]at h;cases h
noncomputable def amFr{B:Type}(ac:ArgC B)(nt:∀b,∀v∈ac.e b,v.tupB=false):ArgL (Fa×B) where
 d H l:=match l with
  |v::r=>frJ ac r (faD H v) (ac.d r)
  |[]=>none
 args p:=.one (.p 0 0 0)::ac.e p.2
 mem p:=p.1.mem
 h H l a ks h:=by
  match l with
  |[]=>cases h
  |v::r=>
   obtain⟨q,b,hf,hb,he,rfl⟩:=jW h
   obtain⟨k,k1,k2,rfl,rfl,⟨u,z,h1,hz⟩,⟨u',z',h2,hz'⟩,h3⟩:=jU hf
   refine⟨?_,rfl,λi n hi=>?_⟩
   .show _=(SV.one (.p 0 0 0)::ac.e b).map (rnV (nmK [k,k1,k2]))
    rw[List.map_cons,DR (l:=ac.e b) λv hv=>Uc (ac.n b v hv),he];rfl
   .match i,hi with
    |0,hi=>
     obtain rfl:=Option.some.inj hi
     refine⟨_,rfl,?_⟩
     rw[h1]
     exact⟨rfl,hz,.inl rfl⟩
    |1,hi=>
     obtain rfl:=Option.some.inj hi
     refine⟨_,rfl,?_⟩
     rw[h2]
     refine⟨?_,hz',.inl rfl⟩
     show [mcC q.P q.m]=[(mcC q.P q.m).map _]
     rw[DR λc hc=>F8 (JL q.P q.m c hc)]
    |2,hi=>
     obtain rfl:=Option.some.inj hi
     refine⟨_,rfl,?_⟩
     rw[h3]
     refine⟨rfl,?_⟩
     show vsC q.vs=(vsC q.vs).map _
     rw[DR λp hp=>?_]
     show (p.1,p.2.map _)=p
     rw[DR λc hc=>F8 (Vi q.vs c (mem_flatMap.2 ⟨p,hp,hc⟩))]
    |i+3,hi=>simp at hi
 n a m hm c hc:=by
  simp only[Fa.mem,mem_cons,not_mem_nil,or_false]at hm
  rcases hm with rfl|rfl|rfl
  .simp only[ML.cells,flatMap_cons,flatMap_nil,append_nil,id,frC,mem_cons,not_mem_nil,or_false]at hc
   rcases hc with rfl|rfl|rfl|rfl
   .exact .inr (.inr (.inl ⟨1,0,0,rfl,by show 1<3;decide⟩))
   .exact .inl rfl
   .exact .inr (.inl ⟨2,rfl,by show 2<3;decide⟩)
   .exact .inl rfl
  .simp only[ML.cells,flatMap_cons,flatMap_nil,append_nil,id]at hc
   exact .inl (JL _ _ c hc)
  .exact .inl (Vi _ c hc)
 an a v hv:=by
  rcases mem_cons.1 hv with rfl|hv
  .exact .inr (.inr (.inl ⟨0,0,0,rfl,by show 0<3;decide⟩))
  .have:=ac.n a.2 v hv
   cases v with
   |one c=>exact .inl this
   |agg l=>
    intro c hc
    exact .inl (List.eq_nil_iff_forall_not_mem.2 λk hk=>by
     have h2:k∈(SV.agg l).names:=mem_flatMap.2 ⟨c,hc,hk⟩
     rw[this]at h2;cases h2)
   |tup l=>cases nt a.2 _ hv
 l H H' v a ks h hk:=by
  match v with
  |[]=>cases h
  |x::r=>
   obtain⟨q,b,hf,hb,he,rfl⟩:=jW h
   show frJ ac r (faD H' x) (ac.d r)=_
   rw[jV hf hk,hb,aA ac r q ks b he]
theorem Gz(ac:ArgC B)(nt)(H:Hp)(v:SV)(r:List SV):(amFr ac nt).d H (v::r)=frJ ac r (faD H v) (ac.d r):=rfl
theorem H4(ac:ArgC B)(nt)(q:Fa)(b:B):(amFr ac nt).args (q,b)= .one (.p 0 0 0)::ac.e b:=rfl
theorem H5(ac:ArgC B)(nt)(q:Fa)(b:B):(amFr ac nt).mem (q,b)=q.mem:=rfl
theorem IJ(H:Hp)(k:Nat):faD H (.one (.p k 0 0))=faK H k (frD (H k)):=rfl
theorem IK(u:Nat)(z:List C)(k1 k2:Nat)(s:List UInt8)(n:Int)(hz:z.length=4):frD (some (.vec u z [[.p k1 0 0,.v (.string (bs s)),.s k2,.v (.int .i64 n)]]))=some (s,n,k1,k2):=by
 simp only[frD,if_pos hz,IB]
theorem F5(H:Hp)(k k1 k2:Nat)(nm:List UInt8)(ret:Int):faK H k (some (nm,ret,k1,k2))=faJ k k1 k2 nm ret (mcD (H k1)) (vsD (H k2)):=rfl
theorem F6(k k1 k2:Nat)(nm:List UInt8)(ret:Int)(P:Pg)(m:Ms)(vs:Vs):faJ k k1 k2 nm ret (some (P,m)) (some vs)=some (⟨nm,ret,P,m,vs⟩,[k,k1,k2]):=rfl
theorem IL(u:Nat)(z r:List C)(hz:z.length=17):mcD (some (.vec u z [r]))=mcR r:=by simp only[mcD,if_pos hz]
theorem IM(vs:Vs):vsD (some (.mp true (vsC vs)))=some vs:=qt vs
theorem Ek(q q':Fa):PW (q.mem).length q'.memO=true/\kdL q.mem q'.memO=true/\∀m,some m∈q'.memO->Ka q'.memO.length m:=by
 refine⟨rfl,rfl,λm hm=>?_⟩
 have:m∈q'.mem:=by
  simp only[Fa.memO,mem_cons,jS,not_mem_nil,or_false]at hm
  simp only[Fa.mem,mem_cons,not_mem_nil,or_false]
  exact hm
 exact(amFr ac0 (λb v hv=>by cases hv)).n (q',()) m this
theorem JM(q q':Fa):(mlO q'.pan).length=(q.mem).length/\kdL q.mem (mlO q'.pan)=true/\∀m,some m∈mlO q'.pan->Ka (mlO q'.pan).length m:=by
 refine⟨rfl,rfl,λm hm=>?_⟩
 simp only[Fa.pan,mlO,List.map_cons,List.map_nil,Option.map_none,Option.map_some,mem_cons,not_mem_nil,or_false,reduceCtorEq,jS,false_or]at hm
 subst hm
 intro c hc
 simp only[ML.cells,flatMap_cons,flatMap_nil,append_nil,id]at hc
 exact .inl (JL _ _ c hc)
theorem JN(q:Fa):∀m,some m∈q.pan->∀r∈m.2,∀c∈r,c.names=[]:=by
 intro m hm r hr c hc
 simp only[Fa.pan,mem_cons,not_mem_nil,or_false,reduceCtorEq,jS,false_or]at hm
 subst hm
 simp only[mem_singleton]at hr
 subst hr
 exact JL _ _ c hc
theorem Hx(ac:ArgC B)(nt)(q:Fa)(b:B):∀v∈(amFr ac nt).args (q,b),∀k∈v.names,k<(Fa.mem q).length:=by
 intro v hv k hk
 rcases mem_cons.1 hv with rfl|hv
 .simp only[SV.names,C.names,mem_singleton]at hk
  subst hk;show 0<3;decide
 rw[ac.n b v hv]at hk;cases hk
theorem ZG(P:Pg)(m:Ms){r:List C}(h:r=mcC P m):∀c∈[r].flatMap id,c.names=[]:=by
 subst h
 intro c hc
 simp only[flatMap_cons,flatMap_nil,append_nil,id]at hc
 exact JL _ _ c hc
def Gl.cc(g:Gl):List C:=[.d (.sl Fq (g.c.map cSd)),.d (.sl GP (g.a.map Gy.r))]
def sR1(s:List UInt8):List C:=[.v (.string (bs s))]
theorem CT:RowsD sR1 cSd 1:=by
 refine⟨λa c hc=>?_,λa c hc=>?_,λa=>rfl,λa=>rfl⟩
 .simp only[sR1,mem_singleton]at hc;subst hc;rfl
 simp only[sR1,mem_singleton]at hc;subst hc;rfl
inductive Gi where
 |c (x:List UInt8)
 |a (x t:List UInt8)
def aB:List UInt8:=[99,101,108,108]
def nO:List UInt8:=[97,114,114,97,121]
def Gi.tk:Gi->List Kt
 | .c x=>[(0,aB),(0,x),(2,[59])]
 | .a x t=>[(0,nO),(0,x),(2,[91]),(1,t),(2,[93]),(2,[59])]
def Gi.ok:Gi->Prop
 | .c x=>KN x=false
 | .a x t=>KN x=false/\E1 t/\0<numW t 0/\numW t 0<=1048576
def giK:List Gi->List Kt
 |[]=>[]
 |g::l=>g.tk++giK l
def giA(cs:List (List UInt8))(as':List Gy):List Gi->Gl
 |[]=>⟨cs,as'⟩
 | .c x::l=>giA (cs++[x]) as' l
 | .a x t::l=>giA cs (as'++[⟨x,numW t 0⟩]) l
def giV(l:List Gi):Gl:=giA [] [] l
def Gy.cc(a:Gy):List C:=[.v (.string (bs a.s)),.v (.int .i64 a.n)]
def zSr:List C:=[.v (.string (bs []))]
def zGc:List C:=[.v (.string (bs [])),.v (.int .i64 0)]
theorem MT:RowsD Gy.cc Gy.r 2:=by
 refine⟨λa c hc=>?_,λa c hc=>?_,λa=>rfl,λa=>rfl⟩
 .simp only[Gy.cc,mem_cons,not_mem_nil,or_false]at hc;rcases hc with rfl|rfl<;>rfl
 simp only[Gy.cc,mem_cons,not_mem_nil,or_false]at hc;rcases hc with rfl|rfl<;>rfl
abbrev z2:List C:=[.v (.bool false),.v (.bool false)]
theorem Sfx.takY{k:Int}{t:List UInt8}(h:Sfx p ((k,t)::ts))(hk:(k != 1)=true):Go.Proofs.YtapedeoheilnnaaGreat.isT t p=true/\Bt t p=Go.Proofs.YtapedeoheilnnaaGreat.adv p:=by
 have e:Go.Proofs.YtapedeoheilnnaaGreat.isT t p=true:=by rw[h.isT,hk];simp
 exact⟨e,ii e⟩
theorem Sfx.takN{k:Int}{t u:List UInt8}(h:Sfx p ((k,t)::ts))(hu:(t==u)=false):Go.Proofs.YtapedeoheilnnaaGreat.isT u p=false/\Bt u p=p:=by
 have e:Go.Proofs.YtapedeoheilnnaaGreat.isT u p=false:=by rw[h.isT,hu];simp
 exact⟨e,ij e⟩
theorem Sfx.namSt{t:List UInt8}(h:Sfx p ((0,t)::ts))(hw:KN t=false):Go.Proofs.YtapedeoheilnnaaGreat.nameB p=true/\E3 p=t:=by
 have e:Go.Proofs.YtapedeoheilnnaaGreat.nameB p=true:=by rw[h.nameB,hw];rfl
 exact⟨e,by unfold E3;rw[if_pos e];exact h.hd.2⟩
abbrev gSt(q:Pr)(cs:List (List UInt8))(as':List Gy):St:=⟨[(2,true,.one (.p 2 0 0)),(8,true,.one (.p 28 0 0)),(9,true,.one (.p 9 0 0))],[(2,.vec 0 z2 [[cNr,cNr]]),(28,.vec 0 zPr [q.c]),(9,.vec 0 z2 [[.s 1000,.s 1001]]),(1000,.vec 0 zSr (cs.map sR1)),(1001,.vec 0 zGc (as'.map Gy.cc))]⟩
abbrev cX(L:List Gi)(s:List UInt8):Prop:=E1 s/\(∀g∈L,g.ok)/\L.length<=19/\∃T,rxT s=(T,0,0)/\T.map kt=giK L
abbrev PR(L:List Gi)(s:List UInt8):SV:=.tup [.inr (giV L).cc,.inl (.v (.int .i64 0)),.inl (.v (.int .i64 0))]
noncomputable abbrev PS:ArgC ((List UInt8)×Unit):=(acS (cStr) ac0)
abbrev UN(L:List Gi):Prop:=Ca Tryz.prog 40 PS (λp:(List UInt8)×Unit=>cX L p.1) (λp:(List UInt8)×Unit=>PR L p.1)
noncomputable def FK{X:Ctx}{w0:World}(L:List Gi)(h:UN L):Sy.Spec Tryz.prog X w0:=Dq 40 Tryz.call40 PS _ _ KF3 h
section
attribute [local go_sem] Pr.c zTk
theorem fe(L:List Gi):UN L:=by
 rintro ⟨s,_u⟩ w fz xs hc hfz hl hx
 refine Bg Tryz.func40 rfl w fz [ypTok,A6,AG,A7,AB,AJ,JF] [] PS (λp:(List UInt8)×Unit=>PR L p.1) _ xs hfz hl hx (jN rfl) ?_
 clear hx hl hfz xs
 simp only[Tryz.f40]
 obtain⟨hs,hL,hn,T,hT,hK⟩:=hc
 have hok:=fX s (s.length:Int)
 rw[hT]at hok
 simp only[seval,go_sem,ypTok,Av,Au,Aw,Al,Tok.r,Ao,ptR,As,AR,AQ,AS,hT]
 try simp only[AD,AE]
 repeat' (first|exact ck|with_reducible apply And.intro)
 all_goals try first|exact hs|decide|omega
 generalize (s.length:Int)=N at hok ⊢
 have hS:Sfx (p0 T N) (giK L):=⟨hok,rfl,hK⟩
 refine AC (Y:=Pr×List (List UInt8)×List Gy×List Gi) (λy=>Sfx y.1 (giK y.2.2.2)/\giA y.2.1 y.2.2.1 y.2.2.2=giV L/\(∀g∈y.2.2.2,g.ok)/\y.2.1.length+y.2.2.1.length+y.2.2.2.length<=19)
  (λy=>gSt y.1 y.2.1 y.2.2.1) (λy=>y.2.2.2.length) (p0 T N,[],[],L) ⟨hS,rfl,hL,by simpa using hn⟩ ?_ ?_
 .refine A2 [.nilr 9 0 0 1000 zSr,.nilr 9 0 1 1001 zGc] ?_;simp only[seval,go_sem,zSr,zGc,p0]
 rintro ⟨q,cs,as',M⟩ ⟨g1,g2,g3,g4⟩
 refine AP [A6,AG,A7,AB,AJ,JF] [] _ _ _ ?_
 dsimp only at g1 g2 g3 g4
 have hlen:IntKind.i64.wrap ((cs.length:Int)+(as'.length:Int))=((cs.length+as'.length:Nat):Int):=by rw[wrap_i64 (by omega) (by omega)];rfl
 have hlen2:decide ((20:Int)<=((cs.length+as'.length:Nat):Int))=false:=by simp;omega
 have hE:(q.e==0)=true:=by rw[g1.e];rfl
 have hE2:(q.e != 0)=false:=by rw[g1.e];rfl
 cases M with
 |nil=>
  have g1:Sfx q []:=g1
  have h1:(q.e==0&&decide (q.i<(q.l.length:Int)))=false:=by rw[hE,g1.nil];simp
  have hr:giV L=⟨cs,as'⟩:=g2.symm
  simp only[seval,go_sem,A7,AO,AB,AG,AJ,A6,JF,I8,Av,Au,Aw,Al,Tok.r,Ao,ptR,As,AR,AQ,AS,h1,hE2]
  repeat refine AX ?_
  refine A1 [.fz 1000,.fz 1001] ?_;simp only[seval,go_sem,bne,PR,hr,Gl.cc,CT.ds,CT.fz,MT.ds,MT.fz,zSr,zGc,GP,Fq]
 |cons m M=>
 cases m with
 |c x=>
  have hw:KN x=false:=g3 _ (List.mem_cons_self ..)
  have g1:Sfx q ((0,aB)::(0,x)::(2,[59])::giK M):=g1
  have hlt:=g1.lt
  have h1:(q.e==0&&decide (q.i<(q.l.length:Int)))=true:=by rw[hE];simp[hlt]
  obtain⟨i1,e1⟩:=g1.takY (by decide)
  have a1:=g1.adv
  obtain⟨i2,e2⟩:=a1.namSt hw
  have e3:=a1.nam hw
  have a2:=a1.adv
  have e4:=a2.wan (by decide)
  have a3:=a2.adv
  have hok1:=g1.ok
  have hok2:=a1.ok
  have hok3:=a2.ok
  simp only[aB]at i1 e1
  simp only[seval,go_sem,A7,AO,AB,AG,AJ,A6,JF,I8,Av,Au,Aw,Al,Tok.r,Ao,ptR,As,AR,AQ,AS,h1,i1,e1,i2,e2,e3,e4,hlen,hlen2]
  have hst:BS [[C.v (Value.string (bs x))]]:=by
   intro r hr c hc
   rw[List.mem_singleton.1 hr]at hc
   rw[List.mem_singleton.1 hc];rfl
  have:=hok2.i;repeat refine AX ?_
  refine⟨(adv (adv (adv q)),cs++[x],as',M),⟨a3,g2,λg hg=>g3 g (List.mem_cons_of_mem _ hg),by simp only[List.length_append,length_cons,length_nil]at g4 ⊢;omega⟩,Nat.lt_succ_self _,BU (t:=⟨[(2,true,.one (.p 2 0 0)),(8,true,.one (.p 28 0 0)),(9,true,.one (.p 9 0 0))],[(2,.vec 0 z2 [[cNr,cNr]]),(28,.vec 0 zPr [(adv (adv (adv q))).c]),(9,.vec 0 z2 [[.s 73,.s 1001]]),(73,.vec 0 zSr ((cs++[x]).map sR1)),(1001,.vec 0 zGc (as'.map Gy.cc))]⟩) ?_ ?_⟩
  .refine A2 [] ?_;simp only[seval,go_sem,zSr,zGc,sR1,CT.fn,MT.fn,map_append,List.flatMap_append]
  refine A2 [.mv 73 1000] ?_;simp only[seval,go_sem,zSr,zGc,CT.mv,CT.fn,MT.mv,MT.fn]
 |a x t=>
 obtain⟨hw,ht,hn0,hn1⟩:KN x=false/\E1 t/\0<numW t 0/\numW t 0<=1048576:=g3 _ (List.mem_cons_self ..)
 have g1:Sfx q ((0,nO)::(0,x)::(2,[91])::(1,t)::(2,[93])::(2,[59])::giK M):=g1
 have hlt:=g1.lt
 have h1:(q.e==0&&decide (q.i<(q.l.length:Int)))=true:=by rw[hE];simp[hlt]
 obtain⟨i1,e1⟩:=g1.takN (u:=aB) (by decide)
 have e1':=g1.wan (by decide)
 have a1:=g1.adv
 obtain⟨i2,e2⟩:=a1.namSt hw
 have e3:=a1.nam hw
 have a2:=a1.adv
 have e4:=a2.wan (by decide)
 have a3:=a2.adv
 have hok1:=g1.ok
 have hok2:=a1.ok
 have hok3:=a2.ok
 obtain⟨q3,hq3⟩:∃q3,adv (adv (adv q))=q3:=⟨_,rfl⟩
 rw[hq3]at e4 a3
 have h3:(q3.e==0&&decide (q3.i<(q3.l.length:Int)))=true:=by rw[a3.e];simp[a3.lt]
 have h3a:=a3.ok.i.1
 have h3b:=a3.lt
 have k3:(q3.l.getD q3.i.toNat tk0).k=1:=a3.hd.1
 have t3:(q3.l.getD q3.i.toNat tk0).t=t:=a3.hd.2
 have a4:=a3.adv
 have e5:Bd [93] ⟨q3.l,IntKind.i64.wrap (q3.i+1),q3.en,q3.e,q3.at',q3.deep,q3.n⟩=adv (adv q3):=a4.wan (by decide)
 have a5:=a4.adv
 have e6:=a5.wan (by decide)
 have a6:=a5.adv
 have hok4:=a3.ok
 have hok5:okP ⟨q3.l,IntKind.i64.wrap (q3.i+1),q3.en,q3.e,q3.at',q3.deep,q3.n⟩:=a4.ok
 have hok6:=a5.ok
 obtain⟨q5,hq5⟩:∃q5,adv (adv q3)=q5:=⟨_,rfl⟩
 rw[hq5]at e5 e6 hok6 a6
 have n1:decide ((1048576:Int)<numW t 0)=false:=by simp;omega
 have n2:(numW t 0==0)=false:=by simp;omega
 simp only[aB]at i1 e1
 simp only[nO]at e1'
 have hst:BS [[C.v (Value.string (bs x)),C.v (Value.int .i64 (numW t 0))]]:=by
  intro r hr c hc
  rw[List.mem_singleton.1 hr]at hc
  simp only[mem_cons,not_mem_nil,or_false]at hc
  rcases hc with rfl|rfl<;>rfl
 simp only[seval,go_sem,A7,AO,AB,AG,AJ,A6,JF,I8,Av,Au,Aw,Al,Tok.r,Ao,ptR,As,AR,AQ,AS,h1,i1,e1,e1',i2,e2,e3,e4,e5,e6,h3,k3,t3,n1,n2,hlen,hlen2]
 have:=hok2.i;repeat refine AX ?_
 refine⟨(adv q5,cs,as'++[⟨x,numW t 0⟩],M),⟨a6,g2,λg hg=>g3 g (List.mem_cons_of_mem _ hg),by simp only[List.length_append,length_cons,length_nil]at g4 ⊢;omega⟩,Nat.lt_succ_self _,BU (t:=⟨[(2,true,.one (.p 2 0 0)),(8,true,.one (.p 28 0 0)),(9,true,.one (.p 9 0 0))],[(2,.vec 0 z2 [[cNr,cNr]]),(28,.vec 0 zPr [(adv q5).c]),(9,.vec 0 z2 [[.s 1000,.s 145]]),(1000,.vec 0 zSr (cs.map sR1)),(145,.vec 0 zGc ((as'++[(⟨x,numW t 0⟩:Gy)]).map Gy.cc))]⟩) ?_ ?_⟩
 .refine A2 [] ?_;simp only[seval,go_sem,zSr,zGc,Gy.cc,CT.fn,MT.fn,map_append,List.flatMap_append]
 refine A2 [.mv 145 1001] ?_;simp only[seval,go_sem,zSr,zGc,CT.mv,CT.fn,MT.mv,MT.fn]
end
open Go Go.Sy Go.RowKit
theorem A44(v:SV)(a b:Gl)(h:leV v (.agg a.cc))(h':leV v (.agg b.cc)):a=b:=by
 cases v with
 |one c=>exact h.elim
 |tup l=>exact h.elim
 |agg l=>
 obtain⟨cs,as'⟩:=a
 obtain⟨cs2,as2⟩:=b
 match l,h,h' with
 |[c0,c1],⟨h0,h1,_⟩,⟨g0,g1,_⟩=>
  have k1:=Aj QE (GH h0 g0)
  have k2:=Aj QF (GH h1 g1)
  simp only at k1 k2
  subst k1;subst k2;rfl
noncomputable def cGl:Cod Gl:=Hl (λg=>.agg g.cc) A44 (λg=>rfl)
theorem MC(g:Gl):cGl.e g= .agg g.cc:=rfl
theorem MD(cs:List (List UInt8))(as':List Gy):cGl.d (.agg [.d (.sl Fq (cs.map cSd)),.d (.sl GP (as'.map Gy.r))])=some ⟨cs,as'⟩:=E4 (e:=λg:Gl=>.agg g.cc) (a:=⟨cs,as'⟩) (F4 _)
def Gl.ns(g:Gl):List (List UInt8):=g.c++g.a.map Gy.s
def TT(l:List (List UInt8)):Prop:=∀i j,j<i->i<l.length->(l.getD j []==l.getD i [])=false
theorem zE(l:List (List UInt8)):(l.map cSd).map (λr=>r.map oD)=l.map sR1:=by simp[cSd,oD,sR1]
theorem jX(l:List (List UInt8)):BS (l.map sR1):=by
 intro r h c hc
 obtain⟨x,_,rfl⟩:=mem_map.1 h
 rw[List.mem_singleton.1 hc];rfl
theorem qu{l:List (List UInt8)}{i:Nat}(h:i<l.length)(z:List C):(l.map sR1).getD i z=[.v (.string (bs (l.getD i [])))]:=by simp[List.getD,h,sR1]
abbrev nP(g:Gl):Prop:=g.c.length<=5000/\g.a.length<=5000/\TT g.ns
abbrev Ud(g:Gl):SV:=.one (.v (.int .i64 0))
noncomputable abbrev Ue:ArgC ((Gl)×Unit):=(acS (cGl) ac0)
abbrev nQ:Prop:=Ca Tryz.prog 41 Ue (λp:(Gl)×Unit=>nP p.1) (λp:(Gl)×Unit=>Ud p.1)
section
attribute [local go_sem] Gl.cc MD MC sR1
theorem u6:nQ:=by
 rintro ⟨g,_u⟩ w fz xs hc hfz hl hx
 refine Bg Tryz.func41 rfl w fz [] [] Ue (λp:(Gl)×Unit=>Ud p.1) _ xs hfz hl hx (jN rfl) ?_
 clear hx hl hfz xs
 simp only[Tryz.f41]
 obtain⟨pc,pa⟩:=g
 obtain⟨h1,h2,h3⟩:=hc
 dsimp only at h1 h2
 have hst:=jX pc
 have hcs:=zE pc
 simp only[seval,go_sem,CT.fn,CT.mv]
 refine⟨⟨λq h=>by cases h;rfl,by rw[hcs];exact hst,by omega,by omega⟩,?_⟩
 refine AC (Y:=Nat) (λi=>i<=pa.length)
  (λi=>⟨[(1,true,.one (.p 1 0 0)),(2,true,.one (.v (.int .i64 0))),(3,true,.one (.s 1000)),(4,true,.one (.v (.int .i64 (i:Int))))],
   [(1,.vec 0 [.v (.bool false),.v (.bool false)] [[.d (.sl Fq (pc.map cSd)),.d (.sl GP (pa.map Gy.r))]]),(1000,.vec 0 zSr ((pc++(pa.take i).map Gy.s).map sR1))]⟩)
  (λi=>pa.length-i) 0 (Nat.zero_le _) ?_ ?_
 .refine A2 [.mv 9 1000] ?_;simp only[seval,go_sem,CT.fn,CT.mv,hcs,zSr]
 rintro i hi
 refine AP [] [] _ _ _ ?_
 have w1:IntKind.i64.wrap ((i:Int)+1)=((i+1:Nat):Int):=by rw[wrap_i64 (by omega) (by omega)];rfl
 cases hx:pa[i]? with
 |none=>
  have g2:=List.getElem?_eq_none_iff.1 hx
  have g1:=Ai g2
  simp only[seval,go_sem,CT.fn,CT.mv,g1]
  rw[List.take_of_length_le g2]
  obtain⟨L,hL⟩:∃L,pc++pa.map Gy.s=L:=⟨_,rfl⟩
  have hln:L.length<=10000:=by rw[<- hL];simp;omega
  have h3':TT L:=by rw[<- hL];exact h3
  rw[hL]
  refine AC (Y:=Nat) (λi=>i<=L.length)
   (λi=>⟨[(2,true,.one (.v (.int .i64 0))),(3,true,.one (.s 1000)),(5,true,.one (.v (.int .i64 (i:Int))))],[(1000,.vec 0 zSr (L.map sR1))]⟩)
   (λi=>L.length-i) 0 (Nat.zero_le _) ?_ ?_
  .exact AAk
  rintro j hj
  refine AP [] [] _ _ _ ?_
  have w2:IntKind.i64.wrap ((j:Int)+1)=((j+1:Nat):Int):=by rw[wrap_i64 (by omega) (by omega)];rfl
  by_cases hjl:j<L.length
  .have k1:=Ah hjl
   have hjt:=qu hjl
   simp only[seval,go_sem,CT.fn,CT.mv,k1]
   refine AC (Y:=Nat) (λk=>k<=j)
    (λk=>⟨[(2,true,.one (.v (.int .i64 0))),(3,true,.one (.s 1000)),(5,true,.one (.v (.int .i64 (j:Int)))),(6,true,.one (.v (.int .i64 (k:Int))))],[(1000,.vec 0 zSr (L.map sR1))]⟩)
    (λk=>j-k) 0 (Nat.zero_le _) ?_ ?_
   .exact AAk
   rintro k hk
   refine AP [] [] _ _ _ ?_
   have w3:IntKind.i64.wrap ((k:Int)+1)=((k+1:Nat):Int):=by rw[wrap_i64 (by omega) (by omega)];rfl
   by_cases hkj:k<j
   .have q1:=Ah hkj
    have hkt:=qu (show k<L.length by omega)
    have hne:=h3' j k hkj hjl
    simp only[seval,go_sem,CT.fn,CT.mv,q1,hjt,hkt,hne,w3,zSr]
    refine⟨(by omega),(by omega),(by omega),hjl,Bn (by kernel_rfl),k+1,hkj,(by omega),?_⟩
    exact AAk
   have q1:=Ai (Nat.le_of_not_lt hkj)
   simp only[seval,go_sem,CT.fn,CT.mv,q1,w2]
   refine⟨j+1,hjl,(by omega),?_⟩
   exact AAk
  have k1:=Ai (Nat.le_of_not_lt hjl)
  simp only[seval,go_sem,CT.fn,CT.mv,k1]
  repeat refine AX ?_
  refine A1 [] ?_;simp only[seval,go_sem,bne,Ud,CT.fn,CT.mv]
 |some y=>
 have hlt:=(List.getElem?_eq_some_iff.1 hx).1
 have g1:=Ah hlt
 obtain⟨ys,yn⟩:=y
 have hs:∀z,(pa.map Gy.r).getD i z=[.v (.string (bs ys)),.v (.int .i64 yn)]:=by intro z;simp[List.getD,hx,Gy.r]
 simp only[seval,go_sem,CT.fn,CT.mv,g1,w1,hs]
 have hil:(i:Int)<(pa.length:Int):=by omega
 have hln:(pc++List.map Gy.s (List.take i pa)).length=pc.length+i:=by simp;omega
 have ht:(pc++(pa.take (i+1)).map Gy.s).map sR1=(pc++(pa.take i).map Gy.s).map sR1++[[.v (.string (bs ys))]]:=by
  rw[List.take_add_one,hx];simp[sR1]
 have hrs:BS [[C.v (Value.string (bs ys))]]:=jX [ys]
 refine⟨⟨hil,rfl⟩,⟨⟨rfl,.inl rfl⟩,(λq h=>by cases h;rfl),hrs,(by decide),(by rw[hln];omega),(by rw[hln];omega)⟩,i+1,hlt,(by omega),BU (t:=⟨[(1,true,.one (.p 1 0 0)),(2,true,.one (.v (.int .i64 0))),(3,true,.one (.s 25)),(4,true,.one (.v (.int .i64 ((i+1:Nat):Int))))],
  [(1,.vec 0 [.v (.bool false),.v (.bool false)] [[.d (.sl Fq (pc.map cSd)),.d (.sl GP (pa.map Gy.r))]]),(25,.vec 0 zSr ((pc++(pa.take (i+1)).map Gy.s).map sR1))]⟩) ?_ ?_⟩
 .refine A2 [] ?_;simp only[seval,go_sem,CT.fn,CT.mv,zSr,ht,map_append,List.flatMap_append]
 refine A2 [.mv 25 1000] ?_;simp only[seval,go_sem,CT.fn,CT.mv,zSr]
noncomputable def Ha{X:Ctx}{w0:World}:Sy.Spec Tryz.prog X w0:=Dq 41 Tryz.call41 Ue _ _ KF3 u6
end
open Go Go.Sy Go.RowKit
def XB:List UInt8:=[99,101,108,108,32,99,59,32,99,101,108,108,32,100,59,32,97,114,114,97,121,32,116,91,52,93,59,32,97,114,114,97,121,32,117,91,49,93,59]
def nR:List Gi:=[.c [99],.c [100],.a [116] [52],.a [117] [49]]
theorem A7c:rxT XB=([⟨0,[99,101,108,108],0⟩,⟨0,[99],5⟩,⟨2,[59],6⟩,⟨0,[99,101,108,108],8⟩,⟨0,[100],13⟩,⟨2,[59],14⟩,⟨0,[97,114,114,97,121],16⟩,⟨0,[116],22⟩,⟨2,[91],23⟩,⟨1,[52],24⟩,⟨2,[93],25⟩,⟨2,[59],26⟩,⟨0,[97,114,114,97,121],28⟩,⟨0,[117],34⟩,⟨2,[91],35⟩,⟨1,[49],36⟩,⟨2,[93],37⟩,⟨2,[59],38⟩],0,0):=by kernel_rfl
def XC:List UInt8:=[99,101,108,108,32,99,59,32,97,114,114,97,121,32,116,91,50,93,59]
def nS:List Gi:=[.c [99],.a [116] [50]]
theorem A7d:rxT XC=([⟨0,[99,101,108,108],0⟩,⟨0,[99],5⟩,⟨2,[59],6⟩,⟨0,[97,114,114,97,121],8⟩,⟨0,[116],14⟩,⟨2,[91],15⟩,⟨1,[50],16⟩,⟨2,[93],17⟩,⟨2,[59],18⟩],0,0):=by kernel_rfl
def XD:List UInt8:=[]
def nT:List Gi:=[]
theorem A7e:rxT XD=([],0,0):=by kernel_rfl
def XE:List UInt8:=[99,101,108,108,32,99,59,32,99,101,108,108,32,100,59,32,99,101,108,108,32,101,59,32,97,114,114,97,121,32,116,91,57,93,59]
def nV:List Gi:=[.c [99],.c [100],.c [101],.a [116] [57]]
theorem A7f:rxT XE=([⟨0,[99,101,108,108],0⟩,⟨0,[99],5⟩,⟨2,[59],6⟩,⟨0,[99,101,108,108],8⟩,⟨0,[100],13⟩,⟨2,[59],14⟩,⟨0,[99,101,108,108],16⟩,⟨0,[101],21⟩,⟨2,[59],22⟩,⟨0,[97,114,114,97,121],24⟩,⟨0,[116],30⟩,⟨2,[91],31⟩,⟨1,[57],32⟩,⟨2,[93],33⟩,⟨2,[59],34⟩],0,0):=by kernel_rfl
def XF:List UInt8:=[99,101,108,108,32,100,59,32,97,114,114,97,121,32,117,91,51,93,59]
def nW:List Gi:=[.c [100],.a [117] [51]]
theorem A7g:rxT XF=([⟨0,[99,101,108,108],0⟩,⟨0,[100],5⟩,⟨2,[59],6⟩,⟨0,[97,114,114,97,121],8⟩,⟨0,[117],14⟩,⟨2,[91],15⟩,⟨1,[51],16⟩,⟨2,[93],17⟩,⟨2,[59],18⟩],0,0):=by kernel_rfl
theorem N1:∀x∈([[99],[100],[101],[116],[117]]:List (List UInt8)),KN x=false:=by decide
structure glO(s:List UInt8)(L:List Gi):Prop where
 sm:E1 s
 o:∀g∈L,g.ok
 n:L.length<=19
 t:∃T,rxT s=(T,0,0)/\T.map kt=giK L
theorem A45:glO XB nR:=by
 refine⟨by have e:XB.length=39:=rfl;unfold E1;omega,?_,by decide,_,A7c,rfl⟩
 intro g hg
 simp only[nR,mem_cons,not_mem_nil,or_false]at hg
 rcases hg with rfl|rfl|rfl|rfl
 all_goals first|exact N1 _ (by decide)|exact⟨N1 _ (by decide),by unfold E1;simp only[length_cons,length_nil];omega,by decide,by decide⟩
theorem A46:glO XC nS:=by
 refine⟨by have e:XC.length=19:=rfl;unfold E1;omega,?_,by decide,_,A7d,rfl⟩
 intro g hg
 simp only[nS,mem_cons,not_mem_nil,or_false]at hg
 rcases hg with rfl|rfl
 all_goals first|exact N1 _ (by decide)|exact⟨N1 _ (by decide),by unfold E1;simp only[length_cons,length_nil];omega,by decide,by decide⟩
theorem A47:glO XD nT:=by
 refine⟨by have e:XD.length=0:=rfl;unfold E1;omega,?_,by decide,_,A7e,rfl⟩
 intro g hg
 simp only[nT,mem_cons,not_mem_nil,or_false]at hg
theorem A48:glO XE nV:=by
 refine⟨by have e:XE.length=35:=rfl;unfold E1;omega,?_,by decide,_,A7f,rfl⟩
 intro g hg
 simp only[nV,mem_cons,not_mem_nil,or_false]at hg
 rcases hg with rfl|rfl|rfl|rfl
 all_goals first|exact N1 _ (by decide)|exact⟨N1 _ (by decide),by unfold E1;simp only[length_cons,length_nil];omega,by decide,by decide⟩
theorem A49:glO XF nW:=by
 refine⟨by have e:XF.length=19:=rfl;unfold E1;omega,?_,by decide,_,A7g,rfl⟩
 intro g hg
 simp only[nW,mem_cons,not_mem_nil,or_false]at hg
 rcases hg with rfl|rfl
 all_goals first|exact N1 _ (by decide)|exact⟨N1 _ (by decide),by unfold E1;simp only[length_cons,length_nil];omega,by decide,by decide⟩
def glS(g:Int):List UInt8:=if (g.tmod 5==0)=true then XB else if (g.tmod 5==1)=true then XC else if (g.tmod 5==2)=true then XD else if (g.tmod 5==3)=true then XE else XF
def glLs(g:Int):List Gi:=if (g.tmod 5==0)=true then nR else if (g.tmod 5==1)=true then nS else if (g.tmod 5==2)=true then nT else if (g.tmod 5==3)=true then nV else nW
theorem A4A(g:Int):glO (glS g) (glLs g):=by
 unfold glS glLs
 by_cases h0:(g.tmod 5==0)=true
 .rw[if_pos h0,if_pos h0];exact A45
 rw[if_neg h0,if_neg h0]
 by_cases h1:(g.tmod 5==1)=true
 .rw[if_pos h1,if_pos h1];exact A46
 rw[if_neg h1,if_neg h1]
 by_cases h2:(g.tmod 5==2)=true
 .rw[if_pos h2,if_pos h2];exact A47
 rw[if_neg h2,if_neg h2]
 by_cases h3:(g.tmod 5==3)=true
 .rw[if_pos h3,if_pos h3];exact A48
 rw[if_neg h3,if_neg h3];exact A49
end Go.Proofs.YtapedeoheilnnaaGreat
