/- Machines and frames in memory. No conditions but those in each statement. -/
import Derived.Test.YtjnnmindcbgjhabSy38
set_option linter.unusedVariables false
set_option linter.unusedSimpArgs false
namespace Go.Proofs.Ytjnnmindcbgjhab
open Go Go.Sy Go.RowKit
def Gy.r (x:Gy):List D:=[.v (.string (bs x.s)),.v (.int .i64 x.n)]
def cSd (x:List UInt8):List D:=[.v (.string (bs x))]
def zSqD:List D:=[.v (.string (bs []))]
def zGyD:List D:=[.v (.string (bs [])),.v (.int .i64 0)]
def Va.c (a:Va):List C:=[.v (.bool a.p),.v (.int .i64 a.n),.v (.string (bs a.s))]
def Nb.c (x:Nb):List C:=[.v (.string (bs x.s)),.v (.int .i64 x.n)]
def cI (n:Int):List C:=[.v (.int .i64 n)]
def zI:List C:=[.v (.int .i64 0)]
def Na.c (x:Na):List C:=[.v (.string (bs x.s)),.ov zI (x.l.map cI)]
def zNb:List C:=[.v (.string (bs [])),.v (.int .i64 0)]
def zNa:List C:=[.v (.string (bs [])),.v (.slice none 0 0)]
def mpI (es:List (List UInt8×Int)):List (List UInt8×Value):=es.map fun p=>(p.1,.int .i64 p.2)
def mcC (P:Pg) (m:Ms):List C:=[.d (.sl zSqD (P.g.c.map cSd)),.d (.sl zGyD (P.g.a.map Gy.r)),.d (.sl zFn (P.fs.map Fn.r)),.v (.int .i64 m.fuel),.v (.int .i64 m.deep),.d (.mp (mpI (fI (P.fs.map Fn.name)))),.d (.mp (mpI (fI P.g.c))),.d (.mp (mpI (fI (P.g.a.map Gy.s)))),
 .ov zNb (m.cs.map Nb.c),.ov zNa (m.ar.map Na.c),.v (.int .i64 m.e),.v (.int .i64 m.v),.v (.string (bs m.f)),.v (.int .i64 m.al),.v (.int .i64 m.k),.v (.slice none 0 0),.v (.slice none 0 0)]
abbrev zMc:List C:=[.v (.int .i64 0),.v (.int .i64 0),.v (.int .i64 0),.v (.int .i64 0),.v (.int .i64 0),.v (.int .i64 0),.v (.int .i64 0),.v (.int .i64 0),.v (.int .i64 0),.v (.int .i64 0),.v (.int .i64 0),.v (.int .i64 0),.v (.int .i64 0),.v (.int .i64 0),.v (.int .i64 0),.v (.int .i64 0),.v (.int .i64 0)]
theorem cSd_inj (a b:List UInt8) (h:cSd a=cSd b):a=b:=by
 simp only[cSd,List.cons.injEq,D.v.injEq,Value.string.injEq,and_true]at h
 exact bs_inj h
theorem gyr_inj (a b:Gy) (h:a.r=b.r):a=b:=by
 obtain⟨s,n⟩:=a
 obtain⟨s',n'⟩:=b
 simp only[Gy.r,List.cons.injEq,D.v.injEq,Value.string.injEq,Value.int.injEq,true_and,and_true]at h
 obtain⟨h1,rfl⟩:=h
 rw[bs_inj h1]
theorem nbc_inj (a b:Nb) (h:a.c=b.c):a=b:=by
 obtain⟨s,n⟩:=a
 obtain⟨s',n'⟩:=b
 simp only[Nb.c,List.cons.injEq,C.v.injEq,Value.string.injEq,Value.int.injEq,true_and,and_true]at h
 obtain⟨h1,rfl⟩:=h
 rw[bs_inj h1]
theorem cI_inj (a b:Int) (h:cI a=cI b):a=b:=by simpa [cI] using h
theorem nac_inj (a b:Na) (h:a.c=b.c):a=b:=by
 obtain⟨s,l⟩:=a
 obtain⟨s',l'⟩:=b
 simp only[Na.c,List.cons.injEq,C.v.injEq,C.ov.injEq,Value.string.injEq,true_and,and_true]at h
 obtain⟨h1,h2⟩:=h
 rw[bs_inj h1,map_inj cI_inj h2]
theorem vac_inj (a b:Va) (h:a.c=b.c):a=b:=by
 obtain⟨p,n,s⟩:=a
 obtain⟨p',n',s'⟩:=b
 simp only[Va.c,List.cons.injEq,C.v.injEq,Value.string.injEq,Value.int.injEq,Value.bool.injEq,true_and,and_true]at h
 obtain⟨rfl,rfl,h1⟩:=h
 rw[bs_inj h1]
theorem mcC_inj {P P':Pg} {m m':Ms} (h:mcC P m=mcC P' m'):P=P'∧m=m':=by
 obtain⟨⟨c,a⟩,fs⟩:=P
 obtain⟨⟨c',a'⟩,fs'⟩:=P'
 obtain⟨fuel,deep,cs,ar,e,v,f,al,k⟩:=m
 obtain⟨fuel',deep',cs',ar',e',v',f',al',k'⟩:=m'
 simp only[mcC,List.cons.injEq,C.d.injEq,C.v.injEq,C.ov.injEq,D.sl.injEq,Value.int.injEq,Value.string.injEq,true_and,and_true]at h
 obtain⟨h1,h2,h3,rfl,rfl,_,_,_,h4,h5,rfl,rfl,h6,rfl,rfl⟩:=h
 rw[map_inj cSd_inj h1,map_inj gyr_inj h2,map_inj fn_inj h3,map_inj nbc_inj h4,map_inj nac_inj h5,bs_inj h6]
 exact⟨rfl,rfl⟩
theorem mcC_nm (P:Pg) (m:Ms):∀c∈mcC P m,c.names=[]:=by
 intro c hc
 simp only[mcC,List.mem_cons,List.not_mem_nil,or_false]at hc
 rcases hc with rfl|rfl|rfl|rfl|rfl|rfl|rfl|rfl|rfl|rfl|rfl|rfl|rfl|rfl|rfl|rfl|rfl<;>rfl
open Classical in
noncomputable def mcR (r:List C):Option (Pg×Ms):=if h:∃a:Pg×Ms,mcC a.1 a.2=r then some h.choose else none
theorem mcR_ok {r:List C} {a:Pg×Ms} (h:mcR r=some a):r=mcC a.1 a.2:=by
 unfold mcR at h
 split at h
 ·rename_i hx
  rw[← Option.some.inj h];exact hx.choose_spec.symm
 ·cases h
theorem mcR_c (P:Pg) (m:Ms):mcR (mcC P m)=some (P,m):=by
 unfold mcR
 have hx:∃a:Pg×Ms,mcC a.1 a.2=mcC P m:=⟨(P,m),rfl⟩
 rw[dif_pos hx]
 obtain⟨h1,h2⟩:=mcC_inj hx.choose_spec
 exact congrArg some (Prod.ext h1 h2)
theorem mcR_d (c:List (List UInt8)) (a:List Gy) (fs:List Fn) (fuel deep e v al k:Int) (cs:List Nb) (ar:List Na) (f:List UInt8):mcR [.d (.sl zSqD (c.map cSd)),.d (.sl zGyD (a.map Gy.r)),.d (.sl zFn (fs.map Fn.r)),.v (.int .i64 fuel),.v (.int .i64 deep),.d (.mp (mpI (fI (fs.map Fn.name)))),.d (.mp (mpI (fI c))),.d (.mp (mpI (fI (a.map Gy.s)))),
 .ov zNb (cs.map Nb.c),.ov zNa (ar.map Na.c),.v (.int .i64 e),.v (.int .i64 v),.v (.string (bs f)),.v (.int .i64 al),.v (.int .i64 k),.v (.slice none 0 0),.v (.slice none 0 0)]=some (⟨⟨c,a⟩,fs⟩,⟨fuel,deep,cs,ar,e,v,f,al,k⟩):=mcR_c ⟨⟨c,a⟩,fs⟩ ⟨fuel,deep,cs,ar,e,v,f,al,k⟩
noncomputable def mMc:RowM (Pg×Ms) where
 z:=zMc
 d:=mcR
 e a:=mcC a.1 a.2
 h r b h:=mcR_ok h
 n b:=mcC_nm b.1 b.2
 t:=rfl
theorem mMc_e:mMc.e=fun a=>mcC a.1 a.2:=rfl
theorem mMc_z:mMc.z=zMc:=rfl
theorem mMc_d' (c:List (List UInt8)) (a:List Gy) (fs:List Fn) (fuel deep e v al k:Int) (cs:List Nb) (ar:List Na) (f:List UInt8):mMc.d [.d (.sl zSqD (c.map cSd)),.d (.sl zGyD (a.map Gy.r)),.d (.sl zFn (fs.map Fn.r)),.v (.int .i64 fuel),.v (.int .i64 deep),.d (.mp (mpI (fI (fs.map Fn.name)))),.d (.mp (mpI (fI c))),.d (.mp (mpI (fI (a.map Gy.s)))),
 .ov zNb (cs.map Nb.c),.ov zNa (ar.map Na.c),.v (.int .i64 e),.v (.int .i64 v),.v (.string (bs f)),.v (.int .i64 al),.v (.int .i64 k),.v (.slice none 0 0),.v (.slice none 0 0)]=some (⟨⟨c,a⟩,fs⟩,⟨fuel,deep,cs,ar,e,v,f,al,k⟩):=mcR_d ..
theorem pg_eta (P:Pg):(⟨⟨P.g.c,P.g.a⟩,P.fs⟩:Pg)=P:=rfl
theorem ms_eta (m:Ms):(⟨m.fuel,m.deep,m.cs,m.ar,m.e,m.v,m.f,m.al,m.k⟩:Ms)=m:=rfl
theorem wkR_me:∀r:List C,wkR r r=True
 |[]=>rfl
 |c::r=>by simp only[wkR,wkC_eq,wkR_me r,and_self]
def mcW (P:Pg) (m:Ms):MV:=(zMc,[mcC P m])
theorem mcW_nm (P:Pg) (m:Ms):∀q,some q∈[some (mcW P m)]→∀r∈q.2,∀c∈r,c.names=[]:=by
 intro q hq r hr c hc
 simp only[List.mem_singleton,Option.some.injEq]at hq
 subst hq
 simp only[mcW,List.mem_singleton]at hr
 subst hr
 exact mcC_nm P m c hc
def vsC (vs:Vs):List (List UInt8×List C):=vs.map fun p=>(p.1,p.2.c)
theorem vsC_inj {a b:Vs} (h:vsC a=vsC b):a=b:=by
 refine map_inj (f:=fun p:List UInt8×Va=>(p.1,p.2.c)) (fun x y hxy=>?_) h
 obtain⟨s,v⟩:=x
 obtain⟨s',v'⟩:=y
 simp only[Prod.mk.injEq]at hxy
 rw[hxy.1,vac_inj _ _ hxy.2]
theorem vsC_nm (vs:Vs):∀c∈(vsC vs).flatMap (·.2),c.names=[]:=by
 intro c hc
 obtain⟨p,hp,hc⟩:=List.mem_flatMap.1 hc
 obtain⟨q,_,rfl⟩:=List.mem_map.1 hp
 simp only[Va.c,List.mem_cons,List.not_mem_nil,or_false]at hc
 rcases hc with rfl|rfl|rfl<;>rfl
open Classical in
noncomputable def vsR (es:List (List UInt8×List C)):Option Vs:=if h:∃vs,vsC vs=es then some h.choose else none
theorem vsR_ok {es:List (List UInt8×List C)} {vs:Vs} (h:vsR es=some vs):es=vsC vs:=by
 unfold vsR at h
 split at h
 ·rename_i hx
  rw[← Option.some.inj h];exact hx.choose_spec.symm
 ·cases h
theorem vsR_c (vs:Vs):vsR (vsC vs)=some vs:=by
 unfold vsR
 have hx:∃a,vsC a=vsC vs:=⟨vs,rfl⟩
 rw[dif_pos hx,vsC_inj hx.choose_spec]
abbrev zFr:List C:=[.v (.pointer none),.v (.string (bs [])),.v (.map none),.v (.int .i64 0)]
def frC (q:Fa):List C:=[.p 1 0 0,.v (.string (bs q.nm)),.s 2,.v (.int .i64 q.ret)]
def Fa.mem (q:Fa):List ML:=[.vec zFr [frC q],.vec zMc [mcC q.P q.m],.mp true (vsC q.vs)]
def Fa.memO (q:Fa):List (Option ML):=[some (.vec zFr [frC q]),some (.vec zMc [mcC q.P q.m]),some (.mp true (vsC q.vs))]
def Fa.pan (q:Fa):List (Option MV):=[none,some (zMc,[mcC q.P q.m]),none]
def frD:Option Ch→Option (List UInt8×Int×Nat×Nat)
 |some (.vec _ z [[.p k1 0 0,.v (.string s),.s k2,.v (.int .i64 n)]])=>if z.length=4 then some (s.toList,n,k1,k2) else none
 |_=>none
noncomputable def mcD:Option Ch→Option (Pg×Ms)
 |some (.vec _ z [r])=>if z.length=17 then mcR r else none
 |_=>none
noncomputable def vsD:Option Ch→Option Vs
 |some (.mp true es)=>vsR es
 |_=>none
noncomputable def faJ (k k1 k2:Nat) (nm:List UInt8) (ret:Int):Option (Pg×Ms)→Option Vs→Option (Fa×List Nat)
 |some (P,m),some vs=>some (⟨nm,ret,P,m,vs⟩,[k,k1,k2])
 |_,_=>none
noncomputable def faK (H:Hp) (k:Nat):Option (List UInt8×Int×Nat×Nat)→Option (Fa×List Nat)
 |some (nm,ret,k1,k2)=>faJ k k1 k2 nm ret (mcD (H k1)) (vsD (H k2))
 |none=>none
noncomputable def faD (H:Hp):SV→Option (Fa×List Nat)
 | .one (.p k 0 0)=>faK H k (frD (H k))
 |_=>none
theorem frD_ok {o:Option Ch} {nm:List UInt8} {ret:Int} {k1 k2:Nat} (h:frD o=some (nm,ret,k1,k2)):∃u z,o=some (.vec u z [[.p k1 0 0,.v (.string (bs nm)),.s k2,.v (.int .i64 ret)]])∧z.length=4:=by
 unfold frD at h
 split at h
 ·split at h
  ·rename_i hz
   simp only[Option.some.injEq,Prod.mk.injEq]at h
   obtain⟨rfl,rfl,rfl,rfl⟩:=h
   exact⟨_,_,by rw[bs_of],hz⟩
  ·cases h
 ·cases h
theorem mcD_ok {o:Option Ch} {a:Pg×Ms} (h:mcD o=some a):∃u z,o=some (.vec u z [mcC a.1 a.2])∧z.length=17:=by
 unfold mcD at h
 split at h
 ·split at h
  ·rename_i hz
   rw[mcR_ok h]
   exact⟨_,_,rfl,hz⟩
  ·cases h
 ·cases h
theorem vsD_ok {o:Option Ch} {vs:Vs} (h:vsD o=some vs):o=some (.mp true (vsC vs)):=by
 unfold vsD at h
 split at h
 ·rw[vsR_ok h]
 ·cases h
theorem faD_ok {H:Hp} {v:SV} {q:Fa} {ks:List Nat} (h:faD H v=some (q,ks)):∃k k1 k2,ks=[k,k1,k2]∧v= .one (.p k 0 0)∧
  (∃u z,H k=some (.vec u z [[.p k1 0 0,.v (.string (bs q.nm)),.s k2,.v (.int .i64 q.ret)]])∧z.length=4)∧(∃u z,H k1=some (.vec u z [mcC q.P q.m])∧z.length=17)∧H k2=some (.mp true (vsC q.vs)):=by
 unfold faD at h
 split at h
 ·rename_i k
  cases hf:frD (H k) with
  |none=>rw[hf]at h;cases h
  |some x=>
   obtain⟨nm,ret,k1,k2⟩:=x
   rw[hf]at h
   simp only[faK]at h
   cases hm:mcD (H k1) with
   |none=>rw[hm]at h;cases h
   |some a=>
    cases hv:vsD (H k2) with
    |none=>rw[hm,hv]at h;cases h
    |some vs=>
     rw[hm,hv]at h
     simp only[faJ,Option.some.injEq,Prod.mk.injEq]at h
     obtain⟨rfl,rfl⟩:=h
     exact⟨k,k1,k2,rfl,rfl,frD_ok hf,mcD_ok hm,vsD_ok hv⟩
 ·cases h
theorem faD_congr {H H':Hp} {v:SV} {q:Fa} {ks:List Nat} (h:faD H v=some (q,ks)) (hk:∀k∈ks,H' k=H k):faD H' v=some (q,ks):=by
 obtain⟨k,k1,k2,rfl,rfl,⟨u,z,h1,hz⟩,⟨u',z',h2,hz'⟩,h3⟩:=faD_ok h
 show faK H' k (frD (H' k))=_
 rw[hk k (by simp),h1]
 simp only[frD,if_pos hz,faK,bs_toList]
 rw[hk k1 (by simp),hk k2 (by simp),h2,h3]
 simp only[mcD,if_pos hz',mcR_c,vsD,vsR_c,faJ]
theorem rnV_clos {f:Nat→Nat} {v:SV} (h:v.names=[]):rnV f v=v:=by
 cases v with
 |one c=>exact congrArg SV.one (rnC_clos h)
 |agg l=>
  refine congrArg SV.agg (map_self fun c hc=>rnC_clos ?_)
  exact List.eq_nil_iff_forall_not_mem.2 fun k hk=>by
   have:k∈(SV.agg l).names:=List.mem_flatMap.2 ⟨c,hc,hk⟩
   rw[h]at this;cases this
 |tup l=>rfl
open Classical in
noncomputable def frJ {B:Type} (ac:ArgC B) (r:List SV):Option (Fa×List Nat)→Option B→Option ((Fa×B)×List Nat)
 |some (q,ks),some b=>if ac.e b=r then some ((q,b),ks) else none
 |_,_=>none
theorem frJ_some {B:Type} (ac:ArgC B) (r:List SV) (q:Fa) (ks:List Nat) (b:B) (h:ac.e b=r):frJ ac r (some (q,ks)) (some b)=some ((q,b),ks):=if_pos h
open Classical in
theorem frJ_eq {B:Type} (ac:ArgC B) (r:List SV) (q:Fa) (ks:List Nat) (b:B):frJ ac r (some (q,ks)) (some b)=if ac.e b=r then some ((q,b),ks) else none:=rfl
theorem frJ_ok {B:Type} {ac:ArgC B} {r:List SV} {o:Option (Fa×List Nat)} {p:Option B} {a:Fa×B} {ks:List Nat} (h:frJ ac r o p=some (a,ks)):∃q b,o=some (q,ks)∧p=some b∧ac.e b=r∧a=(q,b):=by
 cases o with
 |none=>cases h
 |some x=>
  obtain⟨q,ks'⟩:=x
  cases p with
  |none=>cases h
  |some b=>
   by_cases he:ac.e b=r
   ·rw[frJ_some ac r q ks' b he]at h
    simp only[Option.some.injEq,Prod.mk.injEq]at h
    obtain⟨rfl,rfl⟩:=h
    exact⟨q,b,rfl,rfl,he,rfl⟩
   ·have:frJ ac r (some (q,ks')) (some b)=none:=if_neg he
    rw[this]at h;cases h
noncomputable def amFr {B:Type} (ac:ArgC B) (nt:∀b,∀v∈ac.e b,v.tupB=false):ArgL (Fa×B) where
 d H l:=match l with
  |v::r=>frJ ac r (faD H v) (ac.d r)
  |[]=>none
 args p:=.one (.p 0 0 0)::ac.e p.2
 mem p:=p.1.mem
 h H l a ks h:=by
  match l with
  |[]=>cases h
  |v::r=>
   obtain⟨q,b,hf,hb,he,rfl⟩:=frJ_ok h
   obtain⟨k,k1,k2,rfl,rfl,⟨u,z,h1,hz⟩,⟨u',z',h2,hz'⟩,h3⟩:=faD_ok hf
   refine⟨?_,rfl,fun i n hi=>?_⟩
   ·show _=(SV.one (.p 0 0 0)::ac.e b).map (rnV (nmK [k,k1,k2]))
    rw[List.map_cons,map_self (l:=ac.e b) fun v hv=>rnV_clos (ac.n b v hv),he];rfl
   ·match i,hi with
    |0,hi=>
     obtain rfl:=Option.some.inj hi
     refine⟨_,rfl,?_⟩
     rw[h1]
     exact⟨rfl,hz,.inl rfl⟩
    |1,hi=>
     obtain rfl:=Option.some.inj hi
     refine⟨_,rfl,?_⟩
     rw[h2]
     refine⟨?_,hz',.inl rfl⟩
     show [mcC q.P q.m]=[(mcC q.P q.m).map _]
     rw[map_self fun c hc=>rnC_clos (mcC_nm q.P q.m c hc)]
    |2,hi=>
     obtain rfl:=Option.some.inj hi
     refine⟨_,rfl,?_⟩
     rw[h3]
     refine⟨rfl,?_⟩
     show vsC q.vs=(vsC q.vs).map _
     rw[map_self fun p hp=>?_]
     show (p.1,p.2.map _)=p
     rw[map_self fun c hc=>rnC_clos (vsC_nm q.vs c (List.mem_flatMap.2 ⟨p,hp,hc⟩))]
    |i+3,hi=>simp at hi
 n a m hm c hc:=by
  simp only[Fa.mem,List.mem_cons,List.not_mem_nil,or_false]at hm
  rcases hm with rfl|rfl|rfl
  ·simp only[ML.cells,List.flatMap_cons,List.flatMap_nil,List.append_nil,id,frC,List.mem_cons,List.not_mem_nil,or_false]at hc
   rcases hc with rfl|rfl|rfl|rfl
   ·exact .inr (.inr (.inl ⟨1,0,0,rfl,by show 1<3;decide⟩))
   ·exact .inl rfl
   ·exact .inr (.inl ⟨2,rfl,by show 2<3;decide⟩)
   ·exact .inl rfl
  ·simp only[ML.cells,List.flatMap_cons,List.flatMap_nil,List.append_nil,id]at hc
   exact .inl (mcC_nm _ _ c hc)
  ·exact .inl (vsC_nm _ c hc)
 an a v hv:=by
  rcases List.mem_cons.1 hv with rfl|hv
  ·exact .inr (.inr (.inl ⟨0,0,0,rfl,by show 0<3;decide⟩))
  ·have:=ac.n a.2 v hv
   cases v with
   |one c=>exact .inl this
   |agg l=>
    intro c hc
    exact .inl (List.eq_nil_iff_forall_not_mem.2 fun k hk=>by
     have h2:k∈(SV.agg l).names:=List.mem_flatMap.2 ⟨c,hc,hk⟩
     rw[this]at h2;cases h2)
   |tup l=>cases nt a.2 _ hv
 l H H' v a ks h hk:=by
  match v with
  |[]=>cases h
  |x::r=>
   obtain⟨q,b,hf,hb,he,rfl⟩:=frJ_ok h
   show frJ ac r (faD H' x) (ac.d r)=_
   rw[faD_congr hf hk,hb,frJ_some ac r q ks b he]
theorem amFr_d {B:Type} (ac:ArgC B) (nt) (H:Hp) (v:SV) (r:List SV):(amFr ac nt).d H (v::r)=frJ ac r (faD H v) (ac.d r):=rfl
theorem amFr_a {B:Type} (ac:ArgC B) (nt) (q:Fa) (b:B):(amFr ac nt).args (q,b)= .one (.p 0 0 0)::ac.e b:=rfl
theorem amFr_m {B:Type} (ac:ArgC B) (nt) (q:Fa) (b:B):(amFr ac nt).mem (q,b)=q.mem:=rfl
theorem faD_p (H:Hp) (k:Nat):faD H (.one (.p k 0 0))=faK H k (frD (H k)):=rfl
theorem frD_v (u:Nat) (z:List C) (k1 k2:Nat) (s:List UInt8) (n:Int) (hz:z.length=4):frD (some (.vec u z [[.p k1 0 0,.v (.string (bs s)),.s k2,.v (.int .i64 n)]]))=some (s,n,k1,k2):=by
 simp only[frD,if_pos hz,bs_toList]
theorem faK_some (H:Hp) (k k1 k2:Nat) (nm:List UInt8) (ret:Int):faK H k (some (nm,ret,k1,k2))=faJ k k1 k2 nm ret (mcD (H k1)) (vsD (H k2)):=rfl
theorem faJ_some (k k1 k2:Nat) (nm:List UInt8) (ret:Int) (P:Pg) (m:Ms) (vs:Vs):faJ k k1 k2 nm ret (some (P,m)) (some vs)=some (⟨nm,ret,P,m,vs⟩,[k,k1,k2]):=rfl
theorem mcD_v (u:Nat) (z r:List C) (hz:z.length=17):mcD (some (.vec u z [r]))=mcR r:=by simp only[mcD,if_pos hz]
theorem vsD_v (vs:Vs):vsD (some (.mp true (vsC vs)))=some vs:=vsR_c vs
theorem fa_out (q q':Fa):lenL (q.mem).length q'.memO=true∧kdL q.mem q'.memO=true∧∀m,some m∈q'.memO→okML q'.memO.length m:=by
 refine⟨rfl,rfl,fun m hm=>?_⟩
 have:m∈q'.mem:=by
  simp only[Fa.memO,List.mem_cons,Option.some.injEq,List.not_mem_nil,or_false]at hm
  simp only[Fa.mem,List.mem_cons,List.not_mem_nil,or_false]
  exact hm
 exact(amFr ac0 (fun b v hv=>by cases hv)).n (q',()) m this
theorem fa_pan (q q':Fa):(mlO q'.pan).length=(q.mem).length∧kdL q.mem (mlO q'.pan)=true∧∀m,some m∈mlO q'.pan→okML (mlO q'.pan).length m:=by
 refine⟨rfl,rfl,fun m hm=>?_⟩
 simp only[Fa.pan,mlO,List.map_cons,List.map_nil,Option.map_none,Option.map_some,List.mem_cons,List.not_mem_nil,or_false,reduceCtorEq,Option.some.injEq,false_or]at hm
 subst hm
 intro c hc
 simp only[ML.cells,List.flatMap_cons,List.flatMap_nil,List.append_nil,id]at hc
 exact .inl (mcC_nm _ _ c hc)
theorem fa_pnm (q:Fa):∀m,some m∈q.pan→∀r∈m.2,∀c∈r,c.names=[]:=by
 intro m hm r hr c hc
 simp only[Fa.pan,List.mem_cons,List.not_mem_nil,or_false,reduceCtorEq,Option.some.injEq,false_or]at hm
 subst hm
 simp only[List.mem_singleton]at hr
 subst hr
 exact mcC_nm _ _ c hc
theorem amFr_nm {B:Type} (ac:ArgC B) (nt) (q:Fa) (b:B):∀v∈(amFr ac nt).args (q,b),∀k∈v.names,k<(Fa.mem q).length:=by
 intro v hv k hk
 rcases List.mem_cons.1 hv with rfl|hv
 ·simp only[SV.names,C.names,List.mem_singleton]at hk
  subst hk;show 0<3;decide
 ·rw[ac.n b v hv]at hk;cases hk
theorem fa_cl (P:Pg) (m:Ms) {r:List C} (h:r=mcC P m):∀c∈[r].flatMap id,c.names=[]:=by
 subst h
 intro c hc
 simp only[List.flatMap_cons,List.flatMap_nil,List.append_nil,id]at hc
 exact mcC_nm _ _ c hc
end Go.Proofs.Ytjnnmindcbgjhab
