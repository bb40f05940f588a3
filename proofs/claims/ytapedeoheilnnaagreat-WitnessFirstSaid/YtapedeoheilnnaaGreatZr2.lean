/- The document's machines and frames in memory. No conditions but those in each statement. -/
import Derived.Test.YtapedeoheilnnaaGreatRm2
set_option linter.all false
set_option maxRecDepth 20000
set_option maxHeartbeats 4000000
open List (append_nil mem_singleton mem_cons not_mem_nil mem_flatMap mem_map map_cons flatMap_cons flatMap_nil)
namespace Go.Proofs.YtapedeoheilnnaaGreat
open Go Go.Sy Go.RowKit
theorem AA8{P:Prop}(h:P:=by
 intro c hc
 obtain⟨p,hp,hc⟩:=mem_flatMap.1 hc
 obtain⟨q,_,rfl⟩:=mem_map.1 hp
 rw[List.mem_singleton.1 hc];rfl):P:=h
variable{B:Type}{o:Option Ch}{p:Prop}{es:List (List UInt8×List C)}{ks:List Nat}
def rzC(P:Pg)(m:Ms):List C:=[.d (.sl Fq (P.g.c.map cSd)),.d (.sl GP (P.g.a.map Gy.r)),.d (.sl zFn (P.fs.map Fn.r)),.ov zNb (m.cs.map Nb.c),.ov zNa (m.ar.map Na.c),.v (.int .i64 m.fuel),.v (.int .i64 m.deep),.v (.int .i64 m.e),.v (.int .i64 m.v),.v (.string (bs m.f)),.v (.int .i64 m.al),.v (.int .i64 m.k)]
abbrev zRz:List C:=[.v (.int .i64 0),.v (.int .i64 0),.v (.int .i64 0),.v (.int .i64 0),.v (.int .i64 0),.v (.int .i64 0),.v (.int .i64 0),.v (.int .i64 0),.v (.int .i64 0),.v (.int .i64 0),.v (.int .i64 0),.v (.int .i64 0)]
theorem xM{P P':Pg}{m m':Ms}(h:rzC P m=rzC P' m'):P=P'/\m=m':=by
 obtain⟨⟨c,a⟩,fs⟩:=P
 obtain⟨⟨c',a'⟩,fs'⟩:=P'
 obtain⟨fuel,deep,cs,ar,e,v,f,al,k⟩:=m
 obtain⟨fuel',deep',cs',ar',e',v',f',al',k'⟩:=m'
 simp only[rzC,List.cons.injEq,C.d.injEq,C.v.injEq,C.ov.injEq,D.sl.injEq,Value.int.injEq,Value.string.injEq,true_and,and_true]at h
 obtain⟨h1,h2,h3,h4,h5,rfl,rfl,rfl,rfl,h6,rfl,rfl⟩:=h
 rw[Aj QE h1,Aj QF h2,Aj WO h3,Aj dX h4,Aj dY h5,bs_inj h6]
 exact⟨rfl,rfl⟩
theorem Qq(P:Pg)(m:Ms):∀c∈rzC P m,c.names=[]:=by
 have h1:∀l:List Nb,(C.ov zNb (l.map Nb.c)).names=[]:=λl=>JL ⟨⟨[],[]⟩,[]⟩ ⟨0,0,l,[],0,0,[],0,0⟩ _ (by simp[mcC])
 have h2:∀l:List Na,(C.ov zNa (l.map Na.c)).names=[]:=λl=>JL ⟨⟨[],[]⟩,[]⟩ ⟨0,0,[],l,0,0,[],0,0⟩ _ (by simp[mcC])
 intro c hc
 simp only[rzC,mem_cons,not_mem_nil,or_false]at hc
 rcases hc with rfl|rfl|rfl|rfl|rfl|rfl|rfl|rfl|rfl|rfl|rfl|rfl<;>first|exact h1 _|exact h2 _|rfl
open Classical in
noncomputable def rzR(r:List C):Option (Pg×Ms):=if h:∃a:Pg×Ms,rzC a.1 a.2=r then some h.choose else none
theorem lq{r:List C}{a:Pg×Ms}(h:rzR r=some a):r=rzC a.1 a.2:=by
 unfold rzR at h
 exact AAh
theorem ry(P:Pg)(m:Ms):rzR (rzC P m)=some (P,m):=by
 unfold rzR
 have hx:∃a:Pg×Ms,rzC a.1 a.2=rzC P m:=⟨(P,m),rfl⟩
 rw[dif_pos hx]
 obtain⟨h1,h2⟩:=xM hx.choose_spec
 exact congrArg some (Prod.ext h1 h2)
theorem PK(c:List (List UInt8))(a:List Gy)(fs:List Fn)(fuel deep e v al k:Int)(cs:List Nb)(ar:List Na)(f:List UInt8):rzR [.d (.sl Fq (c.map cSd)),.d (.sl GP (a.map Gy.r)),.d (.sl zFn (fs.map Fn.r)),.ov zNb (cs.map Nb.c),.ov zNa (ar.map Na.c),.v (.int .i64 fuel),.v (.int .i64 deep),.v (.int .i64 e),.v (.int .i64 v),.v (.string (bs f)),.v (.int .i64 al),.v (.int .i64 k)]=some (⟨⟨c,a⟩,fs⟩,⟨fuel,deep,cs,ar,e,v,f,al,k⟩):=ry ⟨⟨c,a⟩,fs⟩ ⟨fuel,deep,cs,ar,e,v,f,al,k⟩
noncomputable def mRz:RowM (Pg×Ms) where
 z:=zRz
 d:=rzR
 e a:=rzC a.1 a.2
 h r b h:=lq h
 n b:=Qq b.1 b.2
 t:=rfl
theorem ND:mRz.e=λa=>rzC a.1 a.2:=rfl
theorem NE:mRz.z=zRz:=rfl
theorem Lb(c:List (List UInt8))(a:List Gy)(fs:List Fn)(fuel deep e v al k:Int)(cs:List Nb)(ar:List Na)(f:List UInt8):mRz.d [.d (.sl Fq (c.map cSd)),.d (.sl GP (a.map Gy.r)),.d (.sl zFn (fs.map Fn.r)),.ov zNb (cs.map Nb.c),.ov zNa (ar.map Na.c),.v (.int .i64 fuel),.v (.int .i64 deep),.v (.int .i64 e),.v (.int .i64 v),.v (.string (bs f)),.v (.int .i64 al),.v (.int .i64 k)]=some (⟨⟨c,a⟩,fs⟩,⟨fuel,deep,cs,ar,e,v,f,al,k⟩):=PK ..
def rzW(P:Pg)(m:Ms):MV:=(zRz,[rzC P m])
theorem A2C(P:Pg)(m:Ms):∀q,some q∈[some (rzW P m)]->∀r∈q.2,∀c∈r,c.names=[]:=by
 intro q hq r hr c hc
 simp only[mem_singleton,jS]at hq
 subst hq
 simp only[rzW,mem_singleton]at hr
 subst hr
 exact Qq P m c hc
def isC(is:Zi):List (List UInt8×List C):=is.map λp=>(p.1,[.v (.int .i64 p.2)])
def psC'(ps:Zp):List (List UInt8×List C):=ps.map λp=>(p.1,[.v (.string (bs p.2))])
theorem xN{a b:Zi}(h:isC a=isC b):a=b:=by
 refine Aj (f:=λp:List UInt8×Int=>(p.1,[C.v (.int .i64 p.2)])) (λx y hxy=>?_) h
 obtain⟨s,v⟩:=x
 obtain⟨s',v'⟩:=y
 simp only[jP,List.cons.injEq,C.v.injEq,Value.int.injEq,true_and,and_true]at hxy
 rw[hxy.1,hxy.2]
theorem xO{a b:Zp}(h:psC' a=psC' b):a=b:=by
 refine Aj (f:=λp:List UInt8×List UInt8=>(p.1,[C.v (.string (bs p.2))])) (λx y hxy=>?_) h
 obtain⟨s,v⟩:=x
 obtain⟨s',v'⟩:=y
 simp only[jP,List.cons.injEq,C.v.injEq,Value.string.injEq,and_true]at hxy
 rw[hxy.1,bs_inj hxy.2]
theorem WT(is:Zi):∀c∈(isC is).flatMap (·.2),c.names=[]:=by
 exact AA8
theorem WU(ps:Zp):∀c∈(psC' ps).flatMap (·.2),c.names=[]:=by
 exact AA8
open Classical in
noncomputable def isR(es:List (List UInt8×List C)):Option Zi:=if h:∃vs,isC vs=es then some h.choose else none
open Classical in
noncomputable def bw(es:List (List UInt8×List C)):Option Zp:=if h:∃vs,psC' vs=es then some h.choose else none
theorem A2D{vs:Zi}(h:isR es=some vs):es=isC vs:=by
 unfold isR at h
 exact AAh
theorem A2E{vs:Zp}(h:bw es=some vs):es=psC' vs:=by
 unfold bw at h
 exact AAh
theorem rz(vs:Zi):isR (isC vs)=some vs:=by
 unfold isR
 have hx:∃a,isC a=isC vs:=⟨vs,rfl⟩
 rw[dif_pos hx,xN hx.choose_spec]
theorem sA(vs:Zp):bw (psC' vs)=some vs:=by
 unfold bw
 have hx:∃a,psC' a=psC' vs:=⟨vs,rfl⟩
 rw[dif_pos hx,xO hx.choose_spec]
theorem xP(a b:Fn)(h:a.c=b.c):a=b:=by
 obtain⟨n,ps,ls,bd⟩:=a
 obtain⟨n',ps',ls',bd'⟩:=b
 simp only[Fn.c,List.cons.injEq,C.v.injEq,C.d.injEq,D.sl.injEq,Value.string.injEq,true_and,and_true]at h
 rw[bs_inj h.1,Aj Og h.2.1,Aj Og h.2.2.1,Aj Mh h.2.2.2]
open Classical in
noncomputable def fnR(r:List C):Option Fn:=if h:∃f:Fn,f.c=r then some h.choose else none
theorem A2F{r:List C}{f:Fn}(h:fnR r=some f):r=f.c:=by
 unfold fnR at h
 exact AAh
theorem A6d(f:Fn):fnR f.c=some f:=by
 unfold fnR
 have hx:∃a:Fn,a.c=f.c:=⟨f,rfl⟩
 rw[dif_pos hx,xP _ _ hx.choose_spec]
abbrev zFz:List C:=[.v (.int .i64 0),.v (.int .i64 0),.v (.int .i64 0),.v (.int .i64 0),.v (.int .i64 0),.v (.int .i64 0)]
def fzR(q:Rz):List C:=[.v (.string (bs q.f.name)),.d (.sl zVr (q.f.ps.map Vr.r)),.d (.sl zVr (q.f.ls.map Vr.r)),.d (.sl zSm (q.f.body.map Sm.r)),.s 2,.s 3]
def Rz.mem(q:Rz):List ML:=[.vec zRz [rzC q.P q.m],.vec zFz [fzR q],.mp false (isC q.is),.mp false (psC' q.ps)]
def Rz.memO(q:Rz):List (Option ML):=[some (.vec zRz [rzC q.P q.m]),some (.vec zFz [fzR q]),some (.mp false (isC q.is)),some (.mp false (psC' q.ps))]
def Rz.pan(q:Rz):List (Option MV):=[some (zRz,[rzC q.P q.m]),none,none,none]
noncomputable def fzD:Option Ch->Option (Fn×Nat×Nat)
 |some (.vec _ z [[c0,c1,c2,c3,.s k2,.s k3]])=>if z.length=6 then (fnR [c0,c1,c2,c3]).map λf=>(f,k2,k3) else none
 |_=>none
noncomputable def rzD:Option Ch->Option (Pg×Ms)
 |some (.vec _ z [r])=>if z.length=12 then rzR r else none
 |_=>none
noncomputable def isD:Option Ch->Option Zi
 |some (.mp false es)=>isR es
 |_=>none
noncomputable def VC:Option Ch->Option Zp
 |some (.mp false es)=>bw es
 |_=>none
noncomputable def zzJ(k0 k1 k2 k3:Nat)(f:Fn):Option (Pg×Ms)->Option Zi->Option Zp->Option (Rz×List Nat)
 |some (P,m),some is,some ps=>some (⟨P,m,f,is,ps⟩,[k0,k1,k2,k3])
 |_,_,_=>none
noncomputable def zzK(H:Hp)(k0 k1:Nat):Option (Fn×Nat×Nat)->Option (Rz×List Nat)
 |some (f,k2,k3)=>zzJ k0 k1 k2 k3 f (rzD (H k0)) (isD (H k2)) (VC (H k3))
 |none=>none
noncomputable def zzD(H:Hp):SV->SV->Option (Rz×List Nat)
 | .one (.p k0 0 0),.one (.p k1 0 0)=>zzK H k0 k1 (fzD (H k1))
 |_,_=>none
theorem A2G{f:Fn}{k2 k3:Nat}(h:fzD o=some (f,k2,k3)):∃u z,o=some (.vec u z [[.v (.string (bs f.name)),.d (.sl zVr (f.ps.map Vr.r)),.d (.sl zVr (f.ls.map Vr.r)),.d (.sl zSm (f.body.map Sm.r)),.s k2,.s k3]])/\z.length=6:=by
 unfold fzD at h
 split at h
 .rename_i u z c0 c1 c2 c3 j2 j3
  split at h
  .rename_i hz
   cases hf:fnR [c0,c1,c2,c3] with
   |none=>simp_all
   |some g=>
   rw[hf]at h
   simp only[Option.map_some,jS,jP]at h
   obtain⟨rfl,rfl,rfl⟩:=h
   have:=A2F hf
   simp only[Fn.c,List.cons.injEq,and_true]at this
   obtain⟨rfl,rfl,rfl,rfl⟩:=this
   exact⟨_,_,rfl,hz⟩
  cases h
 cases h
theorem A2H{a:Pg×Ms}(h:rzD o=some a):∃u z,o=some (.vec u z [rzC a.1 a.2])/\z.length=12:=by
 unfold rzD at h
 split at h
 .split at h
  .rename_i hz
   rw[lq h]
   exact⟨_,_,rfl,hz⟩
  cases h
 cases h
theorem A2I{vs:Zi}(h:isD o=some vs):o=some (.mp false (isC vs)):=by
 unfold isD at h
 split at h
 .rw[A2D h]
 cases h
theorem A2J{vs:Zp}(h:VC o=some vs):o=some (.mp false (psC' vs)):=by
 unfold VC at h
 split at h
 .rw[A2E h]
 cases h
theorem lr{H:Hp}{v v':SV}{q:Rz}(h:zzD H v v'=some (q,ks)):∃k0 k1 k2 k3,ks=[k0,k1,k2,k3]/\v= .one (.p k0 0 0)/\v'= .one (.p k1 0 0)/\
  (∃u z,H k0=some (.vec u z [rzC q.P q.m])/\z.length=12)/\(∃u z,H k1=some (.vec u z [[.v (.string (bs q.f.name)),.d (.sl zVr (q.f.ps.map Vr.r)),.d (.sl zVr (q.f.ls.map Vr.r)),.d (.sl zSm (q.f.body.map Sm.r)),.s k2,.s k3]])/\z.length=6)/\H k2=some (.mp false (isC q.is))/\H k3=some (.mp false (psC' q.ps)):=by
 unfold zzD at h
 split at h
 .rename_i k0 k1
  cases hf:fzD (H k1) with
  |none=>rw[hf]at h;cases h
  |some x=>
   obtain⟨f,k2,k3⟩:=x
   rw[hf]at h
   simp only[zzK]at h
   cases hm:rzD (H k0) with
   |none=>rw[hm]at h;cases h
   |some a=>
    cases hv:isD (H k2) with
    |none=>rw[hm,hv]at h;cases h
    |some is=>
     cases hp:VC (H k3) with
     |none=>rw[hm,hv,hp]at h;cases h
     |some ps=>
      rw[hm,hv,hp]at h
      simp only[zzJ,jS,jP]at h
      obtain⟨rfl,rfl⟩:=h
      exact⟨k0,k1,k2,k3,rfl,rfl,rfl,A2H hm,A2G hf,A2I hv,A2J hp⟩
 .cases h
theorem sB(u:Nat)(z:List C)(k2 k3:Nat)(f:Fn)(hz:z.length=6):fzD (some (.vec u z [[.v (.string (bs f.name)),.d (.sl zVr (f.ps.map Vr.r)),.d (.sl zVr (f.ls.map Vr.r)),.d (.sl zSm (f.body.map Sm.r)),.s k2,.s k3]]))=some (f,k2,k3):=by
 simp only[fzD,if_pos hz]
 have:=A6d f
 simp only[Fn.c]at this
 rw[this];rfl
theorem lu{H H':Hp}{v v':SV}{q:Rz}{ks:List Nat}(h:zzD H v v'=some (q,ks))(hk:∀k∈ks,H' k=H k):zzD H' v v'=some (q,ks):=by
 obtain⟨k0,k1,k2,k3,rfl,rfl,rfl,⟨u,z,h1,hz⟩,⟨u',z',h2,hz'⟩,h3,h4⟩:=lr h
 show zzK H' k0 k1 (fzD (H' k1))=_
 rw[hk k1 (by simp),h2,sB _ _ _ _ _ hz']
 simp only[zzK]
 rw[hk k0 (by simp),hk k2 (by simp),hk k3 (by simp),h1,h3,h4]
 simp only[rzD,if_pos hz,ry,isD,rz,VC,sA,zzJ]
open Classical in
noncomputable def zzF{B:Type}(ac:ArgC B)(r:List SV):Option (Rz×List Nat)->Option B->Option ((Rz×B)×List Nat)
 |some (q,ks),some b=>if ac.e b=r then some ((q,b),ks) else none
 |_,_=>none
theorem bx(ac:ArgC B)(r:List SV)(q:Rz)(ks:List Nat)(b:B)(h:ac.e b=r):zzF ac r (some (q,ks)) (some b)=some ((q,b),ks):=if_pos h
open Classical in
theorem Oi(ac:ArgC B)(r:List SV)(q:Rz)(ks:List Nat)(b:B):zzF ac r (some (q,ks)) (some b)=if ac.e b=r then some ((q,b),ks) else none:=rfl
theorem lv{ac:ArgC B}{r:List SV}{o:Option (Rz×List Nat)}{p:Option B}{a:Rz×B}(h:zzF ac r o p=some (a,ks)):∃q b,o=some (q,ks)/\p=some b/\ac.e b=r/\a=(q,b):=by
 cases o with
 |none=>cases h
 |some x=>
 obtain⟨q,ks'⟩:=x
 cases p with
 |none=>cases h
 |some b=>
 by_cases he:ac.e b=r
 .rw[bx ac r q ks' b he]at h
  simp only[jS,jP]at h
  obtain⟨rfl,rfl⟩:=h
  exact⟨q,b,rfl,rfl,he,rfl⟩
 have:zzF ac r (some (q,ks')) (some b)=none:=if_neg he
 rw[this]at h;cases h
theorem U9{es:List (List UInt8×List C)}(f:Nat->Nat)(h:∀c∈es.flatMap (·.2),c.names=[]):es.map (λp=>(p.1,p.2.map (rnC f)))=es:=DR λp hp=>by
 show (p.1,p.2.map _)=p
 rw[DR λc hc=>F8 (h c (mem_flatMap.2 ⟨p,hp,hc⟩))]
noncomputable def amRz{B:Type}(ac:ArgC B)(nt:∀b,∀v∈ac.e b,v.tupB=false):ArgL (Rz×B) where
 d H l:=match l with
  |v::v'::r=>zzF ac r (zzD H v v') (ac.d r)
  |_=>none
 args p:=.one (.p 0 0 0)::.one (.p 1 0 0)::ac.e p.2
 mem p:=p.1.mem
 h H l a ks h:=by
  match l with
  |[]=>cases h
  |[_]=>cases h
  |v::v'::r=>
   obtain⟨q,b,hf,hb,he,rfl⟩:=lv h
   obtain⟨k0,k1,k2,k3,rfl,rfl,rfl,⟨u,z,h1,hz⟩,⟨u',z',h2,hz'⟩,h3,h4⟩:=lr hf
   refine⟨?_,rfl,λi n hi=>?_⟩
   .show _=(SV.one (.p 0 0 0)::SV.one (.p 1 0 0)::ac.e b).map (rnV (nmK [k0,k1,k2,k3]))
    rw[map_cons,map_cons,DR (l:=ac.e b) λv hv=>Uc (ac.n b v hv),he];rfl
   .match i,hi with
    |0,hi=>
     obtain rfl:=Option.some.inj hi
     refine⟨_,rfl,?_⟩
     rw[h1]
     refine⟨?_,hz,.inl rfl⟩
     show [rzC q.P q.m]=[(rzC q.P q.m).map _]
     rw[DR λc hc=>F8 (Qq q.P q.m c hc)]
    |1,hi=>
     obtain rfl:=Option.some.inj hi
     refine⟨_,rfl,?_⟩
     rw[h2]
     exact⟨rfl,hz',.inl rfl⟩
    |2,hi=>
     obtain rfl:=Option.some.inj hi
     refine⟨_,rfl,?_⟩
     rw[h3]
     refine⟨rfl,?_⟩
     show isC q.is=(isC q.is).map _
     exact(U9 _ (WT q.is)).symm
    |3,hi=>
     obtain rfl:=Option.some.inj hi
     refine⟨_,rfl,?_⟩
     rw[h4]
     refine⟨rfl,?_⟩
     show psC' q.ps=(psC' q.ps).map _
     exact(U9 _ (WU q.ps)).symm
    |i+4,hi=>simp at hi
 n a m hm c hc:=by
  simp only[Rz.mem,mem_cons,not_mem_nil,or_false]at hm
  rcases hm with rfl|rfl|rfl|rfl
  .simp only[ML.cells,flatMap_cons,flatMap_nil,append_nil,id]at hc
   exact .inl (Qq _ _ c hc)
  .simp only[ML.cells,flatMap_cons,flatMap_nil,append_nil,id,fzR,mem_cons,not_mem_nil,or_false]at hc
   rcases hc with rfl|rfl|rfl|rfl|rfl|rfl
   .exact .inl rfl
   .exact .inl rfl
   .exact .inl rfl
   .exact .inl rfl
   .exact .inr (.inl ⟨2,rfl,by show 2<4;decide⟩)
   .exact .inr (.inl ⟨3,rfl,by show 3<4;decide⟩)
  .exact .inl (WT _ c hc)
  .exact .inl (WU _ c hc)
 an a v hv:=by
  rcases mem_cons.1 hv with rfl|hv
  .exact .inr (.inr (.inl ⟨0,0,0,rfl,by show 0<4;decide⟩))
  rcases mem_cons.1 hv with rfl|hv
  .exact .inr (.inr (.inl ⟨1,0,0,rfl,by show 1<4;decide⟩))
  .have:=ac.n a.2 v hv
   cases v with
   |one c=>exact .inl this
   |agg l=>
    intro c hc
    exact .inl (List.eq_nil_iff_forall_not_mem.2 λk hk=>by
     have h2:k∈(SV.agg l).names:=mem_flatMap.2 ⟨c,hc,hk⟩
     rw[this]at h2;cases h2)
   |tup l=>cases nt a.2 _ hv
 l H H' v a ks h hk:=by
  match v with
  |[]=>cases h
  |[_]=>cases h
  |x::x'::r=>
   obtain⟨q,b,hf,hb,he,rfl⟩:=lv h
   show zzF ac r (zzD H' x x') (ac.d r)=_
   rw[lu hf hk,hb,bx ac r q ks b he]
theorem Oj(ac:ArgC B)(nt)(H:Hp)(v v':SV)(r:List SV):(amRz ac nt).d H (v::v'::r)=zzF ac r (zzD H v v') (ac.d r):=rfl
theorem Ok(ac:ArgC B)(nt)(q:Rz)(b:B):(amRz ac nt).args (q,b)= .one (.p 0 0 0)::.one (.p 1 0 0)::ac.e b:=rfl
theorem Ol(ac:ArgC B)(nt)(q:Rz)(b:B):(amRz ac nt).mem (q,b)=q.mem:=rfl
theorem Rm(H:Hp)(k0 k1:Nat):zzD H (.one (.p k0 0 0)) (.one (.p k1 0 0))=zzK H k0 k1 (fzD (H k1)):=rfl
theorem Rn(u:Nat)(z:List C)(k2 k3:Nat)(n:List UInt8)(ps ls:List Vr)(bd:List Sm)(hz:z.length=6):fzD (some (.vec u z [[.v (.string (bs n)),.d (.sl zVr (ps.map Vr.r)),.d (.sl zVr (ls.map Vr.r)),.d (.sl zSm (bd.map Sm.r)),.s k2,.s k3]]))=some (⟨n,ps,ls,bd⟩,k2,k3):=sB u z k2 k3 ⟨n,ps,ls,bd⟩ hz
theorem Km(H:Hp)(k0 k1 k2 k3:Nat)(f:Fn):zzK H k0 k1 (some (f,k2,k3))=zzJ k0 k1 k2 k3 f (rzD (H k0)) (isD (H k2)) (VC (H k3)):=rfl
theorem Kn(k0 k1 k2 k3:Nat)(f:Fn)(P:Pg)(m:Ms)(is:Zi)(ps:Zp):zzJ k0 k1 k2 k3 f (some (P,m)) (some is) (some ps)=some (⟨P,m,f,is,ps⟩,[k0,k1,k2,k3]):=rfl
theorem Rp(u:Nat)(z r:List C)(hz:z.length=12):rzD (some (.vec u z [r]))=rzR r:=by simp only[rzD,if_pos hz]
theorem Rq(vs:Zi):isD (some (.mp false (isC vs)))=some vs:=rz vs
theorem Rr(vs:Zp):VC (some (.mp false (psC' vs)))=some vs:=sA vs
theorem GZ(q q':Rz):PW (q.mem).length q'.memO=true/\kdL q.mem q'.memO=true/\∀m,some m∈q'.memO->Ka q'.memO.length m:=by
 refine⟨rfl,rfl,λm hm=>?_⟩
 have:m∈q'.mem:=by
  simp only[Rz.memO,mem_cons,jS,not_mem_nil,or_false]at hm
  simp only[Rz.mem,mem_cons,not_mem_nil,or_false]
  exact hm
 exact(amRz ac0 (λb v hv=>by cases hv)).n (q',()) m this
theorem Mi(q q':Rz):(mlO q'.pan).length=(q.mem).length/\kdL q.mem (mlO q'.pan)=true/\∀m,some m∈mlO q'.pan->Ka (mlO q'.pan).length m:=by
 refine⟨rfl,rfl,λm hm=>?_⟩
 simp only[Rz.pan,mlO,map_cons,List.map_nil,Option.map_none,Option.map_some,mem_cons,not_mem_nil,or_false,reduceCtorEq,jS,false_or]at hm
 subst hm
 intro c hc
 simp only[ML.cells,flatMap_cons,flatMap_nil,append_nil,id]at hc
 exact .inl (Qq _ _ c hc)
theorem Mj(q:Rz):∀m,some m∈q.pan->∀r∈m.2,∀c∈r,c.names=[]:=by
 intro m hm r hr c hc
 simp only[Rz.pan,mem_cons,not_mem_nil,or_false,reduceCtorEq,jS,false_or]at hm
 subst hm
 simp only[mem_singleton]at hr
 subst hr
 exact Qq _ _ c hc
theorem L4(ac:ArgC B)(nt)(q:Rz)(b:B):∀v∈(amRz ac nt).args (q,b),∀k∈v.names,k<(Rz.mem q).length:=by
 intro v hv k hk
 rcases mem_cons.1 hv with rfl|hv
 .simp only[SV.names,C.names,mem_singleton]at hk
  subst hk;show 0<4;decide
 rcases mem_cons.1 hv with rfl|hv
 .simp only[SV.names,C.names,mem_singleton]at hk
  subst hk;show 1<4;decide
 rw[ac.n b v hv]at hk;cases hk
abbrev Zx(p:Pg×Ms)(fn:List UInt8)(al:Int)(kd:Int):Prop:=True
abbrev Gu(p:Pg×Ms)(fn:List UInt8)(al:Int)(kd:Int):Bool:=true
abbrev Ub(p:Pg×Ms)(fn:List UInt8)(al:Int)(kd:Int):SV:=.tup []
abbrev GO(p:Pg×Ms)(fn:List UInt8)(al:Int)(kd:Int):MV:=mcW p.1 (p.2.brk fn al kd)
noncomputable abbrev O4:ArgM ((Pg×Ms)×(List UInt8)×(Int)×(Int)×Unit):=(amP (mMc) (amD (cStr) (amD (cInt .i64) (amD (cInt .i64) am0))))
abbrev nM:Prop:=Q5 Tryz.prog 51 ((O4).args 0) (O4).mem (λp:(Pg×Ms)×(List UInt8)×(Int)×(Int)×Unit=>Zx p.1 p.2.1 p.2.2.1 p.2.2.2.1) (λp:(Pg×Ms)×(List UInt8)×(Int)×(Int)×Unit=>Gu p.1 p.2.1 p.2.2.1 p.2.2.2.1) (λp:(Pg×Ms)×(List UInt8)×(Int)×(Int)×Unit=>Ub p.1 p.2.1 p.2.2.1 p.2.2.2.1) (λp:(Pg×Ms)×(List UInt8)×(Int)×(Int)×Unit=>[some (GO p.1 p.2.1 p.2.2.1 p.2.2.2.1)])
theorem nN:∀p,(λp:(Pg×Ms)×(List UInt8)×(Int)×(Int)×Unit=>Zx p.1 p.2.1 p.2.2.1 p.2.2.2.1) p->∀q,some q∈(λp:(Pg×Ms)×(List UInt8)×(Int)×(Int)×Unit=>[some (GO p.1 p.2.1 p.2.2.1 p.2.2.2.1)]) p->∀r∈q.2,∀c∈r,c.names=[]:=by intro p _;exact QG _ _
section
attribute [local go_sem] Ms.brk Ms.exh Ms.spd Gw IH II mcC mcW EQ Dz GW GV
theorem tm:nM:=by
 rintro ⟨p,fn,al,kd,_u⟩ w M I lab fz xs hc hA hl hx
 refine N0 Tryz.func51 rfl _ w M I lab fz (Gu p fn al kd) (GO p fn al kd) [] [] ((O4).args 0 ⟨p,fn,al,kd,_u⟩) (Ub p fn al kd) xs hA hl hx (λv hv k hk=>Nat.lt_of_lt_of_eq ((O4).an 0 ⟨p,fn,al,kd,_u⟩ v hv k hk).2 (Nat.zero_add _)) (jN rfl) (nN ⟨p,fn,al,kd,_u⟩ hc _ (List.mem_singleton.2 rfl)) ?_
 clear hx hl hA xs
 simp only[Tryz.f51]
 obtain⟨P,m⟩:=p
 simp only[seval,go_sem,Gu,GO]
 repeat refine AX ?_
 all_goals first|(refine A1 [] ?_;simp only[seval,go_sem,bne,Ub,Gu,GO,Lk])|exact KA
theorem KF0(h:p:=by intro p _;first|rfl|exact bq _ _|exact br _ _|(simp[Rj,J8,bq,br];done)):p:=h
theorem KF1(h:p:=by intro p _;rfl):p:=h
theorem KF9(h:p:=by intro p _;exact QG _ _):p:=h
noncomputable def IG{X:Ctx}{w0:World}:Sy.Spec Tryz.prog X w0:=Q6 51 Tryz.call51 (O4) _ _ _ _ KF1 KF0 KF9 tm
abbrev dV(p:Pg×Ms):Prop:=True
abbrev FZ(p:Pg×Ms):Bool:=true
abbrev X2(p:Pg×Ms):SV:=.tup []
abbrev FD(p:Pg×Ms):MV:=mcW p.1 p.2.exh
noncomputable abbrev Q7:ArgM ((Pg×Ms)×Unit):=(amP (mMc) am0)
abbrev tn:Prop:=Q5 Tryz.prog 72 ((Q7).args 0) (Q7).mem (λp:(Pg×Ms)×Unit=>dV p.1) (λp:(Pg×Ms)×Unit=>FZ p.1) (λp:(Pg×Ms)×Unit=>X2 p.1) (λp:(Pg×Ms)×Unit=>[some (FD p.1)])
theorem tp:∀p,(λp:(Pg×Ms)×Unit=>dV p.1) p->∀q,some q∈(λp:(Pg×Ms)×Unit=>[some (FD p.1)]) p->∀r∈q.2,∀c∈r,c.names=[]:=by intro p _;exact QG _ _
theorem yu:tn:=by
 rintro ⟨p,_u⟩ w M I lab fz xs hc hA hl hx
 refine N0 Tryz.func72 rfl _ w M I lab fz (FZ p) (FD p) [] [] ((Q7).args 0 ⟨p,_u⟩) (X2 p) xs hA hl hx (λv hv k hk=>Nat.lt_of_lt_of_eq ((Q7).an 0 ⟨p,_u⟩ v hv k hk).2 (Nat.zero_add _)) (jN rfl) (tp ⟨p,_u⟩ hc _ (List.mem_singleton.2 rfl)) ?_
 clear hx hl hA xs
 simp only[Tryz.f72]
 obtain⟨P,m⟩:=p
 simp only[seval,go_sem,FZ,FD]
 repeat refine AX ?_
 all_goals first|(refine A1 [] ?_;simp only[seval,go_sem,bne,X2,FZ,FD,Lk])|exact KA
noncomputable def Fb{X:Ctx}{w0:World}:Sy.Spec Tryz.prog X w0:=Q6 72 Tryz.call72 (Q7) _ _ _ _ KF1 KF0 KF9 yu
abbrev dW(p:Pg×Ms):Prop:=True
abbrev Fc(p:Pg×Ms):Bool:=p.2.out
abbrev TM(p:Pg×Ms):SV:=.tup []
abbrev FE(p:Pg×Ms):MV:=mcW p.1 (if p.2.out=true then p.2.exh else p.2.spd)
noncomputable abbrev Q8:ArgM ((Pg×Ms)×Unit):=(amP (mMc) am0)
abbrev tq:Prop:=Q5 Tryz.prog 106 ((Q8).args 0) (Q8).mem (λp:(Pg×Ms)×Unit=>dW p.1) (λp:(Pg×Ms)×Unit=>Fc p.1) (λp:(Pg×Ms)×Unit=>TM p.1) (λp:(Pg×Ms)×Unit=>[some (FE p.1)])
theorem tt:∀p,(λp:(Pg×Ms)×Unit=>dW p.1) p->∀q,some q∈(λp:(Pg×Ms)×Unit=>[some (FE p.1)]) p->∀r∈q.2,∀c∈r,c.names=[]:=by intro p _;exact QG _ _
attribute[local go_sem] FZ Fc Fb FD FE in
theorem yw:tq:=by
 rintro ⟨p,_u⟩ w M I lab fz xs hc hA hl hx
 refine N0 Tryz.func106 rfl _ w M I lab fz (Fc p) (FE p) [Fb] [] ((Q8).args 0 ⟨p,_u⟩) (TM p) xs hA hl hx (λv hv k hk=>Nat.lt_of_lt_of_eq ((Q8).an 0 ⟨p,_u⟩ v hv k hk).2 (Nat.zero_add _)) (jN rfl) (tt ⟨p,_u⟩ hc _ (List.mem_singleton.2 rfl)) ?_
 clear hx hl hA xs
 simp only[Tryz.f106]
 obtain⟨P,m⟩:=p
 cases ho:m.out with
 |true=>
  have h1:decide (m.fuel<1)=true:=ho
  simp only[seval,go_sem,ho,h1]
  repeat refine AX ?_
  all_goals first|(refine A1 [] ?_;simp only[seval,go_sem,bne,TM,Lk,ho])|exact KA
 |false=>
 have h1:decide (m.fuel<1)=false:=ho
 simp only[seval,go_sem,ho,h1]
 repeat refine AX ?_
 refine A1 [] ?_;simp only[seval,go_sem,bne,TM,Lk,ho]
noncomputable def Fe{X:Ctx}{w0:World}:Sy.Spec Tryz.prog X w0:=Q6 106 Tryz.call106 (Q8) _ _ _ _ KF1 KF0 KF9 yw
end
open Go Go.Sy Go.RowKit
theorem FN(e:Ex):(SV.one (exC e)).tupB=false:=rfl
theorem FO(e:Cd):(SV.one (cdC e)).tupB=false:=rfl
theorem Gv(q:Fa):(⟨q.nm,q.ret,q.P,q.m,q.vs⟩:Fa)=q:=rfl
noncomputable def cSp:Cod Sm:=Hl (λs=>.one (.dp s.r)) (λv a b h h'=>by
 cases v with
 |one c=>
  rcases h with rfl|⟨_,h2⟩
  .rcases h' with h|⟨_,h4⟩
   .simp only[C.dp.injEq]at h
    exact Mh a b h
   cases h4
  cases h2
 |agg l=>exact h.elim
 |tup l=>exact h.elim) (λs=>rfl)
theorem LI(s:Sm):cSp.e s= .one (.dp s.r):=rfl
theorem LJ(k no:Int)(x y:List UInt8)(e f:Ex)(cd:Cd)(ar:List Ar)(th el:List Sm):cSp.d (.one (.dp [.v (.int .i64 k),.v (.string (bs x)),.v (.string (bs y)),e.d,f.d,cd.d,.sl zAr (ar.map Ar.r),.sl zSm (th.map Sm.r),.sl zSm (el.map Sm.r),.v (.int .i64 no)]))=some (.mk k x y e f cd ar th el no):=by
 have h:cSp.d (.one (.dp (Sm.mk k x y e f cd ar th el no).r))=some (.mk k x y e f cd ar th el no):=E4 (e:=λs:Sm=>.one (.dp s.r)) (F4 _)
 rw[Fx]at h;exact h
theorem Vg(l:List (List UInt8×Int))(s:List UInt8):AH ((mpI l).map λp=>(p.1,[C.v p.2])) s=(AH l s).map λi=>[.v (.int .i64 i)]:=by
 unfold mpI
 rw[Kg (λx:Value=>[C.v x]),Kg (λx:Int=>Value.int .i64 x),Option.map_map];rfl
theorem CP(P:Pg)(s:List UInt8):AH ((mpI (fI P.g.c)).map λp=>(p.1,[C.v p.2])) s=(P.ci s).map λi=>[.v (.int .i64 i)]:=Vg _ _
theorem CQ(P:Pg)(s:List UInt8):AH ((mpI (fI (P.g.a.map Gy.s))).map λp=>(p.1,[C.v p.2])) s=(P.ai s).map λi=>[.v (.int .i64 i)]:=Vg _ _
theorem CR(P:Pg)(s:List UInt8):AH ((mpI (fI (P.fs.map Fn.name))).map λp=>(p.1,[C.v p.2])) s=(P.fi s).map λi=>[.v (.int .i64 i)]:=Vg _ _
theorem CS(vs:Vs)(s:List UInt8):AH (vsC vs) s=(AH vs s).map Va.c:=Kg Va.c s vs
theorem MQ(vs:Vs)(s:List UInt8)(p:Bool)(n:Int)(t:List UInt8):B5 (vsC vs) s [.v (.bool p),.v (.int .i64 n),.v (.string (bs t))]=vsC (B5 vs s ⟨p,n,t⟩):=OW Va.c s ⟨p,n,t⟩ vs
theorem JI(vs:Vs):List.flatMap (λp=>List.flatMap C.names p.snd) (vsC vs)=[]:=List.flatMap_eq_nil_iff.2 λp hp=>List.flatMap_eq_nil_iff.2 λc hc=>Vi vs c (mem_flatMap.2 ⟨p,hp,hc⟩)
theorem JJ(f:Nat->Nat)(vs:Vs):(vsC vs).map (λp=>(p.1,p.2.map (rnC f)))=vsC vs:=DR λp hp=>by
 show (p.1,p.2.map _)=p
 rw[DR λc hc=>F8 (Vi vs c (mem_flatMap.2 ⟨p,hp,hc⟩))]
theorem A0(t:Nat)(ag:Bool)(es:List (List UInt8×List C))(r:List (Nat×Ch))(K:St->Prop):J6 ((t,.mp ag es)::r) K=J6 r K:=rfl
theorem MR{l:List Nb}{i:Int}(h:0<=i/\i<(l.length:Int))(z:List C):(l.map Nb.c).getD i.toNat z=[.v (.string (bs (l.getD i.toNat ⟨[],0⟩).s)),.v (.int .i64 (l.getD i.toNat ⟨[],0⟩).n)]:=by
 have h1:i.toNat<l.length:=by omega
 simp[List.getD,h1,Nb.c]
theorem Q9{l:List Na}{i:Int}(h:0<=i/\i<(l.length:Int))(z:List C):(l.map Na.c).getD i.toNat z=[.v (.string (bs (l.getD i.toNat ⟨[],[]⟩).s)),.ov zI ((l.getD i.toNat ⟨[],[]⟩).l.map cI)]:=by
 have h1:i.toNat<l.length:=by omega
 simp[List.getD,h1,Na.c]
abbrev tu(q:Fa)(s:Sm)(kd:Int):Prop:=True
abbrev D8(q:Fa)(s:Sm)(kd:Int):Bool:=true
abbrev Cn(q:Fa)(s:Sm)(kd:Int):Fa:={ q with m:=q.m.brk q.nm s.no kd }
abbrev Cy(q:Fa)(s:Sm)(kd:Int):Fa:={ q with m:=q.m.brk q.nm s.no kd }
abbrev TN(q:Fa)(s:Sm)(kd:Int):SV:=.tup []
theorem tv:∀b,∀v∈ArgC.e (acS (cSp) (acS (cInt .i64) ac0)) b,v.tupB=false:=by rintro ⟨x0,x1,_⟩ v hv;simp only[FV,FU,mem_cons,not_mem_nil,or_false]at hv;rcases hv with rfl|rfl<;>first|rfl|exact FN _|exact FO _
noncomputable abbrev TO:ArgL (Fa×(Sm)×(Int)×Unit):=amFr (acS (cSp) (acS (cInt .i64) ac0)) tv
abbrev TP:Prop:=Dj Tryz.prog 109 (TO).args (TO).mem (λp:(Fa×(Sm)×(Int)×Unit)=>tu p.1 p.2.1 p.2.2.1) (λp:(Fa×(Sm)×(Int)×Unit)=>D8 p.1 p.2.1 p.2.2.1) (λp:(Fa×(Sm)×(Int)×Unit)=>TN p.1 p.2.1 p.2.2.1) (λp:(Fa×(Sm)×(Int)×Unit)=>Fa.memO (Cn p.1 p.2.1 p.2.2.1)) (λp:(Fa×(Sm)×(Int)×Unit)=>mlO (Fa.pan (Cy p.1 p.2.1 p.2.2.1)))
theorem KF5(h:p:=by intro _;rfl):p:=h
noncomputable def X3{X:Ctx}{w0:World}(h:TP):Sy.Spec Tryz.prog X w0:=Dc 109 Tryz.call109 (TO) _ _ _ _ _ (id (by exact λp _ _=>have h:=Ek p.1 (Cn p.1 p.2.1 p.2.2.1);⟨h.1,h.2.1,rfl,h.2.2⟩)) (id (by exact λp _ _=>JM p.1 (Cy p.1 p.2.1 p.2.2.1))) (id (by exact λp _ _=>⟨(Ek p.1 (Cn p.1 p.2.1 p.2.2.1)).1,rfl⟩)) KF5 h
theorem Dk{X:Ctx}{w0:World}(h:TP):(X3 (X:=X) (w0:=w0) h).f=109:=rfl
def Dl{X:Ctx}{w0:World}(h:TP)(t:Nat)(args:List SV)(H:Hp):=@id ((X3 (X:=X) (w0:=w0) h).fn t args H=spL X _ t H _ _ _ _ _) rfl
theorem yx:TP:=by
 rintro ⟨q,s,kd,_u⟩ w M I lab fz xs hc hA hl hx
 refine Bz Tryz.func109 rfl (Fa.mem q) w M I lab fz (D8 q s kd) (Fa.pan (Cy q s kd)) (Fa.memO (Cn q s kd)) [IG] [] ((TO).args ⟨q,s,kd,_u⟩) (TN q s kd) xs hA hl hx (Hx _ _ _ _) (jN rfl) (Nat.le_refl _) rfl (JN _) ?_
 clear hx hl hA xs
 simp only[Tryz.f109]
 obtain⟨k0,x,y,e,f,cd,ar,th,el,no⟩:=s
 simp only[seval,go_sem,Gz,H4,H5,Gx,IJ,IK,F5,F6,IL,Hm,IM,Gv,Fa.mem,Fa.memO,Fa.pan,frC,lmH,lmO,chL,ML.ch,Cj,Ck,DH,CU,E8,nmX,xt,Di,ML.ren,rnC,E5,EE,vrQ,E9,ED,Dh,D3,D4,DS,Cu,Ci,fcN,LI,LJ,Bi,Be,Bj,Bk,Bl,DI,DJ,JI,JJ,↓A0,Fx,Sm.k,Sm.x,Sm.y,Sm.e,Sm.f,Sm.cd,Sm.ar,Sm.th,Sm.el,Sm.no,A4,A5,AF,IH,II,Gw,mcC,mcW,Dz,EQ,GV,GW,Ms.brk,Ms.exh,Ms.spd,IG,Gu,GO,D8,Cy,Cn]
 repeat refine AX ?_
 all_goals first|(refine A1 [] ?_;simp only[seval,go_sem,bne,TN,D8,Cn,Cy,A3,Gz,H4,H5,Gx,IJ,IK,F5,F6,IL,Hm,IM,Gv,Fa.mem,Fa.memO,Fa.pan,frC,lmH,lmO,chL,ML.ch,Cj,Ck,DH,CU,E8,nmX,xt,Di,ML.ren,rnC,E5,EE,vrQ,E9,ED,Dh,D3,D4,DS,Cu,Ci,fcN,LI,LJ,Bi,Be,Bj,Bk,Bl,DI,DJ,JI,JJ,↓A0,Fx,Sm.k,Sm.x,Sm.y,Sm.e,Sm.f,Sm.cd,Sm.ar,Sm.th,Sm.el,Sm.no,A4,A5,AF,IH,II,Gw,mcC,mcW,Dz,EQ,GV,GW,Ms.brk,Ms.exh,Ms.spd])|exact KA
noncomputable def CN{X:Ctx}{w0:World}:Sy.Spec Tryz.prog X w0:=X3 yx
end Go.Proofs.YtapedeoheilnnaaGreat
