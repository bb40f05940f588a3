/- The document's machines and frames in memory. No conditions but those in each statement. -/
import Derived.Test.YtapedeoheilnnaaGreatRm2
import Derived.Test.YtapedeoheilnnaaGreatMk5
import Derived.Test.YtapedeoheilnnaaGreatRm7
set_option linter.all false
set_option maxRecDepth 20000
set_option maxHeartbeats 8000000
open List (append_nil mem_singleton mem_cons not_mem_nil mem_flatMap mem_map map_cons flatMap_cons flatMap_nil)
namespace Go.Proofs.YtapedeoheilnnaaGreat
open Go Go.Sy Go.RowKit
theorem AAS{P:Prop}(h:P:=by
 repeat refine AX ?_
 refine A1 [] ?_;simp only[seval,go_sem,bne,C8,C9,hs,Ms.on,h1,Int.reduceBEq]):P:=h
theorem ABS{P:Prop}(h:P:=by
 intro c hc
 obtain⟨p,hp,hc⟩:=mem_flatMap.1 hc
 obtain⟨q,_,rfl⟩:=mem_map.1 hp
 rw[List.mem_singleton.1 hc];rfl):P:=h
variable{B:Type}{m:Ms}{o:Option Ch}{es:List (List UInt8×List C)}{ks:List Nat}
def rzC(P:Pg)(m:Ms):List C:=[.d (.sl Fq (P.g.c.map cSd)),.d (.sl GP (P.g.a.map Gy.r)),.d (.sl zFn (P.fs.map Fn.r)),.ov zNb (m.cs.map Nb.c),.ov zNa (m.ar.map Na.c),.v (.int .i64 m.fuel),.v (.int .i64 m.deep),.v (.int .i64 m.e),.v (.int .i64 m.v),.v (.string (bs m.f)),.v (.int .i64 m.al),.v (.int .i64 m.k)]
abbrev zRz:List C:=[.v (.int .i64 0),.v (.int .i64 0),.v (.int .i64 0),.v (.int .i64 0),.v (.int .i64 0),.v (.int .i64 0),.v (.int .i64 0),.v (.int .i64 0),.v (.int .i64 0),.v (.int .i64 0),.v (.int .i64 0),.v (.int .i64 0)]
theorem xM{P P':Pg}{m':Ms}(h:rzC P m=rzC P' m'):P=P'/\m=m':=by
 obtain⟨⟨c,a⟩,fs⟩:=P
 obtain⟨⟨c',a'⟩,fs'⟩:=P'
 obtain⟨fuel,deep,cs,ar,e,v,f,al,k⟩:=m
 obtain⟨fuel',deep',cs',ar',e',v',f',al',k'⟩:=m'
 simp only[rzC,List.cons.injEq,C.d.injEq,C.v.injEq,C.ov.injEq,D.sl.injEq,Value.int.injEq,Value.string.injEq,true_and,and_true]at h
 obtain⟨h1,h2,h3,h4,h5,rfl,rfl,rfl,rfl,h6,rfl,rfl⟩:=h
 rw[Aj QE h1,Aj QF h2,Aj WO h3,Aj dX h4,Aj dY h5,bs_inj h6]
 exact⟨rfl,rfl⟩
theorem Qq(P:Pg)(m:Ms):∀c∈rzC P m,c.names=[]:=by
 have h1:∀l:List Nb,(C.ov zNb (l.map Nb.c)).names=[]:=λl=>JL ⟨⟨[],[]⟩,[]⟩ ⟨0,0,l,[],0,0,[],0,0⟩ _ (by simp[mcC])
 have h2:∀l:List Na,(C.ov zNa (l.map Na.c)).names=[]:=λl=>JL ⟨⟨[],[]⟩,[]⟩ ⟨0,0,[],l,0,0,[],0,0⟩ _ (by simp[mcC])
 intro c hc
 simp only[rzC,mem_cons,not_mem_nil,or_false]at hc
 rcases hc with rfl|rfl|rfl|rfl|rfl|rfl|rfl|rfl|rfl|rfl|rfl|rfl<;>first|exact h1 _|exact h2 _|rfl
open Classical in
noncomputable def rzR(r:List C):Option (Pg×Ms):=if h:∃a:Pg×Ms,rzC a.1 a.2=r then some h.choose else none
theorem lq{r:List C}{a:Pg×Ms}(h:rzR r=some a):r=rzC a.1 a.2:=by
 unfold rzR at h
 exact AA1
theorem ry(P:Pg)(m:Ms):rzR (rzC P m)=some (P,m):=by
 unfold rzR
 have hx:∃a:Pg×Ms,rzC a.1 a.2=rzC P m:=⟨(P,m),rfl⟩
 rw[dif_pos hx]
 obtain⟨h1,h2⟩:=xM hx.choose_spec
 exact congrArg some (Prod.ext h1 h2)
theorem PK(c:List (List UInt8))(a:List Gy)(fs:List Fn)(fuel deep e v al k:Int)(cs:List Nb)(ar:List Na)(f:List UInt8):rzR [.d (.sl Fq (c.map cSd)),.d (.sl GP (a.map Gy.r)),.d (.sl zFn (fs.map Fn.r)),.ov zNb (cs.map Nb.c),.ov zNa (ar.map Na.c),.v (.int .i64 fuel),.v (.int .i64 deep),.v (.int .i64 e),.v (.int .i64 v),.v (.string (bs f)),.v (.int .i64 al),.v (.int .i64 k)]=some (⟨⟨c,a⟩,fs⟩,⟨fuel,deep,cs,ar,e,v,f,al,k⟩):=ry ⟨⟨c,a⟩,fs⟩ ⟨fuel,deep,cs,ar,e,v,f,al,k⟩
noncomputable def mRz:RowM (Pg×Ms) where
 z:=zRz
 d:=rzR
 e a:=rzC a.1 a.2
 h r b h:=lq h
 n b:=Qq b.1 b.2
 t:=rfl
theorem ND:mRz.e=λa=>rzC a.1 a.2:=rfl
theorem NE:mRz.z=zRz:=rfl
theorem Lb(c:List (List UInt8))(a:List Gy)(fs:List Fn)(fuel deep e v al k:Int)(cs:List Nb)(ar:List Na)(f:List UInt8):mRz.d [.d (.sl Fq (c.map cSd)),.d (.sl GP (a.map Gy.r)),.d (.sl zFn (fs.map Fn.r)),.ov zNb (cs.map Nb.c),.ov zNa (ar.map Na.c),.v (.int .i64 fuel),.v (.int .i64 deep),.v (.int .i64 e),.v (.int .i64 v),.v (.string (bs f)),.v (.int .i64 al),.v (.int .i64 k)]=some (⟨⟨c,a⟩,fs⟩,⟨fuel,deep,cs,ar,e,v,f,al,k⟩):=PK ..
def rzW(P:Pg)(m:Ms):MV:=(zRz,[rzC P m])
theorem A2C(P:Pg)(m:Ms):∀q,some q∈[some (rzW P m)]->∀r∈q.2,∀c∈r,c.names=[]:=by
 intro q hq r hr c hc
 simp only[mem_singleton,jS]at hq
 subst hq
 simp only[rzW,mem_singleton]at hr
 subst hr
 exact Qq P m c hc
def isC(is:Zi):List (List UInt8×List C):=is.map λp=>(p.1,[.v (.int .i64 p.2)])
def psC'(ps:Zp):List (List UInt8×List C):=ps.map λp=>(p.1,[.v (.string (bs p.2))])
theorem xN{a b:Zi}(h:isC a=isC b):a=b:=by
 refine Aj (f:=λp:List UInt8×Int=>(p.1,[C.v (.int .i64 p.2)])) (λx y hxy=>?_) h
 obtain⟨s,v⟩:=x
 obtain⟨s',v'⟩:=y
 simp only[jP,List.cons.injEq,C.v.injEq,Value.int.injEq,true_and,and_true]at hxy
 rw[hxy.1,hxy.2]
theorem xO{a b:Zp}(h:psC' a=psC' b):a=b:=by
 refine Aj (f:=λp:List UInt8×List UInt8=>(p.1,[C.v (.string (bs p.2))])) (λx y hxy=>?_) h
 obtain⟨s,v⟩:=x
 obtain⟨s',v'⟩:=y
 simp only[jP,List.cons.injEq,C.v.injEq,Value.string.injEq,and_true]at hxy
 rw[hxy.1,bs_inj hxy.2]
theorem WT(is:Zi):∀c∈(isC is).flatMap (·.2),c.names=[]:=by
 exact ABS
theorem WU(ps:Zp):∀c∈(psC' ps).flatMap (·.2),c.names=[]:=by
 exact ABS
open Classical in
noncomputable def isR(es:List (List UInt8×List C)):Option Zi:=if h:∃vs,isC vs=es then some h.choose else none
open Classical in
noncomputable def bw(es:List (List UInt8×List C)):Option Zp:=if h:∃vs,psC' vs=es then some h.choose else none
theorem A2D{vs:Zi}(h:isR es=some vs):es=isC vs:=by
 unfold isR at h
 exact AA1
theorem A2E{vs:Zp}(h:bw es=some vs):es=psC' vs:=by
 unfold bw at h
 exact AA1
theorem rz(vs:Zi):isR (isC vs)=some vs:=by
 unfold isR
 have hx:∃a,isC a=isC vs:=⟨vs,rfl⟩
 rw[dif_pos hx,xN hx.choose_spec]
theorem sA(vs:Zp):bw (psC' vs)=some vs:=by
 unfold bw
 have hx:∃a,psC' a=psC' vs:=⟨vs,rfl⟩
 rw[dif_pos hx,xO hx.choose_spec]
theorem xP(a b:Fn)(h:a.c=b.c):a=b:=by
 obtain⟨n,ps,ls,bd⟩:=a
 obtain⟨n',ps',ls',bd'⟩:=b
 simp only[Fn.c,List.cons.injEq,C.v.injEq,C.d.injEq,D.sl.injEq,Value.string.injEq,true_and,and_true]at h
 rw[bs_inj h.1,Aj Og h.2.1,Aj Og h.2.2.1,Aj Mh h.2.2.2]
open Classical in
noncomputable def fnR(r:List C):Option Fn:=if h:∃f:Fn,f.c=r then some h.choose else none
theorem A2F{r:List C}{f:Fn}(h:fnR r=some f):r=f.c:=by
 unfold fnR at h
 exact AA1
theorem A6d(f:Fn):fnR f.c=some f:=by
 unfold fnR
 have hx:∃a:Fn,a.c=f.c:=⟨f,rfl⟩
 rw[dif_pos hx,xP _ _ hx.choose_spec]
abbrev zFz:List C:=[.v (.int .i64 0),.v (.int .i64 0),.v (.int .i64 0),.v (.int .i64 0),.v (.int .i64 0),.v (.int .i64 0)]
def fzR(q:Rz):List C:=[.v (.string (bs q.f.name)),.d (.sl zVr (q.f.ps.map Vr.r)),.d (.sl zVr (q.f.ls.map Vr.r)),.d (.sl zSm (q.f.body.map Sm.r)),.s 2,.s 3]
def Rz.mem(q:Rz):List ML:=[.vec zRz [rzC q.P q.m],.vec zFz [fzR q],.mp false (isC q.is),.mp false (psC' q.ps)]
def Rz.memO(q:Rz):List (Option ML):=[some (.vec zRz [rzC q.P q.m]),some (.vec zFz [fzR q]),some (.mp false (isC q.is)),some (.mp false (psC' q.ps))]
def Rz.pan(q:Rz):List (Option MV):=[some (zRz,[rzC q.P q.m]),none,none,none]
noncomputable def fzD:Option Ch->Option (Fn×Nat×Nat)
 |some (.vec _ z [[c0,c1,c2,c3,.s k2,.s k3]])=>if z.length=6 then (fnR [c0,c1,c2,c3]).map λf=>(f,k2,k3) else none
 |_=>none
noncomputable def rzD:Option Ch->Option (Pg×Ms)
 |some (.vec _ z [r])=>if z.length=12 then rzR r else none
 |_=>none
noncomputable def isD:Option Ch->Option Zi
 |some (.mp false es)=>isR es
 |_=>none
noncomputable def VC:Option Ch->Option Zp
 |some (.mp false es)=>bw es
 |_=>none
noncomputable def zzJ(k0 k1 k2 k3:Nat)(f:Fn):Option (Pg×Ms)->Option Zi->Option Zp->Option (Rz×List Nat)
 |some (P,m),some is,some ps=>some (⟨P,m,f,is,ps⟩,[k0,k1,k2,k3])
 |_,_,_=>none
noncomputable def zzK(H:Hp)(k0 k1:Nat):Option (Fn×Nat×Nat)->Option (Rz×List Nat)
 |some (f,k2,k3)=>zzJ k0 k1 k2 k3 f (rzD (H k0)) (isD (H k2)) (VC (H k3))
 |none=>none
noncomputable def zzD(H:Hp):SV->SV->Option (Rz×List Nat)
 | .one (.p k0 0 0),.one (.p k1 0 0)=>zzK H k0 k1 (fzD (H k1))
 |_,_=>none
theorem A2G{f:Fn}{k2 k3:Nat}(h:fzD o=some (f,k2,k3)):∃u z,o=some (.vec u z [[.v (.string (bs f.name)),.d (.sl zVr (f.ps.map Vr.r)),.d (.sl zVr (f.ls.map Vr.r)),.d (.sl zSm (f.body.map Sm.r)),.s k2,.s k3]])/\z.length=6:=by
 unfold fzD at h
 split at h
 .rename_i u z c0 c1 c2 c3 j2 j3
  split at h
  .rename_i hz
   cases hf:fnR [c0,c1,c2,c3] with
   |none=>simp_all
   |some g=>
   rw[hf]at h
   simp only[Option.map_some,jS,jP]at h
   obtain⟨rfl,rfl,rfl⟩:=h
   have:=A2F hf
   simp only[Fn.c,List.cons.injEq,and_true]at this
   obtain⟨rfl,rfl,rfl,rfl⟩:=this
   exact⟨_,_,rfl,hz⟩
  cases h
 cases h
theorem A2H{a:Pg×Ms}(h:rzD o=some a):∃u z,o=some (.vec u z [rzC a.1 a.2])/\z.length=12:=by
 unfold rzD at h
 split at h
 .split at h
  .rename_i hz
   rw[lq h]
   exact⟨_,_,rfl,hz⟩
  cases h
 cases h
theorem A2I{vs:Zi}(h:isD o=some vs):o=some (.mp false (isC vs)):=by
 unfold isD at h
 split at h
 .rw[A2D h]
 cases h
theorem A2J{vs:Zp}(h:VC o=some vs):o=some (.mp false (psC' vs)):=by
 unfold VC at h
 split at h
 .rw[A2E h]
 cases h
theorem lr{H:Hp}{v v':SV}{q:Rz}(h:zzD H v v'=some (q,ks)):∃k0 k1 k2 k3,ks=[k0,k1,k2,k3]/\v= .one (.p k0 0 0)/\v'= .one (.p k1 0 0)/\
  (∃u z,H k0=some (.vec u z [rzC q.P q.m])/\z.length=12)/\(∃u z,H k1=some (.vec u z [[.v (.string (bs q.f.name)),.d (.sl zVr (q.f.ps.map Vr.r)),.d (.sl zVr (q.f.ls.map Vr.r)),.d (.sl zSm (q.f.body.map Sm.r)),.s k2,.s k3]])/\z.length=6)/\H k2=some (.mp false (isC q.is))/\H k3=some (.mp false (psC' q.ps)):=by
 unfold zzD at h
 split at h
 .rename_i k0 k1
  cases hf:fzD (H k1) with
  |none=>rw[hf]at h;cases h
  |some x=>
   obtain⟨f,k2,k3⟩:=x
   rw[hf]at h
   simp only[zzK]at h
   cases hm:rzD (H k0) with
   |none=>rw[hm]at h;cases h
   |some a=>
    cases hv:isD (H k2) with
    |none=>rw[hm,hv]at h;cases h
    |some is=>
     cases hp:VC (H k3) with
     |none=>rw[hm,hv,hp]at h;cases h
     |some ps=>
      rw[hm,hv,hp]at h
      simp only[zzJ,jS,jP]at h
      obtain⟨rfl,rfl⟩:=h
      exact⟨k0,k1,k2,k3,rfl,rfl,rfl,A2H hm,A2G hf,A2I hv,A2J hp⟩
 .cases h
theorem sB(u:Nat)(z:List C)(k2 k3:Nat)(f:Fn)(hz:z.length=6):fzD (some (.vec u z [[.v (.string (bs f.name)),.d (.sl zVr (f.ps.map Vr.r)),.d (.sl zVr (f.ls.map Vr.r)),.d (.sl zSm (f.body.map Sm.r)),.s k2,.s k3]]))=some (f,k2,k3):=by
 simp only[fzD,if_pos hz]
 have:=A6d f
 simp only[Fn.c]at this
 rw[this];rfl
theorem lu{H H':Hp}{v v':SV}{q:Rz}{ks:List Nat}(h:zzD H v v'=some (q,ks))(hk:∀k∈ks,H' k=H k):zzD H' v v'=some (q,ks):=by
 obtain⟨k0,k1,k2,k3,rfl,rfl,rfl,⟨u,z,h1,hz⟩,⟨u',z',h2,hz'⟩,h3,h4⟩:=lr h
 show zzK H' k0 k1 (fzD (H' k1))=_
 rw[hk k1 (by simp),h2,sB _ _ _ _ _ hz']
 simp only[zzK]
 rw[hk k0 (by simp),hk k2 (by simp),hk k3 (by simp),h1,h3,h4]
 simp only[rzD,if_pos hz,ry,isD,rz,VC,sA,zzJ]
open Classical in
noncomputable def zzF{B:Type}(ac:ArgC B)(r:List SV):Option (Rz×List Nat)->Option B->Option ((Rz×B)×List Nat)
 |some (q,ks),some b=>if ac.e b=r then some ((q,b),ks) else none
 |_,_=>none
theorem bx(ac:ArgC B)(r:List SV)(q:Rz)(ks:List Nat)(b:B)(h:ac.e b=r):zzF ac r (some (q,ks)) (some b)=some ((q,b),ks):=if_pos h
open Classical in
theorem Oi(ac:ArgC B)(r:List SV)(q:Rz)(ks:List Nat)(b:B):zzF ac r (some (q,ks)) (some b)=if ac.e b=r then some ((q,b),ks) else none:=rfl
theorem lv{ac:ArgC B}{r:List SV}{o:Option (Rz×List Nat)}{p:Option B}{a:Rz×B}(h:zzF ac r o p=some (a,ks)):∃q b,o=some (q,ks)/\p=some b/\ac.e b=r/\a=(q,b):=by
 cases o with
 |none=>cases h
 |some x=>
 obtain⟨q,ks'⟩:=x
 cases p with
 |none=>cases h
 |some b=>
 by_cases he:ac.e b=r
 .rw[bx ac r q ks' b he]at h
  simp only[jS,jP]at h
  obtain⟨rfl,rfl⟩:=h
  exact⟨q,b,rfl,rfl,he,rfl⟩
 have:zzF ac r (some (q,ks')) (some b)=none:=if_neg he
 rw[this]at h;cases h
theorem U9{es:List (List UInt8×List C)}(f:Nat->Nat)(h:∀c∈es.flatMap (·.2),c.names=[]):es.map (λp=>(p.1,p.2.map (rnC f)))=es:=DR λp hp=>by
 show (p.1,p.2.map _)=p
 rw[DR λc hc=>F8 (h c (mem_flatMap.2 ⟨p,hp,hc⟩))]
noncomputable def amRz{B:Type}(ac:ArgC B)(nt:∀b,∀v∈ac.e b,v.tupB=false):ArgL (Rz×B) where
 d H l:=match l with
  |v::v'::r=>zzF ac r (zzD H v v') (ac.d r)
  |_=>none
 args p:=.one (.p 0 0 0)::.one (.p 1 0 0)::ac.e p.2
 mem p:=p.1.mem
 h H l a ks h:=by
  match l with
  |[]=>cases h
  |[_]=>cases h
  |v::v'::r=>
   obtain⟨q,b,hf,hb,he,rfl⟩:=lv h
   obtain⟨k0,k1,k2,k3,rfl,rfl,rfl,⟨u,z,h1,hz⟩,⟨u',z',h2,hz'⟩,h3,h4⟩:=lr hf
   refine⟨?_,rfl,λi n hi=>?_⟩
   .show _=(SV.one (.p 0 0 0)::SV.one (.p 1 0 0)::ac.e b).map (rnV (nmK [k0,k1,k2,k3]))
    rw[map_cons,map_cons,DR (l:=ac.e b) λv hv=>Uc (ac.n b v hv),he];rfl
   .match i,hi with
    |0,hi=>
     obtain rfl:=Option.some.inj hi
     refine⟨_,rfl,?_⟩
     rw[h1]
     refine⟨?_,hz,.inl rfl⟩
     show [rzC q.P q.m]=[(rzC q.P q.m).map _]
     rw[DR λc hc=>F8 (Qq q.P q.m c hc)]
    |1,hi=>
     obtain rfl:=Option.some.inj hi
     refine⟨_,rfl,?_⟩
     rw[h2]
     exact⟨rfl,hz',.inl rfl⟩
    |2,hi=>
     obtain rfl:=Option.some.inj hi
     refine⟨_,rfl,?_⟩
     rw[h3]
     refine⟨rfl,?_⟩
     show isC q.is=(isC q.is).map _
     exact(U9 _ (WT q.is)).symm
    |3,hi=>
     obtain rfl:=Option.some.inj hi
     refine⟨_,rfl,?_⟩
     rw[h4]
     refine⟨rfl,?_⟩
     show psC' q.ps=(psC' q.ps).map _
     exact(U9 _ (WU q.ps)).symm
    |i+4,hi=>simp at hi
 n a m hm c hc:=by
  simp only[Rz.mem,mem_cons,not_mem_nil,or_false]at hm
  rcases hm with rfl|rfl|rfl|rfl
  .simp only[ML.cells,flatMap_cons,flatMap_nil,append_nil,id]at hc
   exact .inl (Qq _ _ c hc)
  .simp only[ML.cells,flatMap_cons,flatMap_nil,append_nil,id,fzR,mem_cons,not_mem_nil,or_false]at hc
   rcases hc with rfl|rfl|rfl|rfl|rfl|rfl
   .exact .inl rfl
   .exact .inl rfl
   .exact .inl rfl
   .exact .inl rfl
   .exact .inr (.inl ⟨2,rfl,by show 2<4;decide⟩)
   .exact .inr (.inl ⟨3,rfl,by show 3<4;decide⟩)
  .exact .inl (WT _ c hc)
  .exact .inl (WU _ c hc)
 an a v hv:=by
  rcases mem_cons.1 hv with rfl|hv
  .exact .inr (.inr (.inl ⟨0,0,0,rfl,by show 0<4;decide⟩))
  rcases mem_cons.1 hv with rfl|hv
  .exact .inr (.inr (.inl ⟨1,0,0,rfl,by show 1<4;decide⟩))
  .have:=ac.n a.2 v hv
   cases v with
   |one c=>exact .inl this
   |agg l=>
    intro c hc
    exact .inl (List.eq_nil_iff_forall_not_mem.2 λk hk=>by
     have h2:k∈(SV.agg l).names:=mem_flatMap.2 ⟨c,hc,hk⟩
     rw[this]at h2;cases h2)
   |tup l=>cases nt a.2 _ hv
 l H H' v a ks h hk:=by
  match v with
  |[]=>cases h
  |[_]=>cases h
  |x::x'::r=>
   obtain⟨q,b,hf,hb,he,rfl⟩:=lv h
   show zzF ac r (zzD H' x x') (ac.d r)=_
   rw[lu hf hk,hb,bx ac r q ks b he]
theorem Oj(ac:ArgC B)(nt)(H:Hp)(v v':SV)(r:List SV):(amRz ac nt).d H (v::v'::r)=zzF ac r (zzD H v v') (ac.d r):=rfl
theorem Ok(ac:ArgC B)(nt)(q:Rz)(b:B):(amRz ac nt).args (q,b)= .one (.p 0 0 0)::.one (.p 1 0 0)::ac.e b:=rfl
theorem Ol(ac:ArgC B)(nt)(q:Rz)(b:B):(amRz ac nt).mem (q,b)=q.mem:=rfl
theorem Rm(H:Hp)(k0 k1:Nat):zzD H (.one (.p k0 0 0)) (.one (.p k1 0 0))=zzK H k0 k1 (fzD (H k1)):=rfl
theorem Rn(u:Nat)(z:List C)(k2 k3:Nat)(n:List UInt8)(ps ls:List Vr)(bd:List Sm)(hz:z.length=6):fzD (some (.vec u z [[.v (.string (bs n)),.d (.sl zVr (ps.map Vr.r)),.d (.sl zVr (ls.map Vr.r)),.d (.sl zSm (bd.map Sm.r)),.s k2,.s k3]]))=some (⟨n,ps,ls,bd⟩,k2,k3):=sB u z k2 k3 ⟨n,ps,ls,bd⟩ hz
theorem Km(H:Hp)(k0 k1 k2 k3:Nat)(f:Fn):zzK H k0 k1 (some (f,k2,k3))=zzJ k0 k1 k2 k3 f (rzD (H k0)) (isD (H k2)) (VC (H k3)):=rfl
theorem Kn(k0 k1 k2 k3:Nat)(f:Fn)(P:Pg)(m:Ms)(is:Zi)(ps:Zp):zzJ k0 k1 k2 k3 f (some (P,m)) (some is) (some ps)=some (⟨P,m,f,is,ps⟩,[k0,k1,k2,k3]):=rfl
theorem Rp(u:Nat)(z r:List C)(hz:z.length=12):rzD (some (.vec u z [r]))=rzR r:=by simp only[rzD,if_pos hz]
theorem Rq(vs:Zi):isD (some (.mp false (isC vs)))=some vs:=rz vs
theorem Rr(vs:Zp):VC (some (.mp false (psC' vs)))=some vs:=sA vs
theorem GZ(q q':Rz):PW (q.mem).length q'.memO=true/\kdL q.mem q'.memO=true/\∀m,some m∈q'.memO->Ka q'.memO.length m:=by
 refine⟨rfl,rfl,λm hm=>?_⟩
 have:m∈q'.mem:=by
  simp only[Rz.memO,mem_cons,jS,not_mem_nil,or_false]at hm
  simp only[Rz.mem,mem_cons,not_mem_nil,or_false]
  exact hm
 exact(amRz ac0 (λb v hv=>by cases hv)).n (q',()) m this
theorem Mi(q q':Rz):(mlO q'.pan).length=(q.mem).length/\kdL q.mem (mlO q'.pan)=true/\∀m,some m∈mlO q'.pan->Ka (mlO q'.pan).length m:=by
 refine⟨rfl,rfl,λm hm=>?_⟩
 simp only[Rz.pan,mlO,map_cons,List.map_nil,Option.map_none,Option.map_some,mem_cons,not_mem_nil,or_false,reduceCtorEq,jS,false_or]at hm
 subst hm
 intro c hc
 simp only[ML.cells,flatMap_cons,flatMap_nil,append_nil,id]at hc
 exact .inl (Qq _ _ c hc)
theorem Mj(q:Rz):∀m,some m∈q.pan->∀r∈m.2,∀c∈r,c.names=[]:=by
 intro m hm r hr c hc
 simp only[Rz.pan,mem_cons,not_mem_nil,or_false,reduceCtorEq,jS,false_or]at hm
 subst hm
 simp only[mem_singleton]at hr
 subst hr
 exact Qq _ _ c hc
theorem L4(ac:ArgC B)(nt)(q:Rz)(b:B):∀v∈(amRz ac nt).args (q,b),∀k∈v.names,k<(Rz.mem q).length:=by
 intro v hv k hk
 rcases mem_cons.1 hv with rfl|hv
 .simp only[SV.names,C.names,mem_singleton]at hk
  subst hk;show 0<4;decide
 rcases mem_cons.1 hv with rfl|hv
 .simp only[SV.names,C.names,mem_singleton]at hk
  subst hk;show 1<4;decide
 rw[ac.n b v hv]at hk;cases hk
theorem A2K{l:List Nb}{i:Nat}{x:Nb}(h:l[i]?=some x)(z:List C):(l.map Nb.c).getD i z=[.v (.string (bs x.s)),.v (.int .i64 x.n)]:=by simp[List.getD,h,Nb.c]
theorem A2L{l:List Na}{i:Nat}{x:Na}(h:l[i]?=some x)(z:List C):(l.map Na.c).getD i z=[.v (.string (bs x.s)),.ov zI (x.l.map cI)]:=by simp[List.getD,h,Na.c]
theorem Om(h:m.on=true):(m.e != 0)=false:=by unfold bne;rw[show (m.e==0)=true from h];rfl
theorem On(h:m.on=false):(m.e != 0)=true:=by unfold bne;rw[show (m.e==0)=false from h];rfl
theorem sD{nm:List UInt8}{al k:Int}(h:m.on=true):m.zfail nm al k={ m with e:=2,f:=nm,al:=al,k:=k }:=if_pos h
theorem lw{nm:List UInt8}{al k:Int}(h:m.on=false):m.zfail nm al k=m:=if_neg (by rw[h];decide)
abbrev pw(p:Pg×Ms)(f:Fn)(al:Int)(kd:Int):Prop:=True
abbrev Rs(p:Pg×Ms)(f:Fn)(al:Int)(kd:Int):SV:=.tup []
abbrev Ag(p:Pg×Ms)(f:Fn)(al:Int)(kd:Int):List (Option MV):=[some (rzW p.1 (p.2.zfail f.name al kd))]
noncomputable abbrev M4:ArgM ((Pg×Ms)×(Fn)×(Int)×(Int)×Unit):=(amP (mRz) (amD (cFn) (amD (cInt .i64) (amD (cInt .i64) am0))))
abbrev px:Prop:=C7 Tryz.prog 92 ((M4).args 0) (M4).mem (λp:(Pg×Ms)×(Fn)×(Int)×(Int)×Unit=>pw p.1 p.2.1 p.2.2.1 p.2.2.2.1) (λp:(Pg×Ms)×(Fn)×(Int)×(Int)×Unit=>Rs p.1 p.2.1 p.2.2.1 p.2.2.2.1) (λp:(Pg×Ms)×(Fn)×(Int)×(Int)×Unit=>Ag p.1 p.2.1 p.2.2.1 p.2.2.2.1)
attribute [local go_sem] Fn.c A9 A8 AM Lb ND NE EQ Dz rzC rzW
theorem xQ:px:=by
 rintro ⟨p,f,al,kd,_u⟩ w M I lab fz xs hc hA hl hx
 refine Ac Tryz.func92 rfl ((M4).mem ⟨p,f,al,kd,_u⟩) w M I lab fz [] [] ((M4).args 0 ⟨p,f,al,kd,_u⟩) ((λp:(Pg×Ms)×(Fn)×(Int)×(Int)×Unit=>Ag p.1 p.2.1 p.2.2.1 p.2.2.2.1) ⟨p,f,al,kd,_u⟩) ((λp:(Pg×Ms)×(Fn)×(Int)×(Int)×Unit=>Rs p.1 p.2.1 p.2.2.1 p.2.2.2.1) ⟨p,f,al,kd,_u⟩) xs hA hl hx (λv hv k hk=>by have:=(M4).an 0 ⟨p,f,al,kd,_u⟩ v hv k hk;omega) (jN rfl) (jN rfl) ?_
 clear hx hl hA xs
 simp only[Tryz.f92]
 obtain⟨P,m⟩:=p
 obtain⟨fn,fp,fl,fb⟩:=f
 cases h:m.on with
 |true=>
  have h1:(m.e==0)=true:=h
  have h2:=sD (nm:=fn) (al:=al) (k:=kd) h
  simp only[seval,go_sem,h1]
  repeat refine AX ?_
  refine A1 [] ?_;simp only[seval,go_sem,bne,Rs,Ag,h2]
 |false=>
 have h1:(m.e==0)=false:=h
 have h2:=lw (nm:=fn) (al:=al) (k:=kd) h
 simp only[seval,go_sem,h1]
 repeat refine AX ?_
 refine A1 [] ?_;simp only[seval,go_sem,bne,Rs,Ag,h2]
theorem KF9{p:Prop}(h:p:=by intro p _;exact A2C _ _):p:=h
noncomputable def AU{X:Ctx}{w0:World}:Sy.Spec Tryz.prog X w0:=D0 92 Tryz.call92 (M4) _ _ _ KF1 KF0 KF9 xQ
abbrev cA(p:Pg×Ms)(s:List UInt8):Prop:=p.2.cs.length<=1000000
abbrev BN(p:Pg×Ms)(s:List UInt8):SV:=.one (.v (.int .i64 (p.2.cx s)))
abbrev BO(p:Pg×Ms)(s:List UInt8):List (Option MV):=[some (rzW p.1 p.2)]
noncomputable abbrev M5:ArgM ((Pg×Ms)×(List UInt8)×Unit):=(amP (mRz) (amD (cStr) am0))
abbrev py:Prop:=C7 Tryz.prog 35 ((M5).args 0) (M5).mem (λp:(Pg×Ms)×(List UInt8)×Unit=>cA p.1 p.2.1) (λp:(Pg×Ms)×(List UInt8)×Unit=>BN p.1 p.2.1) (λp:(Pg×Ms)×(List UInt8)×Unit=>BO p.1 p.2.1)
theorem xS:py:=by
 rintro ⟨p,s,_u⟩ w M I lab fz xs hc hA hl hx
 refine Ac Tryz.func35 rfl ((M5).mem ⟨p,s,_u⟩) w M I lab fz [] [] ((M5).args 0 ⟨p,s,_u⟩) ((λp:(Pg×Ms)×(List UInt8)×Unit=>BO p.1 p.2.1) ⟨p,s,_u⟩) ((λp:(Pg×Ms)×(List UInt8)×Unit=>BN p.1 p.2.1) ⟨p,s,_u⟩) xs hA hl hx (λv hv k hk=>by have:=(M5).an 0 ⟨p,s,_u⟩ v hv k hk;omega) (jN rfl) (jN rfl) ?_
 clear hx hl hA xs
 simp only[Tryz.f35]
 obtain⟨P,m⟩:=p
 have hc:m.cs.length<=1000000:=hc
 simp only[seval,go_sem]
 refine AC (Y:=Nat) (λi=>i<=m.cs.length/\ixN s ((m.cs.map Nb.s).drop i) (i:Int)=m.cx s)
  (λi=>⟨[(0,true,.one (.p 0 0 0)),(1,true,.one (.v (.string (bs s)))),(5,true,.one (.v (.int .i64 (i:Int))))],[(0,.vec 0 zRz [rzC P m])]⟩)
  (λi=>m.cs.length-i) 0 ⟨Nat.zero_le _,rfl⟩ ?_ ?_
 .exact wO
 rintro i ⟨hi,hJ⟩
 refine AP [] [] _ _ _ ?_
 have w1:IntKind.i64.wrap ((i:Int)+1)=((i+1:Nat):Int):=by rw[wrap_i64 (by omega) (by omega)];rfl
 cases hx:m.cs[i]? with
 |none=>
  have h2:=List.getElem?_eq_none_iff.1 hx
  have h1:=Ai h2
  rw[List.drop_eq_nil_of_le (by rw[List.length_map];exact h2)]at hJ
  have hr:m.cx s = -1:=hJ.symm
  simp only[seval,go_sem,h1]
  repeat refine AX ?_
  refine A1 [] ?_;simp only[seval,go_sem,bne,BN,BO,hr]
 |some x=>
 have hlt:=(List.getElem?_eq_some_iff.1 hx).1
 have h1:=Ah hlt
 have h2:=A2K hx
 rw[BF (x:=x.s) (by rw[List.getElem?_map,hx];rfl)]at hJ
 simp only[ixN]at hJ
 cases hq:(x.s==s) with
 |true=>
  rw[if_pos hq]at hJ
  simp only[seval,go_sem,h1,h2,hq]
  repeat refine AX ?_
  refine A1 [] ?_;simp only[seval,go_sem,bne,BN,BO,<- hJ]
 |false=>
 rw[if_neg (by rw[hq];decide)]at hJ
 simp only[seval,go_sem,h1,h2,hq,w1]
 repeat refine AX ?_
 refine⟨i+1,⟨hlt,hJ⟩,by omega,?_⟩
 exact wO
noncomputable def B1{X:Ctx}{w0:World}:Sy.Spec Tryz.prog X w0:=D0 35 Tryz.call35 (M5) _ _ _ KF1 KF0 KF9 xS
abbrev lx(p:Pg×Ms)(s:List UInt8):Prop:=p.2.ar.length<=1000000
abbrev Jj(p:Pg×Ms)(s:List UInt8):SV:=.one (.v (.int .i64 (p.2.ax s)))
abbrev Jk(p:Pg×Ms)(s:List UInt8):List (Option MV):=[some (rzW p.1 p.2)]
noncomputable abbrev L5:ArgM ((Pg×Ms)×(List UInt8)×Unit):=(amP (mRz) (amD (cStr) am0))
abbrev ly:Prop:=C7 Tryz.prog 114 ((L5).args 0) (L5).mem (λp:(Pg×Ms)×(List UInt8)×Unit=>lx p.1 p.2.1) (λp:(Pg×Ms)×(List UInt8)×Unit=>Jj p.1 p.2.1) (λp:(Pg×Ms)×(List UInt8)×Unit=>Jk p.1 p.2.1)
theorem pz:ly:=by
 rintro ⟨p,s,_u⟩ w M I lab fz xs hc hA hl hx
 refine Ac Tryz.func114 rfl ((L5).mem ⟨p,s,_u⟩) w M I lab fz [] [] ((L5).args 0 ⟨p,s,_u⟩) ((λp:(Pg×Ms)×(List UInt8)×Unit=>Jk p.1 p.2.1) ⟨p,s,_u⟩) ((λp:(Pg×Ms)×(List UInt8)×Unit=>Jj p.1 p.2.1) ⟨p,s,_u⟩) xs hA hl hx (λv hv k hk=>by have:=(L5).an 0 ⟨p,s,_u⟩ v hv k hk;omega) (jN rfl) (jN rfl) ?_
 clear hx hl hA xs
 simp only[Tryz.f114]
 obtain⟨P,m⟩:=p
 have hc:m.ar.length<=1000000:=hc
 simp only[seval,go_sem]
 refine AC (Y:=Nat) (λi=>i<=m.ar.length/\ixN s ((m.ar.map Na.s).drop i) (i:Int)=m.ax s)
  (λi=>⟨[(0,true,.one (.p 0 0 0)),(1,true,.one (.v (.string (bs s)))),(5,true,.one (.v (.int .i64 (i:Int))))],[(0,.vec 0 zRz [rzC P m])]⟩)
  (λi=>m.ar.length-i) 0 ⟨Nat.zero_le _,rfl⟩ ?_ ?_
 .exact wO
 rintro i ⟨hi,hJ⟩
 refine AP [] [] _ _ _ ?_
 have w1:IntKind.i64.wrap ((i:Int)+1)=((i+1:Nat):Int):=by rw[wrap_i64 (by omega) (by omega)];rfl
 cases hx:m.ar[i]? with
 |none=>
  have h2:=List.getElem?_eq_none_iff.1 hx
  have h1:=Ai h2
  rw[List.drop_eq_nil_of_le (by rw[List.length_map];exact h2)]at hJ
  have hr:m.ax s = -1:=hJ.symm
  simp only[seval,go_sem,h1]
  repeat refine AX ?_
  refine A1 [] ?_;simp only[seval,go_sem,bne,Jj,Jk,hr]
 |some x=>
 have hlt:=(List.getElem?_eq_some_iff.1 hx).1
 have h1:=Ah hlt
 have h2:=A2L hx
 rw[BF (x:=x.s) (by rw[List.getElem?_map,hx];rfl)]at hJ
 simp only[ixN]at hJ
 cases hq:(x.s==s) with
 |true=>
  rw[if_pos hq]at hJ
  simp only[seval,go_sem,h1,h2,hq]
  repeat refine AX ?_
  refine A1 [] ?_;simp only[seval,go_sem,bne,Jj,Jk,<- hJ]
 |false=>
 rw[if_neg (by rw[hq];decide)]at hJ
 simp only[seval,go_sem,h1,h2,hq,w1]
 repeat refine AX ?_
 refine⟨i+1,⟨hlt,hJ⟩,by omega,?_⟩
 exact wO
noncomputable def PL{X:Ctx}{w0:World}:Sy.Spec Tryz.prog X w0:=D0 114 Tryz.call114 (L5) _ _ _ KF1 KF0 KF9 pz
abbrev xT(p:Pg×Ms):Prop:=True
abbrev C8(p:Pg×Ms):SV:=.one (.v (.bool p.2.zspd.on))
abbrev C9(p:Pg×Ms):List (Option MV):=[some (rzW p.1 p.2.zspd)]
noncomputable abbrev Ny:ArgM ((Pg×Ms)×Unit):=(amP (mRz) am0)
abbrev xU:Prop:=C7 Tryz.prog 88 ((Ny).args 0) (Ny).mem (λp:(Pg×Ms)×Unit=>xT p.1) (λp:(Pg×Ms)×Unit=>C8 p.1) (λp:(Pg×Ms)×Unit=>C9 p.1)
theorem A2M:xU:=by
 rintro ⟨p,_u⟩ w M I lab fz xs hc hA hl hx
 refine Ac Tryz.func88 rfl ((Ny).mem ⟨p,_u⟩) w M I lab fz [] [] ((Ny).args 0 ⟨p,_u⟩) ((λp:(Pg×Ms)×Unit=>C9 p.1) ⟨p,_u⟩) ((λp:(Pg×Ms)×Unit=>C8 p.1) ⟨p,_u⟩) xs hA hl hx (λv hv k hk=>by have:=(Ny).an 0 ⟨p,_u⟩ v hv k hk;omega) (jN rfl) (jN rfl) ?_
 clear hx hl hA xs
 simp only[Tryz.f88]
 obtain⟨P,m⟩:=p
 cases h:m.on with
 |true=>
  have h1:(m.e==0)=true:=h
  have h0:m.e=0:=eq_of_beq h1
  cases h2:decide (m.fuel<1) with
  |true=>
   have hs:m.zspd={ m with e:=3,fuel:=w64i (m.fuel-1) }:=by unfold Ms.zspd;rw[if_pos ⟨h,of_decide_eq_true h2⟩]
   have ho:m.zspd.on=false:=by rw[hs];rfl
   simp only[seval,go_sem,h1,h2]
   exact AAS
  |false=>
  have hs:m.zspd={ m with fuel:=w64i (m.fuel-1) }:=by unfold Ms.zspd;rw[if_neg (λhh=>of_decide_eq_false h2 hh.2)]
  have ho:m.zspd.on=true:=by rw[hs];exact h
  simp only[seval,go_sem,h1,h2]
  exact AAS
 |false=>
 have h1:(m.e==0)=false:=h
 have hs:m.zspd={ m with fuel:=w64i (m.fuel-1) }:=by unfold Ms.zspd;rw[if_neg (λhh=>by rw[h]at hh;exact absurd hh.1 (by decide))]
 have ho:m.zspd.on=false:=by rw[hs];exact h
 simp only[seval,go_sem,h1]
 exact AAS
noncomputable def CX{X:Ctx}{w0:World}:Sy.Spec Tryz.prog X w0:=D0 88 Tryz.call88 (Ny) _ _ _ KF1 KF0 KF9 A2M
end Go.Proofs.YtapedeoheilnnaaGreat
