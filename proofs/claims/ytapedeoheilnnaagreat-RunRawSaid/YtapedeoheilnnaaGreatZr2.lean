/- The document's machines and frames in memory. No conditions but those in each statement. -/
import Derived.Test.YtapedeoheilnnaaGreatRm2
import Derived.Test.YtapedeoheilnnaaGreatMk5
import Derived.Test.YtapedeoheilnnaaGreatRm7
set_option linter.all false
set_option maxRecDepth 20000
set_option maxHeartbeats 8000000
open List (append_nil mem_singleton mem_cons not_mem_nil mem_flatMap mem_map map_cons flatMap_cons flatMap_nil)
namespace Go.Proofs.YtapedeoheilnnaaGreat
open Go Go.Sy Go.RowKit
variable{B:Type}{m:Ms}{o:Option Ch}{es:List (List UInt8×List C)}{ks:List Nat}
theorem A1v{P:Prop}(h:P:=by (repeat' first|exact ck|with_reducible apply And.intro|intro _);all_goals first|exact trivial|exact KZ|(refine A1 [] ?_;simp only[seval,go_sem,bne,Uu,Ad,h2])):P:=h
theorem pN{P:Prop}(h:P:=by (repeat' first|exact ck|with_reducible apply And.intro|intro _);all_goals first|exact trivial|exact KZ|(refine A1 [] ?_;simp only[seval,go_sem,bne,C7,C8,hs,Ms.on,h1,Int.reduceBEq])):P:=h
def rzC(P:Pg)(m:Ms):List C:=[.d (.sl Gf (P.g.c.map cSd)),.d (.sl Gw (P.g.a.map Gy.r)),.d (.sl zFn (P.fs.map Fn.r)),.ov zNb (m.cs.map Nb.c),.ov zNa (m.ar.map Na.c),.v (.int .i64 m.fuel),.v (.int .i64 m.deep),.v (.int .i64 m.e),.v (.int .i64 m.v),.v (.string (bs m.f)),.v (.int .i64 m.al),.v (.int .i64 m.k)]
abbrev zRz:List C:=[.v (.int .i64 0),.v (.int .i64 0),.v (.int .i64 0),.v (.int .i64 0),.v (.int .i64 0),.v (.int .i64 0),.v (.int .i64 0),.v (.int .i64 0),.v (.int .i64 0),.v (.int .i64 0),.v (.int .i64 0),.v (.int .i64 0)]
theorem wh{P P':Pg}{m':Ms}(h:rzC P m=rzC P' m'):P=P'/\m=m':=by
 obtain⟨⟨c,a⟩,fs⟩:=P
 obtain⟨⟨c',a'⟩,fs'⟩:=P'
 obtain⟨fuel,deep,cs,ar,e,v,f,al,k⟩:=m
 obtain⟨fuel',deep',cs',ar',e',v',f',al',k'⟩:=m'
 simp only[rzC,List.cons.injEq,C.d.injEq,C.v.injEq,C.ov.injEq,D.sl.injEq,Value.int.injEq,Value.string.injEq,true_and,and_true]at h
 obtain⟨h1,h2,h3,h4,h5,rfl,rfl,rfl,rfl,h6,rfl,rfl⟩:=h
 rw[Ac Ps h1,Ac Pt h2,Ac W9 h3,Ac dB h4,Ac dC h5,bs_inj h6]
 exact⟨rfl,rfl⟩
theorem QU(P:Pg)(m:Ms):∀c∈rzC P m,c.names=[]:=by
 have h1:∀l:List Nb,(C.ov zNb (l.map Nb.c)).names=[]:=λl=>JF ⟨⟨[],[]⟩,[]⟩ ⟨0,0,l,[],0,0,[],0,0⟩ _ (by simp[mcC])
 have h2:∀l:List Na,(C.ov zNa (l.map Na.c)).names=[]:=λl=>JF ⟨⟨[],[]⟩,[]⟩ ⟨0,0,[],l,0,0,[],0,0⟩ _ (by simp[mcC])
 intro c hc
 simp only[rzC,mem_cons,not_mem_nil,or_false]at hc
 rcases hc with rfl|rfl|rfl|rfl|rfl|rfl|rfl|rfl|rfl|rfl|rfl|rfl<;>first|exact h1 _|exact h2 _|rfl
open Classical in
noncomputable def rzR(r:List C):Option (Pg×Ms):=if h:∃a:Pg×Ms,rzC a.1 a.2=r then some h.choose else none
theorem lK{r:List C}{a:Pg×Ms}(h:rzR r=some a):r=rzC a.1 a.2:=by
 unfold rzR at h
 split at h
 .rename_i hx
  rw[<- Option.some.inj h];exact hx.choose_spec.symm
 cases h
theorem rC(P:Pg)(m:Ms):rzR (rzC P m)=some (P,m):=by
 unfold rzR
 have hx:∃a:Pg×Ms,rzC a.1 a.2=rzC P m:=⟨(P,m),rfl⟩
 rw[dif_pos hx]
 obtain⟨h1,h2⟩:=wh hx.choose_spec
 exact congrArg some (Prod.ext h1 h2)
theorem P3(c:List (List UInt8))(a:List Gy)(fs:List Fn)(fuel deep e v al k:Int)(cs:List Nb)(ar:List Na)(f:List UInt8):rzR [.d (.sl Gf (c.map cSd)),.d (.sl Gw (a.map Gy.r)),.d (.sl zFn (fs.map Fn.r)),.ov zNb (cs.map Nb.c),.ov zNa (ar.map Na.c),.v (.int .i64 fuel),.v (.int .i64 deep),.v (.int .i64 e),.v (.int .i64 v),.v (.string (bs f)),.v (.int .i64 al),.v (.int .i64 k)]=some (⟨⟨c,a⟩,fs⟩,⟨fuel,deep,cs,ar,e,v,f,al,k⟩):=rC ⟨⟨c,a⟩,fs⟩ ⟨fuel,deep,cs,ar,e,v,f,al,k⟩
noncomputable def mRz:RowM (Pg×Ms) where
 z:=zRz
 d:=rzR
 e a:=rzC a.1 a.2
 h r b h:=lK h
 n b:=QU b.1 b.2
 t:=rfl
theorem N3:mRz.e=λa=>rzC a.1 a.2:=rfl
theorem N4:mRz.z=zRz:=rfl
theorem LU(c:List (List UInt8))(a:List Gy)(fs:List Fn)(fuel deep e v al k:Int)(cs:List Nb)(ar:List Na)(f:List UInt8):mRz.d [.d (.sl Gf (c.map cSd)),.d (.sl Gw (a.map Gy.r)),.d (.sl zFn (fs.map Fn.r)),.ov zNb (cs.map Nb.c),.ov zNa (ar.map Na.c),.v (.int .i64 fuel),.v (.int .i64 deep),.v (.int .i64 e),.v (.int .i64 v),.v (.string (bs f)),.v (.int .i64 al),.v (.int .i64 k)]=some (⟨⟨c,a⟩,fs⟩,⟨fuel,deep,cs,ar,e,v,f,al,k⟩):=P3 ..
def rzW(P:Pg)(m:Ms):MV:=(zRz,[rzC P m])
theorem A1w(P:Pg)(m:Ms):∀q,some q∈[some (rzW P m)]->∀r∈q.2,∀c∈r,c.names=[]:=by
 intro q hq r hr c hc
 simp only[mem_singleton,jS]at hq
 subst hq
 simp only[rzW,mem_singleton]at hr
 subst hr
 exact QU P m c hc
def isC(is:Zi):List (List UInt8×List C):=is.map λp=>(p.1,[.v (.int .i64 p.2)])
def psC'(ps:Zp):List (List UInt8×List C):=ps.map λp=>(p.1,[.v (.string (bs p.2))])
theorem wj{a b:Zi}(h:isC a=isC b):a=b:=by
 refine Ac (f:=λp:List UInt8×Int=>(p.1,[C.v (.int .i64 p.2)])) (λx y hxy=>?_) h
 obtain⟨s,v⟩:=x
 obtain⟨s',v'⟩:=y
 simp only[jP,List.cons.injEq,C.v.injEq,Value.int.injEq,true_and,and_true]at hxy
 rw[hxy.1,hxy.2]
theorem wk{a b:Zp}(h:psC' a=psC' b):a=b:=by
 refine Ac (f:=λp:List UInt8×List UInt8=>(p.1,[C.v (.string (bs p.2))])) (λx y hxy=>?_) h
 obtain⟨s,v⟩:=x
 obtain⟨s',v'⟩:=y
 simp only[jP,List.cons.injEq,C.v.injEq,Value.string.injEq,and_true]at hxy
 rw[hxy.1,bs_inj hxy.2]
theorem WE(is:Zi):∀c∈(isC is).flatMap (·.2),c.names=[]:=by
 intro c hc
 obtain⟨p,hp,hc⟩:=mem_flatMap.1 hc
 obtain⟨q,_,rfl⟩:=mem_map.1 hp
 rw[List.mem_singleton.1 hc];rfl
theorem WF(ps:Zp):∀c∈(psC' ps).flatMap (·.2),c.names=[]:=by
 intro c hc
 obtain⟨p,hp,hc⟩:=mem_flatMap.1 hc
 obtain⟨q,_,rfl⟩:=mem_map.1 hp
 rw[List.mem_singleton.1 hc];rfl
open Classical in
noncomputable def isR(es:List (List UInt8×List C)):Option Zi:=if h:∃vs,isC vs=es then some h.choose else none
open Classical in
noncomputable def bS(es:List (List UInt8×List C)):Option Zp:=if h:∃vs,psC' vs=es then some h.choose else none
theorem A1x{vs:Zi}(h:isR es=some vs):es=isC vs:=by
 unfold isR at h
 split at h
 .rename_i hx
  rw[<- Option.some.inj h];exact hx.choose_spec.symm
 cases h
theorem A1y{vs:Zp}(h:bS es=some vs):es=psC' vs:=by
 unfold bS at h
 split at h
 .rename_i hx
  rw[<- Option.some.inj h];exact hx.choose_spec.symm
 cases h
theorem rD(vs:Zi):isR (isC vs)=some vs:=by
 unfold isR
 have hx:∃a,isC a=isC vs:=⟨vs,rfl⟩
 rw[dif_pos hx,wj hx.choose_spec]
theorem rE(vs:Zp):bS (psC' vs)=some vs:=by
 unfold bS
 have hx:∃a,psC' a=psC' vs:=⟨vs,rfl⟩
 rw[dif_pos hx,wk hx.choose_spec]
theorem wl(a b:Fn)(h:a.c=b.c):a=b:=by
 obtain⟨n,ps,ls,bd⟩:=a
 obtain⟨n',ps',ls',bd'⟩:=b
 simp only[Fn.c,List.cons.injEq,C.v.injEq,C.d.injEq,D.sl.injEq,Value.string.injEq,true_and,and_true]at h
 rw[bs_inj h.1,Ac OU h.2.1,Ac OU h.2.2.1,Ac MY h.2.2.2]
open Classical in
noncomputable def fnR(r:List C):Option Fn:=if h:∃f:Fn,f.c=r then some h.choose else none
theorem A1z{r:List C}{f:Fn}(h:fnR r=some f):r=f.c:=by
 unfold fnR at h
 split at h
 .rename_i hx
  rw[<- Option.some.inj h];exact hx.choose_spec.symm
 cases h
theorem A6M(f:Fn):fnR f.c=some f:=by
 unfold fnR
 have hx:∃a:Fn,a.c=f.c:=⟨f,rfl⟩
 rw[dif_pos hx,wl _ _ hx.choose_spec]
abbrev zFz:List C:=[.v (.int .i64 0),.v (.int .i64 0),.v (.int .i64 0),.v (.int .i64 0),.v (.int .i64 0),.v (.int .i64 0)]
def fzR(q:Rz):List C:=[.v (.string (bs q.f.name)),.d (.sl zVr (q.f.ps.map Vr.r)),.d (.sl zVr (q.f.ls.map Vr.r)),.d (.sl zSm (q.f.body.map Sm.r)),.s 2,.s 3]
def Rz.mem(q:Rz):List ML:=[.vec zRz [rzC q.P q.m],.vec zFz [fzR q],.mp false (isC q.is),.mp false (psC' q.ps)]
def Rz.memO(q:Rz):List (Option ML):=[some (.vec zRz [rzC q.P q.m]),some (.vec zFz [fzR q]),some (.mp false (isC q.is)),some (.mp false (psC' q.ps))]
def Rz.pan(q:Rz):List (Option MV):=[some (zRz,[rzC q.P q.m]),none,none,none]
noncomputable def fzD:Option Ch->Option (Fn×Nat×Nat)
 |some (.vec _ z [[c0,c1,c2,c3,.s k2,.s k3]])=>if z.length=6 then (fnR [c0,c1,c2,c3]).map λf=>(f,k2,k3) else none
 |_=>none
noncomputable def rzD:Option Ch->Option (Pg×Ms)
 |some (.vec _ z [r])=>if z.length=12 then rzR r else none
 |_=>none
noncomputable def isD:Option Ch->Option Zi
 |some (.mp false es)=>isR es
 |_=>none
noncomputable def Ut:Option Ch->Option Zp
 |some (.mp false es)=>bS es
 |_=>none
noncomputable def zzJ(k0 k1 k2 k3:Nat)(f:Fn):Option (Pg×Ms)->Option Zi->Option Zp->Option (Rz×List Nat)
 |some (P,m),some is,some ps=>some (⟨P,m,f,is,ps⟩,[k0,k1,k2,k3])
 |_,_,_=>none
noncomputable def zzK(H:Hp)(k0 k1:Nat):Option (Fn×Nat×Nat)->Option (Rz×List Nat)
 |some (f,k2,k3)=>zzJ k0 k1 k2 k3 f (rzD (H k0)) (isD (H k2)) (Ut (H k3))
 |none=>none
noncomputable def zzD(H:Hp):SV->SV->Option (Rz×List Nat)
 | .one (.p k0 0 0),.one (.p k1 0 0)=>zzK H k0 k1 (fzD (H k1))
 |_,_=>none
theorem A20{f:Fn}{k2 k3:Nat}(h:fzD o=some (f,k2,k3)):∃u z,o=some (.vec u z [[.v (.string (bs f.name)),.d (.sl zVr (f.ps.map Vr.r)),.d (.sl zVr (f.ls.map Vr.r)),.d (.sl zSm (f.body.map Sm.r)),.s k2,.s k3]])/\z.length=6:=by
 unfold fzD at h
 split at h
 .rename_i u z c0 c1 c2 c3 j2 j3
  split at h
  .rename_i hz
   cases hf:fnR [c0,c1,c2,c3] with
   |none=>rw[hf]at h;cases h
   |some g=>
   rw[hf]at h
   simp only[Option.map_some,jS,jP]at h
   obtain⟨rfl,rfl,rfl⟩:=h
   have:=A1z hf
   simp only[Fn.c,List.cons.injEq,and_true]at this
   obtain⟨rfl,rfl,rfl,rfl⟩:=this
   exact⟨_,_,rfl,hz⟩
  cases h
 cases h
theorem A21{a:Pg×Ms}(h:rzD o=some a):∃u z,o=some (.vec u z [rzC a.1 a.2])/\z.length=12:=by
 unfold rzD at h
 split at h
 .split at h
  .rename_i hz
   rw[lK h]
   exact⟨_,_,rfl,hz⟩
  cases h
 cases h
theorem A22{vs:Zi}(h:isD o=some vs):o=some (.mp false (isC vs)):=by
 unfold isD at h
 split at h
 .rw[A1x h]
 cases h
theorem A23{vs:Zp}(h:Ut o=some vs):o=some (.mp false (psC' vs)):=by
 unfold Ut at h
 split at h
 .rw[A1y h]
 cases h
theorem lL{H:Hp}{v v':SV}{q:Rz}(h:zzD H v v'=some (q,ks)):∃k0 k1 k2 k3,ks=[k0,k1,k2,k3]/\v= .one (.p k0 0 0)/\v'= .one (.p k1 0 0)/\
  (∃u z,H k0=some (.vec u z [rzC q.P q.m])/\z.length=12)/\(∃u z,H k1=some (.vec u z [[.v (.string (bs q.f.name)),.d (.sl zVr (q.f.ps.map Vr.r)),.d (.sl zVr (q.f.ls.map Vr.r)),.d (.sl zSm (q.f.body.map Sm.r)),.s k2,.s k3]])/\z.length=6)/\H k2=some (.mp false (isC q.is))/\H k3=some (.mp false (psC' q.ps)):=by
 unfold zzD at h
 split at h
 .rename_i k0 k1
  cases hf:fzD (H k1) with
  |none=>rw[hf]at h;cases h
  |some x=>
   obtain⟨f,k2,k3⟩:=x
   rw[hf]at h
   simp only[zzK]at h
   cases hm:rzD (H k0) with
   |none=>rw[hm]at h;cases h
   |some a=>
    cases hv:isD (H k2) with
    |none=>rw[hm,hv]at h;cases h
    |some is=>
     cases hp:Ut (H k3) with
     |none=>rw[hm,hv,hp]at h;cases h
     |some ps=>
      rw[hm,hv,hp]at h
      simp only[zzJ,jS,jP]at h
      obtain⟨rfl,rfl⟩:=h
      exact⟨k0,k1,k2,k3,rfl,rfl,rfl,A21 hm,A20 hf,A22 hv,A23 hp⟩
 .cases h
theorem rF(u:Nat)(z:List C)(k2 k3:Nat)(f:Fn)(hz:z.length=6):fzD (some (.vec u z [[.v (.string (bs f.name)),.d (.sl zVr (f.ps.map Vr.r)),.d (.sl zVr (f.ls.map Vr.r)),.d (.sl zSm (f.body.map Sm.r)),.s k2,.s k3]]))=some (f,k2,k3):=by
 simp only[fzD,if_pos hz]
 have:=A6M f
 simp only[Fn.c]at this
 rw[this];rfl
theorem lM{H H':Hp}{v v':SV}{q:Rz}{ks:List Nat}(h:zzD H v v'=some (q,ks))(hk:∀k∈ks,H' k=H k):zzD H' v v'=some (q,ks):=by
 obtain⟨k0,k1,k2,k3,rfl,rfl,rfl,⟨u,z,h1,hz⟩,⟨u',z',h2,hz'⟩,h3,h4⟩:=lL h
 show zzK H' k0 k1 (fzD (H' k1))=_
 rw[hk k1 (by simp),h2,rF _ _ _ _ _ hz']
 simp only[zzK]
 rw[hk k0 (by simp),hk k2 (by simp),hk k3 (by simp),h1,h3,h4]
 simp only[rzD,if_pos hz,rC,isD,rD,Ut,rE,zzJ]
open Classical in
noncomputable def zzF{B:Type}(ac:ArgC B)(r:List SV):Option (Rz×List Nat)->Option B->Option ((Rz×B)×List Nat)
 |some (q,ks),some b=>if ac.e b=r then some ((q,b),ks) else none
 |_,_=>none
theorem bT(ac:ArgC B)(r:List SV)(q:Rz)(ks:List Nat)(b:B)(h:ac.e b=r):zzF ac r (some (q,ks)) (some b)=some ((q,b),ks):=if_pos h
open Classical in
theorem OW(ac:ArgC B)(r:List SV)(q:Rz)(ks:List Nat)(b:B):zzF ac r (some (q,ks)) (some b)=if ac.e b=r then some ((q,b),ks) else none:=rfl
theorem lN{ac:ArgC B}{r:List SV}{o:Option (Rz×List Nat)}{p:Option B}{a:Rz×B}(h:zzF ac r o p=some (a,ks)):∃q b,o=some (q,ks)/\p=some b/\ac.e b=r/\a=(q,b):=by
 cases o with
 |none=>cases h
 |some x=>
 obtain⟨q,ks'⟩:=x
 cases p with
 |none=>cases h
 |some b=>
 by_cases he:ac.e b=r
 .rw[bT ac r q ks' b he]at h
  simp only[jS,jP]at h
  obtain⟨rfl,rfl⟩:=h
  exact⟨q,b,rfl,rfl,he,rfl⟩
 have:zzF ac r (some (q,ks')) (some b)=none:=if_neg he
 rw[this]at h;cases h
theorem Tr{es:List (List UInt8×List C)}(f:Nat->Nat)(h:∀c∈es.flatMap (·.2),c.names=[]):es.map (λp=>(p.1,p.2.map (rnC f)))=es:=DB λp hp=>by
 show (p.1,p.2.map _)=p
 rw[DB λc hc=>F1 (h c (mem_flatMap.2 ⟨p,hp,hc⟩))]
noncomputable def amRz{B:Type}(ac:ArgC B)(nt:∀b,∀v∈ac.e b,v.tupB=false):ArgL (Rz×B) where
 d H l:=match l with
  |v::v'::r=>zzF ac r (zzD H v v') (ac.d r)
  |_=>none
 args p:=.one (.p 0 0 0)::.one (.p 1 0 0)::ac.e p.2
 mem p:=p.1.mem
 h H l a ks h:=by
  match l with
  |[]=>cases h
  |[_]=>cases h
  |v::v'::r=>
   obtain⟨q,b,hf,hb,he,rfl⟩:=lN h
   obtain⟨k0,k1,k2,k3,rfl,rfl,rfl,⟨u,z,h1,hz⟩,⟨u',z',h2,hz'⟩,h3,h4⟩:=lL hf
   refine⟨?_,rfl,λi n hi=>?_⟩
   .show _=(SV.one (.p 0 0 0)::SV.one (.p 1 0 0)::ac.e b).map (rnV (nmK [k0,k1,k2,k3]))
    rw[map_cons,map_cons,DB (l:=ac.e b) λv hv=>UL (ac.n b v hv),he];rfl
   .match i,hi with
    |0,hi=>
     obtain rfl:=Option.some.inj hi
     refine⟨_,rfl,?_⟩
     rw[h1]
     refine⟨?_,hz,.inl rfl⟩
     show [rzC q.P q.m]=[(rzC q.P q.m).map _]
     rw[DB λc hc=>F1 (QU q.P q.m c hc)]
    |1,hi=>
     obtain rfl:=Option.some.inj hi
     refine⟨_,rfl,?_⟩
     rw[h2]
     exact⟨rfl,hz',.inl rfl⟩
    |2,hi=>
     obtain rfl:=Option.some.inj hi
     refine⟨_,rfl,?_⟩
     rw[h3]
     refine⟨rfl,?_⟩
     show isC q.is=(isC q.is).map _
     exact(Tr _ (WE q.is)).symm
    |3,hi=>
     obtain rfl:=Option.some.inj hi
     refine⟨_,rfl,?_⟩
     rw[h4]
     refine⟨rfl,?_⟩
     show psC' q.ps=(psC' q.ps).map _
     exact(Tr _ (WF q.ps)).symm
    |i+4,hi=>simp at hi
 n a m hm c hc:=by
  simp only[Rz.mem,mem_cons,not_mem_nil,or_false]at hm
  rcases hm with rfl|rfl|rfl|rfl
  .simp only[ML.cells,flatMap_cons,flatMap_nil,append_nil,id]at hc
   exact .inl (QU _ _ c hc)
  .simp only[ML.cells,flatMap_cons,flatMap_nil,append_nil,id,fzR,mem_cons,not_mem_nil,or_false]at hc
   rcases hc with rfl|rfl|rfl|rfl|rfl|rfl
   .exact .inl rfl
   .exact .inl rfl
   .exact .inl rfl
   .exact .inl rfl
   .exact .inr (.inl ⟨2,rfl,by show 2<4;decide⟩)
   .exact .inr (.inl ⟨3,rfl,by show 3<4;decide⟩)
  .exact .inl (WE _ c hc)
  .exact .inl (WF _ c hc)
 an a v hv:=by
  rcases mem_cons.1 hv with rfl|hv
  .exact .inr (.inr (.inl ⟨0,0,0,rfl,by show 0<4;decide⟩))
  rcases mem_cons.1 hv with rfl|hv
  .exact .inr (.inr (.inl ⟨1,0,0,rfl,by show 1<4;decide⟩))
  .have:=ac.n a.2 v hv
   cases v with
   |one c=>exact .inl this
   |agg l=>
    intro c hc
    exact .inl (List.eq_nil_iff_forall_not_mem.2 λk hk=>by
     have h2:k∈(SV.agg l).names:=mem_flatMap.2 ⟨c,hc,hk⟩
     rw[this]at h2;cases h2)
   |tup l=>cases nt a.2 _ hv
 l H H' v a ks h hk:=by
  match v with
  |[]=>cases h
  |[_]=>cases h
  |x::x'::r=>
   obtain⟨q,b,hf,hb,he,rfl⟩:=lN h
   show zzF ac r (zzD H' x x') (ac.d r)=_
   rw[lM hf hk,hb,bT ac r q ks b he]
theorem OX(ac:ArgC B)(nt)(H:Hp)(v v':SV)(r:List SV):(amRz ac nt).d H (v::v'::r)=zzF ac r (zzD H v v') (ac.d r):=rfl
theorem OY(ac:ArgC B)(nt)(q:Rz)(b:B):(amRz ac nt).args (q,b)= .one (.p 0 0 0)::.one (.p 1 0 0)::ac.e b:=rfl
theorem OZ(ac:ArgC B)(nt)(q:Rz)(b:B):(amRz ac nt).mem (q,b)=q.mem:=rfl
theorem Rc(H:Hp)(k0 k1:Nat):zzD H (.one (.p k0 0 0)) (.one (.p k1 0 0))=zzK H k0 k1 (fzD (H k1)):=rfl
theorem Re(u:Nat)(z:List C)(k2 k3:Nat)(n:List UInt8)(ps ls:List Vr)(bd:List Sm)(hz:z.length=6):fzD (some (.vec u z [[.v (.string (bs n)),.d (.sl zVr (ps.map Vr.r)),.d (.sl zVr (ls.map Vr.r)),.d (.sl zSm (bd.map Sm.r)),.s k2,.s k3]]))=some (⟨n,ps,ls,bd⟩,k2,k3):=rF u z k2 k3 ⟨n,ps,ls,bd⟩ hz
theorem Kg(H:Hp)(k0 k1 k2 k3:Nat)(f:Fn):zzK H k0 k1 (some (f,k2,k3))=zzJ k0 k1 k2 k3 f (rzD (H k0)) (isD (H k2)) (Ut (H k3)):=rfl
theorem Kh(k0 k1 k2 k3:Nat)(f:Fn)(P:Pg)(m:Ms)(is:Zi)(ps:Zp):zzJ k0 k1 k2 k3 f (some (P,m)) (some is) (some ps)=some (⟨P,m,f,is,ps⟩,[k0,k1,k2,k3]):=rfl
theorem Rf(u:Nat)(z r:List C)(hz:z.length=12):rzD (some (.vec u z [r]))=rzR r:=by simp only[rzD,if_pos hz]
theorem Rg(vs:Zi):isD (some (.mp false (isC vs)))=some vs:=rD vs
theorem Rh(vs:Zp):Ut (some (.mp false (psC' vs)))=some vs:=rE vs
theorem GM(q q':Rz):PE (q.mem).length q'.memO=true/\kdL q.mem q'.memO=true/\∀m,some m∈q'.memO->KT q'.memO.length m:=by
 refine⟨rfl,rfl,λm hm=>?_⟩
 have:m∈q'.mem:=by
  simp only[Rz.memO,mem_cons,jS,not_mem_nil,or_false]at hm
  simp only[Rz.mem,mem_cons,not_mem_nil,or_false]
  exact hm
 exact(amRz ac0 (λb v hv=>by cases hv)).n (q',()) m this
theorem MZ(q q':Rz):(mlO q'.pan).length=(q.mem).length/\kdL q.mem (mlO q'.pan)=true/\∀m,some m∈mlO q'.pan->KT (mlO q'.pan).length m:=by
 refine⟨rfl,rfl,λm hm=>?_⟩
 simp only[Rz.pan,mlO,map_cons,List.map_nil,Option.map_none,Option.map_some,mem_cons,not_mem_nil,or_false,reduceCtorEq,jS,false_or]at hm
 subst hm
 intro c hc
 simp only[ML.cells,flatMap_cons,flatMap_nil,append_nil,id]at hc
 exact .inl (QU _ _ c hc)
theorem Ma(q:Rz):∀m,some m∈q.pan->∀r∈m.2,∀c∈r,c.names=[]:=by
 intro m hm r hr c hc
 simp only[Rz.pan,mem_cons,not_mem_nil,or_false,reduceCtorEq,jS,false_or]at hm
 subst hm
 simp only[mem_singleton]at hr
 subst hr
 exact QU _ _ c hc
theorem Kw(ac:ArgC B)(nt)(q:Rz)(b:B):∀v∈(amRz ac nt).args (q,b),∀k∈v.names,k<(Rz.mem q).length:=by
 intro v hv k hk
 rcases mem_cons.1 hv with rfl|hv
 .simp only[SV.names,C.names,mem_singleton]at hk
  subst hk;show 0<4;decide
 rcases mem_cons.1 hv with rfl|hv
 .simp only[SV.names,C.names,mem_singleton]at hk
  subst hk;show 1<4;decide
 rw[ac.n b v hv]at hk;cases hk
theorem A24{l:List Nb}{i:Nat}{x:Nb}(h:l[i]?=some x)(z:List C):(l.map Nb.c).getD i z=[.v (.string (bs x.s)),.v (.int .i64 x.n)]:=by simp[List.getD,h,Nb.c]
theorem A25{l:List Na}{i:Nat}{x:Na}(h:l[i]?=some x)(z:List C):(l.map Na.c).getD i z=[.v (.string (bs x.s)),.ov zI (x.l.map cI)]:=by simp[List.getD,h,Na.c]
theorem Oa(h:m.on=true):(m.e != 0)=false:=by unfold bne;rw[show (m.e==0)=true from h];rfl
theorem Ob(h:m.on=false):(m.e != 0)=true:=by unfold bne;rw[show (m.e==0)=false from h];rfl
theorem rG{nm:List UInt8}{al k:Int}(h:m.on=true):m.zfail nm al k={ m with e:=2,f:=nm,al:=al,k:=k }:=if_pos h
theorem lO{nm:List UInt8}{al k:Int}(h:m.on=false):m.zfail nm al k=m:=if_neg (by rw[h];decide)
abbrev pO(p:Pg×Ms)(f:Fn)(al:Int)(kd:Int):Prop:=True
abbrev Uu(p:Pg×Ms)(f:Fn)(al:Int)(kd:Int):SV:=.tup []
abbrev Ad(p:Pg×Ms)(f:Fn)(al:Int)(kd:Int):List (Option MV):=[some (rzW p.1 (p.2.zfail f.name al kd))]
noncomputable abbrev Lv:ArgM ((Pg×Ms)×(Fn)×(Int)×(Int)×Unit):=(amP (mRz) (amD (cFn) (amD (cInt .i64) (amD (cInt .i64) am0))))
abbrev pP:Prop:=Bv Tryz.prog 92 ((Lv).args 0) (Lv).mem (λp:(Pg×Ms)×(Fn)×(Int)×(Int)×Unit=>pO p.1 p.2.1 p.2.2.1 p.2.2.2.1) (λp:(Pg×Ms)×(Fn)×(Int)×(Int)×Unit=>Uu p.1 p.2.1 p.2.2.1 p.2.2.2.1) (λp:(Pg×Ms)×(Fn)×(Int)×(Int)×Unit=>Ad p.1 p.2.1 p.2.2.1 p.2.2.2.1)
attribute [local go_sem] Fn.c AF AE Ab LU N3 N4 EG Dq rzC rzW
theorem wm:pP:=by
 rintro ⟨p,f,al,kd,_u⟩ w M I lab fz xs hc hA hl hx
 refine Aa Tryz.func92 rfl ((Lv).mem ⟨p,f,al,kd,_u⟩) w M I lab fz [] [] ((Lv).args 0 ⟨p,f,al,kd,_u⟩) ((λp:(Pg×Ms)×(Fn)×(Int)×(Int)×Unit=>Ad p.1 p.2.1 p.2.2.1 p.2.2.2.1) ⟨p,f,al,kd,_u⟩) ((λp:(Pg×Ms)×(Fn)×(Int)×(Int)×Unit=>Uu p.1 p.2.1 p.2.2.1 p.2.2.2.1) ⟨p,f,al,kd,_u⟩) xs hA hl hx (λv hv k hk=>by have:=(Lv).an 0 ⟨p,f,al,kd,_u⟩ v hv k hk;omega) (jN rfl) (jN rfl) ?_
 clear hx hl hA xs
 simp only[Tryz.f92]
 obtain⟨P,m⟩:=p
 obtain⟨fn,fp,fl,fb⟩:=f
 cases h:m.on with
 |true=>
  have h1:(m.e==0)=true:=h
  have h2:=rG (nm:=fn) (al:=al) (k:=kd) h
  simp only[seval,go_sem,h1]
  try simp only[A2,A3]
  try exact A1v
 |false=>
 have h1:(m.e==0)=false:=h
 have h2:=lO (nm:=fn) (al:=al) (k:=kd) h
 simp only[seval,go_sem,h1]
 try simp only[A2,A3]
 try exact A1v
theorem KF9{p:Prop}(h:p:=by intro p _;exact A1w _ _):p:=h
noncomputable def AR{X:Ctx}{w0:World}:Sy.Spec Tryz.prog X w0:=Cl 92 Tryz.call92 (Lv) _ _ _ KF1 KF0 KF9 wm
abbrev bU(p:Pg×Ms)(s:List UInt8):Prop:=p.2.cs.length<=1000000
abbrev BF(p:Pg×Ms)(s:List UInt8):SV:=.one (.v (.int .i64 (p.2.cx s)))
abbrev BG(p:Pg×Ms)(s:List UInt8):List (Option MV):=[some (rzW p.1 p.2)]
noncomputable abbrev Lw:ArgM ((Pg×Ms)×(List UInt8)×Unit):=(amP (mRz) (amD (cStr) am0))
abbrev pQ:Prop:=Bv Tryz.prog 35 ((Lw).args 0) (Lw).mem (λp:(Pg×Ms)×(List UInt8)×Unit=>bU p.1 p.2.1) (λp:(Pg×Ms)×(List UInt8)×Unit=>BF p.1 p.2.1) (λp:(Pg×Ms)×(List UInt8)×Unit=>BG p.1 p.2.1)
theorem wn:pQ:=by
 rintro ⟨p,s,_u⟩ w M I lab fz xs hc hA hl hx
 refine Aa Tryz.func35 rfl ((Lw).mem ⟨p,s,_u⟩) w M I lab fz [] [] ((Lw).args 0 ⟨p,s,_u⟩) ((λp:(Pg×Ms)×(List UInt8)×Unit=>BG p.1 p.2.1) ⟨p,s,_u⟩) ((λp:(Pg×Ms)×(List UInt8)×Unit=>BF p.1 p.2.1) ⟨p,s,_u⟩) xs hA hl hx (λv hv k hk=>by have:=(Lw).an 0 ⟨p,s,_u⟩ v hv k hk;omega) (jN rfl) (jN rfl) ?_
 clear hx hl hA xs
 simp only[Tryz.f35]
 obtain⟨P,m⟩:=p
 have hc:m.cs.length<=1000000:=hc
 simp only[seval,go_sem]
 refine AK (Y:=Nat) (λi=>i<=m.cs.length/\ixN s ((m.cs.map Nb.s).drop i) (i:Int)=m.cx s)
  (λi=>⟨[(0,true,.one (.p 0 0 0)),(1,true,.one (.v (.string (bs s)))),(5,true,.one (.v (.int .i64 (i:Int))))],[(0,.vec 0 zRz [rzC P m])]⟩)
  (λi=>m.cs.length-i) 0 ⟨Nat.zero_le _,rfl⟩ ?_ ?_
 .refine A4 [] ?_;simp only[seval,go_sem]
 rintro i ⟨hi,hJ⟩
 refine AZ [] [] _ _ _ ?_
 have w1:IntKind.i64.wrap ((i:Int)+1)=((i+1:Nat):Int):=by rw[wrap_i64 (by omega) (by omega)];rfl
 cases hx:m.cs[i]? with
 |none=>
  have h2:=List.getElem?_eq_none_iff.1 hx
  have h1:=B9 h2
  rw[List.drop_eq_nil_of_le (by rw[List.length_map];exact h2)]at hJ
  have hr:m.cx s = -1:=hJ.symm
  simp only[seval,go_sem,h1]
  try simp only[A2,A3]
  repeat' first|exact ck|with_reducible apply And.intro|intro _
  all_goals first|exact trivial|exact KZ|(refine A1 [] ?_;simp only[seval,go_sem,bne,BF,BG,hr])
 |some x=>
 have hlt:=(List.getElem?_eq_some_iff.1 hx).1
 have h1:=B8 hlt
 have h2:=A24 hx
 rw[BJ (x:=x.s) (by rw[List.getElem?_map,hx];rfl)]at hJ
 simp only[ixN]at hJ
 cases hq:(x.s==s) with
 |true=>
  rw[if_pos hq]at hJ
  simp only[seval,go_sem,h1,h2,hq]
  try simp only[A2,A3]
  repeat' first|exact ck|with_reducible apply And.intro|intro _
  all_goals first|exact hlt|exact KZ|(refine A1 [] ?_;simp only[seval,go_sem,bne,BF,BG,<- hJ])
 |false=>
 rw[if_neg (by rw[hq];decide)]at hJ
 simp only[seval,go_sem,h1,h2,hq,w1]
 try simp only[A2,A3]
 repeat' first|exact ck|with_reducible apply And.intro|intro _
 all_goals try first|exact hlt|exact KZ
 refine⟨i+1,⟨hlt,hJ⟩,by omega,?_⟩
 refine A4 [] ?_;simp only[seval,go_sem]
noncomputable def Aw{X:Ctx}{w0:World}:Sy.Spec Tryz.prog X w0:=Cl 35 Tryz.call35 (Lw) _ _ _ KF1 KF0 KF9 wn
abbrev lP(p:Pg×Ms)(s:List UInt8):Prop:=p.2.ar.length<=1000000
abbrev JZ(p:Pg×Ms)(s:List UInt8):SV:=.one (.v (.int .i64 (p.2.ax s)))
abbrev Ja(p:Pg×Ms)(s:List UInt8):List (Option MV):=[some (rzW p.1 p.2)]
noncomputable abbrev Kx:ArgM ((Pg×Ms)×(List UInt8)×Unit):=(amP (mRz) (amD (cStr) am0))
abbrev lQ:Prop:=Bv Tryz.prog 114 ((Kx).args 0) (Kx).mem (λp:(Pg×Ms)×(List UInt8)×Unit=>lP p.1 p.2.1) (λp:(Pg×Ms)×(List UInt8)×Unit=>JZ p.1 p.2.1) (λp:(Pg×Ms)×(List UInt8)×Unit=>Ja p.1 p.2.1)
theorem pR:lQ:=by
 rintro ⟨p,s,_u⟩ w M I lab fz xs hc hA hl hx
 refine Aa Tryz.func114 rfl ((Kx).mem ⟨p,s,_u⟩) w M I lab fz [] [] ((Kx).args 0 ⟨p,s,_u⟩) ((λp:(Pg×Ms)×(List UInt8)×Unit=>Ja p.1 p.2.1) ⟨p,s,_u⟩) ((λp:(Pg×Ms)×(List UInt8)×Unit=>JZ p.1 p.2.1) ⟨p,s,_u⟩) xs hA hl hx (λv hv k hk=>by have:=(Kx).an 0 ⟨p,s,_u⟩ v hv k hk;omega) (jN rfl) (jN rfl) ?_
 clear hx hl hA xs
 simp only[Tryz.f114]
 obtain⟨P,m⟩:=p
 have hc:m.ar.length<=1000000:=hc
 simp only[seval,go_sem]
 refine AK (Y:=Nat) (λi=>i<=m.ar.length/\ixN s ((m.ar.map Na.s).drop i) (i:Int)=m.ax s)
  (λi=>⟨[(0,true,.one (.p 0 0 0)),(1,true,.one (.v (.string (bs s)))),(5,true,.one (.v (.int .i64 (i:Int))))],[(0,.vec 0 zRz [rzC P m])]⟩)
  (λi=>m.ar.length-i) 0 ⟨Nat.zero_le _,rfl⟩ ?_ ?_
 .refine A4 [] ?_;simp only[seval,go_sem]
 rintro i ⟨hi,hJ⟩
 refine AZ [] [] _ _ _ ?_
 have w1:IntKind.i64.wrap ((i:Int)+1)=((i+1:Nat):Int):=by rw[wrap_i64 (by omega) (by omega)];rfl
 cases hx:m.ar[i]? with
 |none=>
  have h2:=List.getElem?_eq_none_iff.1 hx
  have h1:=B9 h2
  rw[List.drop_eq_nil_of_le (by rw[List.length_map];exact h2)]at hJ
  have hr:m.ax s = -1:=hJ.symm
  simp only[seval,go_sem,h1]
  try simp only[A2,A3]
  repeat' first|exact ck|with_reducible apply And.intro|intro _
  all_goals first|exact trivial|exact KZ|(refine A1 [] ?_;simp only[seval,go_sem,bne,JZ,Ja,hr])
 |some x=>
 have hlt:=(List.getElem?_eq_some_iff.1 hx).1
 have h1:=B8 hlt
 have h2:=A25 hx
 rw[BJ (x:=x.s) (by rw[List.getElem?_map,hx];rfl)]at hJ
 simp only[ixN]at hJ
 cases hq:(x.s==s) with
 |true=>
  rw[if_pos hq]at hJ
  simp only[seval,go_sem,h1,h2,hq]
  try simp only[A2,A3]
  repeat' first|exact ck|with_reducible apply And.intro|intro _
  all_goals first|exact hlt|exact KZ|(refine A1 [] ?_;simp only[seval,go_sem,bne,JZ,Ja,<- hJ])
 |false=>
 rw[if_neg (by rw[hq];decide)]at hJ
 simp only[seval,go_sem,h1,h2,hq,w1]
 try simp only[A2,A3]
 repeat' first|exact ck|with_reducible apply And.intro|intro _
 all_goals try first|exact hlt|exact KZ
 refine⟨i+1,⟨hlt,hJ⟩,by omega,?_⟩
 refine A4 [] ?_;simp only[seval,go_sem]
noncomputable def P4{X:Ctx}{w0:World}:Sy.Spec Tryz.prog X w0:=Cl 114 Tryz.call114 (Kx) _ _ _ KF1 KF0 KF9 pR
abbrev wo(p:Pg×Ms):Prop:=True
abbrev C7(p:Pg×Ms):SV:=.one (.v (.bool p.2.zspd.on))
abbrev C8(p:Pg×Ms):List (Option MV):=[some (rzW p.1 p.2.zspd)]
noncomputable abbrev Nj:ArgM ((Pg×Ms)×Unit):=(amP (mRz) am0)
abbrev wq:Prop:=Bv Tryz.prog 88 ((Nj).args 0) (Nj).mem (λp:(Pg×Ms)×Unit=>wo p.1) (λp:(Pg×Ms)×Unit=>C7 p.1) (λp:(Pg×Ms)×Unit=>C8 p.1)
theorem A26:wq:=by
 rintro ⟨p,_u⟩ w M I lab fz xs hc hA hl hx
 refine Aa Tryz.func88 rfl ((Nj).mem ⟨p,_u⟩) w M I lab fz [] [] ((Nj).args 0 ⟨p,_u⟩) ((λp:(Pg×Ms)×Unit=>C8 p.1) ⟨p,_u⟩) ((λp:(Pg×Ms)×Unit=>C7 p.1) ⟨p,_u⟩) xs hA hl hx (λv hv k hk=>by have:=(Nj).an 0 ⟨p,_u⟩ v hv k hk;omega) (jN rfl) (jN rfl) ?_
 clear hx hl hA xs
 simp only[Tryz.f88]
 obtain⟨P,m⟩:=p
 cases h:m.on with
 |true=>
  have h1:(m.e==0)=true:=h
  have h0:m.e=0:=eq_of_beq h1
  cases h2:decide (m.fuel<1) with
  |true=>
   have hs:m.zspd={ m with e:=3,fuel:=w64i (m.fuel-1) }:=by unfold Ms.zspd;rw[if_pos ⟨h,of_decide_eq_true h2⟩]
   have ho:m.zspd.on=false:=by rw[hs];rfl
   simp only[seval,go_sem,h1,h2]
   try simp only[A2,A3]
   try exact pN
  |false=>
  have hs:m.zspd={ m with fuel:=w64i (m.fuel-1) }:=by unfold Ms.zspd;rw[if_neg (λhh=>of_decide_eq_false h2 hh.2)]
  have ho:m.zspd.on=true:=by rw[hs];exact h
  simp only[seval,go_sem,h1,h2]
  try simp only[A2,A3]
  try exact pN
 |false=>
 have h1:(m.e==0)=false:=h
 have hs:m.zspd={ m with fuel:=w64i (m.fuel-1) }:=by unfold Ms.zspd;rw[if_neg (λhh=>by rw[h]at hh;exact absurd hh.1 (by decide))]
 have ho:m.zspd.on=false:=by rw[hs];exact h
 simp only[seval,go_sem,h1]
 try simp only[A2,A3]
 try exact pN
noncomputable def CL{X:Ctx}{w0:World}:Sy.Spec Tryz.prog X w0:=Cl 88 Tryz.call88 (Nj) _ _ _ KF1 KF0 KF9 A26
end Go.Proofs.YtapedeoheilnnaaGreat
