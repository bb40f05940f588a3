/- Programs of several units, walked. Conditions: the texts are small and not too deep, the globals' texts are known. -/
import Derived.Test.YtapedeoheilnnaaGreatPg1
import Derived.Test.YtapedeoheilnnaaGreatRm2
import Derived.Test.YtapedeoheilnnaaGreatSy36
set_option linter.all false
set_option maxRecDepth 20000
set_option maxHeartbeats 16000000
namespace Go.Proofs.YtapedeoheilnnaaGreat
open Go Go.Sy Go.RowKit
theorem wT{P:Prop}(h:P:=by
 obtain⟨a,_,rfl⟩:=List.mem_map.1 hp
 rfl):P:=h
theorem AA2{P:Prop}(h:P:=by
 repeat refine AX ?_
 refine⟨(i+1,P),⟨hlt,hP2.symm⟩,by dsimp only;omega,A2 [] ?_⟩
 simp only[seval,go_sem,fl3,Hw,Fn.c,zFc]):P:=h
def gtB(a b:List UInt8):Bool:=!(Op.bytesLess a b||a==b)
theorem qk(a b:List UInt8):gtB a b = !(Op.bytesLess a b||a==b):=rfl
def fnZ:Fn:=⟨[],[],[],[]⟩
def LH(fs:List Fn)(nm:List UInt8):Nat->Nat
 |0=>0
 |k+1=>if gtB (fs.getD k fnZ).name nm=true then LH fs nm k else k+1
def insF(fs:List Fn)(f:Fn):List Fn:=fs.take (LH fs f.name fs.length)++f::fs.drop (LH fs f.name fs.length)
def upP(m:Nat)(gl:List UInt8->List Gi)(P:Pg)(u:Un):Pg:=
 if (u.s==gloB)=true then ⟨giV (gl u.t),P.fs⟩
 else if ((Fp u.t).2.2 != 0)=true then P
 else if ((IV (Fp u.t).1 u.s m).2.2 != 0)=true then P
 else ⟨P.g,insF P.fs (IV (Fp u.t).1 u.s m).1⟩
def prF(m:Nat)(gl:List UInt8->List Gi)(l:List Un):Pg:=l.foldl (upP m gl) ⟨⟨[],[]⟩,[]⟩
theorem qm{m:Nat}{gl:List UInt8->List Gi}{l:List Un}{i:Nat}{u:Un}(h:l[i]?=some u):prF m gl (l.take (i+1))=upP m gl (prF m gl (l.take i)) u:=by
 unfold prF
 rw[List.take_add_one,h];simp
theorem dQ(fs:List Fn)(nm:List UInt8):∀k,LH fs nm k<=k
 |0=>Nat.le_refl _
 |k+1=>by
  simp only[LH]
  split
  .have:=dQ fs nm k;omega
  omega
theorem nK(fs:List Fn)(f:Fn):(insF fs f).length=fs.length+1:=by
 have:=dQ fs f.name fs.length
 simp[insF];omega
theorem tg(m:Nat)(gl:List UInt8->List Gi)(P:Pg)(u:Un):(upP m gl P u).fs.length<=P.fs.length+1:=by
 unfold upP
 split
 .simp_all
 split
 .omega
 split
 .omega
 exact Nat.le_of_eq (nK _ _)
theorem Wz(m:Nat)(gl:List UInt8->List Gi)(l:List Un):∀i,i<=l.length->(prF m gl (l.take i)).fs.length<=i
 |0,_=>Nat.le_refl _
 |i+1,h=>by
  have hx:l[i]?=some l[i]:=List.getElem?_eq_getElem h
  rw[qm hx]
  have h1:=tg m gl (prF m gl (l.take i)) l[i]
  have h2:=Wz m gl l i (by omega)
  omega
theorem Hw(l:List Un):(l.map Un.c).flatMap (λr=>r.flatMap C.names)=[]:=List.flatMap_eq_nil_iff.2 λp hp=>by
 exact wT
theorem Zv(k:Nat)(z:List D)(e:List (List D))(l:List Un):(l.map Un.c).map (λr=>r.map (fzC k z e))=l.map Un.c:=HU Un.c (λ_=>rfl) l
theorem jJ(l:List Fn):(l.map Fn.r).map (λr=>r.map oD)=l.map Fn.c:=by
 rw[List.map_map]
 exact List.map_congr_left λf _=>rfl
theorem Vf(l:List Fn):BS (l.map Fn.c):=by
 intro r h c hc
 obtain⟨f,_,rfl⟩:=List.mem_map.1 h
 simp only[Fn.c,List.mem_cons,List.not_mem_nil,or_false]at hc
 rcases hc with rfl|rfl|rfl|rfl<;>rfl
theorem jK(l:List Fn):EZ (l.map Fn.c)=some (l.map Fn.r):=Hi Fn.c (λ_=>rfl) l
theorem dR(l:List Fn):(l.map Fn.c).flatMap (λr=>r.flatMap C.names)=[]:=List.flatMap_eq_nil_iff.2 λp hp=>by
 exact wT
theorem qn(l:List Fn)(p:Nat):List.take p (l.map Fn.r)=(l.take p).map Fn.r:=(List.map_take ..).symm
theorem qo(l:List Fn)(p:Nat):List.take (l.length-p) (List.drop p (l.map Fn.r))=(l.drop p).map Fn.r:=by
 rw[List.map_drop]
 exact List.take_of_length_le (by simp)
theorem A40(l:List Fn):∃s b c d,(l.map Fn.r).getD 0 [D.v (Value.string (bs [])),D.v (Value.slice none 0 0),D.v (Value.slice none 0 0),D.v (Value.slice none 0 0)]=[.v (.string (bs s)),b,c,d]:=by
 cases l with
 |nil=>exact⟨_,_,_,_,rfl⟩
 |cons f l=>exact⟨_,_,_,_,rfl⟩
theorem jL(l:List Fn)(f:Fn){p:Nat}(h:LH l f.name l.length=p):(l.take p).map Fn.c++f.c::(l.drop p).map Fn.c=(insF l f).map Fn.c:=by
 unfold insF;rw[h];simp
structure okUn(n m:Nat)(gl:List UInt8->List Gi)(u:Un):Prop where
 g:(u.s==gloB)=true->glO u.t (gl u.t)/\TT (giV (gl u.t)).ns/\(giV (gl u.t)).c.length<=5000/\(giV (gl u.t)).a.length<=5000
 s:(u.s==gloB)=false->E1 u.t
 f:(u.s==gloB)=false->okF (Fp u.t).1
 b:(u.s==gloB)=false->okB n m (Fp u.t).1.body
def pqR(P:Pg):List C:=[.d (.sl Fq (P.g.c.map cSd)),.d (.sl GP (P.g.a.map Gy.r)),.d (.sl zFn (P.fs.map Fn.r))]
theorem A41{l:List Un}{i:Nat}{u:Un}(h:l[i]?=some u)(z:List C):(l.map Un.c).getD i z=u.c:=by simp[List.getD,h]
theorem yt{l:List Fn}{k:Nat}(h:k<l.length)(z:List D):(l.map Fn.r).getD k z=(l.getD k fnZ).r:=by simp[List.getD,h]
abbrev tj(n:Nat)(m:Nat)(gl:List UInt8->List Gi)(l:List Un):Prop:=l.length<=10/\∀u∈l,okUn n m gl u
abbrev X0(n:Nat)(m:Nat)(gl:List UInt8->List Gi)(l:List Un):SV:=.agg (pqR (prF m gl l))
abbrev X1(n:Nat)(m:Nat)(gl:List UInt8->List Gi)(l:List Un):List (Option MV):=[some (zUc,l.map Un.c)]
noncomputable abbrev NW:ArgM ((List Un)×Unit):=(amS (mUn) am0)
abbrev dT(n:Nat)(m:Nat)(gl:List UInt8->List Gi):Prop:=C7 Tryz.prog 25 ((NW).args 0) (NW).mem (λp:(List Un)×Unit=>tj n m gl p.1) (λp:(List Un)×Unit=>X0 n m gl p.1) (λp:(List Un)×Unit=>X1 n m gl p.1)
noncomputable def TL{X:Ctx}{w0:World}(n:Nat)(m:Nat)(gl:List UInt8->List Gi)(h:dT n m gl):Sy.Spec Tryz.prog X w0:=D0 25 Tryz.call25 (NW) _ _ _ KF1 KF0 (id (by intro p _;exact yr _)) h
section
attribute [local go_sem] pqR zFn
theorem y_Prog(n:Nat)(m:Nat)(gl:List UInt8->List Gi):dT n m gl:=by
 rintro ⟨l,_u⟩ w M I lab fz xs hc hA hl hx
 refine Ac Tryz.func25 rfl ((NW).mem ⟨l,_u⟩) w M I lab fz [Gp,(Ej n m (P8 n m))] [] ((NW).args 0 ⟨l,_u⟩) ((λp:(List Un)×Unit=>X1 n m gl p.1) ⟨l,_u⟩) ((λp:(List Un)×Unit=>X0 n m gl p.1) ⟨l,_u⟩) xs hA hl hx (λv hv k hk=>by have:=(NW).an 0 ⟨l,_u⟩ v hv k hk;omega) (jN rfl) (jN rfl) ?_
 clear hx hl hA xs
 simp only[Tryz.f25]
 obtain⟨hl,hu⟩:=hc
 have hl:l.length<=10:=hl
 simp only[seval,go_sem,Gp,Ej,FK,Ha,A8,A9,Fn.c,AM,A4,A5,AF,LG,LF,Un.c,MC,MD,Gl.cc]
 refine AC (Y:=Nat×Pg) (λz=>z.1<=l.length/\z.2=prF m gl (l.take z.1))
  (λz=>⟨[(0,true,.one (.s 0)),(2,true,.one (.p 2 0 0)),(3,true,.one (.p 3 0 0)),(4,true,.one (.v (.int .i64 (z.1:Int))))],
   [(0,.vec 0 zUc (l.map Un.c)),(2,.vec 0 fl3 [[.v (.slice none 0 0),.v (.slice none 0 0),.v (.slice none 0 0)]]),(3,.vec 0 fl3 [pqR z.2])]⟩)
  (λz=>l.length-z.1) (0,⟨⟨[],[]⟩,[]⟩) ⟨Nat.zero_le _,rfl⟩ ?_ ?_
 .refine A2 [.nilr 3 0 0 1000 zSr,.fz 1000,.nilr 3 0 1 1001 zGc,.fz 1001,.nilr 3 0 2 1002 zFc,.fz 1002] ?_;simp only[seval,go_sem,fl3,zFc,zSr,zGc,Fq,GP,Hw,Zv]
 rintro ⟨i,P⟩ ⟨hi,hP⟩
 dsimp only at hi hP
 have w1:IntKind.i64.wrap ((i:Int)+1)=((i+1:Nat):Int):=by rw[wrap_i64 (by omega) (by omega)];rfl
 have hPl:P.fs.length<=i:=by rw[hP];exact Wz m gl l i hi
 cases hx:l[i]? with
 |none=>
  refine AP [Gp,Ej n m (P8 n m)] [] _ _ _ ?_
  have g2:=List.getElem?_eq_none_iff.1 hx
  have g1:=Ai g2
  rw[List.take_of_length_le g2]at hP
  subst hP
  simp only[seval,go_sem,Gp,Ej,FK,Ha,A8,A9,Fn.c,AM,A4,A5,AF,LG,LF,Un.c,MC,MD,Gl.cc,g1]
  refine⟨(by decide),?_⟩
  refine A1 [] ?_;simp only[seval,go_sem,bne,X0,X1,Hw]
 |some u=>
 have hlt:=(List.getElem?_eq_some_iff.1 hx).1
 have g1:=Ah hlt
 have hut:=A41 hx
 have hP2:=qm (m:=m) (gl:=gl) hx
 rw[<- hP]at hP2
 obtain⟨kg,ks,kf,kb⟩:=hu u (List.mem_of_getElem? hx)
 obtain⟨us,ut⟩:=u
 dsimp only at kg ks kf kb
 refine AP [Gp,Ej n m (P8 n m),FK (gl ut) (fe (gl ut)),Ha] [] _ _ _ ?_
 cases hg:(us==gloB) with
 |true=>
  have hg2:=hg
  simp only[gloB]at hg
  simp only[seval,go_sem,Gp,Ej,FK,Ha,A8,A9,Fn.c,AM,A4,A5,AF,LG,LF,Un.c,MC,MD,Gl.cc,g1,w1,hut,hg]
  obtain⟨ko,kn,kc,ka⟩:=kg hg2
  have hup:upP m gl P ⟨us,ut⟩=⟨giV (gl ut),P.fs⟩:=by unfold upP;exact if_pos hg2
  rw[hup]at hP2
  have hil:(i:Int)<(l.length:Int):=by omega
  refine⟨hil,hlt,hlt,hil,hlt,hlt,⟨ko.sm,ko.o,ko.n,ko.t⟩,⟨kc,ka,kn⟩,(by decide),(i+1,⟨giV (gl ut),P.fs⟩),⟨hlt,hP2.symm⟩,(by dsimp only;omega),A2 [] ?_⟩
  simp only[seval,go_sem,fl3,Hw]
 |false=>
 have hil:(i:Int)<(l.length:Int):=by omega
 obtain⟨⟨F,a1,r1⟩,hF⟩:∃x,Fp ut=x:=⟨_,rfl⟩
 obtain⟨⟨G,a2,r2⟩,hR⟩:∃x,IV F us m=x:=⟨_,rfl⟩
 have hs:=ks hg
 have h1:=kf hg
 have h2:=kb hg
 rw[hF]at h1 h2
 dsimp only at h1 h2
 have hg2:=hg
 simp only[gloB]at hg
 cases e1:(r1==0) with
 |false=>
  have e1':(r1 != 0)=true:=by simp[bne,e1]
  have hup:upP m gl P ⟨us,ut⟩=P:=by unfold upP;rw[if_neg (by rw[hg2];decide),hF];exact if_pos e1'
  rw[hup]at hP2
  simp only[seval,go_sem,Gp,Ej,FK,Ha,A8,A9,Fn.c,AM,A4,A5,AF,LG,LF,Un.c,MC,MD,Gl.cc,g1,w1,hut,hg,hF,e1,e1']
  exact AA2
 |true=>
 have e1':(r1 != 0)=false:=by simp[bne,e1]
 cases e2:(r2==0) with
 |false=>
  have e2':(r2 != 0)=true:=by simp[bne,e2]
  have hup:upP m gl P ⟨us,ut⟩=P:=by
   unfold upP;rw[if_neg (by rw[hg2];decide),hF]
   dsimp only
   rw[if_neg (by rw[e1'];decide),hR];exact if_pos e2'
  rw[hup]at hP2
  simp only[seval,go_sem,Gp,Ej,FK,Ha,A8,A9,Fn.c,AM,A4,A5,AF,LG,LF,Un.c,MC,MD,Gl.cc,g1,w1,hut,hg,hF,hR,e1,e1',e2,e2']
  exact AA2
 |true=>
 have e2':(r2 != 0)=false:=by simp[bne,e2]
 have hup:upP m gl P ⟨us,ut⟩=⟨P.g,insF P.fs G⟩:=by
  unfold upP;rw[if_neg (by rw[hg2];decide),hF]
  dsimp only
  rw[if_neg (by rw[e1'];decide),hR];exact if_neg (by rw[e2'];decide)
 rw[hup]at hP2
 simp only[seval,go_sem,Gp,Ej,FK,Ha,A8,A9,Fn.c,AM,A4,A5,AF,LG,LF,Un.c,MC,MD,Gl.cc,g1,w1,hut,hg,hF,hR,e1,e1',e2,e2']
 have hil3:(i:Int)<9223372036854775807:=by omega
 refine⟨hil,hlt,hlt,hil,hlt,hlt,hs,hil,hlt,hlt,⟨h1,h2⟩,Bn (by kernel_rfl),?_⟩
 refine AC (Y:=Nat) (λk=>k<=P.fs.length/\LH P.fs G.name P.fs.length=LH P.fs G.name k)
  (λk=>⟨[(0,true,.one (.s 0)),(2,true,.one (.p 2 0 0)),(3,true,.one (.p 3 0 0)),(4,true,.one (.v (.int .i64 (i:Int)))),(8,true,.one (.p 8 0 0)),(11,true,.one (.v (.int .i64 (k:Int))))],
   [(0,.vec 0 zUc (l.map Un.c)),(2,.vec 0 fl3 [[.v (.slice none 0 0),.v (.slice none 0 0),.v (.slice none 0 0)]]),(3,.vec 0 fl3 [pqR P]),(8,.vec 0 fl4 [G.c])]⟩)
  (λk=>k) P.fs.length ⟨Nat.le_refl _,rfl⟩ ?_ ?_
 .refine A2 [] ?_;simp only[seval,go_sem,fl3,fl4,Hw,Fn.c,zFc]
 rintro k ⟨hk,hJ⟩
 refine AP [Gp,Ej n m (P8 n m)] [] _ _ _ ?_
 cases k with
 |zero=>
  obtain⟨s0,b0,c0,d0,h00⟩:=A40 P.fs
  have hins:=jL P.fs G (p:=0) hJ
  simp only[List.take_zero,List.drop_zero,List.map_nil,List.nil_append,Fn.c]at hins
  have hcs:=Vf P.fs
  have hcs2:=Vf (G::P.fs)
  simp only[Fn.c,List.map_cons]at hcs hcs2
  simp only[seval,go_sem,Gp,Ej,FK,Ha,A8,A9,Fn.c,AM,A4,A5,AF,LG,LF,Un.c,MC,MD,Gl.cc,fl3,fl4,h00,w1,jJ,qn,qo,List.take_length]
  refine⟨Bn (by kernel_rfl),Int.le_refl _,⟨(λq h=>by cases h;rfl),hcs,(by omega),(by omega)⟩,⟨Nat.succ_pos _,(λq h=>by cases h;rfl),hcs2,(by omega),(by omega)⟩,Bn (by kernel_rfl),(i+1,⟨P.g,insF P.fs G⟩),⟨hlt,hP2.symm⟩,(by dsimp only;omega),BU (t:=⟨[(0,true,.one (.s 0)),(2,true,.one (.p 2 0 0)),(3,true,.one (.p 3 0 0)),(4,true,.one (.v (.int .i64 ((i+1:Nat):Int))))],
  [(0,.vec 0 zUc (l.map Un.c)),(2,.vec 0 fl3 [[.v (.slice none 0 0),.v (.slice none 0 0),.v (.slice none 0 0)]]),(3,.vec 0 fl3 [[.d (.sl Fq (P.g.c.map cSd)),.d (.sl GP (P.g.a.map Gy.r)),.s 99]]),(99,.vec 0 zFc ((insF P.fs G).map Fn.c))]⟩) ?_ (A2 [.fz 99] ?_)⟩
  .refine A2 [] ?_;simp only[seval,go_sem,fl3,fl4,Hw,dR,Fn.c,Fn.r,zFc,hins,List.map_append,List.flatMap_append]
  simp only[seval,go_sem,fl3,Hw,Zv,jK,zFc]
 |succ k=>
 have k1:decide ((0:Int)<((k+1:Nat):Int))=true:=by simp
 have w2:IntKind.i64.wrap (((k+1:Nat):Int)-1)=(k:Int):=by rw[wrap_i64 (by omega) (by omega)];omega
 have hkf:=yt (l:=P.fs) (k:=k) hk
 have hkl:(k:Int)<(P.fs.length:Int):=by omega
 have hkn:(0:Int)<=(k:Int):=by omega
 cases hgt:gtB (P.fs.getD k fnZ).name G.name with
 |true=>
  have hJ2:LH P.fs G.name P.fs.length=LH P.fs G.name k:=by rw[hJ];simp only[LH];exact if_pos hgt
  rw[qk]at hgt
  simp only[seval,go_sem,Gp,Ej,FK,Ha,A8,A9,Fn.c,AM,A4,A5,AF,LG,LF,Un.c,MC,MD,Gl.cc,fl3,fl4,k1,w2,hkf,Fn.r,hgt]
  refine⟨hkl,Bn (by kernel_rfl),k,⟨(by omega),hJ2⟩,(by omega),?_⟩
  refine A2 [] ?_;simp only[seval,go_sem,fl3,fl4,Hw,Fn.c,zFc]
 |false=>
  have hJ2:LH P.fs G.name P.fs.length=k+1:=by rw[hJ];simp only[LH];exact if_neg (by rw[hgt];decide)
  rw[qk]at hgt
  have hins:=jL P.fs G hJ2
  simp only[Fn.c]at hins
  have hcs:=Vf (P.fs.drop (k+1))
  have hcs2:=Vf (G::P.fs.drop (k+1))
  simp only[Fn.c,List.map_cons]at hcs hcs2
  simp only[seval,go_sem,Gp,Ej,FK,Ha,A8,A9,Fn.c,AM,A4,A5,AF,LG,LF,Un.c,MC,MD,Gl.cc,fl3,fl4,k1,w1,w2,hkf,Fn.r,hgt,jJ,qn,qo]
  have hdl:(List.drop (k+1) P.fs).length=P.fs.length-(k+1):=List.length_drop ..
  have htl:(List.take (k+1) P.fs).length=k+1:=by simp;omega
  refine⟨hkl,Bn (by kernel_rfl),(by omega),⟨(by omega),Int.le_refl _⟩,⟨(λq h=>by cases h;rfl),hcs,(by omega),(by omega)⟩,⟨Nat.succ_pos _,(λq h=>by cases h;rfl),hcs2,(by omega),(by omega)⟩,Bn (by kernel_rfl),(i+1,⟨P.g,insF P.fs G⟩),⟨hlt,hP2.symm⟩,(by dsimp only;omega),BU (t:=⟨[(0,true,.one (.s 0)),(2,true,.one (.p 2 0 0)),(3,true,.one (.p 3 0 0)),(4,true,.one (.v (.int .i64 ((i+1:Nat):Int))))],
 [(
  0,.vec 0 zUc (l.map Un.c)),(2,.vec 0 fl3 [[.v (.slice none 0 0),.v (.slice none 0 0),.v (.slice none 0 0)]]),(3,.vec 0 fl3 [[.d (.sl Fq (P.g.c.map cSd)),.d (.sl GP (P.g.a.map Gy.r)),.s 99]]),(99,.vec 0 zFc ((insF P.fs G).map Fn.c))]⟩) ?_ (A2 [.fz 99] ?_)⟩
  .refine A2 [] ?_;simp only[seval,go_sem,fl3,fl4,Hw,dR,Fn.c,Fn.r,zFc,hins,List.map_append,List.flatMap_append]
  .simp only[seval,go_sem,fl3,Hw,Zv,jK,zFc]
end
end Go.Proofs.YtapedeoheilnnaaGreat
namespace Go.Sy
open Go Go.RowKit
section
variable {P:Program}{X:Ctx}{w0:World}{n:Nat}
theorem Zw{s:St}{a:Act}{w:World}(h:Holds X w0 n s a w){t:Nat}(ht:lkp s.e t=none)(sl:List (Nat×Nat))(hs:∀p∈sl,lkp s.e p.1=some (true,.one (.p p.2 0 0))/\p.1≠t)(ns:List Nat)(hn:∀k∈ns,(lkp s.h k).isSome=true)(pn:Option (List (Nat×List C×List (List C)))):
  ∃I:Nm,a.tmps.size=n/\(∀p∈X.F,I p.1=p.2)/\(∀p∈sl,a.tmps[p.1]?=some ((I p.2).p 0 0))/\∀(F:Value) (df:List Deferred),Holds ⟨X.M,X.Z,ns.map λk=>(k,I k),pn,df,[]⟩ w0 n s { (a.put (some t) F) with defers:=df } w:=by
 obtain⟨hW,I,lab,fz,hA⟩:=h
 have hput:∀(F:Value) (j:Nat),j≠t->(a.put (some t) F).tmps[j]?=a.tmps[j]?:=by
  intro F j hj
  simp only[Act.put]
  rw[Array.getElem?_setIfInBounds,if_neg (Ne.symm hj)]
 refine⟨I,hA.n,λp hp=>(hA.m.fix p hp).2,λp hp=>?_,λF df=>⟨hW,I,lab,fz,by rw[<- hA.n];exact RX a (some t) F,⟨rfl,λp hp=>by cases hp⟩,λj g v hj=>?_,⟨hA.m.h,hA.m.wf,hA.m.own,hA.m.fzl,hA.m.fzo,hA.m.kept,λp hp=>?_⟩⟩⟩
 .obtain⟨h1,h2⟩:=hs p hp
  obtain⟨x,hx,hd⟩:=hA.e p.1 true _ h1
  simp only[if_true]at hd
  rw[hx,A4n hd]
 .have hjt:j≠t:=by rintro rfl;rw[ht]at hj;cases hj
  obtain⟨x,hx,hd⟩:=hA.e j g v hj
  exact⟨x,by show (a.put (some t) F).tmps[j]?=_;rw[hput F _ hjt];exact hx,hd⟩
 .grind
theorem jM{f:FuncId}{fn:Func}{c:Code}(hf:P.funcs[f]?=some fn)(hb:fn.body=some c)(mem:List MV)(w:World)(M:Nat->Prop)(I:Nm)(lab:Lab)(fz:Nat->Prop)(args:List SV)(mem':List (Option MV))(R:SV)(xs:List Value)
  (hA:AtW (mX M fz I mem.length) w I lab fz (lkp (GE 0 mem)) w) (hlen:xs.length=args.length) (hx:∀(j:Nat) (v:SV) (x:Value),args[j]?=some v->xs[j]?=some x->Ap (hp w) fz lab I (lkp (GE 0 mem)) v x)
  (hnm:∀v∈args,∀k∈v.names,k<mem.length) (hn:args.length<=fn.ntmps)
  (h:Ut (P:=P) (mX M fz I mem.length) w fn.ntmps c ⟨J7 0 args,GE 0 mem⟩ (bodyPostD P fn (LZ w M fz I mem.length mem' R))):Calls P f xs.toArray w (LZ w M fz I mem.length mem' R):=by
 refine calls_of_wp_defers hf hb (h _ w ⟨?_,I,lab,fz,?_,⟨rfl,λp hp=>by cases hp⟩,?_,hA⟩)
 .intro t g v ht _ k hk
  rw[H8]at ht
  simp only[Nat.zero_le,if_true,Nat.sub_zero,Option.map_eq_some_iff,jP]at ht
  exact AAn
 .simp_all
 .intro t g v ht
  rw[H8]at ht
  simp only[Nat.zero_le,if_true,Nat.sub_zero,Option.map_eq_some_iff,jP]at ht
  obtain⟨u,hu,rfl,rfl⟩:=ht
  have hlt:t<args.length:=(List.getElem?_eq_some_iff.1 hu).1
  have hlt2:t<xs.length:=by omega
  refine⟨xs[t],?_,?_⟩
  .grind
  .simp only[if_true]
   exact hx t u _ hu (List.getElem?_eq_getElem hlt2)
theorem dU{X':Ctx}{w:World}{I:Nm}{lab:Lab}{fz:Nat->Prop}{H:Hp}(hM:X'.M=X.M)(hZ:X'.Z=X.Z)(hF:∀p∈X'.F,p∈X.F)(h:AtW X w0 I lab fz H w):AtW X' w0 I lab fz H w:=
 ⟨h.h,h.wf,by rw[hM];exact h.own,h.fzl,by rw[hM,hZ];exact h.fzo,by rw[hM];exact h.kept,λp hp=>h.fix p (hF p hp)⟩
theorem tl{M fz0:Nat->Prop}{I0:Nm}{m:Nat}{s:St}{a:Act}{w:World}{fn:Func}{R:SV}{mem':List (Option MV)}(hM:M=X.M)(hZ:fz0=X.Z)(hF:∀p∈memF I0 0 m,p∈X.F)(hl:m<=mem'.length)(h:Mx P X fn.results.toList (pe R mem') s)(hs:Holds X w0 n s a w):
  ∃x,(results fn a.tmps).run P w= .ok x w/\LZ w0 M fz0 I0 m mem' R (.returned x) w:=by
 obtain⟨cs,s',vs,h1,h2,h3,h4,h5,h6⟩:=h
 obtain⟨_,I',lab',fz',hA'⟩:=Gm h1 a w hs
 obtain⟨x,x1,x2⟩:=K4 hA' h2 h3
 rw[h4]at x2
 refine⟨x,x1,x,I',lab',fz',rfl,Qo (dU (X:=X) (X':=mX M fz0 I0 m) hM hZ hF hA'.m) h6 (λp hp'=>?_),Nv h5 x2⟩
 obtain⟨q1,q2,_⟩:=Ih hp'
 exact PI _ _ _ q1 (by omega)
theorem nL{ops:Array Oper}(sp:List (Spec P X w0)){j0:Nat}{l:List Oper}{st:St}{Q:St->Prop}{Qd:Exit->Act->World->Prop}{a:Act}{w:World}(hP:∀ch a w,Hn X a->Kh X w0 ch w->Qd (.panic ch) a w)(hQ:∀s' a w,Q s'->Holds X w0 n s' a w->Qd .normal a w)
  (hl:∀j,l[j]?=ops[j0+j]?) (hv:K3 sp n ops l st [] ZX Q) (hs:Holds X w0 n st a w):wpOps P ops Qd (List.range' j0 l.length) a w:=by
 obtain⟨hW,I,lab,fz,hA⟩:=hs
 obtain⟨xs,fs,s',h1,_,h2,h3,h4⟩:=PH sp n ops _ _ _ _ _ hv
 refine V7 hP l j0 _ _ xs fs a w I lab fz hl h1 hW hA λa' w' I' lab' fz' hW' hA'=>?_
 have e1:DV xs 0 (λ_=>true) (lkp st.e)=KL xs (lkp st.e):=rfl
 have e2:D7 xs 0 (λ_=>true) (lkp st.h)=KM xs (lkp st.h):=rfl
 rw[e1,e2,<- h3,<- h4]at hW' hA'
 exact hQ s' a' w' (h2 (λt p ht=>hA'.m.h t _ ht)) ⟨hW',I',lab',fz',hA'⟩
end
end Go.Sy
namespace Go.Proofs.YtapedeoheilnnaaGreat
open Go Go.Sy Go.RowKit
abbrev Zx(p:Pg×Ms)(fn:List UInt8)(al:Int)(kd:Int):Prop:=True
abbrev Gu(p:Pg×Ms)(fn:List UInt8)(al:Int)(kd:Int):Bool:=true
abbrev Ub(p:Pg×Ms)(fn:List UInt8)(al:Int)(kd:Int):SV:=.tup []
abbrev GO(p:Pg×Ms)(fn:List UInt8)(al:Int)(kd:Int):MV:=mcW p.1 (p.2.brk fn al kd)
noncomputable abbrev O4:ArgM ((Pg×Ms)×(List UInt8)×(Int)×(Int)×Unit):=(amP (mMc) (amD (cStr) (amD (cInt .i64) (amD (cInt .i64) am0))))
abbrev nM:Prop:=Q5 Tryz.prog 51 ((O4).args 0) (O4).mem (λp:(Pg×Ms)×(List UInt8)×(Int)×(Int)×Unit=>Zx p.1 p.2.1 p.2.2.1 p.2.2.2.1) (λp:(Pg×Ms)×(List UInt8)×(Int)×(Int)×Unit=>Gu p.1 p.2.1 p.2.2.1 p.2.2.2.1) (λp:(Pg×Ms)×(List UInt8)×(Int)×(Int)×Unit=>Ub p.1 p.2.1 p.2.2.1 p.2.2.2.1) (λp:(Pg×Ms)×(List UInt8)×(Int)×(Int)×Unit=>[some (GO p.1 p.2.1 p.2.2.1 p.2.2.2.1)])
theorem nN:∀p,(λp:(Pg×Ms)×(List UInt8)×(Int)×(Int)×Unit=>Zx p.1 p.2.1 p.2.2.1 p.2.2.2.1) p->∀q,some q∈(λp:(Pg×Ms)×(List UInt8)×(Int)×(Int)×Unit=>[some (GO p.1 p.2.1 p.2.2.1 p.2.2.2.1)]) p->∀r∈q.2,∀c∈r,c.names=[]:=by intro p _;exact QG _ _
section
attribute [local go_sem] Ms.brk Ms.exh Ms.spd Gw IH II mcC mcW EQ Dz GW GV
theorem tm:nM:=by
 rintro ⟨p,fn,al,kd,_u⟩ w M I lab fz xs hc hA hl hx
 refine N0 Tryz.func51 rfl _ w M I lab fz (Gu p fn al kd) (GO p fn al kd) [] [] ((O4).args 0 ⟨p,fn,al,kd,_u⟩) (Ub p fn al kd) xs hA hl hx (λv hv k hk=>Nat.lt_of_lt_of_eq ((O4).an 0 ⟨p,fn,al,kd,_u⟩ v hv k hk).2 (Nat.zero_add _)) (jN rfl) (nN ⟨p,fn,al,kd,_u⟩ hc _ (List.mem_singleton.2 rfl)) ?_
 clear hx hl hA xs
 simp only[Tryz.f51]
 obtain⟨P,m⟩:=p
 simp only[seval,go_sem,Gu,GO]
 repeat refine AX ?_
 all_goals first|(refine A1 [] ?_;simp only[seval,go_sem,bne,Ub,Gu,GO,Lk])|exact KA
theorem KF8{p:Prop}(h:p:=by intro p _;exact QG _ _):p:=h
noncomputable def IG{X:Ctx}{w0:World}:Sy.Spec Tryz.prog X w0:=Q6 51 Tryz.call51 (O4) _ _ _ _ KF1 KF0 KF8 tm
abbrev dV(p:Pg×Ms):Prop:=True
abbrev FZ(p:Pg×Ms):Bool:=true
abbrev X2(p:Pg×Ms):SV:=.tup []
abbrev FD(p:Pg×Ms):MV:=mcW p.1 p.2.exh
noncomputable abbrev Q7:ArgM ((Pg×Ms)×Unit):=(amP (mMc) am0)
abbrev tn:Prop:=Q5 Tryz.prog 72 ((Q7).args 0) (Q7).mem (λp:(Pg×Ms)×Unit=>dV p.1) (λp:(Pg×Ms)×Unit=>FZ p.1) (λp:(Pg×Ms)×Unit=>X2 p.1) (λp:(Pg×Ms)×Unit=>[some (FD p.1)])
theorem tp:∀p,(λp:(Pg×Ms)×Unit=>dV p.1) p->∀q,some q∈(λp:(Pg×Ms)×Unit=>[some (FD p.1)]) p->∀r∈q.2,∀c∈r,c.names=[]:=by intro p _;exact QG _ _
theorem yu:tn:=by
 rintro ⟨p,_u⟩ w M I lab fz xs hc hA hl hx
 refine N0 Tryz.func72 rfl _ w M I lab fz (FZ p) (FD p) [] [] ((Q7).args 0 ⟨p,_u⟩) (X2 p) xs hA hl hx (λv hv k hk=>Nat.lt_of_lt_of_eq ((Q7).an 0 ⟨p,_u⟩ v hv k hk).2 (Nat.zero_add _)) (jN rfl) (tp ⟨p,_u⟩ hc _ (List.mem_singleton.2 rfl)) ?_
 clear hx hl hA xs
 simp only[Tryz.f72]
 obtain⟨P,m⟩:=p
 simp only[seval,go_sem,FZ,FD]
 repeat refine AX ?_
 all_goals first|(refine A1 [] ?_;simp only[seval,go_sem,bne,X2,FZ,FD,Lk])|exact KA
noncomputable def Fb{X:Ctx}{w0:World}:Sy.Spec Tryz.prog X w0:=Q6 72 Tryz.call72 (Q7) _ _ _ _ KF1 KF0 KF8 yu
abbrev dW(p:Pg×Ms):Prop:=True
abbrev Fc(p:Pg×Ms):Bool:=p.2.out
abbrev TM(p:Pg×Ms):SV:=.tup []
abbrev FE(p:Pg×Ms):MV:=mcW p.1 (if p.2.out=true then p.2.exh else p.2.spd)
noncomputable abbrev Q8:ArgM ((Pg×Ms)×Unit):=(amP (mMc) am0)
abbrev tq:Prop:=Q5 Tryz.prog 106 ((Q8).args 0) (Q8).mem (λp:(Pg×Ms)×Unit=>dW p.1) (λp:(Pg×Ms)×Unit=>Fc p.1) (λp:(Pg×Ms)×Unit=>TM p.1) (λp:(Pg×Ms)×Unit=>[some (FE p.1)])
theorem tt:∀p,(λp:(Pg×Ms)×Unit=>dW p.1) p->∀q,some q∈(λp:(Pg×Ms)×Unit=>[some (FE p.1)]) p->∀r∈q.2,∀c∈r,c.names=[]:=by intro p _;exact QG _ _
attribute[local go_sem] FZ Fc Fb FD FE in
theorem yw:tq:=by
 rintro ⟨p,_u⟩ w M I lab fz xs hc hA hl hx
 refine N0 Tryz.func106 rfl _ w M I lab fz (Fc p) (FE p) [Fb] [] ((Q8).args 0 ⟨p,_u⟩) (TM p) xs hA hl hx (λv hv k hk=>Nat.lt_of_lt_of_eq ((Q8).an 0 ⟨p,_u⟩ v hv k hk).2 (Nat.zero_add _)) (jN rfl) (tt ⟨p,_u⟩ hc _ (List.mem_singleton.2 rfl)) ?_
 clear hx hl hA xs
 simp only[Tryz.f106]
 obtain⟨P,m⟩:=p
 cases ho:m.out with
 |true=>
  have h1:decide (m.fuel<1)=true:=ho
  simp only[seval,go_sem,ho,h1]
  repeat refine AX ?_
  all_goals first|(refine A1 [] ?_;simp only[seval,go_sem,bne,TM,Lk,ho])|exact KA
 |false=>
 have h1:decide (m.fuel<1)=false:=ho
 simp only[seval,go_sem,ho,h1]
 repeat refine AX ?_
 refine A1 [] ?_;simp only[seval,go_sem,bne,TM,Lk,ho]
noncomputable def Fe{X:Ctx}{w0:World}:Sy.Spec Tryz.prog X w0:=Q6 106 Tryz.call106 (Q8) _ _ _ _ KF1 KF0 KF8 yw
end
open Go Go.Sy Go.RowKit
theorem FN(e:Ex):(SV.one (exC e)).tupB=false:=rfl
theorem FO(e:Cd):(SV.one (cdC e)).tupB=false:=rfl
theorem Gv(q:Fa):(⟨q.nm,q.ret,q.P,q.m,q.vs⟩:Fa)=q:=rfl
noncomputable def cSp:Cod Sm:=Hl (λs=>.one (.dp s.r)) (λv a b h h'=>by
 cases v with
 |one c=>
  rcases h with rfl|⟨_,h2⟩
  .rcases h' with h|⟨_,h4⟩
   .simp only[C.dp.injEq]at h
    exact Mh a b h
   cases h4
  cases h2
 |agg l=>exact h.elim
 |tup l=>exact h.elim) (λs=>rfl)
theorem LI(s:Sm):cSp.e s= .one (.dp s.r):=rfl
theorem LJ(k no:Int)(x y:List UInt8)(e f:Ex)(cd:Cd)(ar:List Ar)(th el:List Sm):cSp.d (.one (.dp [.v (.int .i64 k),.v (.string (bs x)),.v (.string (bs y)),e.d,f.d,cd.d,.sl zAr (ar.map Ar.r),.sl zSm (th.map Sm.r),.sl zSm (el.map Sm.r),.v (.int .i64 no)]))=some (.mk k x y e f cd ar th el no):=by
 have h:cSp.d (.one (.dp (Sm.mk k x y e f cd ar th el no).r))=some (.mk k x y e f cd ar th el no):=E4 (e:=λs:Sm=>.one (.dp s.r)) (F4 _)
 rw[Fx]at h;exact h
theorem Vg(l:List (List UInt8×Int))(s:List UInt8):AH ((mpI l).map λp=>(p.1,[C.v p.2])) s=(AH l s).map λi=>[.v (.int .i64 i)]:=by
 unfold mpI
 rw[Kg (λx:Value=>[C.v x]),Kg (λx:Int=>Value.int .i64 x),Option.map_map];rfl
theorem CP(P:Pg)(s:List UInt8):AH ((mpI (fI P.g.c)).map λp=>(p.1,[C.v p.2])) s=(P.ci s).map λi=>[.v (.int .i64 i)]:=Vg _ _
theorem CQ(P:Pg)(s:List UInt8):AH ((mpI (fI (P.g.a.map Gy.s))).map λp=>(p.1,[C.v p.2])) s=(P.ai s).map λi=>[.v (.int .i64 i)]:=Vg _ _
theorem CR(P:Pg)(s:List UInt8):AH ((mpI (fI (P.fs.map Fn.name))).map λp=>(p.1,[C.v p.2])) s=(P.fi s).map λi=>[.v (.int .i64 i)]:=Vg _ _
theorem CS(vs:Vs)(s:List UInt8):AH (vsC vs) s=(AH vs s).map Va.c:=Kg Va.c s vs
theorem MQ(vs:Vs)(s:List UInt8)(p:Bool)(n:Int)(t:List UInt8):B5 (vsC vs) s [.v (.bool p),.v (.int .i64 n),.v (.string (bs t))]=vsC (B5 vs s ⟨p,n,t⟩):=OW Va.c s ⟨p,n,t⟩ vs
theorem JI(vs:Vs):List.flatMap (λp=>List.flatMap C.names p.snd) (vsC vs)=[]:=List.flatMap_eq_nil_iff.2 λp hp=>List.flatMap_eq_nil_iff.2 λc hc=>Vi vs c (List.mem_flatMap.2 ⟨p,hp,hc⟩)
theorem JJ(f:Nat->Nat)(vs:Vs):(vsC vs).map (λp=>(p.1,p.2.map (rnC f)))=vsC vs:=DR λp hp=>by
 show (p.1,p.2.map _)=p
 rw[DR λc hc=>F8 (Vi vs c (List.mem_flatMap.2 ⟨p,hp,hc⟩))]
theorem A0(t:Nat)(ag:Bool)(es:List (List UInt8×List C))(r:List (Nat×Ch))(K:St->Prop):J6 ((t,.mp ag es)::r) K=J6 r K:=rfl
theorem MR{l:List Nb}{i:Int}(h:0<=i/\i<(l.length:Int))(z:List C):(l.map Nb.c).getD i.toNat z=[.v (.string (bs (l.getD i.toNat ⟨[],0⟩).s)),.v (.int .i64 (l.getD i.toNat ⟨[],0⟩).n)]:=by
 have h1:i.toNat<l.length:=by omega
 simp[List.getD,h1,Nb.c]
theorem Q9{l:List Na}{i:Int}(h:0<=i/\i<(l.length:Int))(z:List C):(l.map Na.c).getD i.toNat z=[.v (.string (bs (l.getD i.toNat ⟨[],[]⟩).s)),.ov zI ((l.getD i.toNat ⟨[],[]⟩).l.map cI)]:=by
 have h1:i.toNat<l.length:=by omega
 simp[List.getD,h1,Na.c]
abbrev tu(q:Fa)(s:Sm)(kd:Int):Prop:=True
abbrev D8(q:Fa)(s:Sm)(kd:Int):Bool:=true
abbrev Cn(q:Fa)(s:Sm)(kd:Int):Fa:={ q with m:=q.m.brk q.nm s.no kd }
abbrev Cy(q:Fa)(s:Sm)(kd:Int):Fa:={ q with m:=q.m.brk q.nm s.no kd }
abbrev TN(q:Fa)(s:Sm)(kd:Int):SV:=.tup []
theorem tv:∀b,∀v∈ArgC.e (acS (cSp) (acS (cInt .i64) ac0)) b,v.tupB=false:=by rintro ⟨x0,x1,_⟩ v hv;simp only[FV,FU,List.mem_cons,List.not_mem_nil,or_false]at hv;rcases hv with rfl|rfl<;>first|rfl|exact FN _|exact FO _
noncomputable abbrev TO:ArgL (Fa×(Sm)×(Int)×Unit):=amFr (acS (cSp) (acS (cInt .i64) ac0)) tv
abbrev TP:Prop:=Dj Tryz.prog 109 (TO).args (TO).mem (λp:(Fa×(Sm)×(Int)×Unit)=>tu p.1 p.2.1 p.2.2.1) (λp:(Fa×(Sm)×(Int)×Unit)=>D8 p.1 p.2.1 p.2.2.1) (λp:(Fa×(Sm)×(Int)×Unit)=>TN p.1 p.2.1 p.2.2.1) (λp:(Fa×(Sm)×(Int)×Unit)=>Fa.memO (Cn p.1 p.2.1 p.2.2.1)) (λp:(Fa×(Sm)×(Int)×Unit)=>mlO (Fa.pan (Cy p.1 p.2.1 p.2.2.1)))
theorem KF4{p:Prop}(h:p:=by intro _;rfl):p:=h
noncomputable def X3{X:Ctx}{w0:World}(h:TP):Sy.Spec Tryz.prog X w0:=Dc 109 Tryz.call109 (TO) _ _ _ _ _ (id (by exact λp _ _=>have h:=Ek p.1 (Cn p.1 p.2.1 p.2.2.1);⟨h.1,h.2.1,rfl,h.2.2⟩)) (id (by exact λp _ _=>JM p.1 (Cy p.1 p.2.1 p.2.2.1))) (id (by exact λp _ _=>⟨(Ek p.1 (Cn p.1 p.2.1 p.2.2.1)).1,rfl⟩)) KF4 h
theorem Dk{X:Ctx}{w0:World}(h:TP):(X3 (X:=X) (w0:=w0) h).f=109:=rfl
def Dl{X:Ctx}{w0:World}(h:TP)(t:Nat)(args:List SV)(H:Hp):=@id ((X3 (X:=X) (w0:=w0) h).fn t args H=spL X _ t H _ _ _ _ _) rfl
theorem yx:TP:=by
 rintro ⟨q,s,kd,_u⟩ w M I lab fz xs hc hA hl hx
 refine Bz Tryz.func109 rfl (Fa.mem q) w M I lab fz (D8 q s kd) (Fa.pan (Cy q s kd)) (Fa.memO (Cn q s kd)) [IG] [] ((TO).args ⟨q,s,kd,_u⟩) (TN q s kd) xs hA hl hx (Hx _ _ _ _) (jN rfl) (Nat.le_refl _) rfl (JN _) ?_
 clear hx hl hA xs
 simp only[Tryz.f109]
 obtain⟨k0,x,y,e,f,cd,ar,th,el,no⟩:=s
 simp only[seval,go_sem,Gz,H4,H5,Gx,IJ,IK,F5,F6,IL,Hm,IM,Gv,Fa.mem,Fa.memO,Fa.pan,frC,lmH,lmO,chL,ML.ch,Cj,Ck,DH,CU,E8,nmX,xt,Di,ML.ren,rnC,E5,EE,vrQ,E9,ED,Dh,D3,D4,DS,Cu,Ci,fcN,LI,LJ,Bi,Be,Bj,Bk,Bl,DI,DJ,JI,JJ,↓A0,Fx,Sm.k,Sm.x,Sm.y,Sm.e,Sm.f,Sm.cd,Sm.ar,Sm.th,Sm.el,Sm.no,A4,A5,AF,IH,II,Gw,mcC,mcW,Dz,EQ,GV,GW,Ms.brk,Ms.exh,Ms.spd,IG,Gu,GO,D8,Cy,Cn]
 repeat refine AX ?_
 all_goals first|(refine A1 [] ?_;simp only[seval,go_sem,bne,TN,D8,Cn,Cy,A3,Gz,H4,H5,Gx,IJ,IK,F5,F6,IL,Hm,IM,Gv,Fa.mem,Fa.memO,Fa.pan,frC,lmH,lmO,chL,ML.ch,Cj,Ck,DH,CU,E8,nmX,xt,Di,ML.ren,rnC,E5,EE,vrQ,E9,ED,Dh,D3,D4,DS,Cu,Ci,fcN,LI,LJ,Bi,Be,Bj,Bk,Bl,DI,DJ,JI,JJ,↓A0,Fx,Sm.k,Sm.x,Sm.y,Sm.e,Sm.f,Sm.cd,Sm.ar,Sm.th,Sm.el,Sm.no,A4,A5,AF,IH,II,Gw,mcC,mcW,Dz,EQ,GV,GW,Ms.brk,Ms.exh,Ms.spd])|exact KA
noncomputable def CN{X:Ctx}{w0:World}:Sy.Spec Tryz.prog X w0:=X3 yx
end Go.Proofs.YtapedeoheilnnaaGreat
