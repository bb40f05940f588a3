/- Programs of several units, walked. Conditions: the texts are small and not too deep, the globals' texts are known. -/
import Derived.Test.YtapedeoheilnnaaGreatPg1
import Derived.Test.YtapedeoheilnnaaGreatGq
import Derived.Test.YtapedeoheilnnaaGreatSy36
import Derived.Test.YtapedeoheilnnaaGreatRm2
set_option linter.all false
set_option maxRecDepth 20000
set_option maxHeartbeats 16000000
namespace Go.Proofs.YtapedeoheilnnaaGreat
open Go Go.Sy Go.RowKit
theorem yN{P:Prop}(h:P:=by (repeat' first|exact ck|with_reducible apply And.intro|intro _);all_goals first|exact trivial|exact KZ|(refine A1 [] ?_;simp only[seval,go_sem,bne,Wx,Pi,ho])):P:=h
def gtB(a b:List UInt8):Bool:=!(Op.bytesLess a b||a==b)
theorem qM(a b:List UInt8):gtB a b = !(Op.bytesLess a b||a==b):=rfl
def fnZ:Fn:=⟨[],[],[],[]⟩
def Lb(fs:List Fn)(nm:List UInt8):Nat->Nat
 |0=>0
 |k+1=>if gtB (fs.getD k fnZ).name nm=true then Lb fs nm k else k+1
def insF(fs:List Fn)(f:Fn):List Fn:=fs.take (Lb fs f.name fs.length)++f::fs.drop (Lb fs f.name fs.length)
def upP(m:Nat)(gl:List UInt8->List Gi)(P:Pg)(u:Un):Pg:=
 if (u.s==gloB)=true then ⟨giV (gl u.t),P.fs⟩
 else if ((GO u.t).2.2 != 0)=true then P
 else if ((JS (GO u.t).1 u.s m).2.2 != 0)=true then P
 else ⟨P.g,insF P.fs (JS (GO u.t).1 u.s m).1⟩
def prF(m:Nat)(gl:List UInt8->List Gi)(l:List Un):Pg:=l.foldl (upP m gl) ⟨⟨[],[]⟩,[]⟩
theorem qN{m:Nat}{gl:List UInt8->List Gi}{l:List Un}{i:Nat}{u:Un}(h:l[i]?=some u):prF m gl (l.take (i+1))=upP m gl (prF m gl (l.take i)) u:=by
 unfold prF
 rw[List.take_add_one,h];simp
theorem ct(fs:List Fn)(nm:List UInt8):∀k,Lb fs nm k<=k
 |0=>Nat.le_refl _
 |k+1=>by
  simp only[Lb]
  split
  .have:=ct fs nm k;omega
  exact Nat.le_refl _
theorem mj(fs:List Fn)(f:Fn):(insF fs f).length=fs.length+1:=by
 have:=ct fs f.name fs.length
 simp[insF];omega
theorem tC(m:Nat)(gl:List UInt8->List Gi)(P:Pg)(u:Un):(upP m gl P u).fs.length<=P.fs.length+1:=by
 unfold upP
 split
 .exact Nat.le_succ _
 split
 .exact Nat.le_succ _
 split
 .exact Nat.le_succ _
 exact Nat.le_of_eq (mj _ _)
theorem Wt(m:Nat)(gl:List UInt8->List Gi)(l:List Un):∀i,i<=l.length->(prF m gl (l.take i)).fs.length<=i
 |0,_=>Nat.le_refl _
 |i+1,h=>by
  have hx:l[i]?=some l[i]:=List.getElem?_eq_getElem h
  rw[qN hx]
  have h1:=tC m gl (prF m gl (l.take i)) l[i]
  have h2:=Wt m gl l i (by omega)
  omega
theorem Hs(l:List Un):(l.map Un.c).flatMap (λr=>r.flatMap C.names)=[]:=List.flatMap_eq_nil_iff.2 λp hp=>by
 obtain⟨a,_,rfl⟩:=List.mem_map.1 hp
 rfl
theorem ZZ(k:Nat)(z:List D)(e:List (List D))(l:List Un):(l.map Un.c).map (λr=>r.map (fzC k z e))=l.map Un.c:=HP Un.c (λ_=>rfl) l
theorem iZ(l:List Fn):(l.map Fn.r).map (λr=>r.map oD)=l.map Fn.c:=by
 rw[List.map_map]
 exact List.map_congr_left λf _=>rfl
theorem VM(l:List Fn):Bj (l.map Fn.c):=by
 intro r h c hc
 obtain⟨f,_,rfl⟩:=List.mem_map.1 h
 simp only[Fn.c,List.mem_cons,List.not_mem_nil,or_false]at hc
 rcases hc with rfl|rfl|rfl|rfl<;>rfl
theorem ie(l:List Fn):ES (l.map Fn.c)=some (l.map Fn.r):=He Fn.c (λ_=>rfl) l
theorem cu(l:List Fn):(l.map Fn.c).flatMap (λr=>r.flatMap C.names)=[]:=List.flatMap_eq_nil_iff.2 λp hp=>by
 obtain⟨a,_,rfl⟩:=List.mem_map.1 hp
 rfl
theorem qO(l:List Fn)(p:Nat):List.take p (l.map Fn.r)=(l.take p).map Fn.r:=(List.map_take ..).symm
theorem qP(l:List Fn)(p:Nat):List.take (l.length-p) (List.drop p (l.map Fn.r))=(l.drop p).map Fn.r:=by
 rw[List.map_drop]
 exact List.take_of_length_le (by simp)
theorem A3r(l:List Fn):∃s b c d,(l.map Fn.r).getD 0 [D.v (Value.string (bs [])),D.v (Value.slice none 0 0),D.v (Value.slice none 0 0),D.v (Value.slice none 0 0)]=[.v (.string (bs s)),b,c,d]:=by
 cases l with
 |nil=>exact⟨_,_,_,_,rfl⟩
 |cons f l=>exact⟨_,_,_,_,rfl⟩
theorem ig(l:List Fn)(f:Fn){p:Nat}(h:Lb l f.name l.length=p):(l.take p).map Fn.c++f.c::(l.drop p).map Fn.c=(insF l f).map Fn.c:=by
 unfold insF;rw[h];simp
structure okUn(n m:Nat)(gl:List UInt8->List Gi)(u:Un):Prop where
 g:(u.s==gloB)=true->glO u.t (gl u.t)/\Sl (giV (gl u.t)).ns/\(giV (gl u.t)).c.length<=5000/\(giV (gl u.t)).a.length<=5000
 s:(u.s==gloB)=false->Dr u.t
 f:(u.s==gloB)=false->okF (GO u.t).1
 b:(u.s==gloB)=false->okB n m (GO u.t).1.body
def pqR(P:Pg):List C:=[.d (.sl Gf (P.g.c.map cSd)),.d (.sl Gw (P.g.a.map Gy.r)),.d (.sl zFn (P.fs.map Fn.r))]
theorem A3s{l:List Un}{i:Nat}{u:Un}(h:l[i]?=some u)(z:List C):(l.map Un.c).getD i z=u.c:=by simp[List.getD,h]
theorem yO{l:List Fn}{k:Nat}(h:k<l.length)(z:List D):(l.map Fn.r).getD k z=(l.getD k fnZ).r:=by simp[List.getD,h]
abbrev tD(n:Nat)(m:Nat)(gl:List UInt8->List Gi)(l:List Un):Prop:=l.length<=10/\∀u∈l,okUn n m gl u
abbrev Wu(n:Nat)(m:Nat)(gl:List UInt8->List Gi)(l:List Un):SV:=.agg (pqR (prF m gl l))
abbrev Wv(n:Nat)(m:Nat)(gl:List UInt8->List Gi)(l:List Un):List (Option MV):=[some (zUc,l.map Un.c)]
noncomputable abbrev NM:ArgM ((List Un)×Unit):=(amS (mUn) am0)
abbrev cv(n:Nat)(m:Nat)(gl:List UInt8->List Gi):Prop:=Bv Tryz.prog 25 ((NM).args 0) (NM).mem (λp:(List Un)×Unit=>tD n m gl p.1) (λp:(List Un)×Unit=>Wu n m gl p.1) (λp:(List Un)×Unit=>Wv n m gl p.1)
noncomputable def T7{X:Ctx}{w0:World}(n:Nat)(m:Nat)(gl:List UInt8->List Gi)(h:cv n m gl):Sy.Spec Tryz.prog X w0:=Cl 25 Tryz.call25 (NM) _ _ _ KF1 KF0 (id (by intro p _;exact yM _)) h
attribute [local go_sem] pqR zFn
theorem y_Prog(n:Nat)(m:Nat)(gl:List UInt8->List Gi):cv n m gl:=by
 rintro ⟨l,_u⟩ w M I lab fz xs hc hA hl hx
 refine Aa Tryz.func25 rfl ((NM).mem ⟨l,_u⟩) w M I lab fz [Ga,(Ec n m (Oo n m))] [] ((NM).args 0 ⟨l,_u⟩) ((λp:(List Un)×Unit=>Wv n m gl p.1) ⟨l,_u⟩) ((λp:(List Un)×Unit=>Wu n m gl p.1) ⟨l,_u⟩) xs hA hl hx (λv hv k hk=>by have:=(NM).an 0 ⟨l,_u⟩ v hv k hk;omega) (jN rfl) (jN rfl) ?_
 clear hx hl hA xs
 simp only[Tryz.f25]
 obtain⟨hl,hu⟩:=hc
 have hl:l.length<=10:=hl
 simp only[seval,go_sem,Ga,Ec,F9,HS,AE,AF,Fn.c,Ab,AA,AB,AN,L7,L6,Un.c,M2,M3,Gl.cc]
 refine AK (Y:=Nat×Pg) (λz=>z.1<=l.length/\z.2=prF m gl (l.take z.1))
  (λz=>⟨[(0,true,.one (.s 0)),(2,true,.one (.p 2 0 0)),(3,true,.one (.p 3 0 0)),(4,true,.one (.v (.int .i64 (z.1:Int))))],
   [(0,.vec 0 zUc (l.map Un.c)),(2,.vec 0 fl3 [[.v (.slice none 0 0),.v (.slice none 0 0),.v (.slice none 0 0)]]),(3,.vec 0 fl3 [pqR z.2])]⟩)
  (λz=>l.length-z.1) (0,⟨⟨[],[]⟩,[]⟩) ⟨Nat.zero_le _,rfl⟩ ?_ ?_
 .refine A4 [.nilr 3 0 0 1000 zSr,.fz 1000,.nilr 3 0 1 1001 zGc,.fz 1001,.nilr 3 0 2 1002 zFc,.fz 1002] ?_;simp only[seval,go_sem,fl3,zFc,zSr,zGc,Gf,Gw,Hs,ZZ]
 rintro ⟨i,P⟩ ⟨hi,hP⟩
 dsimp only at hi hP
 have w1:IntKind.i64.wrap ((i:Int)+1)=((i+1:Nat):Int):=by rw[wrap_i64 (by omega) (by omega)];rfl
 have hPl:P.fs.length<=i:=by rw[hP];exact Wt m gl l i hi
 cases hx:l[i]? with
 |none=>
  refine AZ [Ga,Ec n m (Oo n m)] [] _ _ _ ?_
  have g2:=List.getElem?_eq_none_iff.1 hx
  have g1:=B9 g2
  rw[List.take_of_length_le g2]at hP
  subst hP
  simp only[seval,go_sem,Ga,Ec,F9,HS,AE,AF,Fn.c,Ab,AA,AB,AN,L7,L6,Un.c,M2,M3,Gl.cc,g1]
  refine⟨(by decide),?_⟩
  refine A1 [] ?_;simp only[seval,go_sem,bne,Wu,Wv,Hs]
 |some u=>
 have hlt:=(List.getElem?_eq_some_iff.1 hx).1
 have g1:=B8 hlt
 have hut:=A3s hx
 have hP2:=qN (m:=m) (gl:=gl) hx
 rw[<- hP]at hP2
 obtain⟨kg,ks,kf,kb⟩:=hu u (List.mem_of_getElem? hx)
 obtain⟨us,ut⟩:=u
 dsimp only at kg ks kf kb
 refine AZ [Ga,Ec n m (Oo n m),F9 (gl ut) (eY (gl ut)),HS] [] _ _ _ ?_
 cases hg:(us==gloB) with
 |true=>
  have hg2:=hg
  simp only[gloB]at hg
  simp only[seval,go_sem,Ga,Ec,F9,HS,AE,AF,Fn.c,Ab,AA,AB,AN,L7,L6,Un.c,M2,M3,Gl.cc,g1,w1,hut,hg]
  obtain⟨ko,kn,kc,ka⟩:=kg hg2
  have hup:upP m gl P ⟨us,ut⟩=⟨giV (gl ut),P.fs⟩:=by unfold upP;exact if_pos hg2
  rw[hup]at hP2
  have hil:(i:Int)<(l.length:Int):=by omega
  refine⟨hil,hlt,hlt,hil,hlt,hlt,⟨ko.sm,ko.o,ko.n,ko.t⟩,⟨kc,ka,kn⟩,(by decide),(i+1,⟨giV (gl ut),P.fs⟩),⟨hlt,hP2.symm⟩,(by dsimp only;omega),A4 [] ?_⟩
  simp only[seval,go_sem,fl3,Hs]
 |false=>
 have hil:(i:Int)<(l.length:Int):=by omega
 obtain⟨⟨F,a1,r1⟩,hF⟩:∃x,GO ut=x:=⟨_,rfl⟩
 obtain⟨⟨G,a2,r2⟩,hR⟩:∃x,JS F us m=x:=⟨_,rfl⟩
 have hs:=ks hg
 have h1:=kf hg
 have h2:=kb hg
 rw[hF]at h1 h2
 dsimp only at h1 h2
 have hg2:=hg
 simp only[gloB]at hg
 cases e1:(r1==0) with
 |false=>
  have e1':(r1 != 0)=true:=by simp[bne,e1]
  have hup:upP m gl P ⟨us,ut⟩=P:=by unfold upP;rw[if_neg (by rw[hg2];decide),hF];exact if_pos e1'
  rw[hup]at hP2
  simp only[seval,go_sem,Ga,Ec,F9,HS,AE,AF,Fn.c,Ab,AA,AB,AN,L7,L6,Un.c,M2,M3,Gl.cc,g1,w1,hut,hg,hF,e1,e1']
  try simp only[A2,A3]
  repeat' first|exact ck|with_reducible apply And.intro|intro _
  all_goals try first|exact hs|exact hil|exact hlt|exact KZ
  refine⟨(i+1,P),⟨hlt,hP2.symm⟩,by dsimp only;omega,A4 [] ?_⟩
  simp only[seval,go_sem,fl3,Hs,Fn.c,zFc]
 |true=>
 have e1':(r1 != 0)=false:=by simp[bne,e1]
 cases e2:(r2==0) with
 |false=>
  have e2':(r2 != 0)=true:=by simp[bne,e2]
  have hup:upP m gl P ⟨us,ut⟩=P:=by
   unfold upP;rw[if_neg (by rw[hg2];decide),hF]
   dsimp only
   rw[if_neg (by rw[e1'];decide),hR];exact if_pos e2'
  rw[hup]at hP2
  simp only[seval,go_sem,Ga,Ec,F9,HS,AE,AF,Fn.c,Ab,AA,AB,AN,L7,L6,Un.c,M2,M3,Gl.cc,g1,w1,hut,hg,hF,hR,e1,e1',e2,e2']
  try simp only[A2,A3]
  repeat' first|exact ck|with_reducible apply And.intro|intro _
  all_goals try first|exact hs|exact h1|exact h2|exact hil|exact hlt|exact KZ
  refine⟨(i+1,P),⟨hlt,hP2.symm⟩,by dsimp only;omega,A4 [] ?_⟩
  simp only[seval,go_sem,fl3,Hs,Fn.c,zFc]
 |true=>
 have e2':(r2 != 0)=false:=by simp[bne,e2]
 have hup:upP m gl P ⟨us,ut⟩=⟨P.g,insF P.fs G⟩:=by
  unfold upP;rw[if_neg (by rw[hg2];decide),hF]
  dsimp only
  rw[if_neg (by rw[e1'];decide),hR];exact if_neg (by rw[e2'];decide)
 rw[hup]at hP2
 simp only[seval,go_sem,Ga,Ec,F9,HS,AE,AF,Fn.c,Ab,AA,AB,AN,L7,L6,Un.c,M2,M3,Gl.cc,g1,w1,hut,hg,hF,hR,e1,e1',e2,e2']
 have hil3:(i:Int)<9223372036854775807:=by omega
 refine⟨hil,hlt,hlt,hil,hlt,hlt,hs,hil,hlt,hlt,⟨h1,h2⟩,CH (by kernel_rfl),?_⟩
 refine AK (Y:=Nat) (λk=>k<=P.fs.length/\Lb P.fs G.name P.fs.length=Lb P.fs G.name k)
  (λk=>⟨[(0,true,.one (.s 0)),(2,true,.one (.p 2 0 0)),(3,true,.one (.p 3 0 0)),(4,true,.one (.v (.int .i64 (i:Int)))),(8,true,.one (.p 8 0 0)),(11,true,.one (.v (.int .i64 (k:Int))))],
   [(0,.vec 0 zUc (l.map Un.c)),(2,.vec 0 fl3 [[.v (.slice none 0 0),.v (.slice none 0 0),.v (.slice none 0 0)]]),(3,.vec 0 fl3 [pqR P]),(8,.vec 0 fl4 [G.c])]⟩)
  (λk=>k) P.fs.length ⟨Nat.le_refl _,rfl⟩ ?_ ?_
 .refine A4 [] ?_;simp only[seval,go_sem,fl3,fl4,Hs,Fn.c,zFc]
 rintro k ⟨hk,hJ⟩
 refine AZ [Ga,Ec n m (Oo n m)] [] _ _ _ ?_
 cases k with
 |zero=>
  obtain⟨s0,b0,c0,d0,h00⟩:=A3r P.fs
  have hins:=ig P.fs G (p:=0) hJ
  simp only[List.take_zero,List.drop_zero,List.map_nil,List.nil_append,Fn.c]at hins
  have hcs:=VM P.fs
  have hcs2:=VM (G::P.fs)
  simp only[Fn.c,List.map_cons]at hcs hcs2
  simp only[seval,go_sem,Ga,Ec,F9,HS,AE,AF,Fn.c,Ab,AA,AB,AN,L7,L6,Un.c,M2,M3,Gl.cc,fl3,fl4,h00,w1,iZ,qO,qP,List.take_length]
  refine⟨CH (by kernel_rfl),Int.le_refl _,⟨(λq h=>by cases h;rfl),hcs,(by omega),(by omega)⟩,⟨Nat.succ_pos _,(λq h=>by cases h;rfl),hcs2,(by omega),(by omega)⟩,CH (by kernel_rfl),(i+1,⟨P.g,insF P.fs G⟩),⟨hlt,hP2.symm⟩,(by dsimp only;omega),CJ (t:=⟨[(0,true,.one (.s 0)),(2,true,.one (.p 2 0 0)),(3,true,.one (.p 3 0 0)),(4,true,.one (.v (.int .i64 ((i+1:Nat):Int))))],
  [(0,.vec 0 zUc (l.map Un.c)),(2,.vec 0 fl3 [[.v (.slice none 0 0),.v (.slice none 0 0),.v (.slice none 0 0)]]),(3,.vec 0 fl3 [[.d (.sl Gf (P.g.c.map cSd)),.d (.sl Gw (P.g.a.map Gy.r)),.s 99]]),(99,.vec 0 zFc ((insF P.fs G).map Fn.c))]⟩) ?_ (A4 [.fz 99] ?_)⟩
  .refine A4 [] ?_;simp only[seval,go_sem,fl3,fl4,Hs,cu,Fn.c,Fn.r,zFc,hins,List.map_append,List.flatMap_append]
  simp only[seval,go_sem,fl3,Hs,ZZ,ie,zFc]
 |succ k=>
 have k1:decide ((0:Int)<((k+1:Nat):Int))=true:=by simp
 have w2:IntKind.i64.wrap (((k+1:Nat):Int)-1)=(k:Int):=by rw[wrap_i64 (by omega) (by omega)];omega
 have hkf:=yO (l:=P.fs) (k:=k) hk
 have hkl:(k:Int)<(P.fs.length:Int):=by omega
 have hkn:(0:Int)<=(k:Int):=by omega
 cases hgt:gtB (P.fs.getD k fnZ).name G.name with
 |true=>
  have hJ2:Lb P.fs G.name P.fs.length=Lb P.fs G.name k:=by rw[hJ];simp only[Lb];exact if_pos hgt
  rw[qM]at hgt
  simp only[seval,go_sem,Ga,Ec,F9,HS,AE,AF,Fn.c,Ab,AA,AB,AN,L7,L6,Un.c,M2,M3,Gl.cc,fl3,fl4,k1,w2,hkf,Fn.r,hgt]
  refine⟨hkl,CH (by kernel_rfl),k,⟨(by omega),hJ2⟩,(by omega),?_⟩
  refine A4 [] ?_;simp only[seval,go_sem,fl3,fl4,Hs,Fn.c,zFc]
 |false=>
  have hJ2:Lb P.fs G.name P.fs.length=k+1:=by rw[hJ];simp only[Lb];exact if_neg (by rw[hgt];decide)
  rw[qM]at hgt
  have hins:=ig P.fs G hJ2
  simp only[Fn.c]at hins
  have hcs:=VM (P.fs.drop (k+1))
  have hcs2:=VM (G::P.fs.drop (k+1))
  simp only[Fn.c,List.map_cons]at hcs hcs2
  simp only[seval,go_sem,Ga,Ec,F9,HS,AE,AF,Fn.c,Ab,AA,AB,AN,L7,L6,Un.c,M2,M3,Gl.cc,fl3,fl4,k1,w1,w2,hkf,Fn.r,hgt,iZ,qO,qP]
  have hdl:(List.drop (k+1) P.fs).length=P.fs.length-(k+1):=List.length_drop ..
  have htl:(List.take (k+1) P.fs).length=k+1:=by simp;omega
  refine⟨hkl,CH (by kernel_rfl),(by omega),⟨(by omega),Int.le_refl _⟩,⟨(λq h=>by cases h;rfl),hcs,(by omega),(by omega)⟩,⟨Nat.succ_pos _,(λq h=>by cases h;rfl),hcs2,(by omega),(by omega)⟩,CH (by kernel_rfl),(i+1,⟨P.g,insF P.fs G⟩),⟨hlt,hP2.symm⟩,(by dsimp only;omega),CJ (t:=⟨[(0,true,.one (.s 0)),(2,true,.one (.p 2 0 0)),(3,true,.one (.p 3 0 0)),(4,true,.one (.v (.int .i64 ((i+1:Nat):Int))))],
 [(
  0,.vec 0 zUc (l.map Un.c)),(2,.vec 0 fl3 [[.v (.slice none 0 0),.v (.slice none 0 0),.v (.slice none 0 0)]]),(3,.vec 0 fl3 [[.d (.sl Gf (P.g.c.map cSd)),.d (.sl Gw (P.g.a.map Gy.r)),.s 99]]),(99,.vec 0 zFc ((insF P.fs G).map Fn.c))]⟩) ?_ (A4 [.fz 99] ?_)⟩
  .refine A4 [] ?_;simp only[seval,go_sem,fl3,fl4,Hs,cu,Fn.c,Fn.r,zFc,hins,List.map_append,List.flatMap_append]
  .simp only[seval,go_sem,fl3,Hs,ZZ,ie,zFc]
end Go.Proofs.YtapedeoheilnnaaGreat
namespace Go.Sy
open Go Go.RowKit
section
variable {P:Program}{X:Ctx}{w0:World}{n:Nat}
theorem Za{s:St}{a:Act}{w:World}(h:Holds X w0 n s a w){t:Nat}(ht:lkp s.e t=none)(sl:List (Nat×Nat))(hs:∀p∈sl,lkp s.e p.1=some (true,.one (.p p.2 0 0))/\p.1≠t)(ns:List Nat)(hn:∀k∈ns,(lkp s.h k).isSome=true)(pn:Option (List (Nat×List C×List (List C)))):
  ∃I:Nm,a.tmps.size=n/\(∀p∈X.F,I p.1=p.2)/\(∀p∈sl,a.tmps[p.1]?=some ((I p.2).p 0 0))/\∀(F:Value) (df:List Deferred),Holds ⟨X.M,X.Z,ns.map λk=>(k,I k),pn,df,[]⟩ w0 n s { (a.put (some t) F) with defers:=df } w:=by
 obtain⟨hW,I,lab,fz,hA⟩:=h
 have hput:∀(F:Value) (j:Nat),j≠t->(a.put (some t) F).tmps[j]?=a.tmps[j]?:=by
  intro F j hj
  simp only[Act.put]
  rw[Array.getElem?_setIfInBounds,if_neg (Ne.symm hj)]
 refine⟨I,hA.n,λp hp=>(hA.m.fix p hp).2,λp hp=>?_,λF df=>⟨hW,I,lab,fz,by rw[<- hA.n];exact RN a (some t) F,⟨rfl,λp hp=>by cases hp⟩,λj g v hj=>?_,⟨hA.m.h,hA.m.wf,hA.m.own,hA.m.fzl,hA.m.fzo,hA.m.kept,λp hp=>?_⟩⟩⟩
 .obtain⟨h1,h2⟩:=hs p hp
  obtain⟨x,hx,hd⟩:=hA.e p.1 true _ h1
  simp only[if_true]at hd
  rw[hx,A4W hd]
 .have hjt:j≠t:=by rintro rfl;rw[ht]at hj;cases hj
  obtain⟨x,hx,hd⟩:=hA.e j g v hj
  exact⟨x,by show (a.put (some t) F).tmps[j]?=_;rw[hput F _ hjt];exact hx,hd⟩
 .obtain⟨k,hk,rfl⟩:=List.mem_map.1 hp
  exact⟨hn k hk,rfl⟩
theorem ii{f:FuncId}{fn:Func}{c:Code}(hf:P.funcs[f]?=some fn)(hb:fn.body=some c)(mem:List MV)(w:World)(M:Nat->Prop)(I:Nm)(lab:Lab)(fz:Nat->Prop)(args:List SV)(mem':List (Option MV))(R:SV)(xs:List Value)
  (hA:AtW (mX M fz I mem.length) w I lab fz (lkp (G4 0 mem)) w) (hlen:xs.length=args.length) (hx:∀(j:Nat) (v:SV) (x:Value),args[j]?=some v->xs[j]?=some x->Al (hp w) fz lab I (lkp (G4 0 mem)) v x)
  (hnm:∀v∈args,∀k∈v.names,k<mem.length) (hn:args.length<=fn.ntmps)
  (h:UZ (P:=P) (mX M fz I mem.length) w fn.ntmps c ⟨Iu 0 args,G4 0 mem⟩ (bodyPostD P fn (LR w M fz I mem.length mem' R))):Calls P f xs.toArray w (LR w M fz I mem.length mem' R):=by
 refine calls_of_wp_defers hf hb (h _ w ⟨?_,I,lab,fz,?_,⟨rfl,λp hp=>by cases hp⟩,?_,hA⟩)
 .intro t g v ht _ k hk
  rw[Gn]at ht
  simp only[Nat.zero_le,if_true,Nat.sub_zero,Option.map_eq_some_iff,jP]at ht
  obtain⟨u,hu,rfl,rfl⟩:=ht
  have:=hnm u (List.mem_of_getElem? hu) k hk
  show (lkp (G4 0 mem) k).isSome=true
  rw[G4,Hd]
  simp[this]
 .simp[hlen];omega
 .intro t g v ht
  rw[Gn]at ht
  simp only[Nat.zero_le,if_true,Nat.sub_zero,Option.map_eq_some_iff,jP]at ht
  obtain⟨u,hu,rfl,rfl⟩:=ht
  have hlt:t<args.length:=(List.getElem?_eq_some_iff.1 hu).1
  have hlt2:t<xs.length:=by omega
  refine⟨xs[t],?_,?_⟩
  .rw[Array.getElem?_append_left (by simpa using hlt2)]
   simp[hlt2]
  .simp only[if_true]
   exact hx t u _ hu (List.getElem?_eq_getElem hlt2)
theorem cw{X':Ctx}{w:World}{I:Nm}{lab:Lab}{fz:Nat->Prop}{H:Hp}(hM:X'.M=X.M)(hZ:X'.Z=X.Z)(hF:∀p∈X'.F,p∈X.F)(h:AtW X w0 I lab fz H w):AtW X' w0 I lab fz H w:=
 ⟨h.h,h.wf,by rw[hM];exact h.own,h.fzl,by rw[hM,hZ];exact h.fzo,by rw[hM];exact h.kept,λp hp=>h.fix p (hF p hp)⟩
theorem tE{M fz0:Nat->Prop}{I0:Nm}{m:Nat}{s:St}{a:Act}{w:World}{fn:Func}{R:SV}{mem':List (Option MV)}(hM:M=X.M)(hZ:fz0=X.Z)(hF:∀p∈memF I0 0 m,p∈X.F)(hl:m<=mem'.length)(h:Mn P X fn.results.toList (pB R mem') s)(hs:Holds X w0 n s a w):
  ∃x,(results fn a.tmps).run P w= .ok x w/\LR w0 M fz0 I0 m mem' R (.returned x) w:=by
 obtain⟨cs,s',vs,h1,h2,h3,h4,h5,h6⟩:=h
 obtain⟨_,I',lab',fz',hA'⟩:=GY h1 a w hs
 obtain⟨x,x1,x2⟩:=Jw hA' h2 h3
 rw[h4]at x2
 refine⟨x,x1,x,I',lab',fz',rfl,QS (cw (X:=X) (X':=mX M fz0 I0 m) hM hZ hF hA'.m) h6 (λp hp'=>?_),Nh h5 x2⟩
 obtain⟨q1,q2,_⟩:=IU hp'
 exact P1 _ _ _ q1 (by omega)
theorem ml{ops:Array Oper}(sp:List (Spec P X w0)){j0:Nat}{l:List Oper}{st:St}{Q:St->Prop}{Qd:Exit->Act->World->Prop}{a:Act}{w:World}(hP:∀ch a w,Hi X a->KY X w0 ch w->Qd (.panic ch) a w)(hQ:∀s' a w,Q s'->Holds X w0 n s' a w->Qd .normal a w)
  (hl:∀j,l[j]?=ops[j0+j]?) (hv:Jv sp n ops l st [] ZC Q) (hs:Holds X w0 n st a w):wpOps P ops Qd (List.range' j0 l.length) a w:=by
 obtain⟨hW,I,lab,fz,hA⟩:=hs
 obtain⟨xs,fs,s',h1,_,h2,h3,h4⟩:=P0 sp n ops _ _ _ _ _ hv
 refine Uo hP l j0 _ _ xs fs a w I lab fz hl h1 hW hA λa' w' I' lab' fz' hW' hA'=>?_
 have e1:DE xs 0 (λ_=>true) (lkp st.e)=KC xs (lkp st.e):=rfl
 have e2:Ct xs 0 (λ_=>true) (lkp st.h)=KD xs (lkp st.h):=rfl
 rw[e1,e2,<- h3,<- h4]at hW' hA'
 exact hQ s' a' w' (h2 (λt p ht=>hA'.m.h t _ ht)) ⟨hW',I',lab',fz',hA'⟩
end
end Go.Sy
namespace Go.Proofs.YtapedeoheilnnaaGreat
open Go Go.Sy Go.RowKit
abbrev Zb(p:Pg×Ms)(fn:List UInt8)(al:Int)(kd:Int):Prop:=True
abbrev Ge(p:Pg×Ms)(fn:List UInt8)(al:Int)(kd:Int):Bool:=true
abbrev UK(p:Pg×Ms)(fn:List UInt8)(al:Int)(kd:Int):SV:=.tup []
abbrev GD(p:Pg×Ms)(fn:List UInt8)(al:Int)(kd:Int):MV:=mcW p.1 (p.2.brk fn al kd)
noncomputable abbrev Nq:ArgM ((Pg×Ms)×(List UInt8)×(Int)×(Int)×Unit):=(amP (mMc) (amD (cStr) (amD (cInt .i64) (amD (cInt .i64) am0))))
abbrev mq:Prop:=Pf Tryz.prog 51 ((Nq).args 0) (Nq).mem (λp:(Pg×Ms)×(List UInt8)×(Int)×(Int)×Unit=>Zb p.1 p.2.1 p.2.2.1 p.2.2.2.1) (λp:(Pg×Ms)×(List UInt8)×(Int)×(Int)×Unit=>Ge p.1 p.2.1 p.2.2.1 p.2.2.2.1) (λp:(Pg×Ms)×(List UInt8)×(Int)×(Int)×Unit=>UK p.1 p.2.1 p.2.2.1 p.2.2.2.1) (λp:(Pg×Ms)×(List UInt8)×(Int)×(Int)×Unit=>[some (GD p.1 p.2.1 p.2.2.1 p.2.2.2.1)])
theorem mu:∀p,(λp:(Pg×Ms)×(List UInt8)×(Int)×(Int)×Unit=>Zb p.1 p.2.1 p.2.2.1 p.2.2.2.1) p->∀q,some q∈(λp:(Pg×Ms)×(List UInt8)×(Int)×(Int)×Unit=>[some (GD p.1 p.2.1 p.2.2.1 p.2.2.2.1)]) p->∀r∈q.2,∀c∈r,c.names=[]:=by intro p _;exact Pu _ _
attribute [local go_sem] Ms.brk Ms.exh Ms.spd Gg ID IE mcC mcW EG Dq GJ GI
theorem tF:mq:=by
 rintro ⟨p,fn,al,kd,_u⟩ w M I lab fz xs hc hA hl hx
 refine Mt Tryz.func51 rfl _ w M I lab fz (Ge p fn al kd) (GD p fn al kd) [] [] ((Nq).args 0 ⟨p,fn,al,kd,_u⟩) (UK p fn al kd) xs hA hl hx (λv hv k hk=>Nat.lt_of_lt_of_eq ((Nq).an 0 ⟨p,fn,al,kd,_u⟩ v hv k hk).2 (Nat.zero_add _)) (jN rfl) (mu ⟨p,fn,al,kd,_u⟩ hc _ (List.mem_singleton.2 rfl)) ?_
 clear hx hl hA xs
 simp only[Tryz.f51]
 obtain⟨P,m⟩:=p
 simp only[seval,go_sem,Ge,GD]
 try simp only[A2,A3]
 repeat' first|exact ck|with_reducible apply And.intro|intro _
 all_goals first|exact trivial|exact KZ|(refine A1 [] ?_;simp only[seval,go_sem,bne,UK,Ge,GD,Pi])
theorem KF8{p:Prop}(h:p:=by intro p _;exact Pu _ _):p:=h
noncomputable def IB{X:Ctx}{w0:World}:Sy.Spec Tryz.prog X w0:=Ph 51 Tryz.call51 (Nq) _ _ _ _ KF1 KF0 KF8 tF
abbrev cz(p:Pg×Ms):Prop:=True
abbrev FZ(p:Pg×Ms):Bool:=true
abbrev Ww(p:Pg×Ms):SV:=.tup []
abbrev FQ(p:Pg×Ms):MV:=mcW p.1 p.2.exh
noncomputable abbrev Pj:ArgM ((Pg×Ms)×Unit):=(amP (mMc) am0)
abbrev tG:Prop:=Pf Tryz.prog 72 ((Pj).args 0) (Pj).mem (λp:(Pg×Ms)×Unit=>cz p.1) (λp:(Pg×Ms)×Unit=>FZ p.1) (λp:(Pg×Ms)×Unit=>Ww p.1) (λp:(Pg×Ms)×Unit=>[some (FQ p.1)])
theorem tH:∀p,(λp:(Pg×Ms)×Unit=>cz p.1) p->∀q,some q∈(λp:(Pg×Ms)×Unit=>[some (FQ p.1)]) p->∀r∈q.2,∀c∈r,c.names=[]:=by intro p _;exact Pu _ _
theorem yP:tG:=by
 rintro ⟨p,_u⟩ w M I lab fz xs hc hA hl hx
 refine Mt Tryz.func72 rfl _ w M I lab fz (FZ p) (FQ p) [] [] ((Pj).args 0 ⟨p,_u⟩) (Ww p) xs hA hl hx (λv hv k hk=>Nat.lt_of_lt_of_eq ((Pj).an 0 ⟨p,_u⟩ v hv k hk).2 (Nat.zero_add _)) (jN rfl) (tH ⟨p,_u⟩ hc _ (List.mem_singleton.2 rfl)) ?_
 clear hx hl hA xs
 simp only[Tryz.f72]
 obtain⟨P,m⟩:=p
 simp only[seval,go_sem,FZ,FQ]
 try simp only[A2,A3]
 repeat' first|exact ck|with_reducible apply And.intro|intro _
 all_goals first|exact trivial|exact KZ|(refine A1 [] ?_;simp only[seval,go_sem,bne,Ww,FZ,FQ,Pi])
noncomputable def Fb{X:Ctx}{w0:World}:Sy.Spec Tryz.prog X w0:=Ph 72 Tryz.call72 (Pj) _ _ _ _ KF1 KF0 KF8 yP
abbrev dA(p:Pg×Ms):Prop:=True
abbrev Fc(p:Pg×Ms):Bool:=p.2.out
abbrev Wx(p:Pg×Ms):SV:=.tup []
abbrev FR(p:Pg×Ms):MV:=mcW p.1 (if p.2.out=true then p.2.exh else p.2.spd)
noncomputable abbrev Pk:ArgM ((Pg×Ms)×Unit):=(amP (mMc) am0)
abbrev tI:Prop:=Pf Tryz.prog 106 ((Pk).args 0) (Pk).mem (λp:(Pg×Ms)×Unit=>dA p.1) (λp:(Pg×Ms)×Unit=>Fc p.1) (λp:(Pg×Ms)×Unit=>Wx p.1) (λp:(Pg×Ms)×Unit=>[some (FR p.1)])
theorem tJ:∀p,(λp:(Pg×Ms)×Unit=>dA p.1) p->∀q,some q∈(λp:(Pg×Ms)×Unit=>[some (FR p.1)]) p->∀r∈q.2,∀c∈r,c.names=[]:=by intro p _;exact Pu _ _
attribute[local go_sem] FZ Fc Fb FQ FR in
theorem yQ:tI:=by
 rintro ⟨p,_u⟩ w M I lab fz xs hc hA hl hx
 refine Mt Tryz.func106 rfl _ w M I lab fz (Fc p) (FR p) [Fb] [] ((Pk).args 0 ⟨p,_u⟩) (Wx p) xs hA hl hx (λv hv k hk=>Nat.lt_of_lt_of_eq ((Pk).an 0 ⟨p,_u⟩ v hv k hk).2 (Nat.zero_add _)) (jN rfl) (tJ ⟨p,_u⟩ hc _ (List.mem_singleton.2 rfl)) ?_
 clear hx hl hA xs
 simp only[Tryz.f106]
 obtain⟨P,m⟩:=p
 cases ho:m.out with
 |true=>
  have h1:decide (m.fuel<1)=true:=ho
  simp only[seval,go_sem,ho,h1]
  try simp only[A2,A3]
  try exact yN
 |false=>
 have h1:decide (m.fuel<1)=false:=ho
 simp only[seval,go_sem,ho,h1]
 try simp only[A2,A3]
 try exact yN
noncomputable def Fe{X:Ctx}{w0:World}:Sy.Spec Tryz.prog X w0:=Ph 106 Tryz.call106 (Pk) _ _ _ _ KF1 KF0 KF8 yQ
theorem FD(e:Ex):(SV.one (exC e)).tupB=false:=rfl
theorem FE(e:Cd):(SV.one (cdC e)).tupB=false:=rfl
theorem H7(q:Fa):(⟨q.nm,q.ret,q.P,q.m,q.vs⟩:Fa)=q:=rfl
noncomputable def cSp:Cod Sm:=Hh (λs=>.one (.dp s.r)) (λv a b h h'=>by
 cases v with
 |one c=>
  rcases h with rfl|⟨_,h2⟩
  .rcases h' with h|⟨_,h4⟩
   .simp only[C.dp.injEq]at h
    exact MY a b h
   cases h4
  cases h2
 |agg l=>exact h.elim
 |tup l=>exact h.elim) (λs=>rfl)
theorem L8(s:Sm):cSp.e s= .one (.dp s.r):=rfl
theorem L9(k no:Int)(x y:List UInt8)(e f:Ex)(cd:Cd)(ar:List Ar)(th el:List Sm):cSp.d (.one (.dp [.v (.int .i64 k),.v (.string (bs x)),.v (.string (bs y)),e.d,f.d,cd.d,.sl zAr (ar.map Ar.r),.sl zSm (th.map Sm.r),.sl zSm (el.map Sm.r),.v (.int .i64 no)]))=some (.mk k x y e f cd ar th el no):=by
 have h:cSp.d (.one (.dp (Sm.mk k x y e f cd ar th el no).r))=some (.mk k x y e f cd ar th el no):=ED (e:=λs:Sm=>.one (.dp s.r)) (FA _)
 rw[Fl]at h;exact h
theorem VN(l:List (List UInt8×Int))(s:List UInt8):AD ((mpI l).map λp=>(p.1,[C.v p.2])) s=(AD l s).map λi=>[.v (.int .i64 i)]:=by
 unfold mpI
 rw[KX (λx:Value=>[C.v x]),KX (λx:Int=>Value.int .i64 x),Option.map_map];rfl
theorem CB(P:Pg)(s:List UInt8):AD ((mpI (fI P.g.c)).map λp=>(p.1,[C.v p.2])) s=(P.ci s).map λi=>[.v (.int .i64 i)]:=VN _ _
theorem CC(P:Pg)(s:List UInt8):AD ((mpI (fI (P.g.a.map Gy.s))).map λp=>(p.1,[C.v p.2])) s=(P.ai s).map λi=>[.v (.int .i64 i)]:=VN _ _
theorem CE(P:Pg)(s:List UInt8):AD ((mpI (fI (P.fs.map Fn.name))).map λp=>(p.1,[C.v p.2])) s=(P.fi s).map λi=>[.v (.int .i64 i)]:=VN _ _
theorem CF(vs:Vs)(s:List UInt8):AD (vsC vs) s=(AD vs s).map Va.c:=KX Va.c s vs
theorem MJ(vs:Vs)(s:List UInt8)(p:Bool)(n:Int)(t:List UInt8):B1 (vsC vs) s [.v (.bool p),.v (.int .i64 n),.v (.string (bs t))]=vsC (B1 vs s ⟨p,n,t⟩):=OK Va.c s ⟨p,n,t⟩ vs
theorem JC(vs:Vs):List.flatMap (λp=>List.flatMap C.names p.snd) (vsC vs)=[]:=List.flatMap_eq_nil_iff.2 λp hp=>List.flatMap_eq_nil_iff.2 λc hc=>VP vs c (List.mem_flatMap.2 ⟨p,hp,hc⟩)
theorem JD(f:Nat->Nat)(vs:Vs):(vsC vs).map (λp=>(p.1,p.2.map (rnC f)))=vsC vs:=DB λp hp=>by
 show (p.1,p.2.map _)=p
 rw[DB λc hc=>F1 (VP vs c (List.mem_flatMap.2 ⟨p,hp,hc⟩))]
theorem A0(t:Nat)(ag:Bool)(es:List (List UInt8×List C))(r:List (Nat×Ch))(K:St->Prop):It ((t,.mp ag es)::r) K=It r K:=rfl
theorem MK{l:List Nb}{i:Int}(h:0<=i/\i<(l.length:Int))(z:List C):(l.map Nb.c).getD i.toNat z=[.v (.string (bs (l.getD i.toNat ⟨[],0⟩).s)),.v (.int .i64 (l.getD i.toNat ⟨[],0⟩).n)]:=by
 have h1:i.toNat<l.length:=by omega
 simp[List.getD,h1,Nb.c]
theorem Pl{l:List Na}{i:Int}(h:0<=i/\i<(l.length:Int))(z:List C):(l.map Na.c).getD i.toNat z=[.v (.string (bs (l.getD i.toNat ⟨[],[]⟩).s)),.ov zI ((l.getD i.toNat ⟨[],[]⟩).l.map cI)]:=by
 have h1:i.toNat<l.length:=by omega
 simp[List.getD,h1,Na.c]
abbrev tK(q:Fa)(s:Sm)(kd:Int):Prop:=True
abbrev DG(q:Fa)(s:Sm)(kd:Int):Bool:=true
abbrev Cv(q:Fa)(s:Sm)(kd:Int):Fa:={ q with m:=q.m.brk q.nm s.no kd }
abbrev D4(q:Fa)(s:Sm)(kd:Int):Fa:={ q with m:=q.m.brk q.nm s.no kd }
abbrev T8(q:Fa)(s:Sm)(kd:Int):SV:=.tup []
theorem tL:∀b,∀v∈ArgC.e (acS (cSp) (acS (cInt .i64) ac0)) b,v.tupB=false:=by rintro ⟨x0,x1,_⟩ v hv;simp only[FM,FL,List.mem_cons,List.not_mem_nil,or_false]at hv;rcases hv with rfl|rfl<;>first|rfl|exact FD _|exact FE _
noncomputable abbrev T9:ArgL (Fa×(Sm)×(Int)×Unit):=amFr (acS (cSp) (acS (cInt .i64) ac0)) tL
abbrev TA:Prop:=DY Tryz.prog 109 (T9).args (T9).mem (λp:(Fa×(Sm)×(Int)×Unit)=>tK p.1 p.2.1 p.2.2.1) (λp:(Fa×(Sm)×(Int)×Unit)=>DG p.1 p.2.1 p.2.2.1) (λp:(Fa×(Sm)×(Int)×Unit)=>T8 p.1 p.2.1 p.2.2.1) (λp:(Fa×(Sm)×(Int)×Unit)=>Fa.memO (Cv p.1 p.2.1 p.2.2.1)) (λp:(Fa×(Sm)×(Int)×Unit)=>mlO (Fa.pan (D4 p.1 p.2.1 p.2.2.1)))
theorem KF3{p:Prop}(h:p:=by intro _;rfl):p:=h
noncomputable def Wy{X:Ctx}{w0:World}(h:TA):Sy.Spec Tryz.prog X w0:=DL 109 Tryz.call109 (T9) _ _ _ _ _ (id (by exact λp _ _=>have h:=Ee p.1 (Cv p.1 p.2.1 p.2.2.1);⟨h.1,h.2.1,rfl,h.2.2⟩)) (id (by exact λp _ _=>JG p.1 (D4 p.1 p.2.1 p.2.2.1))) (id (by exact λp _ _=>⟨(Ee p.1 (Cv p.1 p.2.1 p.2.2.1)).1,rfl⟩)) KF3 h
theorem Ds{X:Ctx}{w0:World}(h:TA):(Wy (X:=X) (w0:=w0) h).f=109:=rfl
def Dt{X:Ctx}{w0:World}(h:TA)(t:Nat)(args:List SV)(H:Hp):=@id ((Wy (X:=X) (w0:=w0) h).fn t args H=spL X _ t H _ _ _ _ _) rfl
theorem yR:TA:=by
 rintro ⟨q,s,kd,_u⟩ w M I lab fz xs hc hA hl hx
 refine Bn Tryz.func109 rfl (Fa.mem q) w M I lab fz (DG q s kd) (Fa.pan (D4 q s kd)) (Fa.memO (Cv q s kd)) [IB] [] ((T9).args ⟨q,s,kd,_u⟩) (T8 q s kd) xs hA hl hx (Ht _ _ _ _) (jN rfl) (Nat.le_refl _) rfl (JH _) ?_
 clear hx hl hA xs
 simp only[Tryz.f109]
 obtain⟨k0,x,y,e,f,cd,ar,th,el,no⟩:=s
 simp only[seval,go_sem,H9,HA,HB,H8,J0,J1,FF,FG,J2,IC,J3,H7,Fa.mem,Fa.memO,Fa.pan,frC,lmH,lmO,chL,ML.ch,Cg,Ci,DJ,CO,EE,nmX,xt,Dd,ML.ren,rnC,E1,EH,vrQ,EJ,EK,De,Cx,Cy,DP,Cr,Cf,fcN,L8,L9,CP,CA,CQ,CR,CS,DN,DO,JC,JD,↓A0,Fl,Sm.k,Sm.x,Sm.y,Sm.e,Sm.f,Sm.cd,Sm.ar,Sm.th,Sm.el,Sm.no,AA,AB,AN,ID,IE,Gg,mcC,mcW,Dq,EG,GI,GJ,Ms.brk,Ms.exh,Ms.spd,IB,Ge,GD,DG,D4,Cv]
 try simp only[A2,A3]
 repeat' first|exact ck|with_reducible apply And.intro|intro _
 all_goals first|exact trivial|exact KZ|(refine A1 [] ?_;simp only[seval,go_sem,bne,T8,DG,Cv,D4,A5,H9,HA,HB,H8,J0,J1,FF,FG,J2,IC,J3,H7,Fa.mem,Fa.memO,Fa.pan,frC,lmH,lmO,chL,ML.ch,Cg,Ci,DJ,CO,EE,nmX,xt,Dd,ML.ren,rnC,E1,EH,vrQ,EJ,EK,De,Cx,Cy,DP,Cr,Cf,fcN,L8,L9,CP,CA,CQ,CR,CS,DN,DO,JC,JD,↓A0,Fl,Sm.k,Sm.x,Sm.y,Sm.e,Sm.f,Sm.cd,Sm.ar,Sm.th,Sm.el,Sm.no,AA,AB,AN,ID,IE,Gg,mcC,mcW,Dq,EG,GI,GJ,Ms.brk,Ms.exh,Ms.spd])
noncomputable def CV{X:Ctx}{w0:World}:Sy.Spec Tryz.prog X w0:=Wy yR
end Go.Proofs.YtapedeoheilnnaaGreat
