/- The first of each name, walked. No conditions but those in each statement. -/
import Derived.Test.YtapedeoheilnnaaGreatRmd
set_option linter.all false
set_option maxRecDepth 20000
set_option maxHeartbeats 16000000
open List (mem_singleton)
namespace Go.Proofs.YtapedeoheilnnaaGreat
open Go Go.Sy Go.RowKit
variable{B:Type}{i:Int}
def pgR(P:Pg):List C:=[.d (.sl Fq (P.g.c.map cSd)),.d (.sl GP (P.g.a.map Gy.r)),.d (.sl zFn (P.fs.map Fn.r))]
abbrev zPg:List C:=[.v (.slice none 0 0),.v (.slice none 0 0),.v (.slice none 0 0)]
theorem uZ(a b:Pg)(h:pgR a=pgR b):a=b:=by
 obtain⟨⟨c,a⟩,fs⟩:=a
 obtain⟨⟨c',a'⟩,fs'⟩:=b
 simp only[pgR,List.cons.injEq,C.d.injEq,D.sl.injEq,true_and,and_true]at h
 rw[Aj QE h.1,Aj QF h.2.1,Aj WO h.2.2]
theorem QM(P:Pg):∀c∈pgR P,c.names=[]:=by
 intro c hc
 simp only[pgR,List.mem_cons,List.not_mem_nil,or_false]at hc
 exact AAt
noncomputable def mPg:RowM Pg:=MP zPg pgR QM
theorem P4:mPg.e=pgR:=rfl
theorem Ti:mPg.z=zPg:=rfl
theorem Tj(c:List (List UInt8))(a:List Gy)(fs:List Fn):mPg.d [.d (.sl Fq (c.map cSd)),.d (.sl GP (a.map Gy.r)),.d (.sl zFn (fs.map Fn.r))]=some ⟨⟨c,a⟩,fs⟩:=JG uZ ⟨⟨c,a⟩,fs⟩
structure Sta where
 cs:List Nb
 ar:List Na
def Nb.r(x:Nb):List D:=[.v (.string (bs x.s)),.v (.int .i64 x.n)]
def iD(n:Int):List D:=[.v (.int .i64 n)]
abbrev zIw:List D:=[.v (.int .i64 0)]
def Na.r(x:Na):List D:=[.v (.string (bs x.s)),.sl zIw (x.l.map iD)]
abbrev Hc:List D:=[.v (.string (bs [])),.v (.int .i64 0)]
abbrev Hd:List D:=[.v (.string (bs [])),.v (.slice none 0 0)]
def stR(s:Sta):List C:=[.d (.sl Hc (s.cs.map Nb.r)),.d (.sl Hd (s.ar.map Na.r))]
abbrev zSta:List C:=[.v (.slice none 0 0),.v (.slice none 0 0)]
theorem XO(a b:Nb)(h:a.r=b.r):a=b:=by
 obtain⟨s,n⟩:=a
 obtain⟨s',n'⟩:=b
 simp only[Nb.r,List.cons.injEq,D.v.injEq,Value.string.injEq,Value.int.injEq,true_and,and_true]at h
 rw[bs_inj h.1,h.2]
theorem aD(a b:Int)(h:iD a=iD b):a=b:=by simpa [iD] using h
theorem XP(a b:Na)(h:a.r=b.r):a=b:=by
 obtain⟨s,n⟩:=a
 obtain⟨s',n'⟩:=b
 simp only[Na.r,List.cons.injEq,D.v.injEq,D.sl.injEq,Value.string.injEq,true_and,and_true]at h
 rw[bs_inj h.1,Aj aD h.2]
theorem ua(a b:Sta)(h:stR a=stR b):a=b:=by
 obtain⟨c,a⟩:=a
 obtain⟨c',a'⟩:=b
 simp only[stR,List.cons.injEq,C.d.injEq,D.sl.injEq,true_and,and_true]at h
 rw[Aj XO h.1,Aj XP h.2]
theorem Vp(s:Sta):∀c∈stR s,c.names=[]:=by
 intro c hc
 simp only[stR,List.mem_cons,List.not_mem_nil,or_false]at hc
 rcases hc with rfl|rfl<;>rfl
noncomputable def mSt:RowM Sta:=MP zSta stR Vp
theorem Tk:mSt.e=stR:=rfl
theorem Tl:mSt.z=zSta:=rfl
theorem Tm(c:List Nb)(a:List Na):mSt.d [.d (.sl Hc (c.map Nb.r)),.d (.sl Hd (a.map Na.r))]=some ⟨c,a⟩:=JG ua ⟨c,a⟩
theorem A7i{l:List (List UInt8)}(h:0<=i/\i<(l.length:Int))(z:List D):(l.map cSd).getD i.toNat z=[.v (.string (bs (l.getD i.toNat [])))]:=by
 have h1:i.toNat<l.length:=by omega
 simp[List.getD,h1,cSd]
theorem A7j{l:List Gy}(h:0<=i/\i<(l.length:Int))(z:List D):(l.map Gy.r).getD i.toNat z=[.v (.string (bs ((l.map Gy.s).getD i.toNat []))),.v (.int .i64 (l.getD i.toNat ⟨[],0⟩).n)]:=by
 have h1:i.toNat<l.length:=by omega
 simp[List.getD,h1,Gy.r]
theorem A4J{l:List Fn}(h:0<=i/\i<(l.length:Int))(z:List D):(l.map Fn.r).getD i.toNat z=[.v (.string (bs ((l.map Fn.name).getD i.toNat []))),.sl zVr ((l.getD i.toNat ⟨[],[],[],[]⟩).ps.map Vr.r),.sl zVr ((l.getD i.toNat ⟨[],[],[],[]⟩).ls.map Vr.r),.sl zSm ((l.getD i.toNat ⟨[],[],[],[]⟩).body.map Sm.r)]:=by
 have h1:i.toNat<l.length:=by omega
 simp[List.getD,h1,Fn.r,dS]
theorem rE{l:List Nb}(h:0<=i/\i<(l.length:Int))(z:List D):(l.map Nb.r).getD i.toNat z=[.v (.string (bs ((l.map Nb.s).getD i.toNat []))),.v (.int .i64 (l.getD i.toNat ⟨[],0⟩).n)]:=by
 have h1:i.toNat<l.length:=by omega
 simp[List.getD,h1,Nb.r]
theorem rF{l:List Na}(h:0<=i/\i<(l.length:Int))(z:List D):(l.map Na.r).getD i.toNat z=[.v (.string (bs ((l.map Na.s).getD i.toNat []))),.sl zIw ((l.getD i.toNat ⟨[],[]⟩).l.map iD)]:=by
 have h1:i.toNat<l.length:=by omega
 simp[List.getD,h1,Na.r]
noncomputable def fnK{B:Type}(F:FuncId)(mr:RowM B)(k f:Nat)(n:Int):Option Ch->Option ((Int×B)×List Nat)
 |some (.vec _ z [r])=>if f=F/\z.length=mr.z.length/\zT z=none then (mr.d r).map λb=>((n,b),[k]) else none
 |_=>none
noncomputable def fnJ{B:Type}(F:FuncId)(mr:RowM B)(H:Hp):List SV->Option ((Int×B)×List Nat)
 |[.one (.v (.int .i64 n)),.one (.fn f [.p k 0 0])]=>fnK F mr k f n (H k)
 |_=>none
theorem Vq(F f:FuncId)(mr:RowM B)(H:Hp)(n:Int)(k:Nat):fnJ F mr H [.one (.v (.int .i64 n)),.one (.fn f [.p k 0 0])]=fnK F mr k f n (H k):=rfl
theorem ZK(F:FuncId)(mr:RowM B)(k:Nat)(n:Int)(u:Nat)(x:Value)(z r:List C)(h:z.length+1=mr.z.length):fnK F mr k F n (some (.vec u (.v x::z) [r]))=(mr.d r).map λb=>((n,b),[k]):=if_pos ⟨rfl,h,rfl⟩
theorem aE{F:FuncId}{mr:RowM B}{H:Hp}{l:List SV}{n:Int}{b:B}{ks:List Nat}(h:fnJ F mr H l=some ((n,b),ks)):∃k u z,ks=[k]/\l=[.one (.v (.int .i64 n)),.one (.fn F [.p k 0 0])]/\H k=some (.vec u z [mr.e b])/\z.length=mr.z.length/\zT z=none:=by
 unfold fnJ at h
 split at h
 .unfold fnK at h
  split at h
  .rename_i k _ u z r hk
   split at h
   .rename_i hz
    simp only[Option.map_eq_some_iff,jP]at h
    obtain⟨b',hb,⟨rfl,rfl⟩,rfl⟩:=h
    obtain rfl:=mr.h _ _ hb
    obtain⟨rfl,hz⟩:=hz
    exact⟨_,_,_,rfl,rfl,hk,hz⟩
   cases h
  cases h
 cases h
noncomputable def Er{B:Type}(F:FuncId)(mr:RowM B):ArgL (Int×B) where
 d H l:=fnJ F mr H l
 args p:=[.one (.v (.int .i64 p.1)),.one (.fn F [.p 0 0 0])]
 mem p:=[.vec mr.z [mr.e p.2]]
 h H l a ks h:=by
  obtain⟨n,b⟩:=a
  obtain⟨k,u,z,rfl,rfl,hk,hz,hz0⟩:=aE h
  refine⟨rfl,rfl,λi j hi=>?_⟩
  match i,hi with
  |0,hi=>
   obtain rfl:=Option.some.inj hi
   refine⟨_,rfl,?_⟩
   rw[hk]
   refine⟨?_,hz,.inl mr.t⟩
   show [mr.e b]=[(mr.e b).map _]
   rw[DR λc hc=>F8 (mr.n b c hc)]
  |i+1,hi=>simp at hi
 n a m hm c hc:=by
  simp only[mem_singleton]at hm
  subst hm
  simp only[ML.cells,List.flatMap_cons,List.flatMap_nil,List.append_nil,id]at hc
  exact .inl (mr.n _ c hc)
 an a v hv:=by
  simp only[List.mem_cons,List.not_mem_nil,or_false]at hv
  rcases hv with rfl|rfl
  .exact .inl rfl
  .refine .inr (.inr (.inr ⟨_,_,rfl,λx hx=>?_⟩))
   simp only[mem_singleton]at hx
   subst hx
   exact .inr (.inr ⟨0,0,0,rfl,by show 0<1;decide⟩)
 l H H' v a ks h hk:=by
  obtain⟨n,b⟩:=a
  obtain⟨k,u,z,rfl,rfl,h1,hz,hz0⟩:=aE h
  rw[Vq]at h ⊢
  rw[hk k (by simp)];exact h
theorem Vt(F:FuncId)(mr:RowM B)(H:Hp)(l:List SV):(Er F mr).d H l=fnJ F mr H l:=rfl
theorem LK(F:FuncId)(mr:RowM B)(n:Int)(b:B):(Er F mr).args (n,b)=[.one (.v (.int .i64 n)),.one (.fn F [.p 0 0 0])]:=rfl
theorem Vu(F:FuncId)(mr:RowM B)(n:Int)(b:B):(Er F mr).mem (n,b)=[.vec mr.z [mr.e b]]:=rfl
theorem EV(es:List (List UInt8×Int))(s:List UInt8):AH (es.map λp=>(p.1,[C.v (.int .i64 p.2)])) s=(AH es s).map λi=>[C.v (.int .i64 i)]:=Kg (λi:Int=>[C.v (.int .i64 i)]) s es
theorem EW(es:List (List UInt8×Int))(s:List UInt8)(i:Int):B5 (es.map λp=>(p.1,[C.v (.int .i64 p.2)])) s [.v (.int .i64 i)]=(B5 es s i).map λp=>(p.1,[C.v (.int .i64 p.2)]):=OW (λi:Int=>[C.v (.int .i64 i)]) s i es
theorem A4K(P:Pg):∀q,some q∈[some ((zPg,[pgR P]):MV)]->∀r∈q.2,∀c∈r,c.names=[]:=by
 intro q hq r hr c hc
 simp only[mem_singleton,jS]at hq
 subst hq
 simp only[mem_singleton]at hr
 subst hr
 exact QM P c hc
theorem rG(P:Sta):∀q,some q∈[some ((zSta,[stR P]):MV)]->∀r∈q.2,∀c∈r,c.names=[]:=by
 intro q hq r hr c hc
 simp only[mem_singleton,jS]at hq
 subst hq
 simp only[mem_singleton]at hr
 subst hr
 exact Vp P c hc
abbrev zZ(i:Int)(p:Pg):Prop:=0<=i/\i<(p.fs.length:Int)
abbrev OC(i:Int)(p:Pg):SV:=.one (.v (.string (bs ((p.fs.map Fn.name).getD i.toNat []))))
abbrev aF(i:Int)(p:Pg):List (Option MV):=[some (zPg,[pgR p])]
noncomputable abbrev QN:ArgM ((Int)×(Pg)×Unit):=(amD (cInt .i64) (amP (mPg) am0))
abbrev zd:Prop:=C7 Tryz.prog 28 ((QN).args 0) (QN).mem (λp:(Int)×(Pg)×Unit=>zZ p.1 p.2.1) (λp:(Int)×(Pg)×Unit=>OC p.1 p.2.1) (λp:(Int)×(Pg)×Unit=>aF p.1 p.2.1)
attribute [local go_sem] LK Vt Vu Vq ZK Tj P4 Ti Tm Tk Tl pgR stR
theorem A4L:zd:=by
 rintro ⟨i,p,_u⟩ w M I lab fz xs hc hA hl hx
 refine Ac Tryz.func28 rfl ((QN).mem ⟨i,p,_u⟩) w M I lab fz [] [] ((QN).args 0 ⟨i,p,_u⟩) ((λp:(Int)×(Pg)×Unit=>aF p.1 p.2.1) ⟨i,p,_u⟩) ((λp:(Int)×(Pg)×Unit=>OC p.1 p.2.1) ⟨i,p,_u⟩) xs hA hl hx (λv hv k hk=>by have:=(QN).an 0 ⟨i,p,_u⟩ v hv k hk;omega) (jN rfl) (jN rfl) ?_
 clear hx hl hA xs
 simp only[Tryz.f28]
 have hi:0<=i/\i<(p.fs.length:Int):=hc
 have hg:=A4J hi
 simp only[seval,go_sem,hg]
 have:=hi.1;have:=hi.2;repeat refine AX ?_
 refine A1 [] ?_;simp only[seval,go_sem,bne,OC,aF]
theorem B19{p:Prop}(h:p:=by intro p _;exact A4K _):p:=h
noncomputable def QO{X:Ctx}{w0:World}:Sy.Spec Tryz.prog X w0:=D0 28 Tryz.call28 (QN) _ _ _ KF1 KF0 B19 A4L
abbrev ze(i:Int)(p:Pg):Prop:=0<=i/\i<(p.g.c.length:Int)
abbrev OD(i:Int)(p:Pg):SV:=.one (.v (.string (bs ((p.g.c).getD i.toNat []))))
abbrev aG(i:Int)(p:Pg):List (Option MV):=[some (zPg,[pgR p])]
noncomputable abbrev QP:ArgM ((Int)×(Pg)×Unit):=(amD (cInt .i64) (amP (mPg) am0))
abbrev zf:Prop:=C7 Tryz.prog 29 ((QP).args 0) (QP).mem (λp:(Int)×(Pg)×Unit=>ze p.1 p.2.1) (λp:(Int)×(Pg)×Unit=>OD p.1 p.2.1) (λp:(Int)×(Pg)×Unit=>aG p.1 p.2.1)
theorem A4M:zf:=by
 rintro ⟨i,p,_u⟩ w M I lab fz xs hc hA hl hx
 refine Ac Tryz.func29 rfl ((QP).mem ⟨i,p,_u⟩) w M I lab fz [] [] ((QP).args 0 ⟨i,p,_u⟩) ((λp:(Int)×(Pg)×Unit=>aG p.1 p.2.1) ⟨i,p,_u⟩) ((λp:(Int)×(Pg)×Unit=>OD p.1 p.2.1) ⟨i,p,_u⟩) xs hA hl hx (λv hv k hk=>by have:=(QP).an 0 ⟨i,p,_u⟩ v hv k hk;omega) (jN rfl) (jN rfl) ?_
 clear hx hl hA xs
 simp only[Tryz.f29]
 have hi:0<=i/\i<(p.g.c.length:Int):=hc
 have hg:=A7i hi
 simp only[seval,go_sem,hg]
 have:=hi.1;have:=hi.2;repeat refine AX ?_
 refine A1 [] ?_;simp only[seval,go_sem,bne,OD,aG]
noncomputable def QQ{X:Ctx}{w0:World}:Sy.Spec Tryz.prog X w0:=D0 29 Tryz.call29 (QP) _ _ _ KF1 KF0 B19 A4M
abbrev zg(i:Int)(p:Pg):Prop:=0<=i/\i<(p.g.a.length:Int)
abbrev OE(i:Int)(p:Pg):SV:=.one (.v (.string (bs ((p.g.a.map Gy.s).getD i.toNat []))))
abbrev aH(i:Int)(p:Pg):List (Option MV):=[some (zPg,[pgR p])]
noncomputable abbrev QR:ArgM ((Int)×(Pg)×Unit):=(amD (cInt .i64) (amP (mPg) am0))
abbrev zh:Prop:=C7 Tryz.prog 30 ((QR).args 0) (QR).mem (λp:(Int)×(Pg)×Unit=>zg p.1 p.2.1) (λp:(Int)×(Pg)×Unit=>OE p.1 p.2.1) (λp:(Int)×(Pg)×Unit=>aH p.1 p.2.1)
theorem A4N:zh:=by
 rintro ⟨i,p,_u⟩ w M I lab fz xs hc hA hl hx
 refine Ac Tryz.func30 rfl ((QR).mem ⟨i,p,_u⟩) w M I lab fz [] [] ((QR).args 0 ⟨i,p,_u⟩) ((λp:(Int)×(Pg)×Unit=>aH p.1 p.2.1) ⟨i,p,_u⟩) ((λp:(Int)×(Pg)×Unit=>OE p.1 p.2.1) ⟨i,p,_u⟩) xs hA hl hx (λv hv k hk=>by have:=(QR).an 0 ⟨i,p,_u⟩ v hv k hk;omega) (jN rfl) (jN rfl) ?_
 clear hx hl hA xs
 simp only[Tryz.f30]
 have hi:0<=i/\i<(p.g.a.length:Int):=hc
 have hg:=A7j hi
 simp only[seval,go_sem,hg]
 have:=hi.1;have:=hi.2;repeat refine AX ?_
 refine A1 [] ?_;simp only[seval,go_sem,bne,OE,aH]
noncomputable def QS{X:Ctx}{w0:World}:Sy.Spec Tryz.prog X w0:=D0 30 Tryz.call30 (QR) _ _ _ KF1 KF0 B19 A4N
abbrev zi(i:Int)(p:Sta):Prop:=0<=i/\i<(p.cs.length:Int)
abbrev OG(i:Int)(p:Sta):SV:=.one (.v (.string (bs ((p.cs.map Nb.s).getD i.toNat []))))
abbrev aI(i:Int)(p:Sta):List (Option MV):=[some (zSta,[stR p])]
noncomputable abbrev QT:ArgM ((Int)×(Sta)×Unit):=(amD (cInt .i64) (amP (mSt) am0))
abbrev zj:Prop:=C7 Tryz.prog 46 ((QT).args 0) (QT).mem (λp:(Int)×(Sta)×Unit=>zi p.1 p.2.1) (λp:(Int)×(Sta)×Unit=>OG p.1 p.2.1) (λp:(Int)×(Sta)×Unit=>aI p.1 p.2.1)
theorem A4O:zj:=by
 rintro ⟨i,p,_u⟩ w M I lab fz xs hc hA hl hx
 refine Ac Tryz.func46 rfl ((QT).mem ⟨i,p,_u⟩) w M I lab fz [] [] ((QT).args 0 ⟨i,p,_u⟩) ((λp:(Int)×(Sta)×Unit=>aI p.1 p.2.1) ⟨i,p,_u⟩) ((λp:(Int)×(Sta)×Unit=>OG p.1 p.2.1) ⟨i,p,_u⟩) xs hA hl hx (λv hv k hk=>by have:=(QT).an 0 ⟨i,p,_u⟩ v hv k hk;omega) (jN rfl) (jN rfl) ?_
 clear hx hl hA xs
 simp only[Tryz.f46]
 have hi:0<=i/\i<(p.cs.length:Int):=hc
 have hg:=rE hi
 simp only[seval,go_sem,hg]
 have:=hi.1;have:=hi.2;repeat refine AX ?_
 refine A1 [] ?_;simp only[seval,go_sem,bne,OG,aI]
noncomputable def QU{X:Ctx}{w0:World}:Sy.Spec Tryz.prog X w0:=D0 46 Tryz.call46 (QT) _ _ _ KF1 KF0 (id (by intro p _;exact rG _)) A4O
abbrev zk(i:Int)(p:Sta):Prop:=0<=i/\i<(p.ar.length:Int)
abbrev OH(i:Int)(p:Sta):SV:=.one (.v (.string (bs ((p.ar.map Na.s).getD i.toNat []))))
abbrev aJ(i:Int)(p:Sta):List (Option MV):=[some (zSta,[stR p])]
noncomputable abbrev QV:ArgM ((Int)×(Sta)×Unit):=(amD (cInt .i64) (amP (mSt) am0))
abbrev zm:Prop:=C7 Tryz.prog 47 ((QV).args 0) (QV).mem (λp:(Int)×(Sta)×Unit=>zk p.1 p.2.1) (λp:(Int)×(Sta)×Unit=>OH p.1 p.2.1) (λp:(Int)×(Sta)×Unit=>aJ p.1 p.2.1)
theorem A4P:zm:=by
 rintro ⟨i,p,_u⟩ w M I lab fz xs hc hA hl hx
 refine Ac Tryz.func47 rfl ((QV).mem ⟨i,p,_u⟩) w M I lab fz [] [] ((QV).args 0 ⟨i,p,_u⟩) ((λp:(Int)×(Sta)×Unit=>aJ p.1 p.2.1) ⟨i,p,_u⟩) ((λp:(Int)×(Sta)×Unit=>OH p.1 p.2.1) ⟨i,p,_u⟩) xs hA hl hx (λv hv k hk=>by have:=(QV).an 0 ⟨i,p,_u⟩ v hv k hk;omega) (jN rfl) (jN rfl) ?_
 clear hx hl hA xs
 simp only[Tryz.f47]
 have hi:0<=i/\i<(p.ar.length:Int):=hc
 have hg:=rF hi
 simp only[seval,go_sem,hg]
 have:=hi.1;have:=hi.2;repeat refine AX ?_
 refine A1 [] ?_;simp only[seval,go_sem,bne,OH,aJ]
noncomputable def QW{X:Ctx}{w0:World}:Sy.Spec Tryz.prog X w0:=D0 47 Tryz.call47 (QV) _ _ _ KF1 KF0 (id (by intro p _;exact rG _)) A4P
end Go.Proofs.YtapedeoheilnnaaGreat
