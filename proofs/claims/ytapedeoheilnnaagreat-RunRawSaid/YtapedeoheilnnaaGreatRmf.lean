/- The first of each name, walked. No conditions but those in each statement. -/
import Derived.Test.YtapedeoheilnnaaGreatRmd
set_option linter.all false
set_option maxRecDepth 20000
set_option maxHeartbeats 16000000
open List (mem_singleton)
namespace Go.Proofs.YtapedeoheilnnaaGreat
open Go Go.Sy Go.RowKit
variable{B:Type}{i:Int}
def pgR(P:Pg):List C:=[.d (.sl Gf (P.g.c.map cSd)),.d (.sl Gw (P.g.a.map Gy.r)),.d (.sl zFn (P.fs.map Fn.r))]
abbrev zPg:List C:=[.v (.slice none 0 0),.v (.slice none 0 0),.v (.slice none 0 0)]
theorem u6(a b:Pg)(h:pgR a=pgR b):a=b:=by
 obtain⟨⟨c,a⟩,fs⟩:=a
 obtain⟨⟨c',a'⟩,fs'⟩:=b
 simp only[pgR,List.cons.injEq,C.d.injEq,D.sl.injEq,true_and,and_true]at h
 rw[Ac Ps h.1,Ac Pt h.2.1,Ac W9 h.2.2]
theorem Q1(P:Pg):∀c∈pgR P,c.names=[]:=by
 intro c hc
 simp only[pgR,List.mem_cons,List.not_mem_nil,or_false]at hc
 rcases hc with rfl|rfl|rfl<;>rfl
noncomputable def mPg:RowM Pg:=MH zPg pgR Q1
theorem R0:mPg.e=pgR:=rfl
theorem VX:mPg.z=zPg:=rfl
theorem VY(c:List (List UInt8))(a:List Gy)(fs:List Fn):mPg.d [.d (.sl Gf (c.map cSd)),.d (.sl Gw (a.map Gy.r)),.d (.sl zFn (fs.map Fn.r))]=some ⟨⟨c,a⟩,fs⟩:=J9 u6 ⟨⟨c,a⟩,fs⟩
structure Sta where
 cs:List Nb
 ar:List Na
def Nb.r(x:Nb):List D:=[.v (.string (bs x.s)),.v (.int .i64 x.n)]
def iD(n:Int):List D:=[.v (.int .i64 n)]
abbrev zIw:List D:=[.v (.int .i64 0)]
def Na.r(x:Na):List D:=[.v (.string (bs x.s)),.sl zIw (x.l.map iD)]
abbrev HY:List D:=[.v (.string (bs [])),.v (.int .i64 0)]
abbrev HZ:List D:=[.v (.string (bs [])),.v (.slice none 0 0)]
def stR(s:Sta):List C:=[.d (.sl HY (s.cs.map Nb.r)),.d (.sl HZ (s.ar.map Na.r))]
abbrev zSta:List C:=[.v (.slice none 0 0),.v (.slice none 0 0)]
theorem XF(a b:Nb)(h:a.r=b.r):a=b:=by
 obtain⟨s,n⟩:=a
 obtain⟨s',n'⟩:=b
 simp only[Nb.r,List.cons.injEq,D.v.injEq,Value.string.injEq,Value.int.injEq,true_and,and_true]at h
 rw[bs_inj h.1,h.2]
theorem Zg(a b:Int)(h:iD a=iD b):a=b:=by simpa [iD] using h
theorem XG(a b:Na)(h:a.r=b.r):a=b:=by
 obtain⟨s,n⟩:=a
 obtain⟨s',n'⟩:=b
 simp only[Na.r,List.cons.injEq,D.v.injEq,D.sl.injEq,Value.string.injEq,true_and,and_true]at h
 rw[bs_inj h.1,Ac Zg h.2]
theorem u7(a b:Sta)(h:stR a=stR b):a=b:=by
 obtain⟨c,a⟩:=a
 obtain⟨c',a'⟩:=b
 simp only[stR,List.cons.injEq,C.d.injEq,D.sl.injEq,true_and,and_true]at h
 rw[Ac XF h.1,Ac XG h.2]
theorem VZ(s:Sta):∀c∈stR s,c.names=[]:=by
 intro c hc
 simp only[stR,List.mem_cons,List.not_mem_nil,or_false]at hc
 rcases hc with rfl|rfl<;>rfl
noncomputable def mSt:RowM Sta:=MH zSta stR VZ
theorem Vb:mSt.e=stR:=rfl
theorem Vc:mSt.z=zSta:=rfl
theorem Vd(c:List Nb)(a:List Na):mSt.d [.d (.sl HY (c.map Nb.r)),.d (.sl HZ (a.map Na.r))]=some ⟨c,a⟩:=J9 u7 ⟨c,a⟩
theorem A7V{l:List (List UInt8)}(h:0<=i/\i<(l.length:Int))(z:List D):(l.map cSd).getD i.toNat z=[.v (.string (bs (l.getD i.toNat [])))]:=by
 have h1:i.toNat<l.length:=by omega
 simp[List.getD,h1,cSd]
theorem A7W{l:List Gy}(h:0<=i/\i<(l.length:Int))(z:List D):(l.map Gy.r).getD i.toNat z=[.v (.string (bs ((l.map Gy.s).getD i.toNat []))),.v (.int .i64 (l.getD i.toNat ⟨[],0⟩).n)]:=by
 have h1:i.toNat<l.length:=by omega
 simp[List.getD,h1,Gy.r]
theorem A43{l:List Fn}(h:0<=i/\i<(l.length:Int))(z:List D):(l.map Fn.r).getD i.toNat z=[.v (.string (bs ((l.map Fn.name).getD i.toNat []))),.sl zVr ((l.getD i.toNat ⟨[],[],[],[]⟩).ps.map Vr.r),.sl zVr ((l.getD i.toNat ⟨[],[],[],[]⟩).ls.map Vr.r),.sl zSm ((l.getD i.toNat ⟨[],[],[],[]⟩).body.map Sm.r)]:=by
 have h1:i.toNat<l.length:=by omega
 simp[List.getD,h1,Fn.r,dS]
theorem qa{l:List Nb}(h:0<=i/\i<(l.length:Int))(z:List D):(l.map Nb.r).getD i.toNat z=[.v (.string (bs ((l.map Nb.s).getD i.toNat []))),.v (.int .i64 (l.getD i.toNat ⟨[],0⟩).n)]:=by
 have h1:i.toNat<l.length:=by omega
 simp[List.getD,h1,Nb.r]
theorem qb{l:List Na}(h:0<=i/\i<(l.length:Int))(z:List D):(l.map Na.r).getD i.toNat z=[.v (.string (bs ((l.map Na.s).getD i.toNat []))),.sl zIw ((l.getD i.toNat ⟨[],[]⟩).l.map iD)]:=by
 have h1:i.toNat<l.length:=by omega
 simp[List.getD,h1,Na.r]
noncomputable def fnK{B:Type}(F:FuncId)(mr:RowM B)(k f:Nat)(n:Int):Option Ch->Option ((Int×B)×List Nat)
 |some (.vec _ z [r])=>if f=F/\z.length=mr.z.length/\zT z=none then (mr.d r).map λb=>((n,b),[k]) else none
 |_=>none
noncomputable def fnJ{B:Type}(F:FuncId)(mr:RowM B)(H:Hp):List SV->Option ((Int×B)×List Nat)
 |[.one (.v (.int .i64 n)),.one (.fn f [.p k 0 0])]=>fnK F mr k f n (H k)
 |_=>none
theorem Ve(F f:FuncId)(mr:RowM B)(H:Hp)(n:Int)(k:Nat):fnJ F mr H [.one (.v (.int .i64 n)),.one (.fn f [.p k 0 0])]=fnK F mr k f n (H k):=rfl
theorem Z2(F:FuncId)(mr:RowM B)(k:Nat)(n:Int)(u:Nat)(x:Value)(z r:List C)(h:z.length+1=mr.z.length):fnK F mr k F n (some (.vec u (.v x::z) [r]))=(mr.d r).map λb=>((n,b),[k]):=if_pos ⟨rfl,h,rfl⟩
theorem Zh{F:FuncId}{mr:RowM B}{H:Hp}{l:List SV}{n:Int}{b:B}{ks:List Nat}(h:fnJ F mr H l=some ((n,b),ks)):∃k u z,ks=[k]/\l=[.one (.v (.int .i64 n)),.one (.fn F [.p k 0 0])]/\H k=some (.vec u z [mr.e b])/\z.length=mr.z.length/\zT z=none:=by
 unfold fnJ at h
 split at h
 .unfold fnK at h
  split at h
  .rename_i k _ u z r hk
   split at h
   .rename_i hz
    simp only[Option.map_eq_some_iff,jP]at h
    obtain⟨b',hb,⟨rfl,rfl⟩,rfl⟩:=h
    obtain rfl:=mr.h _ _ hb
    obtain⟨rfl,hz⟩:=hz
    exact⟨_,_,_,rfl,rfl,hk,hz⟩
   cases h
  cases h
 cases h
noncomputable def Ej{B:Type}(F:FuncId)(mr:RowM B):ArgL (Int×B) where
 d H l:=fnJ F mr H l
 args p:=[.one (.v (.int .i64 p.1)),.one (.fn F [.p 0 0 0])]
 mem p:=[.vec mr.z [mr.e p.2]]
 h H l a ks h:=by
  obtain⟨n,b⟩:=a
  obtain⟨k,u,z,rfl,rfl,hk,hz,hz0⟩:=Zh h
  refine⟨rfl,rfl,λi j hi=>?_⟩
  match i,hi with
  |0,hi=>
   obtain rfl:=Option.some.inj hi
   refine⟨_,rfl,?_⟩
   rw[hk]
   refine⟨?_,hz,.inl mr.t⟩
   show [mr.e b]=[(mr.e b).map _]
   rw[DB λc hc=>F1 (mr.n b c hc)]
  |i+1,hi=>simp at hi
 n a m hm c hc:=by
  simp only[mem_singleton]at hm
  subst hm
  simp only[ML.cells,List.flatMap_cons,List.flatMap_nil,List.append_nil,id]at hc
  exact .inl (mr.n _ c hc)
 an a v hv:=by
  simp only[List.mem_cons,List.not_mem_nil,or_false]at hv
  rcases hv with rfl|rfl
  .exact .inl rfl
  .refine .inr (.inr (.inr ⟨_,_,rfl,λx hx=>?_⟩))
   simp only[mem_singleton]at hx
   subst hx
   exact .inr (.inr ⟨0,0,0,rfl,by show 0<1;decide⟩)
 l H H' v a ks h hk:=by
  obtain⟨n,b⟩:=a
  obtain⟨k,u,z,rfl,rfl,h1,hz,hz0⟩:=Zh h
  rw[Ve]at h ⊢
  rw[hk k (by simp)];exact h
theorem Vf(F:FuncId)(mr:RowM B)(H:Hp)(l:List SV):(Ej F mr).d H l=fnJ F mr H l:=rfl
theorem LF(F:FuncId)(mr:RowM B)(n:Int)(b:B):(Ej F mr).args (n,b)=[.one (.v (.int .i64 n)),.one (.fn F [.p 0 0 0])]:=rfl
theorem Vg(F:FuncId)(mr:RowM B)(n:Int)(b:B):(Ej F mr).mem (n,b)=[.vec mr.z [mr.e b]]:=rfl
theorem EO(es:List (List UInt8×Int))(s:List UInt8):AD (es.map λp=>(p.1,[C.v (.int .i64 p.2)])) s=(AD es s).map λi=>[C.v (.int .i64 i)]:=KX (λi:Int=>[C.v (.int .i64 i)]) s es
theorem EP(es:List (List UInt8×Int))(s:List UInt8)(i:Int):B1 (es.map λp=>(p.1,[C.v (.int .i64 p.2)])) s [.v (.int .i64 i)]=(B1 es s i).map λp=>(p.1,[C.v (.int .i64 p.2)]):=OK (λi:Int=>[C.v (.int .i64 i)]) s i es
theorem A44(P:Pg):∀q,some q∈[some ((zPg,[pgR P]):MV)]->∀r∈q.2,∀c∈r,c.names=[]:=by
 intro q hq r hr c hc
 simp only[mem_singleton,jS]at hq
 subst hq
 simp only[mem_singleton]at hr
 subst hr
 exact Q1 P c hc
theorem qc(P:Sta):∀q,some q∈[some ((zSta,[stR P]):MV)]->∀r∈q.2,∀c∈r,c.names=[]:=by
 intro q hq r hr c hc
 simp only[mem_singleton,jS]at hq
 subst hq
 simp only[mem_singleton]at hr
 subst hr
 exact VZ P c hc
abbrev zH(i:Int)(p:Pg):Prop:=0<=i/\i<(p.fs.length:Int)
abbrev O0(i:Int)(p:Pg):SV:=.one (.v (.string (bs ((p.fs.map Fn.name).getD i.toNat []))))
abbrev Zj(i:Int)(p:Pg):List (Option MV):=[some (zPg,[pgR p])]
noncomputable abbrev Q3:ArgM ((Int)×(Pg)×Unit):=(amD (cInt .i64) (amP (mPg) am0))
abbrev zJ:Prop:=Bv Tryz.prog 28 ((Q3).args 0) (Q3).mem (λp:(Int)×(Pg)×Unit=>zH p.1 p.2.1) (λp:(Int)×(Pg)×Unit=>O0 p.1 p.2.1) (λp:(Int)×(Pg)×Unit=>Zj p.1 p.2.1)
attribute [local go_sem] LF Vf Vg Ve Z2 VY R0 VX Vd Vb Vc pgR stR
theorem A45:zJ:=by
 rintro ⟨i,p,_u⟩ w M I lab fz xs hc hA hl hx
 refine Aa Tryz.func28 rfl ((Q3).mem ⟨i,p,_u⟩) w M I lab fz [] [] ((Q3).args 0 ⟨i,p,_u⟩) ((λp:(Int)×(Pg)×Unit=>Zj p.1 p.2.1) ⟨i,p,_u⟩) ((λp:(Int)×(Pg)×Unit=>O0 p.1 p.2.1) ⟨i,p,_u⟩) xs hA hl hx (λv hv k hk=>by have:=(Q3).an 0 ⟨i,p,_u⟩ v hv k hk;omega) (jN rfl) (jN rfl) ?_
 clear hx hl hA xs
 simp only[Tryz.f28]
 have hi:0<=i/\i<(p.fs.length:Int):=hc
 have hg:=A43 hi
 simp only[seval,go_sem,hg]
 try simp only[A2,A3]
 repeat' first|exact ck|with_reducible apply And.intro|intro _
 all_goals first|exact hi.1|exact hi.2|exact KZ|(refine A1 [] ?_;simp only[seval,go_sem,bne,O0,Zj])
theorem nQ{p:Prop}(h:p:=by intro p _;exact A44 _):p:=h
noncomputable def Q4{X:Ctx}{w0:World}:Sy.Spec Tryz.prog X w0:=Cl 28 Tryz.call28 (Q3) _ _ _ KF1 KF0 nQ A45
abbrev zK(i:Int)(p:Pg):Prop:=0<=i/\i<(p.g.c.length:Int)
abbrev O1(i:Int)(p:Pg):SV:=.one (.v (.string (bs ((p.g.c).getD i.toNat []))))
abbrev Zk(i:Int)(p:Pg):List (Option MV):=[some (zPg,[pgR p])]
noncomputable abbrev Q5:ArgM ((Int)×(Pg)×Unit):=(amD (cInt .i64) (amP (mPg) am0))
abbrev zL:Prop:=Bv Tryz.prog 29 ((Q5).args 0) (Q5).mem (λp:(Int)×(Pg)×Unit=>zK p.1 p.2.1) (λp:(Int)×(Pg)×Unit=>O1 p.1 p.2.1) (λp:(Int)×(Pg)×Unit=>Zk p.1 p.2.1)
theorem A46:zL:=by
 rintro ⟨i,p,_u⟩ w M I lab fz xs hc hA hl hx
 refine Aa Tryz.func29 rfl ((Q5).mem ⟨i,p,_u⟩) w M I lab fz [] [] ((Q5).args 0 ⟨i,p,_u⟩) ((λp:(Int)×(Pg)×Unit=>Zk p.1 p.2.1) ⟨i,p,_u⟩) ((λp:(Int)×(Pg)×Unit=>O1 p.1 p.2.1) ⟨i,p,_u⟩) xs hA hl hx (λv hv k hk=>by have:=(Q5).an 0 ⟨i,p,_u⟩ v hv k hk;omega) (jN rfl) (jN rfl) ?_
 clear hx hl hA xs
 simp only[Tryz.f29]
 have hi:0<=i/\i<(p.g.c.length:Int):=hc
 have hg:=A7V hi
 simp only[seval,go_sem,hg]
 try simp only[A2,A3]
 repeat' first|exact ck|with_reducible apply And.intro|intro _
 all_goals first|exact hi.1|exact hi.2|exact KZ|(refine A1 [] ?_;simp only[seval,go_sem,bne,O1,Zk])
noncomputable def Q6{X:Ctx}{w0:World}:Sy.Spec Tryz.prog X w0:=Cl 29 Tryz.call29 (Q5) _ _ _ KF1 KF0 nQ A46
abbrev zM(i:Int)(p:Pg):Prop:=0<=i/\i<(p.g.a.length:Int)
abbrev O2(i:Int)(p:Pg):SV:=.one (.v (.string (bs ((p.g.a.map Gy.s).getD i.toNat []))))
abbrev Zl(i:Int)(p:Pg):List (Option MV):=[some (zPg,[pgR p])]
noncomputable abbrev Q7:ArgM ((Int)×(Pg)×Unit):=(amD (cInt .i64) (amP (mPg) am0))
abbrev zN:Prop:=Bv Tryz.prog 30 ((Q7).args 0) (Q7).mem (λp:(Int)×(Pg)×Unit=>zM p.1 p.2.1) (λp:(Int)×(Pg)×Unit=>O2 p.1 p.2.1) (λp:(Int)×(Pg)×Unit=>Zl p.1 p.2.1)
theorem A47:zN:=by
 rintro ⟨i,p,_u⟩ w M I lab fz xs hc hA hl hx
 refine Aa Tryz.func30 rfl ((Q7).mem ⟨i,p,_u⟩) w M I lab fz [] [] ((Q7).args 0 ⟨i,p,_u⟩) ((λp:(Int)×(Pg)×Unit=>Zl p.1 p.2.1) ⟨i,p,_u⟩) ((λp:(Int)×(Pg)×Unit=>O2 p.1 p.2.1) ⟨i,p,_u⟩) xs hA hl hx (λv hv k hk=>by have:=(Q7).an 0 ⟨i,p,_u⟩ v hv k hk;omega) (jN rfl) (jN rfl) ?_
 clear hx hl hA xs
 simp only[Tryz.f30]
 have hi:0<=i/\i<(p.g.a.length:Int):=hc
 have hg:=A7W hi
 simp only[seval,go_sem,hg]
 try simp only[A2,A3]
 repeat' first|exact ck|with_reducible apply And.intro|intro _
 all_goals first|exact hi.1|exact hi.2|exact KZ|(refine A1 [] ?_;simp only[seval,go_sem,bne,O2,Zl])
noncomputable def Q8{X:Ctx}{w0:World}:Sy.Spec Tryz.prog X w0:=Cl 30 Tryz.call30 (Q7) _ _ _ KF1 KF0 nQ A47
abbrev zO(i:Int)(p:Sta):Prop:=0<=i/\i<(p.cs.length:Int)
abbrev O3(i:Int)(p:Sta):SV:=.one (.v (.string (bs ((p.cs.map Nb.s).getD i.toNat []))))
abbrev Zm(i:Int)(p:Sta):List (Option MV):=[some (zSta,[stR p])]
noncomputable abbrev Q9:ArgM ((Int)×(Sta)×Unit):=(amD (cInt .i64) (amP (mSt) am0))
abbrev zP:Prop:=Bv Tryz.prog 46 ((Q9).args 0) (Q9).mem (λp:(Int)×(Sta)×Unit=>zO p.1 p.2.1) (λp:(Int)×(Sta)×Unit=>O3 p.1 p.2.1) (λp:(Int)×(Sta)×Unit=>Zm p.1 p.2.1)
theorem A48:zP:=by
 rintro ⟨i,p,_u⟩ w M I lab fz xs hc hA hl hx
 refine Aa Tryz.func46 rfl ((Q9).mem ⟨i,p,_u⟩) w M I lab fz [] [] ((Q9).args 0 ⟨i,p,_u⟩) ((λp:(Int)×(Sta)×Unit=>Zm p.1 p.2.1) ⟨i,p,_u⟩) ((λp:(Int)×(Sta)×Unit=>O3 p.1 p.2.1) ⟨i,p,_u⟩) xs hA hl hx (λv hv k hk=>by have:=(Q9).an 0 ⟨i,p,_u⟩ v hv k hk;omega) (jN rfl) (jN rfl) ?_
 clear hx hl hA xs
 simp only[Tryz.f46]
 have hi:0<=i/\i<(p.cs.length:Int):=hc
 have hg:=qa hi
 simp only[seval,go_sem,hg]
 try simp only[A2,A3]
 repeat' first|exact ck|with_reducible apply And.intro|intro _
 all_goals first|exact hi.1|exact hi.2|exact KZ|(refine A1 [] ?_;simp only[seval,go_sem,bne,O3,Zm])
noncomputable def QA{X:Ctx}{w0:World}:Sy.Spec Tryz.prog X w0:=Cl 46 Tryz.call46 (Q9) _ _ _ KF1 KF0 (id (by intro p _;exact qc _)) A48
abbrev zQ(i:Int)(p:Sta):Prop:=0<=i/\i<(p.ar.length:Int)
abbrev O4(i:Int)(p:Sta):SV:=.one (.v (.string (bs ((p.ar.map Na.s).getD i.toNat []))))
abbrev Zn(i:Int)(p:Sta):List (Option MV):=[some (zSta,[stR p])]
noncomputable abbrev QB:ArgM ((Int)×(Sta)×Unit):=(amD (cInt .i64) (amP (mSt) am0))
abbrev zR:Prop:=Bv Tryz.prog 47 ((QB).args 0) (QB).mem (λp:(Int)×(Sta)×Unit=>zQ p.1 p.2.1) (λp:(Int)×(Sta)×Unit=>O4 p.1 p.2.1) (λp:(Int)×(Sta)×Unit=>Zn p.1 p.2.1)
theorem A49:zR:=by
 rintro ⟨i,p,_u⟩ w M I lab fz xs hc hA hl hx
 refine Aa Tryz.func47 rfl ((QB).mem ⟨i,p,_u⟩) w M I lab fz [] [] ((QB).args 0 ⟨i,p,_u⟩) ((λp:(Int)×(Sta)×Unit=>Zn p.1 p.2.1) ⟨i,p,_u⟩) ((λp:(Int)×(Sta)×Unit=>O4 p.1 p.2.1) ⟨i,p,_u⟩) xs hA hl hx (λv hv k hk=>by have:=(QB).an 0 ⟨i,p,_u⟩ v hv k hk;omega) (jN rfl) (jN rfl) ?_
 clear hx hl hA xs
 simp only[Tryz.f47]
 have hi:0<=i/\i<(p.ar.length:Int):=hc
 have hg:=qb hi
 simp only[seval,go_sem,hg]
 try simp only[A2,A3]
 repeat' first|exact ck|with_reducible apply And.intro|intro _
 all_goals first|exact hi.1|exact hi.2|exact KZ|(refine A1 [] ?_;simp only[seval,go_sem,bne,O4,Zn])
noncomputable def QC{X:Ctx}{w0:World}:Sy.Spec Tryz.prog X w0:=Cl 47 Tryz.call47 (QB) _ _ _ KF1 KF0 (id (by intro p _;exact qc _)) A49
end Go.Proofs.YtapedeoheilnnaaGreat
