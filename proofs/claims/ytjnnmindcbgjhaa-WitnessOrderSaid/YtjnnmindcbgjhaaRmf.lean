/- The first of each name, walked. No conditions but those in each statement. -/
import Derived.Test.YtjnnmindcbgjhaaRmd
set_option linter.unusedVariables false
set_option linter.unusedSimpArgs false
set_option maxRecDepth 20000
set_option maxHeartbeats 16000000
open List (mem_singleton)
namespace Go.Proofs.Ytjnnmindcbgjhaa
open Go Go.Sy Go.RowKit
def pgR (P:Pg):List C:=[.d (.sl FN (P.g.c.map cSd)),.d (.sl GL (P.g.a.map Gy.r)),.d (.sl zFn (P.fs.map Fn.r))]
abbrev zPg:List C:=[.v (.slice none 0 0),.v (.slice none 0 0),.v (.slice none 0 0)]
theorem mE (a b:Pg) (h:pgR a=pgR b):a=b:=by
 obtain⟨⟨c,a⟩,fs⟩:=a
 obtain⟨⟨c',a'⟩,fs'⟩:=b
 simp only[pgR,List.cons.injEq,C.d.injEq,D.sl.injEq,true_and,and_true]at h
 rw[B2 QZ h.1,B2 Qa h.2.1,B2 VV h.2.2]
theorem OR (P:Pg):∀c∈pgR P,c.names=[]:=by
 intro c hc
 simp only[pgR,List.mem_cons,List.not_mem_nil,or_false]at hc
 rcases hc with rfl|rfl|rfl<;>rfl
noncomputable def mPg:RowM Pg:=Mv zPg pgR OR
theorem P5:mPg.e=pgR:=rfl
theorem SR:mPg.z=zPg:=rfl
theorem SS (c:List (List UInt8)) (a:List Gy) (fs:List Fn):mPg.d [.d (.sl FN (c.map cSd)),.d (.sl GL (a.map Gy.r)),.d (.sl zFn (fs.map Fn.r))]=some ⟨⟨c,a⟩,fs⟩:=Kv mE ⟨⟨c,a⟩,fs⟩
structure Sta where
 cs:List Nb
 ar:List Na
def Nb.r (x:Nb):List D:=[.v (.string (bs x.s)),.v (.int .i64 x.n)]
def iD (n:Int):List D:=[.v (.int .i64 n)]
abbrev zIw:List D:=[.v (.int .i64 0)]
def Na.r (x:Na):List D:=[.v (.string (bs x.s)),.sl zIw (x.l.map iD)]
abbrev NZ:List D:=[.v (.string (bs [])),.v (.int .i64 0)]
abbrev Nc:List D:=[.v (.string (bs [])),.v (.slice none 0 0)]
def stR (s:Sta):List C:=[.d (.sl NZ (s.cs.map Nb.r)),.d (.sl Nc (s.ar.map Na.r))]
abbrev zSta:List C:=[.v (.slice none 0 0),.v (.slice none 0 0)]
theorem Y6 (a b:Nb) (h:a.r=b.r):a=b:=by
 obtain⟨s,n⟩:=a
 obtain⟨s',n'⟩:=b
 simp only[Nb.r,List.cons.injEq,D.v.injEq,Value.string.injEq,Value.int.injEq,true_and,and_true]at h
 rw[bs_inj h.1,h.2]
theorem bh (a b:Int) (h:iD a=iD b):a=b:=by simpa [iD] using h
theorem Y7 (a b:Na) (h:a.r=b.r):a=b:=by
 obtain⟨s,n⟩:=a
 obtain⟨s',n'⟩:=b
 simp only[Na.r,List.cons.injEq,D.v.injEq,D.sl.injEq,Value.string.injEq,true_and,and_true]at h
 rw[bs_inj h.1,B2 bh h.2]
theorem mF (a b:Sta) (h:stR a=stR b):a=b:=by
 obtain⟨c,a⟩:=a
 obtain⟨c',a'⟩:=b
 simp only[stR,List.cons.injEq,C.d.injEq,D.sl.injEq,true_and,and_true]at h
 rw[B2 Y6 h.1,B2 Y7 h.2]
theorem SU (s:Sta):∀c∈stR s,c.names=[]:=by
 intro c hc
 simp only[stR,List.mem_cons,List.not_mem_nil,or_false]at hc
 rcases hc with rfl|rfl<;>rfl
noncomputable def mSt:RowM Sta:=Mv zSta stR SU
theorem SW:mSt.e=stR:=rfl
theorem SX:mSt.z=zSta:=rfl
theorem Qj (c:List Nb) (a:List Na):mSt.d [.d (.sl NZ (c.map Nb.r)),.d (.sl Nc (a.map Na.r))]=some ⟨c,a⟩:=Kv mF ⟨c,a⟩
theorem A4W {l:List (List UInt8)} {i:Int} (h:0≤i∧i<(l.length:Int)) (z:List D):(l.map cSd).getD i.toNat z=[.v (.string (bs (l.getD i.toNat [])))]:=by
 have h1:i.toNat<l.length:=by omega
 simp[List.getD,h1,cSd]
theorem A4X {l:List Gy} {i:Int} (h:0≤i∧i<(l.length:Int)) (z:List D):(l.map Gy.r).getD i.toNat z=[.v (.string (bs ((l.map Gy.s).getD i.toNat []))),.v (.int .i64 (l.getD i.toNat ⟨[],0⟩).n)]:=by
 have h1:i.toNat<l.length:=by omega
 simp[List.getD,h1,Gy.r]
theorem zK {l:List Fn} {i:Int} (h:0≤i∧i<(l.length:Int)) (z:List D):(l.map Fn.r).getD i.toNat z=[.v (.string (bs ((l.map Fn.name).getD i.toNat []))),.sl zVr ((l.getD i.toNat ⟨[],[],[],[]⟩).ps.map Vr.r),.sl zVr ((l.getD i.toNat ⟨[],[],[],[]⟩).ls.map Vr.r),.sl zSm ((l.getD i.toNat ⟨[],[],[],[]⟩).body.map Sm.r)]:=by
 have h1:i.toNat<l.length:=by omega
 simp[List.getD,h1,Fn.r,dS]
theorem ik {l:List Nb} {i:Int} (h:0≤i∧i<(l.length:Int)) (z:List D):(l.map Nb.r).getD i.toNat z=[.v (.string (bs ((l.map Nb.s).getD i.toNat []))),.v (.int .i64 (l.getD i.toNat ⟨[],0⟩).n)]:=by
 have h1:i.toNat<l.length:=by omega
 simp[List.getD,h1,Nb.r]
theorem il {l:List Na} {i:Int} (h:0≤i∧i<(l.length:Int)) (z:List D):(l.map Na.r).getD i.toNat z=[.v (.string (bs ((l.map Na.s).getD i.toNat []))),.sl zIw ((l.getD i.toNat ⟨[],[]⟩).l.map iD)]:=by
 have h1:i.toNat<l.length:=by omega
 simp[List.getD,h1,Na.r]
noncomputable def fnK {B:Type} (F:FuncId) (mr:RowM B) (k f:Nat) (n:Int):Option Ch→Option ((Int×B)×List Nat)
 |some (.vec _ z [r])=>if f=F∧z.length=mr.z.length∧zT z=none then (mr.d r).map fun b=>((n,b),[k]) else none
 |_=>none
noncomputable def fnJ {B:Type} (F:FuncId) (mr:RowM B) (H:Hp):List SV→Option ((Int×B)×List Nat)
 |[.one (.v (.int .i64 n)),.one (.fn f [.p k 0 0])]=>fnK F mr k f n (H k)
 |_=>none
theorem SY {B:Type} (F f:FuncId) (mr:RowM B) (H:Hp) (n:Int) (k:Nat):fnJ F mr H [.one (.v (.int .i64 n)),.one (.fn f [.p k 0 0])]=fnK F mr k f n (H k):=rfl
theorem V8 {B:Type} (F:FuncId) (mr:RowM B) (k:Nat) (n:Int) (u:Nat) (x:Value) (z r:List C) (h:z.length+1=mr.z.length):fnK F mr k F n (some (.vec u (.v x::z) [r]))=(mr.d r).map fun b=>((n,b),[k]):=if_pos ⟨rfl,h,rfl⟩
theorem Vo {B:Type} {F:FuncId} {mr:RowM B} {H:Hp} {l:List SV} {n:Int} {b:B} {ks:List Nat} (h:fnJ F mr H l=some ((n,b),ks)):∃k u z,ks=[k]∧l=[.one (.v (.int .i64 n)),.one (.fn F [.p k 0 0])]∧H k=some (.vec u z [mr.e b])∧z.length=mr.z.length∧zT z=none:=by
 unfold fnJ at h
 split at h
 ·unfold fnK at h
  split at h
  ·rename_i k _ u z r hk
   split at h
   ·rename_i hz
    simp only[Option.map_eq_some_iff,jP]at h
    obtain⟨b',hb,⟨rfl,rfl⟩,rfl⟩:=h
    obtain rfl:=mr.h _ _ hb
    obtain⟨rfl,hz⟩:=hz
    exact⟨_,_,_,rfl,rfl,hk,hz⟩
   ·cases h
  ·cases h
 ·cases h
noncomputable def DV {B:Type} (F:FuncId) (mr:RowM B):ArgL (Int×B) where
 d H l:=fnJ F mr H l
 args p:=[.one (.v (.int .i64 p.1)),.one (.fn F [.p 0 0 0])]
 mem p:=[.vec mr.z [mr.e p.2]]
 h H l a ks h:=by
  obtain⟨n,b⟩:=a
  obtain⟨k,u,z,rfl,rfl,hk,hz,hz0⟩:=Vo h
  refine⟨rfl,rfl,fun i j hi=>?_⟩
  match i,hi with
  |0,hi=>
   obtain rfl:=Option.some.inj hi
   refine⟨_,rfl,?_⟩
   rw[hk]
   refine⟨?_,hz,.inl mr.t⟩
   show [mr.e b]=[(mr.e b).map _]
   rw[Dh fun c hc=>EW (mr.n b c hc)]
  |i+1,hi=>simp at hi
 n a m hm c hc:=by
  simp only[mem_singleton]at hm
  subst hm
  simp only[ML.cells,List.flatMap_cons,List.flatMap_nil,List.append_nil,id]at hc
  exact .inl (mr.n _ c hc)
 an a v hv:=by
  simp only[List.mem_cons,List.not_mem_nil,or_false]at hv
  rcases hv with rfl|rfl
  ·exact .inl rfl
  ·refine .inr (.inr (.inr ⟨_,_,rfl,fun x hx=>?_⟩))
   simp only[mem_singleton]at hx
   subst hx
   exact .inr (.inr ⟨0,0,0,rfl,by show 0<1;decide⟩)
 l H H' v a ks h hk:=by
  obtain⟨n,b⟩:=a
  obtain⟨k,u,z,rfl,rfl,h1,hz,hz0⟩:=Vo h
  rw[SY]at h ⊢
  rw[hk k (by simp)];exact h
theorem SZ {B:Type} (F:FuncId) (mr:RowM B) (H:Hp) (l:List SV):(DV F mr).d H l=fnJ F mr H l:=rfl
theorem Jt {B:Type} (F:FuncId) (mr:RowM B) (n:Int) (b:B):(DV F mr).args (n,b)=[.one (.v (.int .i64 n)),.one (.fn F [.p 0 0 0])]:=rfl
theorem Sa {B:Type} (F:FuncId) (mr:RowM B) (n:Int) (b:B):(DV F mr).mem (n,b)=[.vec mr.z [mr.e b]]:=rfl
theorem D9 (es:List (List UInt8×Int)) (s:List UInt8):B0 (es.map fun p=>(p.1,[C.v (.int .i64 p.2)])) s=(B0 es s).map fun i=>[C.v (.int .i64 i)]:=N1 (fun i:Int=>[C.v (.int .i64 i)]) s es
theorem DA (es:List (List UInt8×Int)) (s:List UInt8) (i:Int):C8 (es.map fun p=>(p.1,[C.v (.int .i64 p.2)])) s [.v (.int .i64 i)]=(C8 es s i).map fun p=>(p.1,[C.v (.int .i64 p.2)]):=Ra (fun i:Int=>[C.v (.int .i64 i)]) s i es
theorem Z6 (P:Pg):∀q,some q∈[some ((zPg,[pgR P]):MV)]→∀r∈q.2,∀c∈r,c.names=[]:=by
 intro q hq r hr c hc
 simp only[mem_singleton,jS]at hq
 subst hq
 simp only[mem_singleton]at hr
 subst hr
 exact OR P c hc
theorem im (P:Sta):∀q,some q∈[some ((zSta,[stR P]):MV)]→∀r∈q.2,∀c∈r,c.names=[]:=by
 intro q hq r hr c hc
 simp only[mem_singleton,jS]at hq
 subst hq
 simp only[mem_singleton]at hr
 subst hr
 exact SU P c hc
abbrev Pt (i:Int) (p:Pg):Prop:=0≤i∧i<(p.fs.length:Int)
abbrev Ju (i:Int) (p:Pg):SV:=.one (.v (.string (bs ((p.fs.map Fn.name).getD i.toNat []))))
abbrev Mb (i:Int) (p:Pg):List (Option MV):=[some (zPg,[pgR p])]
noncomputable abbrev Md:ArgM ((Int)×(Pg)×Unit):=(amD (cInt .i64) (amP (mPg) am0))
abbrev tI:Prop:=Cq Try.prog 32 ((Md).args 0) (Md).mem (fun p:(Int)×(Pg)×Unit=>Pt p.1 p.2.1) (fun p:(Int)×(Pg)×Unit=>Ju p.1 p.2.1) (fun p:(Int)×(Pg)×Unit=>Mb p.1 p.2.1)
theorem tJ:∀p,(fun p:(Int)×(Pg)×Unit=>Pt p.1 p.2.1) p→DY ((Md).mem p).length ((fun p:(Int)×(Pg)×Unit=>Mb p.1 p.2.1) p)=true:=by intro p _;rfl
theorem tK:∀p,(fun p:(Int)×(Pg)×Unit=>Pt p.1 p.2.1) p→BF ((fun p:(Int)×(Pg)×Unit=>Mb p.1 p.2.1) p).length ((fun p:(Int)×(Pg)×Unit=>Ju p.1 p.2.1) p)=true:=by intro p _;first|rfl|exact Ak _ _|exact Al _ _|(simp[BF,CV,Ak,Al];done)
theorem tL:∀p,(fun p:(Int)×(Pg)×Unit=>Pt p.1 p.2.1) p→∀q,some q∈(fun p:(Int)×(Pg)×Unit=>Mb p.1 p.2.1) p→∀r∈q.2,∀c∈r,c.names=[]:=by intro p _;exact Z6 _
attribute [local go_sem] Jt SZ Sa SY V8 SS P5 SR Qj SW SX pgR stR
theorem zL:tI:=by
 rintro ⟨i,p,_u⟩ w M I lab fz xs hc hA hl hx
 refine BQ Try.func32 rfl ((Md).mem ⟨i,p,_u⟩) w M I lab fz [] [] ((Md).args 0 ⟨i,p,_u⟩) ((fun p:(Int)×(Pg)×Unit=>Mb p.1 p.2.1) ⟨i,p,_u⟩) ((fun p:(Int)×(Pg)×Unit=>Ju p.1 p.2.1) ⟨i,p,_u⟩) xs hA hl hx (fun v hv k hk=>by have:=(Md).an 0 ⟨i,p,_u⟩ v hv k hk;omega) (jN rfl) (jN rfl) ?_
 clear hx hl hA xs
 simp only[Try.f32]
 have hi:0≤i∧i<(p.fs.length:Int):=hc
 have hg:=zK hi
 simp only[↓eB,seval,go_sem,hg]
 try simp only[A3,A4]
 repeat' first|exact ck|with_reducible apply And.intro|intro _
 all_goals first|exact hi.1|exact hi.2|(rename_i h;first|exact oI h|exact nah h)|(rename_i _ h _ g;exact sL h g)|decide|omega|(refine A0 [] ?_;simp only[↓eB,seval,go_sem,bne,Ju,Mb])
noncomputable def OS {X:Ctx} {w0:World}:Sy.Spec Try.prog X w0:=DT 32 Try.call32 (Md) (fun p:(Int)×(Pg)×Unit=>Pt p.1 p.2.1) (fun p:(Int)×(Pg)×Unit=>Ju p.1 p.2.1) (fun p:(Int)×(Pg)×Unit=>Mb p.1 p.2.1) tJ tK tL zL
abbrev Pu (i:Int) (p:Pg):Prop:=0≤i∧i<(p.g.c.length:Int)
abbrev Jv (i:Int) (p:Pg):SV:=.one (.v (.string (bs ((p.g.c).getD i.toNat []))))
abbrev Me (i:Int) (p:Pg):List (Option MV):=[some (zPg,[pgR p])]
noncomputable abbrev Mf:ArgM ((Int)×(Pg)×Unit):=(amD (cInt .i64) (amP (mPg) am0))
abbrev tM:Prop:=Cq Try.prog 33 ((Mf).args 0) (Mf).mem (fun p:(Int)×(Pg)×Unit=>Pu p.1 p.2.1) (fun p:(Int)×(Pg)×Unit=>Jv p.1 p.2.1) (fun p:(Int)×(Pg)×Unit=>Me p.1 p.2.1)
theorem tN:∀p,(fun p:(Int)×(Pg)×Unit=>Pu p.1 p.2.1) p→DY ((Mf).mem p).length ((fun p:(Int)×(Pg)×Unit=>Me p.1 p.2.1) p)=true:=by intro p _;rfl
theorem tO:∀p,(fun p:(Int)×(Pg)×Unit=>Pu p.1 p.2.1) p→BF ((fun p:(Int)×(Pg)×Unit=>Me p.1 p.2.1) p).length ((fun p:(Int)×(Pg)×Unit=>Jv p.1 p.2.1) p)=true:=by intro p _;first|rfl|exact Ak _ _|exact Al _ _|(simp[BF,CV,Ak,Al];done)
theorem tP:∀p,(fun p:(Int)×(Pg)×Unit=>Pu p.1 p.2.1) p→∀q,some q∈(fun p:(Int)×(Pg)×Unit=>Me p.1 p.2.1) p→∀r∈q.2,∀c∈r,c.names=[]:=by intro p _;exact Z6 _
theorem zM:tM:=by
 rintro ⟨i,p,_u⟩ w M I lab fz xs hc hA hl hx
 refine BQ Try.func33 rfl ((Mf).mem ⟨i,p,_u⟩) w M I lab fz [] [] ((Mf).args 0 ⟨i,p,_u⟩) ((fun p:(Int)×(Pg)×Unit=>Me p.1 p.2.1) ⟨i,p,_u⟩) ((fun p:(Int)×(Pg)×Unit=>Jv p.1 p.2.1) ⟨i,p,_u⟩) xs hA hl hx (fun v hv k hk=>by have:=(Mf).an 0 ⟨i,p,_u⟩ v hv k hk;omega) (jN rfl) (jN rfl) ?_
 clear hx hl hA xs
 simp only[Try.f33]
 have hi:0≤i∧i<(p.g.c.length:Int):=hc
 have hg:=A4W hi
 simp only[↓eB,seval,go_sem,hg]
 try simp only[A3,A4]
 repeat' first|exact ck|with_reducible apply And.intro|intro _
 all_goals first|exact hi.1|exact hi.2|(rename_i h;first|exact oI h|exact nah h)|(rename_i _ h _ g;exact sL h g)|decide|omega|(refine A0 [] ?_;simp only[↓eB,seval,go_sem,bne,Jv,Me])
noncomputable def OT {X:Ctx} {w0:World}:Sy.Spec Try.prog X w0:=DT 33 Try.call33 (Mf) (fun p:(Int)×(Pg)×Unit=>Pu p.1 p.2.1) (fun p:(Int)×(Pg)×Unit=>Jv p.1 p.2.1) (fun p:(Int)×(Pg)×Unit=>Me p.1 p.2.1) tN tO tP zM
abbrev Pv (i:Int) (p:Pg):Prop:=0≤i∧i<(p.g.a.length:Int)
abbrev Jw (i:Int) (p:Pg):SV:=.one (.v (.string (bs ((p.g.a.map Gy.s).getD i.toNat []))))
abbrev Mg (i:Int) (p:Pg):List (Option MV):=[some (zPg,[pgR p])]
noncomputable abbrev Mh:ArgM ((Int)×(Pg)×Unit):=(amD (cInt .i64) (amP (mPg) am0))
abbrev tQ:Prop:=Cq Try.prog 34 ((Mh).args 0) (Mh).mem (fun p:(Int)×(Pg)×Unit=>Pv p.1 p.2.1) (fun p:(Int)×(Pg)×Unit=>Jw p.1 p.2.1) (fun p:(Int)×(Pg)×Unit=>Mg p.1 p.2.1)
theorem tR:∀p,(fun p:(Int)×(Pg)×Unit=>Pv p.1 p.2.1) p→DY ((Mh).mem p).length ((fun p:(Int)×(Pg)×Unit=>Mg p.1 p.2.1) p)=true:=by intro p _;rfl
theorem tS:∀p,(fun p:(Int)×(Pg)×Unit=>Pv p.1 p.2.1) p→BF ((fun p:(Int)×(Pg)×Unit=>Mg p.1 p.2.1) p).length ((fun p:(Int)×(Pg)×Unit=>Jw p.1 p.2.1) p)=true:=by intro p _;first|rfl|exact Ak _ _|exact Al _ _|(simp[BF,CV,Ak,Al];done)
theorem tT:∀p,(fun p:(Int)×(Pg)×Unit=>Pv p.1 p.2.1) p→∀q,some q∈(fun p:(Int)×(Pg)×Unit=>Mg p.1 p.2.1) p→∀r∈q.2,∀c∈r,c.names=[]:=by intro p _;exact Z6 _
theorem zN:tQ:=by
 rintro ⟨i,p,_u⟩ w M I lab fz xs hc hA hl hx
 refine BQ Try.func34 rfl ((Mh).mem ⟨i,p,_u⟩) w M I lab fz [] [] ((Mh).args 0 ⟨i,p,_u⟩) ((fun p:(Int)×(Pg)×Unit=>Mg p.1 p.2.1) ⟨i,p,_u⟩) ((fun p:(Int)×(Pg)×Unit=>Jw p.1 p.2.1) ⟨i,p,_u⟩) xs hA hl hx (fun v hv k hk=>by have:=(Mh).an 0 ⟨i,p,_u⟩ v hv k hk;omega) (jN rfl) (jN rfl) ?_
 clear hx hl hA xs
 simp only[Try.f34]
 have hi:0≤i∧i<(p.g.a.length:Int):=hc
 have hg:=A4X hi
 simp only[↓eB,seval,go_sem,hg]
 try simp only[A3,A4]
 repeat' first|exact ck|with_reducible apply And.intro|intro _
 all_goals first|exact hi.1|exact hi.2|(rename_i h;first|exact oI h|exact nah h)|(rename_i _ h _ g;exact sL h g)|decide|omega|(refine A0 [] ?_;simp only[↓eB,seval,go_sem,bne,Jw,Mg])
noncomputable def OU {X:Ctx} {w0:World}:Sy.Spec Try.prog X w0:=DT 34 Try.call34 (Mh) (fun p:(Int)×(Pg)×Unit=>Pv p.1 p.2.1) (fun p:(Int)×(Pg)×Unit=>Jw p.1 p.2.1) (fun p:(Int)×(Pg)×Unit=>Mg p.1 p.2.1) tR tS tT zN
abbrev Pw (i:Int) (p:Sta):Prop:=0≤i∧i<(p.cs.length:Int)
abbrev Jx (i:Int) (p:Sta):SV:=.one (.v (.string (bs ((p.cs.map Nb.s).getD i.toNat []))))
abbrev Mi (i:Int) (p:Sta):List (Option MV):=[some (zSta,[stR p])]
noncomputable abbrev Mj:ArgM ((Int)×(Sta)×Unit):=(amD (cInt .i64) (amP (mSt) am0))
abbrev tU:Prop:=Cq Try.prog 46 ((Mj).args 0) (Mj).mem (fun p:(Int)×(Sta)×Unit=>Pw p.1 p.2.1) (fun p:(Int)×(Sta)×Unit=>Jx p.1 p.2.1) (fun p:(Int)×(Sta)×Unit=>Mi p.1 p.2.1)
theorem tV:∀p,(fun p:(Int)×(Sta)×Unit=>Pw p.1 p.2.1) p→DY ((Mj).mem p).length ((fun p:(Int)×(Sta)×Unit=>Mi p.1 p.2.1) p)=true:=by intro p _;rfl
theorem tW:∀p,(fun p:(Int)×(Sta)×Unit=>Pw p.1 p.2.1) p→BF ((fun p:(Int)×(Sta)×Unit=>Mi p.1 p.2.1) p).length ((fun p:(Int)×(Sta)×Unit=>Jx p.1 p.2.1) p)=true:=by intro p _;first|rfl|exact Ak _ _|exact Al _ _|(simp[BF,CV,Ak,Al];done)
theorem tX:∀p,(fun p:(Int)×(Sta)×Unit=>Pw p.1 p.2.1) p→∀q,some q∈(fun p:(Int)×(Sta)×Unit=>Mi p.1 p.2.1) p→∀r∈q.2,∀c∈r,c.names=[]:=by intro p _;exact im _
theorem zO:tU:=by
 rintro ⟨i,p,_u⟩ w M I lab fz xs hc hA hl hx
 refine BQ Try.func46 rfl ((Mj).mem ⟨i,p,_u⟩) w M I lab fz [] [] ((Mj).args 0 ⟨i,p,_u⟩) ((fun p:(Int)×(Sta)×Unit=>Mi p.1 p.2.1) ⟨i,p,_u⟩) ((fun p:(Int)×(Sta)×Unit=>Jx p.1 p.2.1) ⟨i,p,_u⟩) xs hA hl hx (fun v hv k hk=>by have:=(Mj).an 0 ⟨i,p,_u⟩ v hv k hk;omega) (jN rfl) (jN rfl) ?_
 clear hx hl hA xs
 simp only[Try.f46]
 have hi:0≤i∧i<(p.cs.length:Int):=hc
 have hg:=ik hi
 simp only[↓eB,seval,go_sem,hg]
 try simp only[A3,A4]
 repeat' first|exact ck|with_reducible apply And.intro|intro _
 all_goals first|exact hi.1|exact hi.2|(rename_i h;first|exact oI h|exact nah h)|(rename_i _ h _ g;exact sL h g)|decide|omega|(refine A0 [] ?_;simp only[↓eB,seval,go_sem,bne,Jx,Mi])
noncomputable def OV {X:Ctx} {w0:World}:Sy.Spec Try.prog X w0:=DT 46 Try.call46 (Mj) (fun p:(Int)×(Sta)×Unit=>Pw p.1 p.2.1) (fun p:(Int)×(Sta)×Unit=>Jx p.1 p.2.1) (fun p:(Int)×(Sta)×Unit=>Mi p.1 p.2.1) tV tW tX zO
abbrev Px (i:Int) (p:Sta):Prop:=0≤i∧i<(p.ar.length:Int)
abbrev Jy (i:Int) (p:Sta):SV:=.one (.v (.string (bs ((p.ar.map Na.s).getD i.toNat []))))
abbrev Ml (i:Int) (p:Sta):List (Option MV):=[some (zSta,[stR p])]
noncomputable abbrev Mm:ArgM ((Int)×(Sta)×Unit):=(amD (cInt .i64) (amP (mSt) am0))
abbrev tY:Prop:=Cq Try.prog 47 ((Mm).args 0) (Mm).mem (fun p:(Int)×(Sta)×Unit=>Px p.1 p.2.1) (fun p:(Int)×(Sta)×Unit=>Jy p.1 p.2.1) (fun p:(Int)×(Sta)×Unit=>Ml p.1 p.2.1)
theorem tZ:∀p,(fun p:(Int)×(Sta)×Unit=>Px p.1 p.2.1) p→DY ((Mm).mem p).length ((fun p:(Int)×(Sta)×Unit=>Ml p.1 p.2.1) p)=true:=by intro p _;rfl
theorem tb:∀p,(fun p:(Int)×(Sta)×Unit=>Px p.1 p.2.1) p→BF ((fun p:(Int)×(Sta)×Unit=>Ml p.1 p.2.1) p).length ((fun p:(Int)×(Sta)×Unit=>Jy p.1 p.2.1) p)=true:=by intro p _;first|rfl|exact Ak _ _|exact Al _ _|(simp[BF,CV,Ak,Al];done)
theorem te:∀p,(fun p:(Int)×(Sta)×Unit=>Px p.1 p.2.1) p→∀q,some q∈(fun p:(Int)×(Sta)×Unit=>Ml p.1 p.2.1) p→∀r∈q.2,∀c∈r,c.names=[]:=by intro p _;exact im _
theorem zP:tY:=by
 rintro ⟨i,p,_u⟩ w M I lab fz xs hc hA hl hx
 refine BQ Try.func47 rfl ((Mm).mem ⟨i,p,_u⟩) w M I lab fz [] [] ((Mm).args 0 ⟨i,p,_u⟩) ((fun p:(Int)×(Sta)×Unit=>Ml p.1 p.2.1) ⟨i,p,_u⟩) ((fun p:(Int)×(Sta)×Unit=>Jy p.1 p.2.1) ⟨i,p,_u⟩) xs hA hl hx (fun v hv k hk=>by have:=(Mm).an 0 ⟨i,p,_u⟩ v hv k hk;omega) (jN rfl) (jN rfl) ?_
 clear hx hl hA xs
 simp only[Try.f47]
 have hi:0≤i∧i<(p.ar.length:Int):=hc
 have hg:=il hi
 simp only[↓eB,seval,go_sem,hg]
 try simp only[A3,A4]
 repeat' first|exact ck|with_reducible apply And.intro|intro _
 all_goals first|exact hi.1|exact hi.2|(rename_i h;first|exact oI h|exact nah h)|(rename_i _ h _ g;exact sL h g)|decide|omega|(refine A0 [] ?_;simp only[↓eB,seval,go_sem,bne,Jy,Ml])
noncomputable def OW {X:Ctx} {w0:World}:Sy.Spec Try.prog X w0:=DT 47 Try.call47 (Mm) (fun p:(Int)×(Sta)×Unit=>Px p.1 p.2.1) (fun p:(Int)×(Sta)×Unit=>Jy p.1 p.2.1) (fun p:(Int)×(Sta)×Unit=>Ml p.1 p.2.1) tZ tb te zP
end Go.Proofs.Ytjnnmindcbgjhaa
