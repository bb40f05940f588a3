/- The first of each name, walked. No conditions but those in each statement. -/
import Derived.Test.YtjnnmindcbgjhaaRmd
set_option linter.unusedVariables false
set_option linter.unusedSimpArgs false
set_option maxRecDepth 20000
set_option maxHeartbeats 16000000
open List (mem_singleton)
namespace Go.Proofs.Ytjnnmindcbgjhaa
open Go Go.Sy Go.RowKit
def pgR (P:Pg):List C:=[.d (.sl H5 (P.g.c.map cSd)),.d (.sl HU (P.g.a.map Gy.r)),.d (.sl zFn (P.fs.map Fn.r))]
abbrev zPg:List C:=[.v (.slice none 0 0),.v (.slice none 0 0),.v (.slice none 0 0)]
theorem pO (a b:Pg) (h:pgR a=pgR b):a=b:=by
 obtain⟨⟨c,a⟩,fs⟩:=a
 obtain⟨⟨c',a'⟩,fs'⟩:=b
 simp only[pgR,List.cons.injEq,C.d.injEq,D.sl.injEq,true_and,and_true]at h
 rw[Az Rt h.1,Az Ru h.2.1,Az X1 h.2.2]
theorem PP (P:Pg):∀c∈pgR P,c.names=[]:=by
 intro c hc
 simp only[pgR,List.mem_cons,List.not_mem_nil,or_false]at hc
 rcases hc with rfl|rfl|rfl<;>rfl
noncomputable def mPg:RowM Pg:=MD zPg pgR PP
theorem QB:mPg.e=pgR:=rfl
theorem Tv:mPg.z=zPg:=rfl
theorem Tw (c:List (List UInt8)) (a:List Gy) (fs:List Fn):mPg.d [.d (.sl H5 (c.map cSd)),.d (.sl HU (a.map Gy.r)),.d (.sl zFn (fs.map Fn.r))]=some ⟨⟨c,a⟩,fs⟩:=Hc pO ⟨⟨c,a⟩,fs⟩
structure Sta where
 cs:List Nb
 ar:List Na
def Nb.r (x:Nb):List D:=[.v (.string (bs x.s)),.v (.int .i64 x.n)]
def iD (n:Int):List D:=[.v (.int .i64 n)]
abbrev zIw:List D:=[.v (.int .i64 0)]
def Na.r (x:Na):List D:=[.v (.string (bs x.s)),.sl zIw (x.l.map iD)]
abbrev G6:List D:=[.v (.string (bs [])),.v (.int .i64 0)]
abbrev G7:List D:=[.v (.string (bs [])),.v (.slice none 0 0)]
def stR (s:Sta):List C:=[.d (.sl G6 (s.cs.map Nb.r)),.d (.sl G7 (s.ar.map Na.r))]
abbrev zSta:List C:=[.v (.slice none 0 0),.v (.slice none 0 0)]
theorem V7 (a b:Nb) (h:a.r=b.r):a=b:=by
 obtain⟨s,n⟩:=a
 obtain⟨s',n'⟩:=b
 simp only[Nb.r,List.cons.injEq,D.v.injEq,Value.string.injEq,Value.int.injEq,true_and,and_true]at h
 rw[bs_inj h.1,h.2]
theorem XR (a b:Int) (h:iD a=iD b):a=b:=by simpa [iD] using h
theorem V8 (a b:Na) (h:a.r=b.r):a=b:=by
 obtain⟨s,n⟩:=a
 obtain⟨s',n'⟩:=b
 simp only[Na.r,List.cons.injEq,D.v.injEq,D.sl.injEq,Value.string.injEq,true_and,and_true]at h
 rw[bs_inj h.1,Az XR h.2]
theorem pP (a b:Sta) (h:stR a=stR b):a=b:=by
 obtain⟨c,a⟩:=a
 obtain⟨c',a'⟩:=b
 simp only[stR,List.cons.injEq,C.d.injEq,D.sl.injEq,true_and,and_true]at h
 rw[Az V7 h.1,Az V8 h.2]
theorem Tx (s:Sta):∀c∈stR s,c.names=[]:=by
 intro c hc
 simp only[stR,List.mem_cons,List.not_mem_nil,or_false]at hc
 rcases hc with rfl|rfl<;>rfl
noncomputable def mSt:RowM Sta:=MD zSta stR Tx
theorem Ty:mSt.e=stR:=rfl
theorem Tz:mSt.z=zSta:=rfl
theorem S2 (c:List Nb) (a:List Na):mSt.d [.d (.sl G6 (c.map Nb.r)),.d (.sl G7 (a.map Na.r))]=some ⟨c,a⟩:=Hc pP ⟨c,a⟩
theorem A6V {l:List (List UInt8)} {i:Int} (h:0≤i∧i<(l.length:Int)) (z:List D):(l.map cSd).getD i.toNat z=[.v (.string (bs (l.getD i.toNat [])))]:=by
 have h1:i.toNat<l.length:=by omega
 simp[List.getD,h1,cSd]
theorem A6W {l:List Gy} {i:Int} (h:0≤i∧i<(l.length:Int)) (z:List D):(l.map Gy.r).getD i.toNat z=[.v (.string (bs ((l.map Gy.s).getD i.toNat []))),.v (.int .i64 (l.getD i.toNat ⟨[],0⟩).n)]:=by
 have h1:i.toNat<l.length:=by omega
 simp[List.getD,h1,Gy.r]
theorem A1U {l:List Fn} {i:Int} (h:0≤i∧i<(l.length:Int)) (z:List D):(l.map Fn.r).getD i.toNat z=[.v (.string (bs ((l.map Fn.name).getD i.toNat []))),.sl zVr ((l.getD i.toNat ⟨[],[],[],[]⟩).ps.map Vr.r),.sl zVr ((l.getD i.toNat ⟨[],[],[],[]⟩).ls.map Vr.r),.sl zSm ((l.getD i.toNat ⟨[],[],[],[]⟩).body.map Sm.r)]:=by
 have h1:i.toNat<l.length:=by omega
 simp[List.getD,h1,Fn.r,dS]
theorem lI {l:List Nb} {i:Int} (h:0≤i∧i<(l.length:Int)) (z:List D):(l.map Nb.r).getD i.toNat z=[.v (.string (bs ((l.map Nb.s).getD i.toNat []))),.v (.int .i64 (l.getD i.toNat ⟨[],0⟩).n)]:=by
 have h1:i.toNat<l.length:=by omega
 simp[List.getD,h1,Nb.r]
theorem lJ {l:List Na} {i:Int} (h:0≤i∧i<(l.length:Int)) (z:List D):(l.map Na.r).getD i.toNat z=[.v (.string (bs ((l.map Na.s).getD i.toNat []))),.sl zIw ((l.getD i.toNat ⟨[],[]⟩).l.map iD)]:=by
 have h1:i.toNat<l.length:=by omega
 simp[List.getD,h1,Na.r]
noncomputable def fnK {B:Type} (F:FuncId) (mr:RowM B) (k f:Nat) (n:Int):Option Ch→Option ((Int×B)×List Nat)
 |some (.vec _ z [r])=>if f=F∧z.length=mr.z.length∧zT z=none then (mr.d r).map fun b=>((n,b),[k]) else none
 |_=>none
noncomputable def fnJ {B:Type} (F:FuncId) (mr:RowM B) (H:Hp):List SV→Option ((Int×B)×List Nat)
 |[.one (.v (.int .i64 n)),.one (.fn f [.p k 0 0])]=>fnK F mr k f n (H k)
 |_=>none
theorem U0 {B:Type} (F f:FuncId) (mr:RowM B) (H:Hp) (n:Int) (k:Nat):fnJ F mr H [.one (.v (.int .i64 n)),.one (.fn f [.p k 0 0])]=fnK F mr k f n (H k):=rfl
theorem Wj {B:Type} (F:FuncId) (mr:RowM B) (k:Nat) (n:Int) (u:Nat) (x:Value) (z r:List C) (h:z.length+1=mr.z.length):fnK F mr k F n (some (.vec u (.v x::z) [r]))=(mr.d r).map fun b=>((n,b),[k]):=if_pos ⟨rfl,h,rfl⟩
theorem XS {B:Type} {F:FuncId} {mr:RowM B} {H:Hp} {l:List SV} {n:Int} {b:B} {ks:List Nat} (h:fnJ F mr H l=some ((n,b),ks)):∃k u z,ks=[k]∧l=[.one (.v (.int .i64 n)),.one (.fn F [.p k 0 0])]∧H k=some (.vec u z [mr.e b])∧z.length=mr.z.length∧zT z=none:=by
 unfold fnJ at h
 split at h
 ·unfold fnK at h
  split at h
  ·rename_i k _ u z r hk
   split at h
   ·rename_i hz
    simp only[Option.map_eq_some_iff,jP]at h
    obtain⟨b',hb,⟨rfl,rfl⟩,rfl⟩:=h
    obtain rfl:=mr.h _ _ hb
    obtain⟨rfl,hz⟩:=hz
    exact⟨_,_,_,rfl,rfl,hk,hz⟩
   ·cases h
  ·cases h
 ·cases h
noncomputable def Dc {B:Type} (F:FuncId) (mr:RowM B):ArgL (Int×B) where
 d H l:=fnJ F mr H l
 args p:=[.one (.v (.int .i64 p.1)),.one (.fn F [.p 0 0 0])]
 mem p:=[.vec mr.z [mr.e p.2]]
 h H l a ks h:=by
  obtain⟨n,b⟩:=a
  obtain⟨k,u,z,rfl,rfl,hk,hz,hz0⟩:=XS h
  refine⟨rfl,rfl,fun i j hi=>?_⟩
  match i,hi with
  |0,hi=>
   obtain rfl:=Option.some.inj hi
   refine⟨_,rfl,?_⟩
   rw[hk]
   refine⟨?_,hz,.inl mr.t⟩
   show [mr.e b]=[(mr.e b).map _]
   rw[Dq fun c hc=>Eh (mr.n b c hc)]
  |i+1,hi=>simp at hi
 n a m hm c hc:=by
  simp only[mem_singleton]at hm
  subst hm
  simp only[ML.cells,List.flatMap_cons,List.flatMap_nil,List.append_nil,id]at hc
  exact .inl (mr.n _ c hc)
 an a v hv:=by
  simp only[List.mem_cons,List.not_mem_nil,or_false]at hv
  rcases hv with rfl|rfl
  ·exact .inl rfl
  ·refine .inr (.inr (.inr ⟨_,_,rfl,fun x hx=>?_⟩))
   simp only[mem_singleton]at hx
   subst hx
   exact .inr (.inr ⟨0,0,0,rfl,by show 0<1;decide⟩)
 l H H' v a ks h hk:=by
  obtain⟨n,b⟩:=a
  obtain⟨k,u,z,rfl,rfl,h1,hz,hz0⟩:=XS h
  rw[U0]at h ⊢
  rw[hk k (by simp)];exact h
theorem U1 {B:Type} (F:FuncId) (mr:RowM B) (H:Hp) (l:List SV):(Dc F mr).d H l=fnJ F mr H l:=rfl
theorem Kb {B:Type} (F:FuncId) (mr:RowM B) (n:Int) (b:B):(Dc F mr).args (n,b)=[.one (.v (.int .i64 n)),.one (.fn F [.p 0 0 0])]:=rfl
theorem U2 {B:Type} (F:FuncId) (mr:RowM B) (n:Int) (b:B):(Dc F mr).mem (n,b)=[.vec mr.z [mr.e b]]:=rfl
theorem DG (es:List (List UInt8×Int)) (s:List UInt8):Ap (es.map fun p=>(p.1,[C.v (.int .i64 p.2)])) s=(Ap es s).map fun i=>[C.v (.int .i64 i)]:=Ny (fun i:Int=>[C.v (.int .i64 i)]) s es
theorem DH (es:List (List UInt8×Int)) (s:List UInt8) (i:Int):C2 (es.map fun p=>(p.1,[C.v (.int .i64 p.2)])) s [.v (.int .i64 i)]=(C2 es s i).map fun p=>(p.1,[C.v (.int .i64 p.2)]):=T9 (fun i:Int=>[C.v (.int .i64 i)]) s i es
theorem bB (P:Pg):∀q,some q∈[some ((zPg,[pgR P]):MV)]→∀r∈q.2,∀c∈r,c.names=[]:=by
 intro q hq r hr c hc
 simp only[mem_singleton,jS]at hq
 subst hq
 simp only[mem_singleton]at hr
 subst hr
 exact PP P c hc
theorem lK (P:Sta):∀q,some q∈[some ((zSta,[stR P]):MV)]→∀r∈q.2,∀c∈r,c.names=[]:=by
 intro q hq r hr c hc
 simp only[mem_singleton,jS]at hq
 subst hq
 simp only[mem_singleton]at hr
 subst hr
 exact Tx P c hc
abbrev R6 (i:Int) (p:Pg):Prop:=0≤i∧i<(p.fs.length:Int)
abbrev Kc (i:Int) (p:Pg):SV:=.one (.v (.string (bs ((p.fs.map Fn.name).getD i.toNat []))))
abbrev NW (i:Int) (p:Pg):List (Option MV):=[some (zPg,[pgR p])]
noncomputable abbrev NX:ArgM ((Int)×(Pg)×Unit):=(amD (cInt .i64) (amP (mPg) am0))
abbrev vi:Prop:=Bt Try.prog 32 ((NX).args 0) (NX).mem (fun p:(Int)×(Pg)×Unit=>R6 p.1 p.2.1) (fun p:(Int)×(Pg)×Unit=>Kc p.1 p.2.1) (fun p:(Int)×(Pg)×Unit=>NW p.1 p.2.1)
theorem vj:∀p,(fun p:(Int)×(Pg)×Unit=>R6 p.1 p.2.1) p→Cn ((NX).mem p).length ((fun p:(Int)×(Pg)×Unit=>NW p.1 p.2.1) p)=true:=by intro p _;rfl
theorem vk:∀p,(fun p:(Int)×(Pg)×Unit=>R6 p.1 p.2.1) p→Av ((fun p:(Int)×(Pg)×Unit=>NW p.1 p.2.1) p).length ((fun p:(Int)×(Pg)×Unit=>Kc p.1 p.2.1) p)=true:=by intro p _;first|rfl|exact AO _ _|exact AP _ _|(simp[Av,C0,AO,AP];done)
theorem vm:∀p,(fun p:(Int)×(Pg)×Unit=>R6 p.1 p.2.1) p→∀q,some q∈(fun p:(Int)×(Pg)×Unit=>NW p.1 p.2.1) p→∀r∈q.2,∀c∈r,c.names=[]:=by intro p _;exact bB _
attribute [local go_sem] Kb U1 U2 U0 Wj Tw QB Tv S2 Ty Tz pgR stR
theorem A1V:vi:=by
 rintro ⟨i,p,_u⟩ w M I lab fz xs hc hA hl hx
 refine An Try.func32 rfl ((NX).mem ⟨i,p,_u⟩) w M I lab fz [] [] ((NX).args 0 ⟨i,p,_u⟩) ((fun p:(Int)×(Pg)×Unit=>NW p.1 p.2.1) ⟨i,p,_u⟩) ((fun p:(Int)×(Pg)×Unit=>Kc p.1 p.2.1) ⟨i,p,_u⟩) xs hA hl hx (fun v hv k hk=>by have:=(NX).an 0 ⟨i,p,_u⟩ v hv k hk;omega) (jN rfl) (jN rfl) ?_
 clear hx hl hA xs
 simp only[Try.f32]
 have hi:0≤i∧i<(p.fs.length:Int):=hc
 have hg:=A1U hi
 simp only[↓eB,seval,go_sem,hg]
 try simp only[A3,A4]
 repeat' first|exact ck|with_reducible apply And.intro|intro _
 all_goals first|exact hi.1|exact hi.2|(rename_i h;first|exact oI h|exact nah h)|(rename_i _ h _ g;exact sL h g)|decide|omega|(refine A0 [] ?_;simp only[↓eB,seval,go_sem,bne,Kc,NW])
noncomputable def PQ {X:Ctx} {w0:World}:Sy.Spec Try.prog X w0:=Ca 32 Try.call32 (NX) (fun p:(Int)×(Pg)×Unit=>R6 p.1 p.2.1) (fun p:(Int)×(Pg)×Unit=>Kc p.1 p.2.1) (fun p:(Int)×(Pg)×Unit=>NW p.1 p.2.1) vj vk vm A1V
abbrev R7 (i:Int) (p:Pg):Prop:=0≤i∧i<(p.g.c.length:Int)
abbrev Ke (i:Int) (p:Pg):SV:=.one (.v (.string (bs ((p.g.c).getD i.toNat []))))
abbrev NY (i:Int) (p:Pg):List (Option MV):=[some (zPg,[pgR p])]
noncomputable abbrev NZ:ArgM ((Int)×(Pg)×Unit):=(amD (cInt .i64) (amP (mPg) am0))
abbrev vn:Prop:=Bt Try.prog 33 ((NZ).args 0) (NZ).mem (fun p:(Int)×(Pg)×Unit=>R7 p.1 p.2.1) (fun p:(Int)×(Pg)×Unit=>Ke p.1 p.2.1) (fun p:(Int)×(Pg)×Unit=>NY p.1 p.2.1)
theorem vo:∀p,(fun p:(Int)×(Pg)×Unit=>R7 p.1 p.2.1) p→Cn ((NZ).mem p).length ((fun p:(Int)×(Pg)×Unit=>NY p.1 p.2.1) p)=true:=by intro p _;rfl
theorem vq:∀p,(fun p:(Int)×(Pg)×Unit=>R7 p.1 p.2.1) p→Av ((fun p:(Int)×(Pg)×Unit=>NY p.1 p.2.1) p).length ((fun p:(Int)×(Pg)×Unit=>Ke p.1 p.2.1) p)=true:=by intro p _;first|rfl|exact AO _ _|exact AP _ _|(simp[Av,C0,AO,AP];done)
theorem vr:∀p,(fun p:(Int)×(Pg)×Unit=>R7 p.1 p.2.1) p→∀q,some q∈(fun p:(Int)×(Pg)×Unit=>NY p.1 p.2.1) p→∀r∈q.2,∀c∈r,c.names=[]:=by intro p _;exact bB _
theorem A1W:vn:=by
 rintro ⟨i,p,_u⟩ w M I lab fz xs hc hA hl hx
 refine An Try.func33 rfl ((NZ).mem ⟨i,p,_u⟩) w M I lab fz [] [] ((NZ).args 0 ⟨i,p,_u⟩) ((fun p:(Int)×(Pg)×Unit=>NY p.1 p.2.1) ⟨i,p,_u⟩) ((fun p:(Int)×(Pg)×Unit=>Ke p.1 p.2.1) ⟨i,p,_u⟩) xs hA hl hx (fun v hv k hk=>by have:=(NZ).an 0 ⟨i,p,_u⟩ v hv k hk;omega) (jN rfl) (jN rfl) ?_
 clear hx hl hA xs
 simp only[Try.f33]
 have hi:0≤i∧i<(p.g.c.length:Int):=hc
 have hg:=A6V hi
 simp only[↓eB,seval,go_sem,hg]
 try simp only[A3,A4]
 repeat' first|exact ck|with_reducible apply And.intro|intro _
 all_goals first|exact hi.1|exact hi.2|(rename_i h;first|exact oI h|exact nah h)|(rename_i _ h _ g;exact sL h g)|decide|omega|(refine A0 [] ?_;simp only[↓eB,seval,go_sem,bne,Ke,NY])
noncomputable def PR {X:Ctx} {w0:World}:Sy.Spec Try.prog X w0:=Ca 33 Try.call33 (NZ) (fun p:(Int)×(Pg)×Unit=>R7 p.1 p.2.1) (fun p:(Int)×(Pg)×Unit=>Ke p.1 p.2.1) (fun p:(Int)×(Pg)×Unit=>NY p.1 p.2.1) vo vq vr A1W
abbrev R8 (i:Int) (p:Pg):Prop:=0≤i∧i<(p.g.a.length:Int)
abbrev Kf (i:Int) (p:Pg):SV:=.one (.v (.string (bs ((p.g.a.map Gy.s).getD i.toNat []))))
abbrev Nc (i:Int) (p:Pg):List (Option MV):=[some (zPg,[pgR p])]
noncomputable abbrev Nd:ArgM ((Int)×(Pg)×Unit):=(amD (cInt .i64) (amP (mPg) am0))
abbrev vt:Prop:=Bt Try.prog 34 ((Nd).args 0) (Nd).mem (fun p:(Int)×(Pg)×Unit=>R8 p.1 p.2.1) (fun p:(Int)×(Pg)×Unit=>Kf p.1 p.2.1) (fun p:(Int)×(Pg)×Unit=>Nc p.1 p.2.1)
theorem vu:∀p,(fun p:(Int)×(Pg)×Unit=>R8 p.1 p.2.1) p→Cn ((Nd).mem p).length ((fun p:(Int)×(Pg)×Unit=>Nc p.1 p.2.1) p)=true:=by intro p _;rfl
theorem vx:∀p,(fun p:(Int)×(Pg)×Unit=>R8 p.1 p.2.1) p→Av ((fun p:(Int)×(Pg)×Unit=>Nc p.1 p.2.1) p).length ((fun p:(Int)×(Pg)×Unit=>Kf p.1 p.2.1) p)=true:=by intro p _;first|rfl|exact AO _ _|exact AP _ _|(simp[Av,C0,AO,AP];done)
theorem vy:∀p,(fun p:(Int)×(Pg)×Unit=>R8 p.1 p.2.1) p→∀q,some q∈(fun p:(Int)×(Pg)×Unit=>Nc p.1 p.2.1) p→∀r∈q.2,∀c∈r,c.names=[]:=by intro p _;exact bB _
theorem A1X:vt:=by
 rintro ⟨i,p,_u⟩ w M I lab fz xs hc hA hl hx
 refine An Try.func34 rfl ((Nd).mem ⟨i,p,_u⟩) w M I lab fz [] [] ((Nd).args 0 ⟨i,p,_u⟩) ((fun p:(Int)×(Pg)×Unit=>Nc p.1 p.2.1) ⟨i,p,_u⟩) ((fun p:(Int)×(Pg)×Unit=>Kf p.1 p.2.1) ⟨i,p,_u⟩) xs hA hl hx (fun v hv k hk=>by have:=(Nd).an 0 ⟨i,p,_u⟩ v hv k hk;omega) (jN rfl) (jN rfl) ?_
 clear hx hl hA xs
 simp only[Try.f34]
 have hi:0≤i∧i<(p.g.a.length:Int):=hc
 have hg:=A6W hi
 simp only[↓eB,seval,go_sem,hg]
 try simp only[A3,A4]
 repeat' first|exact ck|with_reducible apply And.intro|intro _
 all_goals first|exact hi.1|exact hi.2|(rename_i h;first|exact oI h|exact nah h)|(rename_i _ h _ g;exact sL h g)|decide|omega|(refine A0 [] ?_;simp only[↓eB,seval,go_sem,bne,Kf,Nc])
noncomputable def PS {X:Ctx} {w0:World}:Sy.Spec Try.prog X w0:=Ca 34 Try.call34 (Nd) (fun p:(Int)×(Pg)×Unit=>R8 p.1 p.2.1) (fun p:(Int)×(Pg)×Unit=>Kf p.1 p.2.1) (fun p:(Int)×(Pg)×Unit=>Nc p.1 p.2.1) vu vx vy A1X
abbrev R9 (i:Int) (p:Sta):Prop:=0≤i∧i<(p.cs.length:Int)
abbrev Kg (i:Int) (p:Sta):SV:=.one (.v (.string (bs ((p.cs.map Nb.s).getD i.toNat []))))
abbrev Nf (i:Int) (p:Sta):List (Option MV):=[some (zSta,[stR p])]
noncomputable abbrev Ng:ArgM ((Int)×(Sta)×Unit):=(amD (cInt .i64) (amP (mSt) am0))
abbrev vz:Prop:=Bt Try.prog 46 ((Ng).args 0) (Ng).mem (fun p:(Int)×(Sta)×Unit=>R9 p.1 p.2.1) (fun p:(Int)×(Sta)×Unit=>Kg p.1 p.2.1) (fun p:(Int)×(Sta)×Unit=>Nf p.1 p.2.1)
theorem w5:∀p,(fun p:(Int)×(Sta)×Unit=>R9 p.1 p.2.1) p→Cn ((Ng).mem p).length ((fun p:(Int)×(Sta)×Unit=>Nf p.1 p.2.1) p)=true:=by intro p _;rfl
theorem w7:∀p,(fun p:(Int)×(Sta)×Unit=>R9 p.1 p.2.1) p→Av ((fun p:(Int)×(Sta)×Unit=>Nf p.1 p.2.1) p).length ((fun p:(Int)×(Sta)×Unit=>Kg p.1 p.2.1) p)=true:=by intro p _;first|rfl|exact AO _ _|exact AP _ _|(simp[Av,C0,AO,AP];done)
theorem w8:∀p,(fun p:(Int)×(Sta)×Unit=>R9 p.1 p.2.1) p→∀q,some q∈(fun p:(Int)×(Sta)×Unit=>Nf p.1 p.2.1) p→∀r∈q.2,∀c∈r,c.names=[]:=by intro p _;exact lK _
theorem A1Y:vz:=by
 rintro ⟨i,p,_u⟩ w M I lab fz xs hc hA hl hx
 refine An Try.func46 rfl ((Ng).mem ⟨i,p,_u⟩) w M I lab fz [] [] ((Ng).args 0 ⟨i,p,_u⟩) ((fun p:(Int)×(Sta)×Unit=>Nf p.1 p.2.1) ⟨i,p,_u⟩) ((fun p:(Int)×(Sta)×Unit=>Kg p.1 p.2.1) ⟨i,p,_u⟩) xs hA hl hx (fun v hv k hk=>by have:=(Ng).an 0 ⟨i,p,_u⟩ v hv k hk;omega) (jN rfl) (jN rfl) ?_
 clear hx hl hA xs
 simp only[Try.f46]
 have hi:0≤i∧i<(p.cs.length:Int):=hc
 have hg:=lI hi
 simp only[↓eB,seval,go_sem,hg]
 try simp only[A3,A4]
 repeat' first|exact ck|with_reducible apply And.intro|intro _
 all_goals first|exact hi.1|exact hi.2|(rename_i h;first|exact oI h|exact nah h)|(rename_i _ h _ g;exact sL h g)|decide|omega|(refine A0 [] ?_;simp only[↓eB,seval,go_sem,bne,Kg,Nf])
noncomputable def PT {X:Ctx} {w0:World}:Sy.Spec Try.prog X w0:=Ca 46 Try.call46 (Ng) (fun p:(Int)×(Sta)×Unit=>R9 p.1 p.2.1) (fun p:(Int)×(Sta)×Unit=>Kg p.1 p.2.1) (fun p:(Int)×(Sta)×Unit=>Nf p.1 p.2.1) w5 w7 w8 A1Y
abbrev RA (i:Int) (p:Sta):Prop:=0≤i∧i<(p.ar.length:Int)
abbrev Kh (i:Int) (p:Sta):SV:=.one (.v (.string (bs ((p.ar.map Na.s).getD i.toNat []))))
abbrev Nh (i:Int) (p:Sta):List (Option MV):=[some (zSta,[stR p])]
noncomputable abbrev Ni:ArgM ((Int)×(Sta)×Unit):=(amD (cInt .i64) (amP (mSt) am0))
abbrev w9:Prop:=Bt Try.prog 47 ((Ni).args 0) (Ni).mem (fun p:(Int)×(Sta)×Unit=>RA p.1 p.2.1) (fun p:(Int)×(Sta)×Unit=>Kh p.1 p.2.1) (fun p:(Int)×(Sta)×Unit=>Nh p.1 p.2.1)
theorem wA:∀p,(fun p:(Int)×(Sta)×Unit=>RA p.1 p.2.1) p→Cn ((Ni).mem p).length ((fun p:(Int)×(Sta)×Unit=>Nh p.1 p.2.1) p)=true:=by intro p _;rfl
theorem wB:∀p,(fun p:(Int)×(Sta)×Unit=>RA p.1 p.2.1) p→Av ((fun p:(Int)×(Sta)×Unit=>Nh p.1 p.2.1) p).length ((fun p:(Int)×(Sta)×Unit=>Kh p.1 p.2.1) p)=true:=by intro p _;first|rfl|exact AO _ _|exact AP _ _|(simp[Av,C0,AO,AP];done)
theorem wC:∀p,(fun p:(Int)×(Sta)×Unit=>RA p.1 p.2.1) p→∀q,some q∈(fun p:(Int)×(Sta)×Unit=>Nh p.1 p.2.1) p→∀r∈q.2,∀c∈r,c.names=[]:=by intro p _;exact lK _
theorem A1Z:w9:=by
 rintro ⟨i,p,_u⟩ w M I lab fz xs hc hA hl hx
 refine An Try.func47 rfl ((Ni).mem ⟨i,p,_u⟩) w M I lab fz [] [] ((Ni).args 0 ⟨i,p,_u⟩) ((fun p:(Int)×(Sta)×Unit=>Nh p.1 p.2.1) ⟨i,p,_u⟩) ((fun p:(Int)×(Sta)×Unit=>Kh p.1 p.2.1) ⟨i,p,_u⟩) xs hA hl hx (fun v hv k hk=>by have:=(Ni).an 0 ⟨i,p,_u⟩ v hv k hk;omega) (jN rfl) (jN rfl) ?_
 clear hx hl hA xs
 simp only[Try.f47]
 have hi:0≤i∧i<(p.ar.length:Int):=hc
 have hg:=lJ hi
 simp only[↓eB,seval,go_sem,hg]
 try simp only[A3,A4]
 repeat' first|exact ck|with_reducible apply And.intro|intro _
 all_goals first|exact hi.1|exact hi.2|(rename_i h;first|exact oI h|exact nah h)|(rename_i _ h _ g;exact sL h g)|decide|omega|(refine A0 [] ?_;simp only[↓eB,seval,go_sem,bne,Kh,Nh])
noncomputable def PU {X:Ctx} {w0:World}:Sy.Spec Try.prog X w0:=Ca 47 Try.call47 (Ni) (fun p:(Int)×(Sta)×Unit=>RA p.1 p.2.1) (fun p:(Int)×(Sta)×Unit=>Kh p.1 p.2.1) (fun p:(Int)×(Sta)×Unit=>Nh p.1 p.2.1) wA wB wC A1Z
end Go.Proofs.Ytjnnmindcbgjhaa
