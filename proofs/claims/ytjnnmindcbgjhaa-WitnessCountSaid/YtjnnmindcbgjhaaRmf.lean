/- The first of each name, walked. No conditions but those in each statement. -/
import Derived.Test.YtjnnmindcbgjhaaRmd
set_option linter.unusedVariables false
set_option linter.unusedSimpArgs false
set_option maxRecDepth 20000
set_option maxHeartbeats 16000000
open List (mem_singleton)
namespace Go.Proofs.Ytjnnmindcbgjhaa
open Go Go.Sy Go.RowKit
def pgR (P:Pg):List C:=[.d (.sl Fj (P.g.c.map cSd)),.d (.sl Gm (P.g.a.map Gy.r)),.d (.sl zFn (P.fs.map Fn.r))]
abbrev zPg:List C:=[.v (.slice none 0 0),.v (.slice none 0 0),.v (.slice none 0 0)]
theorem np (a b:Pg) (h:pgR a=pgR b):a=b:=by
 obtain⟨⟨c,a⟩,fs⟩:=a
 obtain⟨⟨c',a'⟩,fs'⟩:=b
 simp only[pgR,List.cons.injEq,C.d.injEq,D.sl.injEq,true_and,and_true]at h
 rw[Ay Rg h.1,Ay Rh h.2.1,Ay Wd h.2.2]
theorem PJ (P:Pg):∀c∈pgR P,c.names=[]:=by
 intro c hc
 simp only[pgR,List.mem_cons,List.not_mem_nil,or_false]at hc
 rcases hc with rfl|rfl|rfl<;>rfl
noncomputable def mPg:RowM Pg:=Lt zPg pgR PJ
theorem Q1:mPg.e=pgR:=rfl
theorem Tg:mPg.z=zPg:=rfl
theorem Th (c:List (List UInt8)) (a:List Gy) (fs:List Fn):mPg.d [.d (.sl Fj (c.map cSd)),.d (.sl Gm (a.map Gy.r)),.d (.sl zFn (fs.map Fn.r))]=some ⟨⟨c,a⟩,fs⟩:=HC np ⟨⟨c,a⟩,fs⟩
structure Sta where
 cs:List Nb
 ar:List Na
def Nb.r (x:Nb):List D:=[.v (.string (bs x.s)),.v (.int .i64 x.n)]
def iD (n:Int):List D:=[.v (.int .i64 n)]
abbrev zIw:List D:=[.v (.int .i64 0)]
def Na.r (x:Na):List D:=[.v (.string (bs x.s)),.sl zIw (x.l.map iD)]
abbrev ON:List D:=[.v (.string (bs [])),.v (.int .i64 0)]
abbrev OO:List D:=[.v (.string (bs [])),.v (.slice none 0 0)]
def stR (s:Sta):List C:=[.d (.sl ON (s.cs.map Nb.r)),.d (.sl OO (s.ar.map Na.r))]
abbrev zSta:List C:=[.v (.slice none 0 0),.v (.slice none 0 0)]
theorem ZF (a b:Nb) (h:a.r=b.r):a=b:=by
 obtain⟨s,n⟩:=a
 obtain⟨s',n'⟩:=b
 simp only[Nb.r,List.cons.injEq,D.v.injEq,Value.string.injEq,Value.int.injEq,true_and,and_true]at h
 rw[bs_inj h.1,h.2]
theorem dH (a b:Int) (h:iD a=iD b):a=b:=by simpa [iD] using h
theorem ZG (a b:Na) (h:a.r=b.r):a=b:=by
 obtain⟨s,n⟩:=a
 obtain⟨s',n'⟩:=b
 simp only[Na.r,List.cons.injEq,D.v.injEq,D.sl.injEq,Value.string.injEq,true_and,and_true]at h
 rw[bs_inj h.1,Ay dH h.2]
theorem nq (a b:Sta) (h:stR a=stR b):a=b:=by
 obtain⟨c,a⟩:=a
 obtain⟨c',a'⟩:=b
 simp only[stR,List.cons.injEq,C.d.injEq,D.sl.injEq,true_and,and_true]at h
 rw[Ay ZF h.1,Ay ZG h.2]
theorem Ti (s:Sta):∀c∈stR s,c.names=[]:=by
 intro c hc
 simp only[stR,List.mem_cons,List.not_mem_nil,or_false]at hc
 rcases hc with rfl|rfl<;>rfl
noncomputable def mSt:RowM Sta:=Lt zSta stR Ti
theorem Tj:mSt.e=stR:=rfl
theorem Tk:mSt.z=zSta:=rfl
theorem Rp (c:List Nb) (a:List Na):mSt.d [.d (.sl ON (c.map Nb.r)),.d (.sl OO (a.map Na.r))]=some ⟨c,a⟩:=HC nq ⟨c,a⟩
theorem A68 {l:List (List UInt8)} {i:Int} (h:0≤i∧i<(l.length:Int)) (z:List D):(l.map cSd).getD i.toNat z=[.v (.string (bs (l.getD i.toNat [])))]:=by
 have h1:i.toNat<l.length:=by omega
 simp[List.getD,h1,cSd]
theorem A69 {l:List Gy} {i:Int} (h:0≤i∧i<(l.length:Int)) (z:List D):(l.map Gy.r).getD i.toNat z=[.v (.string (bs ((l.map Gy.s).getD i.toNat []))),.v (.int .i64 (l.getD i.toNat ⟨[],0⟩).n)]:=by
 have h1:i.toNat<l.length:=by omega
 simp[List.getD,h1,Gy.r]
theorem A13 {l:List Fn} {i:Int} (h:0≤i∧i<(l.length:Int)) (z:List D):(l.map Fn.r).getD i.toNat z=[.v (.string (bs ((l.map Fn.name).getD i.toNat []))),.sl zVr ((l.getD i.toNat ⟨[],[],[],[]⟩).ps.map Vr.r),.sl zVr ((l.getD i.toNat ⟨[],[],[],[]⟩).ls.map Vr.r),.sl zSm ((l.getD i.toNat ⟨[],[],[],[]⟩).body.map Sm.r)]:=by
 have h1:i.toNat<l.length:=by omega
 simp[List.getD,h1,Fn.r,dS]
theorem jy {l:List Nb} {i:Int} (h:0≤i∧i<(l.length:Int)) (z:List D):(l.map Nb.r).getD i.toNat z=[.v (.string (bs ((l.map Nb.s).getD i.toNat []))),.v (.int .i64 (l.getD i.toNat ⟨[],0⟩).n)]:=by
 have h1:i.toNat<l.length:=by omega
 simp[List.getD,h1,Nb.r]
theorem jz {l:List Na} {i:Int} (h:0≤i∧i<(l.length:Int)) (z:List D):(l.map Na.r).getD i.toNat z=[.v (.string (bs ((l.map Na.s).getD i.toNat []))),.sl zIw ((l.getD i.toNat ⟨[],[]⟩).l.map iD)]:=by
 have h1:i.toNat<l.length:=by omega
 simp[List.getD,h1,Na.r]
noncomputable def fnK {B:Type} (F:FuncId) (mr:RowM B) (k f:Nat) (n:Int):Option Ch→Option ((Int×B)×List Nat)
 |some (.vec _ z [r])=>if f=F∧z.length=mr.z.length∧zT z=none then (mr.d r).map fun b=>((n,b),[k]) else none
 |_=>none
noncomputable def fnJ {B:Type} (F:FuncId) (mr:RowM B) (H:Hp):List SV→Option ((Int×B)×List Nat)
 |[.one (.v (.int .i64 n)),.one (.fn f [.p k 0 0])]=>fnK F mr k f n (H k)
 |_=>none
theorem Tl {B:Type} (F f:FuncId) (mr:RowM B) (H:Hp) (n:Int) (k:Nat):fnJ F mr H [.one (.v (.int .i64 n)),.one (.fn f [.p k 0 0])]=fnK F mr k f n (H k):=rfl
theorem WL {B:Type} (F:FuncId) (mr:RowM B) (k:Nat) (n:Int) (u:Nat) (x:Value) (z r:List C) (h:z.length+1=mr.z.length):fnK F mr k F n (some (.vec u (.v x::z) [r]))=(mr.d r).map fun b=>((n,b),[k]):=if_pos ⟨rfl,h,rfl⟩
theorem X5 {B:Type} {F:FuncId} {mr:RowM B} {H:Hp} {l:List SV} {n:Int} {b:B} {ks:List Nat} (h:fnJ F mr H l=some ((n,b),ks)):∃k u z,ks=[k]∧l=[.one (.v (.int .i64 n)),.one (.fn F [.p k 0 0])]∧H k=some (.vec u z [mr.e b])∧z.length=mr.z.length∧zT z=none:=by
 unfold fnJ at h
 split at h
 ·unfold fnK at h
  split at h
  ·rename_i k _ u z r hk
   split at h
   ·rename_i hz
    simp only[Option.map_eq_some_iff,jP]at h
    obtain⟨b',hb,⟨rfl,rfl⟩,rfl⟩:=h
    obtain rfl:=mr.h _ _ hb
    obtain⟨rfl,hz⟩:=hz
    exact⟨_,_,_,rfl,rfl,hk,hz⟩
   ·cases h
  ·cases h
 ·cases h
noncomputable def Dc {B:Type} (F:FuncId) (mr:RowM B):ArgL (Int×B) where
 d H l:=fnJ F mr H l
 args p:=[.one (.v (.int .i64 p.1)),.one (.fn F [.p 0 0 0])]
 mem p:=[.vec mr.z [mr.e p.2]]
 h H l a ks h:=by
  obtain⟨n,b⟩:=a
  obtain⟨k,u,z,rfl,rfl,hk,hz,hz0⟩:=X5 h
  refine⟨rfl,rfl,fun i j hi=>?_⟩
  match i,hi with
  |0,hi=>
   obtain rfl:=Option.some.inj hi
   refine⟨_,rfl,?_⟩
   rw[hk]
   refine⟨?_,hz,.inl mr.t⟩
   show [mr.e b]=[(mr.e b).map _]
   rw[Dq fun c hc=>Eg (mr.n b c hc)]
  |i+1,hi=>simp at hi
 n a m hm c hc:=by
  simp only[mem_singleton]at hm
  subst hm
  simp only[ML.cells,List.flatMap_cons,List.flatMap_nil,List.append_nil,id]at hc
  exact .inl (mr.n _ c hc)
 an a v hv:=by
  simp only[List.mem_cons,List.not_mem_nil,or_false]at hv
  rcases hv with rfl|rfl
  ·exact .inl rfl
  ·refine .inr (.inr (.inr ⟨_,_,rfl,fun x hx=>?_⟩))
   simp only[mem_singleton]at hx
   subst hx
   exact .inr (.inr ⟨0,0,0,rfl,by show 0<1;decide⟩)
 l H H' v a ks h hk:=by
  obtain⟨n,b⟩:=a
  obtain⟨k,u,z,rfl,rfl,h1,hz,hz0⟩:=X5 h
  rw[Tl]at h ⊢
  rw[hk k (by simp)];exact h
theorem Tm {B:Type} (F:FuncId) (mr:RowM B) (H:Hp) (l:List SV):(Dc F mr).d H l=fnJ F mr H l:=rfl
theorem KP {B:Type} (F:FuncId) (mr:RowM B) (n:Int) (b:B):(Dc F mr).args (n,b)=[.one (.v (.int .i64 n)),.one (.fn F [.p 0 0 0])]:=rfl
theorem Tn {B:Type} (F:FuncId) (mr:RowM B) (n:Int) (b:B):(Dc F mr).mem (n,b)=[.vec mr.z [mr.e b]]:=rfl
theorem DG (es:List (List UInt8×Int)) (s:List UInt8):B4 (es.map fun p=>(p.1,[C.v (.int .i64 p.2)])) s=(B4 es s).map fun i=>[C.v (.int .i64 i)]:=Ng (fun i:Int=>[C.v (.int .i64 i)]) s es
theorem DH (es:List (List UInt8×Int)) (s:List UInt8) (i:Int):CB (es.map fun p=>(p.1,[C.v (.int .i64 p.2)])) s [.v (.int .i64 i)]=(CB es s i).map fun p=>(p.1,[C.v (.int .i64 p.2)]):=Sj (fun i:Int=>[C.v (.int .i64 i)]) s i es
theorem aK (P:Pg):∀q,some q∈[some ((zPg,[pgR P]):MV)]→∀r∈q.2,∀c∈r,c.names=[]:=by
 intro q hq r hr c hc
 simp only[mem_singleton,jS]at hq
 subst hq
 simp only[mem_singleton]at hr
 subst hr
 exact PJ P c hc
theorem kA (P:Sta):∀q,some q∈[some ((zSta,[stR P]):MV)]→∀r∈q.2,∀c∈r,c.names=[]:=by
 intro q hq r hr c hc
 simp only[mem_singleton,jS]at hq
 subst hq
 simp only[mem_singleton]at hr
 subst hr
 exact Ti P c hc
abbrev Qx (i:Int) (p:Pg):Prop:=0≤i∧i<(p.fs.length:Int)
abbrev KQ (i:Int) (p:Pg):SV:=.one (.v (.string (bs ((p.fs.map Fn.name).getD i.toNat []))))
abbrev NI (i:Int) (p:Pg):List (Option MV):=[some (zPg,[pgR p])]
noncomputable abbrev NJ:ArgM ((Int)×(Pg)×Unit):=(amD (cInt .i64) (amP (mPg) am0))
abbrev uZ:Prop:=Bs Try.prog 32 ((NJ).args 0) (NJ).mem (fun p:(Int)×(Pg)×Unit=>Qx p.1 p.2.1) (fun p:(Int)×(Pg)×Unit=>KQ p.1 p.2.1) (fun p:(Int)×(Pg)×Unit=>NI p.1 p.2.1)
theorem ua:∀p,(fun p:(Int)×(Pg)×Unit=>Qx p.1 p.2.1) p→Co ((NJ).mem p).length ((fun p:(Int)×(Pg)×Unit=>NI p.1 p.2.1) p)=true:=by intro p _;rfl
theorem ub:∀p,(fun p:(Int)×(Pg)×Unit=>Qx p.1 p.2.1) p→Au ((fun p:(Int)×(Pg)×Unit=>NI p.1 p.2.1) p).length ((fun p:(Int)×(Pg)×Unit=>KQ p.1 p.2.1) p)=true:=by intro p _;first|rfl|exact AO _ _|exact AP _ _|(simp[Au,C0,AO,AP];done)
theorem uc:∀p,(fun p:(Int)×(Pg)×Unit=>Qx p.1 p.2.1) p→∀q,some q∈(fun p:(Int)×(Pg)×Unit=>NI p.1 p.2.1) p→∀r∈q.2,∀c∈r,c.names=[]:=by intro p _;exact aK _
attribute [local go_sem] KP Tm Tn Tl WL Th Q1 Tg Rp Tj Tk pgR stR
theorem A14:uZ:=by
 rintro ⟨i,p,_u⟩ w M I lab fz xs hc hA hl hx
 refine Am Try.func32 rfl ((NJ).mem ⟨i,p,_u⟩) w M I lab fz [] [] ((NJ).args 0 ⟨i,p,_u⟩) ((fun p:(Int)×(Pg)×Unit=>NI p.1 p.2.1) ⟨i,p,_u⟩) ((fun p:(Int)×(Pg)×Unit=>KQ p.1 p.2.1) ⟨i,p,_u⟩) xs hA hl hx (fun v hv k hk=>by have:=(NJ).an 0 ⟨i,p,_u⟩ v hv k hk;omega) (jN rfl) (jN rfl) ?_
 clear hx hl hA xs
 simp only[Try.f32]
 have hi:0≤i∧i<(p.fs.length:Int):=hc
 have hg:=A13 hi
 simp only[↓eB,seval,go_sem,hg]
 try simp only[A2,A3]
 repeat' first|exact ck|with_reducible apply And.intro|intro _
 all_goals first|exact hi.1|exact hi.2|(rename_i h;first|exact oI h|exact nah h)|(rename_i _ h _ g;exact sL h g)|decide|omega|(refine A0 [] ?_;simp only[↓eB,seval,go_sem,bne,KQ,NI])
noncomputable def PK {X:Ctx} {w0:World}:Sy.Spec Try.prog X w0:=Ca 32 Try.call32 (NJ) (fun p:(Int)×(Pg)×Unit=>Qx p.1 p.2.1) (fun p:(Int)×(Pg)×Unit=>KQ p.1 p.2.1) (fun p:(Int)×(Pg)×Unit=>NI p.1 p.2.1) ua ub uc A14
abbrev Qy (i:Int) (p:Pg):Prop:=0≤i∧i<(p.g.c.length:Int)
abbrev KR (i:Int) (p:Pg):SV:=.one (.v (.string (bs ((p.g.c).getD i.toNat []))))
abbrev NK (i:Int) (p:Pg):List (Option MV):=[some (zPg,[pgR p])]
noncomputable abbrev NL:ArgM ((Int)×(Pg)×Unit):=(amD (cInt .i64) (amP (mPg) am0))
abbrev ud:Prop:=Bs Try.prog 33 ((NL).args 0) (NL).mem (fun p:(Int)×(Pg)×Unit=>Qy p.1 p.2.1) (fun p:(Int)×(Pg)×Unit=>KR p.1 p.2.1) (fun p:(Int)×(Pg)×Unit=>NK p.1 p.2.1)
theorem ue:∀p,(fun p:(Int)×(Pg)×Unit=>Qy p.1 p.2.1) p→Co ((NL).mem p).length ((fun p:(Int)×(Pg)×Unit=>NK p.1 p.2.1) p)=true:=by intro p _;rfl
theorem uf:∀p,(fun p:(Int)×(Pg)×Unit=>Qy p.1 p.2.1) p→Au ((fun p:(Int)×(Pg)×Unit=>NK p.1 p.2.1) p).length ((fun p:(Int)×(Pg)×Unit=>KR p.1 p.2.1) p)=true:=by intro p _;first|rfl|exact AO _ _|exact AP _ _|(simp[Au,C0,AO,AP];done)
theorem ug:∀p,(fun p:(Int)×(Pg)×Unit=>Qy p.1 p.2.1) p→∀q,some q∈(fun p:(Int)×(Pg)×Unit=>NK p.1 p.2.1) p→∀r∈q.2,∀c∈r,c.names=[]:=by intro p _;exact aK _
theorem A15:ud:=by
 rintro ⟨i,p,_u⟩ w M I lab fz xs hc hA hl hx
 refine Am Try.func33 rfl ((NL).mem ⟨i,p,_u⟩) w M I lab fz [] [] ((NL).args 0 ⟨i,p,_u⟩) ((fun p:(Int)×(Pg)×Unit=>NK p.1 p.2.1) ⟨i,p,_u⟩) ((fun p:(Int)×(Pg)×Unit=>KR p.1 p.2.1) ⟨i,p,_u⟩) xs hA hl hx (fun v hv k hk=>by have:=(NL).an 0 ⟨i,p,_u⟩ v hv k hk;omega) (jN rfl) (jN rfl) ?_
 clear hx hl hA xs
 simp only[Try.f33]
 have hi:0≤i∧i<(p.g.c.length:Int):=hc
 have hg:=A68 hi
 simp only[↓eB,seval,go_sem,hg]
 try simp only[A2,A3]
 repeat' first|exact ck|with_reducible apply And.intro|intro _
 all_goals first|exact hi.1|exact hi.2|(rename_i h;first|exact oI h|exact nah h)|(rename_i _ h _ g;exact sL h g)|decide|omega|(refine A0 [] ?_;simp only[↓eB,seval,go_sem,bne,KR,NK])
noncomputable def PL {X:Ctx} {w0:World}:Sy.Spec Try.prog X w0:=Ca 33 Try.call33 (NL) (fun p:(Int)×(Pg)×Unit=>Qy p.1 p.2.1) (fun p:(Int)×(Pg)×Unit=>KR p.1 p.2.1) (fun p:(Int)×(Pg)×Unit=>NK p.1 p.2.1) ue uf ug A15
abbrev Qz (i:Int) (p:Pg):Prop:=0≤i∧i<(p.g.a.length:Int)
abbrev KS (i:Int) (p:Pg):SV:=.one (.v (.string (bs ((p.g.a.map Gy.s).getD i.toNat []))))
abbrev NM (i:Int) (p:Pg):List (Option MV):=[some (zPg,[pgR p])]
noncomputable abbrev NN:ArgM ((Int)×(Pg)×Unit):=(amD (cInt .i64) (amP (mPg) am0))
abbrev uh:Prop:=Bs Try.prog 34 ((NN).args 0) (NN).mem (fun p:(Int)×(Pg)×Unit=>Qz p.1 p.2.1) (fun p:(Int)×(Pg)×Unit=>KS p.1 p.2.1) (fun p:(Int)×(Pg)×Unit=>NM p.1 p.2.1)
theorem ui:∀p,(fun p:(Int)×(Pg)×Unit=>Qz p.1 p.2.1) p→Co ((NN).mem p).length ((fun p:(Int)×(Pg)×Unit=>NM p.1 p.2.1) p)=true:=by intro p _;rfl
theorem uj:∀p,(fun p:(Int)×(Pg)×Unit=>Qz p.1 p.2.1) p→Au ((fun p:(Int)×(Pg)×Unit=>NM p.1 p.2.1) p).length ((fun p:(Int)×(Pg)×Unit=>KS p.1 p.2.1) p)=true:=by intro p _;first|rfl|exact AO _ _|exact AP _ _|(simp[Au,C0,AO,AP];done)
theorem uk:∀p,(fun p:(Int)×(Pg)×Unit=>Qz p.1 p.2.1) p→∀q,some q∈(fun p:(Int)×(Pg)×Unit=>NM p.1 p.2.1) p→∀r∈q.2,∀c∈r,c.names=[]:=by intro p _;exact aK _
theorem A16:uh:=by
 rintro ⟨i,p,_u⟩ w M I lab fz xs hc hA hl hx
 refine Am Try.func34 rfl ((NN).mem ⟨i,p,_u⟩) w M I lab fz [] [] ((NN).args 0 ⟨i,p,_u⟩) ((fun p:(Int)×(Pg)×Unit=>NM p.1 p.2.1) ⟨i,p,_u⟩) ((fun p:(Int)×(Pg)×Unit=>KS p.1 p.2.1) ⟨i,p,_u⟩) xs hA hl hx (fun v hv k hk=>by have:=(NN).an 0 ⟨i,p,_u⟩ v hv k hk;omega) (jN rfl) (jN rfl) ?_
 clear hx hl hA xs
 simp only[Try.f34]
 have hi:0≤i∧i<(p.g.a.length:Int):=hc
 have hg:=A69 hi
 simp only[↓eB,seval,go_sem,hg]
 try simp only[A2,A3]
 repeat' first|exact ck|with_reducible apply And.intro|intro _
 all_goals first|exact hi.1|exact hi.2|(rename_i h;first|exact oI h|exact nah h)|(rename_i _ h _ g;exact sL h g)|decide|omega|(refine A0 [] ?_;simp only[↓eB,seval,go_sem,bne,KS,NM])
noncomputable def PM {X:Ctx} {w0:World}:Sy.Spec Try.prog X w0:=Ca 34 Try.call34 (NN) (fun p:(Int)×(Pg)×Unit=>Qz p.1 p.2.1) (fun p:(Int)×(Pg)×Unit=>KS p.1 p.2.1) (fun p:(Int)×(Pg)×Unit=>NM p.1 p.2.1) ui uj uk A16
abbrev R0 (i:Int) (p:Sta):Prop:=0≤i∧i<(p.cs.length:Int)
abbrev KT (i:Int) (p:Sta):SV:=.one (.v (.string (bs ((p.cs.map Nb.s).getD i.toNat []))))
abbrev NO (i:Int) (p:Sta):List (Option MV):=[some (zSta,[stR p])]
noncomputable abbrev NP:ArgM ((Int)×(Sta)×Unit):=(amD (cInt .i64) (amP (mSt) am0))
abbrev ul:Prop:=Bs Try.prog 46 ((NP).args 0) (NP).mem (fun p:(Int)×(Sta)×Unit=>R0 p.1 p.2.1) (fun p:(Int)×(Sta)×Unit=>KT p.1 p.2.1) (fun p:(Int)×(Sta)×Unit=>NO p.1 p.2.1)
theorem um:∀p,(fun p:(Int)×(Sta)×Unit=>R0 p.1 p.2.1) p→Co ((NP).mem p).length ((fun p:(Int)×(Sta)×Unit=>NO p.1 p.2.1) p)=true:=by intro p _;rfl
theorem uo:∀p,(fun p:(Int)×(Sta)×Unit=>R0 p.1 p.2.1) p→Au ((fun p:(Int)×(Sta)×Unit=>NO p.1 p.2.1) p).length ((fun p:(Int)×(Sta)×Unit=>KT p.1 p.2.1) p)=true:=by intro p _;first|rfl|exact AO _ _|exact AP _ _|(simp[Au,C0,AO,AP];done)
theorem ur:∀p,(fun p:(Int)×(Sta)×Unit=>R0 p.1 p.2.1) p→∀q,some q∈(fun p:(Int)×(Sta)×Unit=>NO p.1 p.2.1) p→∀r∈q.2,∀c∈r,c.names=[]:=by intro p _;exact kA _
theorem A17:ul:=by
 rintro ⟨i,p,_u⟩ w M I lab fz xs hc hA hl hx
 refine Am Try.func46 rfl ((NP).mem ⟨i,p,_u⟩) w M I lab fz [] [] ((NP).args 0 ⟨i,p,_u⟩) ((fun p:(Int)×(Sta)×Unit=>NO p.1 p.2.1) ⟨i,p,_u⟩) ((fun p:(Int)×(Sta)×Unit=>KT p.1 p.2.1) ⟨i,p,_u⟩) xs hA hl hx (fun v hv k hk=>by have:=(NP).an 0 ⟨i,p,_u⟩ v hv k hk;omega) (jN rfl) (jN rfl) ?_
 clear hx hl hA xs
 simp only[Try.f46]
 have hi:0≤i∧i<(p.cs.length:Int):=hc
 have hg:=jy hi
 simp only[↓eB,seval,go_sem,hg]
 try simp only[A2,A3]
 repeat' first|exact ck|with_reducible apply And.intro|intro _
 all_goals first|exact hi.1|exact hi.2|(rename_i h;first|exact oI h|exact nah h)|(rename_i _ h _ g;exact sL h g)|decide|omega|(refine A0 [] ?_;simp only[↓eB,seval,go_sem,bne,KT,NO])
noncomputable def PN {X:Ctx} {w0:World}:Sy.Spec Try.prog X w0:=Ca 46 Try.call46 (NP) (fun p:(Int)×(Sta)×Unit=>R0 p.1 p.2.1) (fun p:(Int)×(Sta)×Unit=>KT p.1 p.2.1) (fun p:(Int)×(Sta)×Unit=>NO p.1 p.2.1) um uo ur A17
abbrev R1 (i:Int) (p:Sta):Prop:=0≤i∧i<(p.ar.length:Int)
abbrev KU (i:Int) (p:Sta):SV:=.one (.v (.string (bs ((p.ar.map Na.s).getD i.toNat []))))
abbrev NQ (i:Int) (p:Sta):List (Option MV):=[some (zSta,[stR p])]
noncomputable abbrev NR:ArgM ((Int)×(Sta)×Unit):=(amD (cInt .i64) (amP (mSt) am0))
abbrev uu:Prop:=Bs Try.prog 47 ((NR).args 0) (NR).mem (fun p:(Int)×(Sta)×Unit=>R1 p.1 p.2.1) (fun p:(Int)×(Sta)×Unit=>KU p.1 p.2.1) (fun p:(Int)×(Sta)×Unit=>NQ p.1 p.2.1)
theorem uv:∀p,(fun p:(Int)×(Sta)×Unit=>R1 p.1 p.2.1) p→Co ((NR).mem p).length ((fun p:(Int)×(Sta)×Unit=>NQ p.1 p.2.1) p)=true:=by intro p _;rfl
theorem uw:∀p,(fun p:(Int)×(Sta)×Unit=>R1 p.1 p.2.1) p→Au ((fun p:(Int)×(Sta)×Unit=>NQ p.1 p.2.1) p).length ((fun p:(Int)×(Sta)×Unit=>KU p.1 p.2.1) p)=true:=by intro p _;first|rfl|exact AO _ _|exact AP _ _|(simp[Au,C0,AO,AP];done)
theorem ux:∀p,(fun p:(Int)×(Sta)×Unit=>R1 p.1 p.2.1) p→∀q,some q∈(fun p:(Int)×(Sta)×Unit=>NQ p.1 p.2.1) p→∀r∈q.2,∀c∈r,c.names=[]:=by intro p _;exact kA _
theorem A18:uu:=by
 rintro ⟨i,p,_u⟩ w M I lab fz xs hc hA hl hx
 refine Am Try.func47 rfl ((NR).mem ⟨i,p,_u⟩) w M I lab fz [] [] ((NR).args 0 ⟨i,p,_u⟩) ((fun p:(Int)×(Sta)×Unit=>NQ p.1 p.2.1) ⟨i,p,_u⟩) ((fun p:(Int)×(Sta)×Unit=>KU p.1 p.2.1) ⟨i,p,_u⟩) xs hA hl hx (fun v hv k hk=>by have:=(NR).an 0 ⟨i,p,_u⟩ v hv k hk;omega) (jN rfl) (jN rfl) ?_
 clear hx hl hA xs
 simp only[Try.f47]
 have hi:0≤i∧i<(p.ar.length:Int):=hc
 have hg:=jz hi
 simp only[↓eB,seval,go_sem,hg]
 try simp only[A2,A3]
 repeat' first|exact ck|with_reducible apply And.intro|intro _
 all_goals first|exact hi.1|exact hi.2|(rename_i h;first|exact oI h|exact nah h)|(rename_i _ h _ g;exact sL h g)|decide|omega|(refine A0 [] ?_;simp only[↓eB,seval,go_sem,bne,KU,NQ])
noncomputable def PO {X:Ctx} {w0:World}:Sy.Spec Try.prog X w0:=Ca 47 Try.call47 (NR) (fun p:(Int)×(Sta)×Unit=>R1 p.1 p.2.1) (fun p:(Int)×(Sta)×Unit=>KU p.1 p.2.1) (fun p:(Int)×(Sta)×Unit=>NQ p.1 p.2.1) uv uw ux A18
end Go.Proofs.Ytjnnmindcbgjhaa
