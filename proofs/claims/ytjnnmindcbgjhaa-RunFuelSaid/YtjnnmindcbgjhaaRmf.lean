/- The first of each name, walked. No conditions but those in each statement. -/
import Derived.Test.YtjnnmindcbgjhaaRmd
set_option linter.unusedVariables false
set_option linter.unusedSimpArgs false
set_option maxRecDepth 20000
set_option maxHeartbeats 16000000
open List (mem_singleton)
namespace Go.Proofs.Ytjnnmindcbgjhaa
open Go Go.Sy Go.RowKit
def pgR (P:Pg):List C:=[.d (.sl HC (P.g.c.map cSd)),.d (.sl HD (P.g.a.map Gy.r)),.d (.sl zFn (P.fs.map Fn.r))]
abbrev zPg:List C:=[.v (.slice none 0 0),.v (.slice none 0 0),.v (.slice none 0 0)]
theorem oz (a b:Pg) (h:pgR a=pgR b):a=b:=by
 obtain⟨⟨c,a⟩,fs⟩:=a
 obtain⟨⟨c',a'⟩,fs'⟩:=b
 simp only[pgR,List.cons.injEq,C.d.injEq,D.sl.injEq,true_and,and_true]at h
 rw[Ay Ra h.1,Ay Rb h.2.1,Ay Ws h.2.2]
theorem P8 (P:Pg):∀c∈pgR P,c.names=[]:=by
 intro c hc
 simp only[pgR,List.mem_cons,List.not_mem_nil,or_false]at hc
 rcases hc with rfl|rfl|rfl<;>rfl
noncomputable def mPg:RowM Pg:=Lw zPg pgR P8
theorem Pu:mPg.e=pgR:=rfl
theorem Tb:mPg.z=zPg:=rfl
theorem Tc (c:List (List UInt8)) (a:List Gy) (fs:List Fn):mPg.d [.d (.sl HC (c.map cSd)),.d (.sl HD (a.map Gy.r)),.d (.sl zFn (fs.map Fn.r))]=some ⟨⟨c,a⟩,fs⟩:=HL oz ⟨⟨c,a⟩,fs⟩
structure Sta where
 cs:List Nb
 ar:List Na
def Nb.r (x:Nb):List D:=[.v (.string (bs x.s)),.v (.int .i64 x.n)]
def iD (n:Int):List D:=[.v (.int .i64 n)]
abbrev zIw:List D:=[.v (.int .i64 0)]
def Na.r (x:Na):List D:=[.v (.string (bs x.s)),.sl zIw (x.l.map iD)]
abbrev IX:List D:=[.v (.string (bs [])),.v (.int .i64 0)]
abbrev IY:List D:=[.v (.string (bs [])),.v (.slice none 0 0)]
def stR (s:Sta):List C:=[.d (.sl IX (s.cs.map Nb.r)),.d (.sl IY (s.ar.map Na.r))]
abbrev zSta:List C:=[.v (.slice none 0 0),.v (.slice none 0 0)]
theorem Ur (a b:Nb) (h:a.r=b.r):a=b:=by
 obtain⟨s,n⟩:=a
 obtain⟨s',n'⟩:=b
 simp only[Nb.r,List.cons.injEq,D.v.injEq,Value.string.injEq,Value.int.injEq,true_and,and_true]at h
 rw[bs_inj h.1,h.2]
theorem XH (a b:Int) (h:iD a=iD b):a=b:=by simpa [iD] using h
theorem Us (a b:Na) (h:a.r=b.r):a=b:=by
 obtain⟨s,n⟩:=a
 obtain⟨s',n'⟩:=b
 simp only[Na.r,List.cons.injEq,D.v.injEq,D.sl.injEq,Value.string.injEq,true_and,and_true]at h
 rw[bs_inj h.1,Ay XH h.2]
theorem pA (a b:Sta) (h:stR a=stR b):a=b:=by
 obtain⟨c,a⟩:=a
 obtain⟨c',a'⟩:=b
 simp only[stR,List.cons.injEq,C.d.injEq,D.sl.injEq,true_and,and_true]at h
 rw[Ay Ur h.1,Ay Us h.2]
theorem Td (s:Sta):∀c∈stR s,c.names=[]:=by
 intro c hc
 simp only[stR,List.mem_cons,List.not_mem_nil,or_false]at hc
 rcases hc with rfl|rfl<;>rfl
noncomputable def mSt:RowM Sta:=Lw zSta stR Td
theorem Te:mSt.e=stR:=rfl
theorem Tf:mSt.z=zSta:=rfl
theorem Rk (c:List Nb) (a:List Na):mSt.d [.d (.sl IX (c.map Nb.r)),.d (.sl IY (a.map Na.r))]=some ⟨c,a⟩:=HL pA ⟨c,a⟩
theorem A6L {l:List (List UInt8)} {i:Int} (h:0≤i∧i<(l.length:Int)) (z:List D):(l.map cSd).getD i.toNat z=[.v (.string (bs (l.getD i.toNat [])))]:=by
 have h1:i.toNat<l.length:=by omega
 simp[List.getD,h1,cSd]
theorem A6M {l:List Gy} {i:Int} (h:0≤i∧i<(l.length:Int)) (z:List D):(l.map Gy.r).getD i.toNat z=[.v (.string (bs ((l.map Gy.s).getD i.toNat []))),.v (.int .i64 (l.getD i.toNat ⟨[],0⟩).n)]:=by
 have h1:i.toNat<l.length:=by omega
 simp[List.getD,h1,Gy.r]
theorem A1J {l:List Fn} {i:Int} (h:0≤i∧i<(l.length:Int)) (z:List D):(l.map Fn.r).getD i.toNat z=[.v (.string (bs ((l.map Fn.name).getD i.toNat []))),.sl zVr ((l.getD i.toNat ⟨[],[],[],[]⟩).ps.map Vr.r),.sl zVr ((l.getD i.toNat ⟨[],[],[],[]⟩).ls.map Vr.r),.sl zSm ((l.getD i.toNat ⟨[],[],[],[]⟩).body.map Sm.r)]:=by
 have h1:i.toNat<l.length:=by omega
 simp[List.getD,h1,Fn.r,dS]
theorem kr {l:List Nb} {i:Int} (h:0≤i∧i<(l.length:Int)) (z:List D):(l.map Nb.r).getD i.toNat z=[.v (.string (bs ((l.map Nb.s).getD i.toNat []))),.v (.int .i64 (l.getD i.toNat ⟨[],0⟩).n)]:=by
 have h1:i.toNat<l.length:=by omega
 simp[List.getD,h1,Nb.r]
theorem ku {l:List Na} {i:Int} (h:0≤i∧i<(l.length:Int)) (z:List D):(l.map Na.r).getD i.toNat z=[.v (.string (bs ((l.map Na.s).getD i.toNat []))),.sl zIw ((l.getD i.toNat ⟨[],[]⟩).l.map iD)]:=by
 have h1:i.toNat<l.length:=by omega
 simp[List.getD,h1,Na.r]
noncomputable def fnK {B:Type} (F:FuncId) (mr:RowM B) (k f:Nat) (n:Int):Option Ch→Option ((Int×B)×List Nat)
 |some (.vec _ z [r])=>if f=F∧z.length=mr.z.length∧zT z=none then (mr.d r).map fun b=>((n,b),[k]) else none
 |_=>none
noncomputable def fnJ {B:Type} (F:FuncId) (mr:RowM B) (H:Hp):List SV→Option ((Int×B)×List Nat)
 |[.one (.v (.int .i64 n)),.one (.fn f [.p k 0 0])]=>fnK F mr k f n (H k)
 |_=>none
theorem Tg {B:Type} (F f:FuncId) (mr:RowM B) (H:Hp) (n:Int) (k:Nat):fnJ F mr H [.one (.v (.int .i64 n)),.one (.fn f [.p k 0 0])]=fnK F mr k f n (H k):=rfl
theorem WV {B:Type} (F:FuncId) (mr:RowM B) (k:Nat) (n:Int) (u:Nat) (x:Value) (z r:List C) (h:z.length+1=mr.z.length):fnK F mr k F n (some (.vec u (.v x::z) [r]))=(mr.d r).map fun b=>((n,b),[k]):=if_pos ⟨rfl,h,rfl⟩
theorem XI {B:Type} {F:FuncId} {mr:RowM B} {H:Hp} {l:List SV} {n:Int} {b:B} {ks:List Nat} (h:fnJ F mr H l=some ((n,b),ks)):∃k u z,ks=[k]∧l=[.one (.v (.int .i64 n)),.one (.fn F [.p k 0 0])]∧H k=some (.vec u z [mr.e b])∧z.length=mr.z.length∧zT z=none:=by
 unfold fnJ at h
 split at h
 ·unfold fnK at h
  split at h
  ·rename_i k _ u z r hk
   split at h
   ·rename_i hz
    simp only[Option.map_eq_some_iff,jP]at h
    obtain⟨b',hb,⟨rfl,rfl⟩,rfl⟩:=h
    obtain rfl:=mr.h _ _ hb
    obtain⟨rfl,hz⟩:=hz
    exact⟨_,_,_,rfl,rfl,hk,hz⟩
   ·cases h
  ·cases h
 ·cases h
noncomputable def Dd {B:Type} (F:FuncId) (mr:RowM B):ArgL (Int×B) where
 d H l:=fnJ F mr H l
 args p:=[.one (.v (.int .i64 p.1)),.one (.fn F [.p 0 0 0])]
 mem p:=[.vec mr.z [mr.e p.2]]
 h H l a ks h:=by
  obtain⟨n,b⟩:=a
  obtain⟨k,u,z,rfl,rfl,hk,hz,hz0⟩:=XI h
  refine⟨rfl,rfl,fun i j hi=>?_⟩
  match i,hi with
  |0,hi=>
   obtain rfl:=Option.some.inj hi
   refine⟨_,rfl,?_⟩
   rw[hk]
   refine⟨?_,hz,.inl mr.t⟩
   show [mr.e b]=[(mr.e b).map _]
   rw[Dp fun c hc=>Ei (mr.n b c hc)]
  |i+1,hi=>simp at hi
 n a m hm c hc:=by
  simp only[mem_singleton]at hm
  subst hm
  simp only[ML.cells,List.flatMap_cons,List.flatMap_nil,List.append_nil,id]at hc
  exact .inl (mr.n _ c hc)
 an a v hv:=by
  simp only[List.mem_cons,List.not_mem_nil,or_false]at hv
  rcases hv with rfl|rfl
  ·exact .inl rfl
  ·refine .inr (.inr (.inr ⟨_,_,rfl,fun x hx=>?_⟩))
   simp only[mem_singleton]at hx
   subst hx
   exact .inr (.inr ⟨0,0,0,rfl,by show 0<1;decide⟩)
 l H H' v a ks h hk:=by
  obtain⟨n,b⟩:=a
  obtain⟨k,u,z,rfl,rfl,h1,hz,hz0⟩:=XI h
  rw[Tg]at h ⊢
  rw[hk k (by simp)];exact h
theorem Th {B:Type} (F:FuncId) (mr:RowM B) (H:Hp) (l:List SV):(Dd F mr).d H l=fnJ F mr H l:=rfl
theorem KN {B:Type} (F:FuncId) (mr:RowM B) (n:Int) (b:B):(Dd F mr).args (n,b)=[.one (.v (.int .i64 n)),.one (.fn F [.p 0 0 0])]:=rfl
theorem Ti {B:Type} (F:FuncId) (mr:RowM B) (n:Int) (b:B):(Dd F mr).mem (n,b)=[.vec mr.z [mr.e b]]:=rfl
theorem DF (es:List (List UInt8×Int)) (s:List UInt8):B4 (es.map fun p=>(p.1,[C.v (.int .i64 p.2)])) s=(B4 es s).map fun i=>[C.v (.int .i64 i)]:=Nc (fun i:Int=>[C.v (.int .i64 i)]) s es
theorem DG (es:List (List UInt8×Int)) (s:List UInt8) (i:Int):CB (es.map fun p=>(p.1,[C.v (.int .i64 p.2)])) s [.v (.int .i64 i)]=(CB es s i).map fun p=>(p.1,[C.v (.int .i64 p.2)]):=Sk (fun i:Int=>[C.v (.int .i64 i)]) s i es
theorem aU (P:Pg):∀q,some q∈[some ((zPg,[pgR P]):MV)]→∀r∈q.2,∀c∈r,c.names=[]:=by
 intro q hq r hr c hc
 simp only[mem_singleton,jS]at hq
 subst hq
 simp only[mem_singleton]at hr
 subst hr
 exact P8 P c hc
theorem kv (P:Sta):∀q,some q∈[some ((zSta,[stR P]):MV)]→∀r∈q.2,∀c∈r,c.names=[]:=by
 intro q hq r hr c hc
 simp only[mem_singleton,jS]at hq
 subst hq
 simp only[mem_singleton]at hr
 subst hr
 exact Td P c hc
abbrev Qp (i:Int) (p:Pg):Prop:=0≤i∧i<(p.fs.length:Int)
abbrev KO (i:Int) (p:Pg):SV:=.one (.v (.string (bs ((p.fs.map Fn.name).getD i.toNat []))))
abbrev ND (i:Int) (p:Pg):List (Option MV):=[some (zPg,[pgR p])]
noncomputable abbrev NE:ArgM ((Int)×(Pg)×Unit):=(amD (cInt .i64) (amP (mPg) am0))
abbrev vU:Prop:=Bs Try.prog 32 ((NE).args 0) (NE).mem (fun p:(Int)×(Pg)×Unit=>Qp p.1 p.2.1) (fun p:(Int)×(Pg)×Unit=>KO p.1 p.2.1) (fun p:(Int)×(Pg)×Unit=>ND p.1 p.2.1)
theorem vV:∀p,(fun p:(Int)×(Pg)×Unit=>Qp p.1 p.2.1) p→Cm ((NE).mem p).length ((fun p:(Int)×(Pg)×Unit=>ND p.1 p.2.1) p)=true:=by intro p _;rfl
theorem vW:∀p,(fun p:(Int)×(Pg)×Unit=>Qp p.1 p.2.1) p→As ((fun p:(Int)×(Pg)×Unit=>ND p.1 p.2.1) p).length ((fun p:(Int)×(Pg)×Unit=>KO p.1 p.2.1) p)=true:=by intro p _;first|rfl|exact AO _ _|exact AP _ _|(simp[As,Bz,AO,AP];done)
theorem vX:∀p,(fun p:(Int)×(Pg)×Unit=>Qp p.1 p.2.1) p→∀q,some q∈(fun p:(Int)×(Pg)×Unit=>ND p.1 p.2.1) p→∀r∈q.2,∀c∈r,c.names=[]:=by intro p _;exact aU _
attribute [local go_sem] KN Th Ti Tg WV Tc Pu Tb Rk Te Tf pgR stR
theorem A1K:vU:=by
 rintro ⟨i,p,_u⟩ w M I lab fz xs hc hA hl hx
 refine Am Try.func32 rfl ((NE).mem ⟨i,p,_u⟩) w M I lab fz [] [] ((NE).args 0 ⟨i,p,_u⟩) ((fun p:(Int)×(Pg)×Unit=>ND p.1 p.2.1) ⟨i,p,_u⟩) ((fun p:(Int)×(Pg)×Unit=>KO p.1 p.2.1) ⟨i,p,_u⟩) xs hA hl hx (fun v hv k hk=>by have:=(NE).an 0 ⟨i,p,_u⟩ v hv k hk;omega) (jN rfl) (jN rfl) ?_
 clear hx hl hA xs
 simp only[Try.f32]
 have hi:0≤i∧i<(p.fs.length:Int):=hc
 have hg:=A1J hi
 simp only[↓eB,seval,go_sem,hg]
 try simp only[A2,A3]
 repeat' first|exact ck|with_reducible apply And.intro|intro _
 all_goals first|exact hi.1|exact hi.2|(rename_i h;first|exact oI h|exact nah h)|(rename_i _ h _ g;exact sL h g)|decide|omega|(refine A0 [] ?_;simp only[↓eB,seval,go_sem,bne,KO,ND])
noncomputable def P9 {X:Ctx} {w0:World}:Sy.Spec Try.prog X w0:=CY 32 Try.call32 (NE) (fun p:(Int)×(Pg)×Unit=>Qp p.1 p.2.1) (fun p:(Int)×(Pg)×Unit=>KO p.1 p.2.1) (fun p:(Int)×(Pg)×Unit=>ND p.1 p.2.1) vV vW vX A1K
abbrev Qq (i:Int) (p:Pg):Prop:=0≤i∧i<(p.g.c.length:Int)
abbrev KP (i:Int) (p:Pg):SV:=.one (.v (.string (bs ((p.g.c).getD i.toNat []))))
abbrev NF (i:Int) (p:Pg):List (Option MV):=[some (zPg,[pgR p])]
noncomputable abbrev NG:ArgM ((Int)×(Pg)×Unit):=(amD (cInt .i64) (amP (mPg) am0))
abbrev vY:Prop:=Bs Try.prog 33 ((NG).args 0) (NG).mem (fun p:(Int)×(Pg)×Unit=>Qq p.1 p.2.1) (fun p:(Int)×(Pg)×Unit=>KP p.1 p.2.1) (fun p:(Int)×(Pg)×Unit=>NF p.1 p.2.1)
theorem vZ:∀p,(fun p:(Int)×(Pg)×Unit=>Qq p.1 p.2.1) p→Cm ((NG).mem p).length ((fun p:(Int)×(Pg)×Unit=>NF p.1 p.2.1) p)=true:=by intro p _;rfl
theorem vb:∀p,(fun p:(Int)×(Pg)×Unit=>Qq p.1 p.2.1) p→As ((fun p:(Int)×(Pg)×Unit=>NF p.1 p.2.1) p).length ((fun p:(Int)×(Pg)×Unit=>KP p.1 p.2.1) p)=true:=by intro p _;first|rfl|exact AO _ _|exact AP _ _|(simp[As,Bz,AO,AP];done)
theorem vd:∀p,(fun p:(Int)×(Pg)×Unit=>Qq p.1 p.2.1) p→∀q,some q∈(fun p:(Int)×(Pg)×Unit=>NF p.1 p.2.1) p→∀r∈q.2,∀c∈r,c.names=[]:=by intro p _;exact aU _
theorem A1L:vY:=by
 rintro ⟨i,p,_u⟩ w M I lab fz xs hc hA hl hx
 refine Am Try.func33 rfl ((NG).mem ⟨i,p,_u⟩) w M I lab fz [] [] ((NG).args 0 ⟨i,p,_u⟩) ((fun p:(Int)×(Pg)×Unit=>NF p.1 p.2.1) ⟨i,p,_u⟩) ((fun p:(Int)×(Pg)×Unit=>KP p.1 p.2.1) ⟨i,p,_u⟩) xs hA hl hx (fun v hv k hk=>by have:=(NG).an 0 ⟨i,p,_u⟩ v hv k hk;omega) (jN rfl) (jN rfl) ?_
 clear hx hl hA xs
 simp only[Try.f33]
 have hi:0≤i∧i<(p.g.c.length:Int):=hc
 have hg:=A6L hi
 simp only[↓eB,seval,go_sem,hg]
 try simp only[A2,A3]
 repeat' first|exact ck|with_reducible apply And.intro|intro _
 all_goals first|exact hi.1|exact hi.2|(rename_i h;first|exact oI h|exact nah h)|(rename_i _ h _ g;exact sL h g)|decide|omega|(refine A0 [] ?_;simp only[↓eB,seval,go_sem,bne,KP,NF])
noncomputable def PA {X:Ctx} {w0:World}:Sy.Spec Try.prog X w0:=CY 33 Try.call33 (NG) (fun p:(Int)×(Pg)×Unit=>Qq p.1 p.2.1) (fun p:(Int)×(Pg)×Unit=>KP p.1 p.2.1) (fun p:(Int)×(Pg)×Unit=>NF p.1 p.2.1) vZ vb vd A1L
abbrev Qr (i:Int) (p:Pg):Prop:=0≤i∧i<(p.g.a.length:Int)
abbrev KQ (i:Int) (p:Pg):SV:=.one (.v (.string (bs ((p.g.a.map Gy.s).getD i.toNat []))))
abbrev NH (i:Int) (p:Pg):List (Option MV):=[some (zPg,[pgR p])]
noncomputable abbrev NI:ArgM ((Int)×(Pg)×Unit):=(amD (cInt .i64) (amP (mPg) am0))
abbrev ve:Prop:=Bs Try.prog 34 ((NI).args 0) (NI).mem (fun p:(Int)×(Pg)×Unit=>Qr p.1 p.2.1) (fun p:(Int)×(Pg)×Unit=>KQ p.1 p.2.1) (fun p:(Int)×(Pg)×Unit=>NH p.1 p.2.1)
theorem vf:∀p,(fun p:(Int)×(Pg)×Unit=>Qr p.1 p.2.1) p→Cm ((NI).mem p).length ((fun p:(Int)×(Pg)×Unit=>NH p.1 p.2.1) p)=true:=by intro p _;rfl
theorem vg:∀p,(fun p:(Int)×(Pg)×Unit=>Qr p.1 p.2.1) p→As ((fun p:(Int)×(Pg)×Unit=>NH p.1 p.2.1) p).length ((fun p:(Int)×(Pg)×Unit=>KQ p.1 p.2.1) p)=true:=by intro p _;first|rfl|exact AO _ _|exact AP _ _|(simp[As,Bz,AO,AP];done)
theorem vh:∀p,(fun p:(Int)×(Pg)×Unit=>Qr p.1 p.2.1) p→∀q,some q∈(fun p:(Int)×(Pg)×Unit=>NH p.1 p.2.1) p→∀r∈q.2,∀c∈r,c.names=[]:=by intro p _;exact aU _
theorem A1M:ve:=by
 rintro ⟨i,p,_u⟩ w M I lab fz xs hc hA hl hx
 refine Am Try.func34 rfl ((NI).mem ⟨i,p,_u⟩) w M I lab fz [] [] ((NI).args 0 ⟨i,p,_u⟩) ((fun p:(Int)×(Pg)×Unit=>NH p.1 p.2.1) ⟨i,p,_u⟩) ((fun p:(Int)×(Pg)×Unit=>KQ p.1 p.2.1) ⟨i,p,_u⟩) xs hA hl hx (fun v hv k hk=>by have:=(NI).an 0 ⟨i,p,_u⟩ v hv k hk;omega) (jN rfl) (jN rfl) ?_
 clear hx hl hA xs
 simp only[Try.f34]
 have hi:0≤i∧i<(p.g.a.length:Int):=hc
 have hg:=A6M hi
 simp only[↓eB,seval,go_sem,hg]
 try simp only[A2,A3]
 repeat' first|exact ck|with_reducible apply And.intro|intro _
 all_goals first|exact hi.1|exact hi.2|(rename_i h;first|exact oI h|exact nah h)|(rename_i _ h _ g;exact sL h g)|decide|omega|(refine A0 [] ?_;simp only[↓eB,seval,go_sem,bne,KQ,NH])
noncomputable def PB {X:Ctx} {w0:World}:Sy.Spec Try.prog X w0:=CY 34 Try.call34 (NI) (fun p:(Int)×(Pg)×Unit=>Qr p.1 p.2.1) (fun p:(Int)×(Pg)×Unit=>KQ p.1 p.2.1) (fun p:(Int)×(Pg)×Unit=>NH p.1 p.2.1) vf vg vh A1M
abbrev Qs (i:Int) (p:Sta):Prop:=0≤i∧i<(p.cs.length:Int)
abbrev KR (i:Int) (p:Sta):SV:=.one (.v (.string (bs ((p.cs.map Nb.s).getD i.toNat []))))
abbrev NJ (i:Int) (p:Sta):List (Option MV):=[some (zSta,[stR p])]
noncomputable abbrev NK:ArgM ((Int)×(Sta)×Unit):=(amD (cInt .i64) (amP (mSt) am0))
abbrev vi:Prop:=Bs Try.prog 46 ((NK).args 0) (NK).mem (fun p:(Int)×(Sta)×Unit=>Qs p.1 p.2.1) (fun p:(Int)×(Sta)×Unit=>KR p.1 p.2.1) (fun p:(Int)×(Sta)×Unit=>NJ p.1 p.2.1)
theorem vj:∀p,(fun p:(Int)×(Sta)×Unit=>Qs p.1 p.2.1) p→Cm ((NK).mem p).length ((fun p:(Int)×(Sta)×Unit=>NJ p.1 p.2.1) p)=true:=by intro p _;rfl
theorem vk:∀p,(fun p:(Int)×(Sta)×Unit=>Qs p.1 p.2.1) p→As ((fun p:(Int)×(Sta)×Unit=>NJ p.1 p.2.1) p).length ((fun p:(Int)×(Sta)×Unit=>KR p.1 p.2.1) p)=true:=by intro p _;first|rfl|exact AO _ _|exact AP _ _|(simp[As,Bz,AO,AP];done)
theorem vm:∀p,(fun p:(Int)×(Sta)×Unit=>Qs p.1 p.2.1) p→∀q,some q∈(fun p:(Int)×(Sta)×Unit=>NJ p.1 p.2.1) p→∀r∈q.2,∀c∈r,c.names=[]:=by intro p _;exact kv _
theorem A1N:vi:=by
 rintro ⟨i,p,_u⟩ w M I lab fz xs hc hA hl hx
 refine Am Try.func46 rfl ((NK).mem ⟨i,p,_u⟩) w M I lab fz [] [] ((NK).args 0 ⟨i,p,_u⟩) ((fun p:(Int)×(Sta)×Unit=>NJ p.1 p.2.1) ⟨i,p,_u⟩) ((fun p:(Int)×(Sta)×Unit=>KR p.1 p.2.1) ⟨i,p,_u⟩) xs hA hl hx (fun v hv k hk=>by have:=(NK).an 0 ⟨i,p,_u⟩ v hv k hk;omega) (jN rfl) (jN rfl) ?_
 clear hx hl hA xs
 simp only[Try.f46]
 have hi:0≤i∧i<(p.cs.length:Int):=hc
 have hg:=kr hi
 simp only[↓eB,seval,go_sem,hg]
 try simp only[A2,A3]
 repeat' first|exact ck|with_reducible apply And.intro|intro _
 all_goals first|exact hi.1|exact hi.2|(rename_i h;first|exact oI h|exact nah h)|(rename_i _ h _ g;exact sL h g)|decide|omega|(refine A0 [] ?_;simp only[↓eB,seval,go_sem,bne,KR,NJ])
noncomputable def PC {X:Ctx} {w0:World}:Sy.Spec Try.prog X w0:=CY 46 Try.call46 (NK) (fun p:(Int)×(Sta)×Unit=>Qs p.1 p.2.1) (fun p:(Int)×(Sta)×Unit=>KR p.1 p.2.1) (fun p:(Int)×(Sta)×Unit=>NJ p.1 p.2.1) vj vk vm A1N
abbrev Qt (i:Int) (p:Sta):Prop:=0≤i∧i<(p.ar.length:Int)
abbrev KS (i:Int) (p:Sta):SV:=.one (.v (.string (bs ((p.ar.map Na.s).getD i.toNat []))))
abbrev NL (i:Int) (p:Sta):List (Option MV):=[some (zSta,[stR p])]
noncomputable abbrev NM:ArgM ((Int)×(Sta)×Unit):=(amD (cInt .i64) (amP (mSt) am0))
abbrev vn:Prop:=Bs Try.prog 47 ((NM).args 0) (NM).mem (fun p:(Int)×(Sta)×Unit=>Qt p.1 p.2.1) (fun p:(Int)×(Sta)×Unit=>KS p.1 p.2.1) (fun p:(Int)×(Sta)×Unit=>NL p.1 p.2.1)
theorem vo:∀p,(fun p:(Int)×(Sta)×Unit=>Qt p.1 p.2.1) p→Cm ((NM).mem p).length ((fun p:(Int)×(Sta)×Unit=>NL p.1 p.2.1) p)=true:=by intro p _;rfl
theorem vq:∀p,(fun p:(Int)×(Sta)×Unit=>Qt p.1 p.2.1) p→As ((fun p:(Int)×(Sta)×Unit=>NL p.1 p.2.1) p).length ((fun p:(Int)×(Sta)×Unit=>KS p.1 p.2.1) p)=true:=by intro p _;first|rfl|exact AO _ _|exact AP _ _|(simp[As,Bz,AO,AP];done)
theorem vr:∀p,(fun p:(Int)×(Sta)×Unit=>Qt p.1 p.2.1) p→∀q,some q∈(fun p:(Int)×(Sta)×Unit=>NL p.1 p.2.1) p→∀r∈q.2,∀c∈r,c.names=[]:=by intro p _;exact kv _
theorem A1O:vn:=by
 rintro ⟨i,p,_u⟩ w M I lab fz xs hc hA hl hx
 refine Am Try.func47 rfl ((NM).mem ⟨i,p,_u⟩) w M I lab fz [] [] ((NM).args 0 ⟨i,p,_u⟩) ((fun p:(Int)×(Sta)×Unit=>NL p.1 p.2.1) ⟨i,p,_u⟩) ((fun p:(Int)×(Sta)×Unit=>KS p.1 p.2.1) ⟨i,p,_u⟩) xs hA hl hx (fun v hv k hk=>by have:=(NM).an 0 ⟨i,p,_u⟩ v hv k hk;omega) (jN rfl) (jN rfl) ?_
 clear hx hl hA xs
 simp only[Try.f47]
 have hi:0≤i∧i<(p.ar.length:Int):=hc
 have hg:=ku hi
 simp only[↓eB,seval,go_sem,hg]
 try simp only[A2,A3]
 repeat' first|exact ck|with_reducible apply And.intro|intro _
 all_goals first|exact hi.1|exact hi.2|(rename_i h;first|exact oI h|exact nah h)|(rename_i _ h _ g;exact sL h g)|decide|omega|(refine A0 [] ?_;simp only[↓eB,seval,go_sem,bne,KS,NL])
noncomputable def PD {X:Ctx} {w0:World}:Sy.Spec Try.prog X w0:=CY 47 Try.call47 (NM) (fun p:(Int)×(Sta)×Unit=>Qt p.1 p.2.1) (fun p:(Int)×(Sta)×Unit=>KS p.1 p.2.1) (fun p:(Int)×(Sta)×Unit=>NL p.1 p.2.1) vo vq vr A1O
end Go.Proofs.Ytjnnmindcbgjhaa
