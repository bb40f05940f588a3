/- The first of each name, walked. No conditions but those in each statement. -/
import Derived.Test.YtjnnmindcbgjhabRmd
set_option linter.unusedVariables false
set_option linter.unusedSimpArgs false
namespace Go.Proofs.Ytjnnmindcbgjhab
open Go Go.Sy Go.RowKit
def pgR (P:Pg):List C:=[.d (.sl zSqD (P.g.c.map cSd)),.d (.sl zGyD (P.g.a.map Gy.r)),.d (.sl zFn (P.fs.map Fn.r))]
abbrev zPg:List C:=[.v (.slice none 0 0),.v (.slice none 0 0),.v (.slice none 0 0)]
theorem pgR_inj (a b:Pg) (h:pgR a=pgR b):a=b:=by
 obtain⟨⟨c,a⟩,fs⟩:=a
 obtain⟨⟨c',a'⟩,fs'⟩:=b
 simp only[pgR,List.cons.injEq,C.d.injEq,D.sl.injEq,true_and,and_true]at h
 rw[map_inj cSd_inj h.1,map_inj gyr_inj h.2.1,map_inj fn_inj h.2.2]
theorem pgR_nm (P:Pg):∀c∈pgR P,c.names=[]:=by
 intro c hc
 simp only[pgR,List.mem_cons,List.not_mem_nil,or_false]at hc
 rcases hc with rfl|rfl|rfl<;>rfl
noncomputable def mPg:RowM Pg:=rowMOf zPg pgR pgR_nm
theorem mPg_e:mPg.e=pgR:=rfl
theorem mPg_z:mPg.z=zPg:=rfl
theorem mPg_d (c:List (List UInt8)) (a:List Gy) (fs:List Fn):mPg.d [.d (.sl zSqD (c.map cSd)),.d (.sl zGyD (a.map Gy.r)),.d (.sl zFn (fs.map Fn.r))]=some ⟨⟨c,a⟩,fs⟩:=rowMOf_d pgR_inj ⟨⟨c,a⟩,fs⟩
structure Sta where
 cs:List Nb
 ar:List Na
def Nb.r (x:Nb):List D:=[.v (.string (bs x.s)),.v (.int .i64 x.n)]
def iD (n:Int):List D:=[.v (.int .i64 n)]
abbrev zIw:List D:=[.v (.int .i64 0)]
def Na.r (x:Na):List D:=[.v (.string (bs x.s)),.sl zIw (x.l.map iD)]
abbrev zNbD:List D:=[.v (.string (bs [])),.v (.int .i64 0)]
abbrev zNaD:List D:=[.v (.string (bs [])),.v (.slice none 0 0)]
def stR (s:Sta):List C:=[.d (.sl zNbD (s.cs.map Nb.r)),.d (.sl zNaD (s.ar.map Na.r))]
abbrev zSta:List C:=[.v (.slice none 0 0),.v (.slice none 0 0)]
theorem nbr_inj (a b:Nb) (h:a.r=b.r):a=b:=by
 obtain⟨s,n⟩:=a
 obtain⟨s',n'⟩:=b
 simp only[Nb.r,List.cons.injEq,D.v.injEq,Value.string.injEq,Value.int.injEq,true_and,and_true]at h
 rw[bs_inj h.1,h.2]
theorem iD_inj (a b:Int) (h:iD a=iD b):a=b:=by simpa [iD] using h
theorem nar_inj (a b:Na) (h:a.r=b.r):a=b:=by
 obtain⟨s,n⟩:=a
 obtain⟨s',n'⟩:=b
 simp only[Na.r,List.cons.injEq,D.v.injEq,D.sl.injEq,Value.string.injEq,true_and,and_true]at h
 rw[bs_inj h.1,map_inj iD_inj h.2]
theorem stR_inj (a b:Sta) (h:stR a=stR b):a=b:=by
 obtain⟨c,a⟩:=a
 obtain⟨c',a'⟩:=b
 simp only[stR,List.cons.injEq,C.d.injEq,D.sl.injEq,true_and,and_true]at h
 rw[map_inj nbr_inj h.1,map_inj nar_inj h.2]
theorem stR_nm (s:Sta):∀c∈stR s,c.names=[]:=by
 intro c hc
 simp only[stR,List.mem_cons,List.not_mem_nil,or_false]at hc
 rcases hc with rfl|rfl<;>rfl
noncomputable def mSt:RowM Sta:=rowMOf zSta stR stR_nm
theorem mSt_e:mSt.e=stR:=rfl
theorem mSt_z:mSt.z=zSta:=rfl
theorem mSt_d (c:List Nb) (a:List Na):mSt.d [.d (.sl zNbD (c.map Nb.r)),.d (.sl zNaD (a.map Na.r))]=some ⟨c,a⟩:=rowMOf_d stR_inj ⟨c,a⟩
theorem sq_z {l:List (List UInt8)} {i:Int} (h:0≤i∧i<(l.length:Int)) (z:List D):(l.map cSd).getD i.toNat z=[.v (.string (bs (l.getD i.toNat [])))]:=by
 have h1:i.toNat<l.length:=by omega
 simp[List.getD,h1,cSd]
theorem gy_z {l:List Gy} {i:Int} (h:0≤i∧i<(l.length:Int)) (z:List D):(l.map Gy.r).getD i.toNat z=[.v (.string (bs ((l.map Gy.s).getD i.toNat []))),.v (.int .i64 (l.getD i.toNat ⟨[],0⟩).n)]:=by
 have h1:i.toNat<l.length:=by omega
 simp[List.getD,h1,Gy.r]
theorem fnn_z {l:List Fn} {i:Int} (h:0≤i∧i<(l.length:Int)) (z:List D):(l.map Fn.r).getD i.toNat z=[.v (.string (bs ((l.map Fn.name).getD i.toNat []))),.sl zVr ((l.getD i.toNat ⟨[],[],[],[]⟩).ps.map Vr.r),.sl zVr ((l.getD i.toNat ⟨[],[],[],[]⟩).ls.map Vr.r),.sl zSm ((l.getD i.toNat ⟨[],[],[],[]⟩).body.map Sm.r)]:=by
 have h1:i.toNat<l.length:=by omega
 simp[List.getD,h1,Fn.r,dS]
theorem nbn_z {l:List Nb} {i:Int} (h:0≤i∧i<(l.length:Int)) (z:List D):(l.map Nb.r).getD i.toNat z=[.v (.string (bs ((l.map Nb.s).getD i.toNat []))),.v (.int .i64 (l.getD i.toNat ⟨[],0⟩).n)]:=by
 have h1:i.toNat<l.length:=by omega
 simp[List.getD,h1,Nb.r]
theorem nan_z {l:List Na} {i:Int} (h:0≤i∧i<(l.length:Int)) (z:List D):(l.map Na.r).getD i.toNat z=[.v (.string (bs ((l.map Na.s).getD i.toNat []))),.sl zIw ((l.getD i.toNat ⟨[],[]⟩).l.map iD)]:=by
 have h1:i.toNat<l.length:=by omega
 simp[List.getD,h1,Na.r]
noncomputable def fnK {B:Type} (F:FuncId) (mr:RowM B) (k f:Nat) (n:Int):Option Ch→Option ((Int×B)×List Nat)
 |some (.vec _ z [r])=>if f=F∧z.length=mr.z.length∧zT z=none then (mr.d r).map fun b=>((n,b),[k]) else none
 |_=>none
noncomputable def fnJ {B:Type} (F:FuncId) (mr:RowM B) (H:Hp):List SV→Option ((Int×B)×List Nat)
 |[.one (.v (.int .i64 n)),.one (.fn f [.p k 0 0])]=>fnK F mr k f n (H k)
 |_=>none
theorem fnJ_v {B:Type} (F f:FuncId) (mr:RowM B) (H:Hp) (n:Int) (k:Nat):fnJ F mr H [.one (.v (.int .i64 n)),.one (.fn f [.p k 0 0])]=fnK F mr k f n (H k):=rfl
theorem fnK_v {B:Type} (F:FuncId) (mr:RowM B) (k:Nat) (n:Int) (u:Nat) (x:Value) (z r:List C) (h:z.length+1=mr.z.length):fnK F mr k F n (some (.vec u (.v x::z) [r]))=(mr.d r).map fun b=>((n,b),[k]):=if_pos ⟨rfl,h,rfl⟩
theorem fnJ_ok {B:Type} {F:FuncId} {mr:RowM B} {H:Hp} {l:List SV} {n:Int} {b:B} {ks:List Nat} (h:fnJ F mr H l=some ((n,b),ks)):∃k u z,ks=[k]∧l=[.one (.v (.int .i64 n)),.one (.fn F [.p k 0 0])]∧H k=some (.vec u z [mr.e b])∧z.length=mr.z.length∧zT z=none:=by
 unfold fnJ at h
 split at h
 ·unfold fnK at h
  split at h
  ·rename_i k _ u z r hk
   split at h
   ·rename_i hz
    simp only[Option.map_eq_some_iff,Prod.mk.injEq]at h
    obtain⟨b',hb,⟨rfl,rfl⟩,rfl⟩:=h
    obtain rfl:=mr.h _ _ hb
    obtain⟨rfl,hz⟩:=hz
    exact⟨_,_,_,rfl,rfl,hk,hz⟩
   ·cases h
  ·cases h
 ·cases h
noncomputable def amFn {B:Type} (F:FuncId) (mr:RowM B):ArgL (Int×B) where
 d H l:=fnJ F mr H l
 args p:=[.one (.v (.int .i64 p.1)),.one (.fn F [.p 0 0 0])]
 mem p:=[.vec mr.z [mr.e p.2]]
 h H l a ks h:=by
  obtain⟨n,b⟩:=a
  obtain⟨k,u,z,rfl,rfl,hk,hz,hz0⟩:=fnJ_ok h
  refine⟨rfl,rfl,fun i j hi=>?_⟩
  match i,hi with
  |0,hi=>
   obtain rfl:=Option.some.inj hi
   refine⟨_,rfl,?_⟩
   rw[hk]
   refine⟨?_,hz,.inl mr.t⟩
   show [mr.e b]=[(mr.e b).map _]
   rw[map_self fun c hc=>rnC_clos (mr.n b c hc)]
  |i+1,hi=>simp at hi
 n a m hm c hc:=by
  simp only[List.mem_singleton]at hm
  subst hm
  simp only[ML.cells,List.flatMap_cons,List.flatMap_nil,List.append_nil,id]at hc
  exact .inl (mr.n _ c hc)
 an a v hv:=by
  simp only[List.mem_cons,List.not_mem_nil,or_false]at hv
  rcases hv with rfl|rfl
  ·exact .inl rfl
  ·refine .inr (.inr (.inr ⟨_,_,rfl,fun x hx=>?_⟩))
   simp only[List.mem_singleton]at hx
   subst hx
   exact .inr (.inr ⟨0,0,0,rfl,by show 0<1;decide⟩)
 l H H' v a ks h hk:=by
  obtain⟨n,b⟩:=a
  obtain⟨k,u,z,rfl,rfl,h1,hz,hz0⟩:=fnJ_ok h
  rw[fnJ_v]at h ⊢
  rw[hk k (by simp)];exact h
theorem amFn_d {B:Type} (F:FuncId) (mr:RowM B) (H:Hp) (l:List SV):(amFn F mr).d H l=fnJ F mr H l:=rfl
theorem amFn_a {B:Type} (F:FuncId) (mr:RowM B) (n:Int) (b:B):(amFn F mr).args (n,b)=[.one (.v (.int .i64 n)),.one (.fn F [.p 0 0 0])]:=rfl
theorem amFn_m {B:Type} (F:FuncId) (mr:RowM B) (n:Int) (b:B):(amFn F mr).mem (n,b)=[.vec mr.z [mr.e b]]:=rfl
theorem mp_get2 (es:List (List UInt8×Int)) (s:List UInt8):mget (es.map fun p=>(p.1,[C.v (.int .i64 p.2)])) s=(mget es s).map fun i=>[C.v (.int .i64 i)]:=mget_map (fun i:Int=>[C.v (.int .i64 i)]) s es
theorem mp_put2 (es:List (List UInt8×Int)) (s:List UInt8) (i:Int):mput (es.map fun p=>(p.1,[C.v (.int .i64 p.2)])) s [.v (.int .i64 i)]=(mput es s i).map fun p=>(p.1,[C.v (.int .i64 p.2)]):=mput_map (fun i:Int=>[C.v (.int .i64 i)]) s i es
theorem pgR_m (P:Pg):∀q,some q∈[some ((zPg,[pgR P]):MV)]→∀r∈q.2,∀c∈r,c.names=[]:=by
 intro q hq r hr c hc
 simp only[List.mem_singleton,Option.some.injEq]at hq
 subst hq
 simp only[List.mem_singleton]at hr
 subst hr
 exact pgR_nm P c hc
theorem stR_m (P:Sta):∀q,some q∈[some ((zSta,[stR P]):MV)]→∀r∈q.2,∀c∈r,c.names=[]:=by
 intro q hq r hr c hc
 simp only[List.mem_singleton,Option.some.injEq]at hq
 subst hq
 simp only[List.mem_singleton]at hr
 subst hr
 exact stR_nm P c hc
abbrev yc_kC1 (i:Int) (p:Pg):Prop:=0≤i∧i<(p.fs.length:Int)
abbrev yr_kC1 (i:Int) (p:Pg):SV:=.one (.v (.string (bs ((p.fs.map Fn.name).getD i.toNat []))))
abbrev ym_kC1 (i:Int) (p:Pg):List (Option MV):=[some (zPg,[pgR p])]
noncomputable abbrev ya_kC1:ArgM ((Int)×(Pg)×Unit):=(amD (cInt .i64) (amP (mPg) am0))
abbrev yq_kC1:Prop:=CallsM Try.prog 32 ((ya_kC1).args 0) (ya_kC1).mem (fun p:(Int)×(Pg)×Unit=>yc_kC1 p.1 p.2.1) (fun p:(Int)×(Pg)×Unit=>yr_kC1 p.1 p.2.1) (fun p:(Int)×(Pg)×Unit=>ym_kC1 p.1 p.2.1)
theorem yl_kC1:∀p,(fun p:(Int)×(Pg)×Unit=>yc_kC1 p.1 p.2.1) p→lenM ((ya_kC1).mem p).length ((fun p:(Int)×(Pg)×Unit=>ym_kC1 p.1 p.2.1) p)=true:=by intro p _;rfl
theorem yo_kC1:∀p,(fun p:(Int)×(Pg)×Unit=>yc_kC1 p.1 p.2.1) p→outV ((fun p:(Int)×(Pg)×Unit=>ym_kC1 p.1 p.2.1) p).length ((fun p:(Int)×(Pg)×Unit=>yr_kC1 p.1 p.2.1) p)=true:=by intro p _;first|rfl|exact ex_out _ _|exact cd_out _ _|(simp[outV,outC,ex_out,cd_out];done)
theorem yn_kC1:∀p,(fun p:(Int)×(Pg)×Unit=>yc_kC1 p.1 p.2.1) p→∀q,some q∈(fun p:(Int)×(Pg)×Unit=>ym_kC1 p.1 p.2.1) p→∀r∈q.2,∀c∈r,c.names=[]:=by intro p _;exact pgR_m _
attribute [local go_sem] amFn_a amFn_d amFn_m fnJ_v fnK_v mPg_d mPg_e mPg_z mSt_d mSt_e mSt_z pgR stR
set_option maxRecDepth 20000 in set_option maxHeartbeats 16000000 in
theorem y_kC1:yq_kC1:=by
 rintro ⟨i,p,_u⟩ w M I lab fz xs hc hA hl hx
 refine calls_toML Try.func32 rfl ((ya_kC1).mem ⟨i,p,_u⟩) w M I lab fz [] [] ((ya_kC1).args 0 ⟨i,p,_u⟩) ((fun p:(Int)×(Pg)×Unit=>ym_kC1 p.1 p.2.1) ⟨i,p,_u⟩) ((fun p:(Int)×(Pg)×Unit=>yr_kC1 p.1 p.2.1) ⟨i,p,_u⟩) xs hA hl hx (fun v hv k hk=>by have:=(ya_kC1).an 0 ⟨i,p,_u⟩ v hv k hk;omega) (Nat.le_of_ble_eq_true rfl) (Nat.le_of_ble_eq_true rfl) ?_
 clear hx hl hA xs
 simp only[Try.f32]
 have hi:0≤i∧i<(p.fs.length:Int):=hc
 have hg:=fnn_z hi
 simp only[↓eB,seval,go_sem,hg]
 try simp only[impB,impN]
 repeat' first|exact ck|with_reducible apply And.intro|intro _
 all_goals first|exact hi.1|exact hi.2|(rename_i h;first|exact oI h|exact nah h)|(rename_i _ h _ g;exact sL h g)|decide|omega|(refine ret_with [] ?_;simp only[↓eB,seval,go_sem,bne,yr_kC1,ym_kC1])
noncomputable def yp_kC1 {X:Ctx} {w0:World}:Sy.Spec Try.prog X w0:=specM 32 Try.call32 (ya_kC1) (fun p:(Int)×(Pg)×Unit=>yc_kC1 p.1 p.2.1) (fun p:(Int)×(Pg)×Unit=>yr_kC1 p.1 p.2.1) (fun p:(Int)×(Pg)×Unit=>ym_kC1 p.1 p.2.1) yl_kC1 yo_kC1 yn_kC1 y_kC1
abbrev yc_kC2 (i:Int) (p:Pg):Prop:=0≤i∧i<(p.g.c.length:Int)
abbrev yr_kC2 (i:Int) (p:Pg):SV:=.one (.v (.string (bs ((p.g.c).getD i.toNat []))))
abbrev ym_kC2 (i:Int) (p:Pg):List (Option MV):=[some (zPg,[pgR p])]
noncomputable abbrev ya_kC2:ArgM ((Int)×(Pg)×Unit):=(amD (cInt .i64) (amP (mPg) am0))
abbrev yq_kC2:Prop:=CallsM Try.prog 33 ((ya_kC2).args 0) (ya_kC2).mem (fun p:(Int)×(Pg)×Unit=>yc_kC2 p.1 p.2.1) (fun p:(Int)×(Pg)×Unit=>yr_kC2 p.1 p.2.1) (fun p:(Int)×(Pg)×Unit=>ym_kC2 p.1 p.2.1)
theorem yl_kC2:∀p,(fun p:(Int)×(Pg)×Unit=>yc_kC2 p.1 p.2.1) p→lenM ((ya_kC2).mem p).length ((fun p:(Int)×(Pg)×Unit=>ym_kC2 p.1 p.2.1) p)=true:=by intro p _;rfl
theorem yo_kC2:∀p,(fun p:(Int)×(Pg)×Unit=>yc_kC2 p.1 p.2.1) p→outV ((fun p:(Int)×(Pg)×Unit=>ym_kC2 p.1 p.2.1) p).length ((fun p:(Int)×(Pg)×Unit=>yr_kC2 p.1 p.2.1) p)=true:=by intro p _;first|rfl|exact ex_out _ _|exact cd_out _ _|(simp[outV,outC,ex_out,cd_out];done)
theorem yn_kC2:∀p,(fun p:(Int)×(Pg)×Unit=>yc_kC2 p.1 p.2.1) p→∀q,some q∈(fun p:(Int)×(Pg)×Unit=>ym_kC2 p.1 p.2.1) p→∀r∈q.2,∀c∈r,c.names=[]:=by intro p _;exact pgR_m _
set_option maxRecDepth 20000 in set_option maxHeartbeats 16000000 in
theorem y_kC2:yq_kC2:=by
 rintro ⟨i,p,_u⟩ w M I lab fz xs hc hA hl hx
 refine calls_toML Try.func33 rfl ((ya_kC2).mem ⟨i,p,_u⟩) w M I lab fz [] [] ((ya_kC2).args 0 ⟨i,p,_u⟩) ((fun p:(Int)×(Pg)×Unit=>ym_kC2 p.1 p.2.1) ⟨i,p,_u⟩) ((fun p:(Int)×(Pg)×Unit=>yr_kC2 p.1 p.2.1) ⟨i,p,_u⟩) xs hA hl hx (fun v hv k hk=>by have:=(ya_kC2).an 0 ⟨i,p,_u⟩ v hv k hk;omega) (Nat.le_of_ble_eq_true rfl) (Nat.le_of_ble_eq_true rfl) ?_
 clear hx hl hA xs
 simp only[Try.f33]
 have hi:0≤i∧i<(p.g.c.length:Int):=hc
 have hg:=sq_z hi
 simp only[↓eB,seval,go_sem,hg]
 try simp only[impB,impN]
 repeat' first|exact ck|with_reducible apply And.intro|intro _
 all_goals first|exact hi.1|exact hi.2|(rename_i h;first|exact oI h|exact nah h)|(rename_i _ h _ g;exact sL h g)|decide|omega|(refine ret_with [] ?_;simp only[↓eB,seval,go_sem,bne,yr_kC2,ym_kC2])
noncomputable def yp_kC2 {X:Ctx} {w0:World}:Sy.Spec Try.prog X w0:=specM 33 Try.call33 (ya_kC2) (fun p:(Int)×(Pg)×Unit=>yc_kC2 p.1 p.2.1) (fun p:(Int)×(Pg)×Unit=>yr_kC2 p.1 p.2.1) (fun p:(Int)×(Pg)×Unit=>ym_kC2 p.1 p.2.1) yl_kC2 yo_kC2 yn_kC2 y_kC2
abbrev yc_kC3 (i:Int) (p:Pg):Prop:=0≤i∧i<(p.g.a.length:Int)
abbrev yr_kC3 (i:Int) (p:Pg):SV:=.one (.v (.string (bs ((p.g.a.map Gy.s).getD i.toNat []))))
abbrev ym_kC3 (i:Int) (p:Pg):List (Option MV):=[some (zPg,[pgR p])]
noncomputable abbrev ya_kC3:ArgM ((Int)×(Pg)×Unit):=(amD (cInt .i64) (amP (mPg) am0))
abbrev yq_kC3:Prop:=CallsM Try.prog 34 ((ya_kC3).args 0) (ya_kC3).mem (fun p:(Int)×(Pg)×Unit=>yc_kC3 p.1 p.2.1) (fun p:(Int)×(Pg)×Unit=>yr_kC3 p.1 p.2.1) (fun p:(Int)×(Pg)×Unit=>ym_kC3 p.1 p.2.1)
theorem yl_kC3:∀p,(fun p:(Int)×(Pg)×Unit=>yc_kC3 p.1 p.2.1) p→lenM ((ya_kC3).mem p).length ((fun p:(Int)×(Pg)×Unit=>ym_kC3 p.1 p.2.1) p)=true:=by intro p _;rfl
theorem yo_kC3:∀p,(fun p:(Int)×(Pg)×Unit=>yc_kC3 p.1 p.2.1) p→outV ((fun p:(Int)×(Pg)×Unit=>ym_kC3 p.1 p.2.1) p).length ((fun p:(Int)×(Pg)×Unit=>yr_kC3 p.1 p.2.1) p)=true:=by intro p _;first|rfl|exact ex_out _ _|exact cd_out _ _|(simp[outV,outC,ex_out,cd_out];done)
theorem yn_kC3:∀p,(fun p:(Int)×(Pg)×Unit=>yc_kC3 p.1 p.2.1) p→∀q,some q∈(fun p:(Int)×(Pg)×Unit=>ym_kC3 p.1 p.2.1) p→∀r∈q.2,∀c∈r,c.names=[]:=by intro p _;exact pgR_m _
set_option maxRecDepth 20000 in set_option maxHeartbeats 16000000 in
theorem y_kC3:yq_kC3:=by
 rintro ⟨i,p,_u⟩ w M I lab fz xs hc hA hl hx
 refine calls_toML Try.func34 rfl ((ya_kC3).mem ⟨i,p,_u⟩) w M I lab fz [] [] ((ya_kC3).args 0 ⟨i,p,_u⟩) ((fun p:(Int)×(Pg)×Unit=>ym_kC3 p.1 p.2.1) ⟨i,p,_u⟩) ((fun p:(Int)×(Pg)×Unit=>yr_kC3 p.1 p.2.1) ⟨i,p,_u⟩) xs hA hl hx (fun v hv k hk=>by have:=(ya_kC3).an 0 ⟨i,p,_u⟩ v hv k hk;omega) (Nat.le_of_ble_eq_true rfl) (Nat.le_of_ble_eq_true rfl) ?_
 clear hx hl hA xs
 simp only[Try.f34]
 have hi:0≤i∧i<(p.g.a.length:Int):=hc
 have hg:=gy_z hi
 simp only[↓eB,seval,go_sem,hg]
 try simp only[impB,impN]
 repeat' first|exact ck|with_reducible apply And.intro|intro _
 all_goals first|exact hi.1|exact hi.2|(rename_i h;first|exact oI h|exact nah h)|(rename_i _ h _ g;exact sL h g)|decide|omega|(refine ret_with [] ?_;simp only[↓eB,seval,go_sem,bne,yr_kC3,ym_kC3])
noncomputable def yp_kC3 {X:Ctx} {w0:World}:Sy.Spec Try.prog X w0:=specM 34 Try.call34 (ya_kC3) (fun p:(Int)×(Pg)×Unit=>yc_kC3 p.1 p.2.1) (fun p:(Int)×(Pg)×Unit=>yr_kC3 p.1 p.2.1) (fun p:(Int)×(Pg)×Unit=>ym_kC3 p.1 p.2.1) yl_kC3 yo_kC3 yn_kC3 y_kC3
abbrev yc_kS1 (i:Int) (p:Sta):Prop:=0≤i∧i<(p.cs.length:Int)
abbrev yr_kS1 (i:Int) (p:Sta):SV:=.one (.v (.string (bs ((p.cs.map Nb.s).getD i.toNat []))))
abbrev ym_kS1 (i:Int) (p:Sta):List (Option MV):=[some (zSta,[stR p])]
noncomputable abbrev ya_kS1:ArgM ((Int)×(Sta)×Unit):=(amD (cInt .i64) (amP (mSt) am0))
abbrev yq_kS1:Prop:=CallsM Try.prog 43 ((ya_kS1).args 0) (ya_kS1).mem (fun p:(Int)×(Sta)×Unit=>yc_kS1 p.1 p.2.1) (fun p:(Int)×(Sta)×Unit=>yr_kS1 p.1 p.2.1) (fun p:(Int)×(Sta)×Unit=>ym_kS1 p.1 p.2.1)
theorem yl_kS1:∀p,(fun p:(Int)×(Sta)×Unit=>yc_kS1 p.1 p.2.1) p→lenM ((ya_kS1).mem p).length ((fun p:(Int)×(Sta)×Unit=>ym_kS1 p.1 p.2.1) p)=true:=by intro p _;rfl
theorem yo_kS1:∀p,(fun p:(Int)×(Sta)×Unit=>yc_kS1 p.1 p.2.1) p→outV ((fun p:(Int)×(Sta)×Unit=>ym_kS1 p.1 p.2.1) p).length ((fun p:(Int)×(Sta)×Unit=>yr_kS1 p.1 p.2.1) p)=true:=by intro p _;first|rfl|exact ex_out _ _|exact cd_out _ _|(simp[outV,outC,ex_out,cd_out];done)
theorem yn_kS1:∀p,(fun p:(Int)×(Sta)×Unit=>yc_kS1 p.1 p.2.1) p→∀q,some q∈(fun p:(Int)×(Sta)×Unit=>ym_kS1 p.1 p.2.1) p→∀r∈q.2,∀c∈r,c.names=[]:=by intro p _;exact stR_m _
set_option maxRecDepth 20000 in set_option maxHeartbeats 16000000 in
theorem y_kS1:yq_kS1:=by
 rintro ⟨i,p,_u⟩ w M I lab fz xs hc hA hl hx
 refine calls_toML Try.func43 rfl ((ya_kS1).mem ⟨i,p,_u⟩) w M I lab fz [] [] ((ya_kS1).args 0 ⟨i,p,_u⟩) ((fun p:(Int)×(Sta)×Unit=>ym_kS1 p.1 p.2.1) ⟨i,p,_u⟩) ((fun p:(Int)×(Sta)×Unit=>yr_kS1 p.1 p.2.1) ⟨i,p,_u⟩) xs hA hl hx (fun v hv k hk=>by have:=(ya_kS1).an 0 ⟨i,p,_u⟩ v hv k hk;omega) (Nat.le_of_ble_eq_true rfl) (Nat.le_of_ble_eq_true rfl) ?_
 clear hx hl hA xs
 simp only[Try.f43]
 have hi:0≤i∧i<(p.cs.length:Int):=hc
 have hg:=nbn_z hi
 simp only[↓eB,seval,go_sem,hg]
 try simp only[impB,impN]
 repeat' first|exact ck|with_reducible apply And.intro|intro _
 all_goals first|exact hi.1|exact hi.2|(rename_i h;first|exact oI h|exact nah h)|(rename_i _ h _ g;exact sL h g)|decide|omega|(refine ret_with [] ?_;simp only[↓eB,seval,go_sem,bne,yr_kS1,ym_kS1])
noncomputable def yp_kS1 {X:Ctx} {w0:World}:Sy.Spec Try.prog X w0:=specM 43 Try.call43 (ya_kS1) (fun p:(Int)×(Sta)×Unit=>yc_kS1 p.1 p.2.1) (fun p:(Int)×(Sta)×Unit=>yr_kS1 p.1 p.2.1) (fun p:(Int)×(Sta)×Unit=>ym_kS1 p.1 p.2.1) yl_kS1 yo_kS1 yn_kS1 y_kS1
abbrev yc_kS2 (i:Int) (p:Sta):Prop:=0≤i∧i<(p.ar.length:Int)
abbrev yr_kS2 (i:Int) (p:Sta):SV:=.one (.v (.string (bs ((p.ar.map Na.s).getD i.toNat []))))
abbrev ym_kS2 (i:Int) (p:Sta):List (Option MV):=[some (zSta,[stR p])]
noncomputable abbrev ya_kS2:ArgM ((Int)×(Sta)×Unit):=(amD (cInt .i64) (amP (mSt) am0))
abbrev yq_kS2:Prop:=CallsM Try.prog 44 ((ya_kS2).args 0) (ya_kS2).mem (fun p:(Int)×(Sta)×Unit=>yc_kS2 p.1 p.2.1) (fun p:(Int)×(Sta)×Unit=>yr_kS2 p.1 p.2.1) (fun p:(Int)×(Sta)×Unit=>ym_kS2 p.1 p.2.1)
theorem yl_kS2:∀p,(fun p:(Int)×(Sta)×Unit=>yc_kS2 p.1 p.2.1) p→lenM ((ya_kS2).mem p).length ((fun p:(Int)×(Sta)×Unit=>ym_kS2 p.1 p.2.1) p)=true:=by intro p _;rfl
theorem yo_kS2:∀p,(fun p:(Int)×(Sta)×Unit=>yc_kS2 p.1 p.2.1) p→outV ((fun p:(Int)×(Sta)×Unit=>ym_kS2 p.1 p.2.1) p).length ((fun p:(Int)×(Sta)×Unit=>yr_kS2 p.1 p.2.1) p)=true:=by intro p _;first|rfl|exact ex_out _ _|exact cd_out _ _|(simp[outV,outC,ex_out,cd_out];done)
theorem yn_kS2:∀p,(fun p:(Int)×(Sta)×Unit=>yc_kS2 p.1 p.2.1) p→∀q,some q∈(fun p:(Int)×(Sta)×Unit=>ym_kS2 p.1 p.2.1) p→∀r∈q.2,∀c∈r,c.names=[]:=by intro p _;exact stR_m _
set_option maxRecDepth 20000 in set_option maxHeartbeats 16000000 in
theorem y_kS2:yq_kS2:=by
 rintro ⟨i,p,_u⟩ w M I lab fz xs hc hA hl hx
 refine calls_toML Try.func44 rfl ((ya_kS2).mem ⟨i,p,_u⟩) w M I lab fz [] [] ((ya_kS2).args 0 ⟨i,p,_u⟩) ((fun p:(Int)×(Sta)×Unit=>ym_kS2 p.1 p.2.1) ⟨i,p,_u⟩) ((fun p:(Int)×(Sta)×Unit=>yr_kS2 p.1 p.2.1) ⟨i,p,_u⟩) xs hA hl hx (fun v hv k hk=>by have:=(ya_kS2).an 0 ⟨i,p,_u⟩ v hv k hk;omega) (Nat.le_of_ble_eq_true rfl) (Nat.le_of_ble_eq_true rfl) ?_
 clear hx hl hA xs
 simp only[Try.f44]
 have hi:0≤i∧i<(p.ar.length:Int):=hc
 have hg:=nan_z hi
 simp only[↓eB,seval,go_sem,hg]
 try simp only[impB,impN]
 repeat' first|exact ck|with_reducible apply And.intro|intro _
 all_goals first|exact hi.1|exact hi.2|(rename_i h;first|exact oI h|exact nah h)|(rename_i _ h _ g;exact sL h g)|decide|omega|(refine ret_with [] ?_;simp only[↓eB,seval,go_sem,bne,yr_kS2,ym_kS2])
noncomputable def yp_kS2 {X:Ctx} {w0:World}:Sy.Spec Try.prog X w0:=specM 44 Try.call44 (ya_kS2) (fun p:(Int)×(Sta)×Unit=>yc_kS2 p.1 p.2.1) (fun p:(Int)×(Sta)×Unit=>yr_kS2 p.1 p.2.1) (fun p:(Int)×(Sta)×Unit=>ym_kS2 p.1 p.2.1) yl_kS2 yo_kS2 yn_kS2 y_kS2
end Go.Proofs.Ytjnnmindcbgjhab
