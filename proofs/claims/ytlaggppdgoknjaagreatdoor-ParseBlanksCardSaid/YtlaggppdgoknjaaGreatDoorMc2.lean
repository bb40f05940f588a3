/- The maker's conditions, arguments, statements and their tokens. No conditions but those in each statement. -/
import Derived.Test.YtlaggppdgoknjaaGreatDoorMc1
set_option linter.unusedVariables false
set_option linter.unusedSimpArgs false
namespace Go.Proofs.YtlaggppdgoknjaaGreatDoor
open Go Go.Sy Go.RowKit
theorem lw_c0:Lw [32,61,61,32] [(2,[61,61])]:=Lp.of (n:=3) (fun i=>[⟨2,[61,61],((i+1:Nat):Int)⟩]) (by decide) (fun _=>rfl) (fun f i r out=>by kernel_rfl)
theorem lw_c1:Lw [32,33,61,32] [(2,[33,61])]:=Lp.of (n:=3) (fun i=>[⟨2,[33,61],((i+1:Nat):Int)⟩]) (by decide) (fun _=>rfl) (fun f i r out=>by kernel_rfl)
theorem lw_c2:Lw [32,60,32] [(2,[60])]:=Lp.of (n:=3) (fun i=>[⟨2,[60],((i+1:Nat):Int)⟩]) (by decide) (fun _=>rfl) (fun f i r out=>by kernel_rfl)
theorem lw_c3:Lw [32,60,61,32] [(2,[60,61])]:=Lp.of (n:=3) (fun i=>[⟨2,[60,61],((i+1:Nat):Int)⟩]) (by decide) (fun _=>rfl) (fun f i r out=>by kernel_rfl)
theorem lw_c4:Lw [32,62,32] [(2,[62])]:=Lp.of (n:=3) (fun i=>[⟨2,[62],((i+1:Nat):Int)⟩]) (by decide) (fun _=>rfl) (fun f i r out=>by kernel_rfl)
theorem lw_c5:Lw [32,62,61,32] [(2,[62,61])]:=Lp.of (n:=3) (fun i=>[⟨2,[62,61],((i+1:Nat):Int)⟩]) (by decide) (fun _=>rfl) (fun f i r out=>by kernel_rfl)
theorem lw_as:Lw [97,115,115,101,114,116,32] [(0,[97,115,115,101,114,116])]:=Lp.of (n:=2) (fun i=>[⟨0,[97,115,115,101,114,116],((i+0:Nat):Int)⟩]) (by decide) (fun _=>rfl) (fun f i r out=>by kernel_rfl)
theorem lw_if:Lw [105,102,32] [(0,[105,102])]:=Lp.of (n:=2) (fun i=>[⟨0,[105,102],((i+0:Nat):Int)⟩]) (by decide) (fun _=>rfl) (fun f i r out=>by kernel_rfl)
theorem lw_wh:Lw [119,104,105,108,101,32] [(0,[119,104,105,108,101])]:=Lp.of (n:=2) (fun i=>[⟨0,[119,104,105,108,101],((i+0:Nat):Int)⟩]) (by decide) (fun _=>rfl) (fun f i r out=>by kernel_rfl)
theorem lz_nul:Lz kNul [(0,kNul)]:=(idn (by decide) (by decide)).2
structure coQ (D N:Nat) (t:List UInt8) (c:Cc):Prop where
 w:c.wf
 d:c.dp≤D
 z:Lz t c.tk
 n:t≠[]
 l:t.length≤N
theorem eq_q {m:Mk} (h:okK m):∃ne:Bool,eqT.getD (nxV 2 m).toNat []=[32]++neT ne++[32]++kNul∧Lz ([32]++neT ne++[32]++kNul) [(2,neT ne),(0,kNul)]:=by
 have:=nxK_t h (j:=2) (by decide)
 have e:((2:Nat):Int)=2:=rfl
 rw[e]at this
 generalize (nxV 2 m).toNat=i at this
 match i,this with
 |0,_=>exact⟨false,rfl,lw_e0.wapp lz_nul⟩
 |1,_=>exact⟨true,rfl,lw_e1.wapp lz_nul⟩
theorem cm_q {m:Mk} (h:okK m):∃o:Nat,o<6∧cmT.getD (nxV 6 m).toNat []=cpT o∧Lw ([32]++cpT o++[32]) [(2,cpT o)]:=by
 have:=nxK_t h (j:=6) (by decide)
 have e:((6:Nat):Int)=6:=rfl
 rw[e]at this
 generalize (nxV 6 m).toNat=i at this
 match i,this with
 |0,_=>exact⟨2,by decide,rfl,lw_c2⟩
 |1,_=>exact⟨3,by decide,rfl,lw_c3⟩
 |2,_=>exact⟨4,by decide,rfl,lw_c4⟩
 |3,_=>exact⟨5,by decide,rfl,lw_c5⟩
 |4,_=>exact⟨0,by decide,rfl,lw_c0⟩
 |5,_=>exact⟨1,by decide,rfl,lw_c1⟩
theorem cpT_len {o:Nat} (h:o<6):(cpT o).length≤2:=by
 match o,h with
 |0,_=>decide
 |1,_=>decide
 |2,_=>decide
 |3,_=>decide
 |4,_=>decide
 |5,_=>decide
theorem cnd_q (s:Int) {m:Mk} (h:okK m):∃c,coQ 1 30 (cndB s m).1 c∧c.lv=0∧Sm0 m (cndB s m).2:=by
 have h1:=(sm_nx m).ok h
 unfold cndB
 split
 ·obtain⟨a,b⟩:=pv_q (m:=nxM m) s
  obtain⟨ne,e1,e2⟩:=eq_q (b.ok h1)
  rw[e1]
  refine⟨.nul _ ne,⟨⟨a.o.1,a.o.2⟩,Nat.zero_le _,?_,by simp,?_⟩,rfl,(sm_nx m).trans (b.trans (sm_nx _))⟩
  ·exact a.z.app e2 (by cases ne<;>exact pS_c _ _)
  ·have:=a.l
   cases ne<;>simp only[neT,kNul,List.length_append,List.length_cons,List.length_nil,if_true,if_false,Bool.false_eq_true]<;>omega
 ·obtain⟨a,b⟩:=iv_q h1
  have h2:=b.ok h1
  obtain⟨o,ho,eo,lo⟩:=cm_q h2
  have h3:=(sm_nx (ivT' (nxM m)).2).ok h2
  obtain⟨c,a2,b2⟩:=su_q 1 h3
  rw[eo]
  refine⟨.cmp o (.var _) c,⟨⟨ho,a.o.1,a2.o.1,a.o.2,a2.o.2,by simp[Cx.fs]⟩,?_,?_,by simp,?_⟩,rfl,(sm_nx m).trans (b.trans ((sm_nx _).trans b2))⟩
  ·have:=a2.d;simp only[Cc.dp,Cx.dp];omega
  ·have e2:((((ivT' (nxM m)).1++[32])++cpT o)++[32])++(sumT 1 (nxM (ivT' (nxM m)).2)).1=((ivT' (nxM m)).1++([32]++cpT o++[32]))++(sumT 1 (nxM (ivT' (nxM m)).2)).1:=by simp
   have e3:(Cc.cmp o (.var (ivT' (nxM m)).1) c).tk=([(0,(ivT' (nxM m)).1)]++[(2,cpT o)])++c.tk:=by simp[Cc.tk,Cx.tk]
   show Lz (((((ivT' (nxM m)).1++[32])++cpT o)++[32])++(sumT 1 (nxM (ivT' (nxM m)).2)).1) _
   rw[e2,e3]
   exact(a.z.app lo (pS_c _ _)).wapp a2.z
  ·have:=a.l;have:=a2.l;have:=cpT_len ho
   simp only[List.length_append,List.length_cons,List.length_nil];omega
theorem co_q (s:Int) {m:Mk} (h:okK m):∃c,coQ 3 66 (condT 1 s m).1 c∧Sm0 m (condT 1 s m).2:=by
 have h1:=(sm_nx m).ok h
 obtain⟨c,a,l,b⟩:=cnd_q s h1
 have h2:=b.ok h1
 obtain⟨c2,a2,l2,b2⟩:=cnd_q s h2
 have w1:=a.w;have w2:=a2.w;have d1:=a.d;have d2:=a2.d;have z1:=a.z;have z2:=a2.z;have n1:=a.l;have n2:=a2.l
 simp only[condT]
 split
 ·refine⟨.not (.par c),⟨⟨w1,rfl⟩,by simp only[Cc.dp];omega,?_,by simp,?_⟩,(sm_nx m).trans b⟩
  ·have e1:(Cc.not (.par c)).tk=(([(2,[33])]++[(2,[40])])++c.tk)++[(2,[41])]:=by simp[Cc.tk]
   rw[e1]
   have e2:Lw [33,40] ([(2,[33])]++[(2,[40])]):=(lp_eq 33).app (lw_sg 40) ⟨40,[],rfl,rfl⟩
   exact(e2.wapp z1).app (lw_sg 41).w (pS_c _ _)
  ·simp only[List.length_append,List.length_cons,List.length_nil];omega
 split
 ·refine⟨.and c c2,⟨⟨w1,w2,by omega,l2⟩,by simp only[Cc.dp];omega,?_,by simp,?_⟩,(sm_nx m).trans (b.trans b2)⟩
  ·have e1:(Cc.and c c2).tk=(c.tk++[(2,[38,38])])++c2.tk:=by simp[Cc.tk]
   rw[e1]
   exact(z1.app lw_aa (pS_c _ _)).wapp z2
  ·simp only[List.length_append,List.length_cons,List.length_nil];omega
 split
 ·refine⟨.or (.par c) c2,⟨⟨w1,w2,by omega⟩,by simp only[Cc.dp];omega,?_,by simp,?_⟩,(sm_nx m).trans (b.trans b2)⟩
  ·have e1:(Cc.or (.par c) c2).tk=(([(2,[40])]++c.tk)++[(2,[41]),(2,[124,124])])++c2.tk:=by simp[Cc.tk]
   rw[e1]
   exact(((lw_sg 40).wapp z1).app lw_or (pS_c _ _)).wapp z2
  ·simp only[List.length_append,List.length_cons,List.length_nil];omega
 ·obtain⟨c,a,l,b⟩:=cnd_q s h
  exact⟨c,⟨a.w,by have:=a.d;omega,a.z,a.n,by have:=a.l;omega⟩,b⟩
def agN:List Cx→List Kt
 |[]=>[]
 |[c]=>c.tk
 |c::l=>c.tk++kO 44::agN l
theorem agN_K:∀l:List Cx,agK l=agN l++[kO 41]
 |[]=>rfl
 |[c]=>rfl
 |c::d::l=>by simp only[agK,agN,agN_K (d::l)];simp
structure agQ (t:List UInt8) (l:List Cx):Prop where
 o:∀e∈l,exO e
 d:agD l≤1
 z:Lz t (agN l)
 n:t≠[]
 l:t.length≤46
theorem ag_q (t s:Int) {m:Mk} (h:okK m):∃l,agQ (argT t s m).1 l∧Sm0 m (argT t s m).2:=by
 unfold argT
 split
 ·obtain⟨c,a,b⟩:=su_q 1 h
  exact⟨[c],⟨by simpa using a.o,by have:=a.d;simp only[agD];omega,a.z,a.n,by have:=a.l;omega⟩,b⟩
 split
 ·obtain⟨c,a,b⟩:=su_q 0 h
  obtain⟨c2,a2,b2⟩:=su_q 1 (b.ok h)
  refine⟨[c,c2],⟨?_,by have:=a.d;have:=a2.d;simp only[agD];omega,?_,by simp,?_⟩,b.trans b2⟩
  ·intro e he
   simp only[List.mem_cons,List.not_mem_nil,or_false]at he
   rcases he with rfl|rfl
   ·exact a.o
   ·exact a2.o
  ·have e1:agN [c,c2]=(c.tk++[(2,[44])])++c2.tk:=by simp[agN]
   rw[e1]
   exact(a.z.app lw_cm (pS_c _ _)).wapp a2.z
  ·have:=a.l;have:=a2.l
   simp only[List.length_append,List.length_cons,List.length_nil];omega
 split
 ·obtain⟨a,b⟩:=pv_q (m:=m) s
  refine⟨[.var _],⟨?_,Nat.zero_le _,a.z,a.n,by have:=a.l;omega⟩,b⟩
  intro e he
  rw[List.mem_singleton.1 he]
  exact⟨a.o.1,a.o.2⟩
 ·obtain⟨c,a,b⟩:=su_q 0 h
  obtain⟨a2,b2⟩:=pv_q (m:=(sumT 0 m).2) s
  refine⟨[c,.var (pvT s (sumT 0 m).2).1],⟨?_,by have:=a.d;simp only[agD,Cx.dp];omega,?_,by simp,?_⟩,b.trans b2⟩
  ·intro e he
   simp only[List.mem_cons,List.not_mem_nil,or_false]at he
   rcases he with rfl|rfl
   ·exact a.o
   ·exact⟨a2.o.1,a2.o.2⟩
  ·have e1:agN [c,.var (pvT s (sumT 0 m).2).1]=(c.tk++[(2,[44])])++[(0,(pvT s (sumT 0 m).2).1)]:=by simp[agN,Cx.tk]
   rw[e1]
   exact(a.z.app lw_cm (pS_c _ _)).wapp a2.z
  ·have:=a.l;have:=a2.l
   simp only[List.length_append,List.length_cons,List.length_nil];omega
structure lfQ (m:Mk) (r:T) (s:Cs):Prop where
 w:s.wf
 d:s.dp≤3
 z:Lw r.1 s.tk
 c:s.ct=1
 l:r.1.length≤100
 q:Sm0 (dcM m) r.2
theorem Lp.cast {P:UInt8→Bool} {t u:List UInt8} {ts us:List Kt} (h:Lp P t ts) (e:t=u) (e2:ts=us):Lp P u us:=by subst e;subst e2;exact h
variable {B:Mk→T} {s:Int} {m:Mk}
theorem l_0 (k:Nat) (hk:k≤2) (h:okK (nxM (dcM m))):∃c,lfQ m ((((ivT' (nxM (dcM m))).1++[32,61,32])++(sumT k (ivT' (nxM (dcM m))).2).1)++[59,32],(sumT k (ivT' (nxM (dcM m))).2).2) c:=by
 obtain⟨a,b⟩:=iv_q h
 obtain⟨c,a2,b2⟩:=su_q k (b.ok h)
 refine⟨.asg _ c,⟨a.o,a2.o⟩,by have:=a2.d;simp only[Cs.dp];omega,?_,rfl,?_,((sm_nx _).trans (b.trans b2))⟩
 ·exact(((a.z.app lw_eq (pS_c _ _)).wapp a2.z).app lw_se (pS_c _ _)).cast rfl (by simp[Cs.tk])
 ·have:=a.l;have:=a2.l
  simp only[List.length_append,List.length_cons,List.length_nil];omega
theorem l_3 (h:okK (nxM (dcM m))):∃c,lfQ m (stc_3 B s m) c:=by
 obtain⟨a,b⟩:=pv_q (m:=nxM (dcM m)) s
 have a2:=cd_q (b.ok h)
 refine⟨.adr _ _,⟨a.o,a2.o⟩,Nat.zero_le _,?_,rfl,?_,((sm_nx _).trans (b.trans (sm_nx _)))⟩
 ·have e1:Lp pA ([32,61,32]++[38]) ([(2,[61])]++[(2,[38])]):=lw_eq.wapp lp_am
  have e2:∃c q,cdT.getD (nxV 2 (pvT s (nxM (dcM m))).2).toNat []=c::q∧pA c=true:=by
   obtain⟨c,q,e,hc⟩:=a2.o.2
   refine⟨c,q,e,?_⟩
   simp only[pA,Bool.not_eq_true',beq_eq_false_iff_ne]
   rintro rfl
   revert hc;decide
  exact(((a.z.app e1 (pS_c _ _)).app a2.z e2).app lw_se (pS_c _ _)).cast rfl (by simp[Cs.tk])
 ·have:=a.l;have:=a2.l
  simp only[stc_3,List.length_append,List.length_cons,List.length_nil];omega
theorem nq_q {m:Mk} (h:okK m):nqT.getD (nxV 2 m).toNat []=kNul∨nqT.getD (nxV 2 m).toNat []=[113]:=by
 have:=nxK_t h (j:=2) (by decide)
 have e:((2:Nat):Int)=2:=rfl
 rw[e]at this
 generalize (nxV 2 m).toNat=i at this
 match i,this with
 |0,_=>exact .inl rfl
 |1,_=>exact .inr rfl
theorem l_4 (h:okK (nxM (dcM m))):∃c,lfQ m (stc_4 B s m) c:=by
 obtain⟨a,b⟩:=pv_q (m:=nxM (dcM m)) s
 unfold stc_4
 rcases nq_q (b.ok h) with e|e
 ·rw[e]
  refine⟨.nul _,a.o,Nat.zero_le _,?_,rfl,?_,((sm_nx _).trans (b.trans (sm_nx _)))⟩
  ·exact(((a.z.app lw_eq (pS_c _ _)).wapp lz_nul).app lw_se (pS_c _ _)).cast rfl (by simp[Cs.tk])
  ·have:=a.l
   simp only[List.length_append,List.length_cons,List.length_nil];omega
 ·rw[e]
  have a2:nmQ [113]:=nmQ.of
  refine⟨.asg _ (.var [113]),⟨a.o,a2.o.1,a2.o.2⟩,Nat.zero_le _,?_,rfl,?_,((sm_nx _).trans (b.trans (sm_nx _)))⟩
  ·exact(((a.z.app lw_eq (pS_c _ _)).wapp a2.z).app lw_se (pS_c _ _)).cast rfl (by simp[Cs.tk,Cx.tk])
  ·have:=a.l
   simp only[List.length_append,List.length_cons,List.length_nil];omega
theorem l_5 (h:okK (nxM (dcM m))):∃c,lfQ m (stc_5 B s m) c:=by
 obtain⟨a,b⟩:=iv_q h
 obtain⟨a2,b2⟩:=pv_q (m:=(ivT' (nxM (dcM m))).2) s
 refine⟨.lod _ _,⟨a.o,a2.o⟩,Nat.zero_le _,?_,rfl,?_,((sm_nx _).trans (b.trans b2))⟩
 ·have e1:Lw ([32,61,32]++[42]) ([(2,[61])]++[(2,[42])]):=lw_eq.wapp (lw_sg 42)
  exact(((a.z.app e1 (pS_c _ _)).wapp a2.z).app lw_se (pS_c _ _)).cast rfl (by simp[Cs.tk])
 ·have:=a.l;have:=a2.l
  simp only[stc_5,List.length_append,List.length_cons,List.length_nil];omega
theorem l_6 (h:okK (nxM (dcM m))):∃c,lfQ m (stc_6 B s m) c:=by
 obtain⟨a,b⟩:=pv_q (m:=nxM (dcM m)) s
 obtain⟨c,a2,b2⟩:=su_q 1 (b.ok h)
 refine⟨.sto _ c,⟨a.o,a2.o⟩,by have:=a2.d;simp only[Cs.dp];omega,?_,rfl,?_,((sm_nx _).trans (b.trans b2))⟩
 ·exact(((((lw_sg 42).wapp a.z).app lw_eq (pS_c _ _)).wapp a2.z).app lw_se (pS_c _ _)).cast rfl (by simp[Cs.tk])
 ·have:=a.l;have:=a2.l
  simp only[stc_6,List.length_append,List.length_cons,List.length_nil];omega
theorem l_7 (h:okK (nxM (dcM m))):∃c,lfQ m (stc_7 B s m) c:=by
 obtain⟨a,b⟩:=iv_q h
 have h2:=b.ok h
 have a1:=tu_q h2
 obtain⟨c,a2,b2⟩:=su_q 1 ((sm_nx (ivT' (nxM (dcM m))).2).ok h2)
 refine⟨.idx _ _ c,⟨a.o,a1.o,a2.o⟩,by have:=a2.d;simp only[Cs.dp];omega,?_,rfl,?_,((sm_nx _).trans (b.trans ((sm_nx _).trans b2)))⟩
 ·exact((((((a.z.app lw_eq (pS_c _ _)).wapp a1.z).app (lw_sg 91) (pS_c _ _)).wapp a2.z).app lw_bc (pS_c _ _))).cast rfl (by simp[Cs.tk])
 ·have:=a.l;have:=a1.l;have:=a2.l
  simp only[stc_7,List.length_append,List.length_cons,List.length_nil];omega
theorem l_8 (h:okK (nxM (dcM m))):∃c,lfQ m (stc_8 B s m) c:=by
 have a1:=tu_q h
 have h2:=(sm_nx (nxM (dcM m))).ok h
 obtain⟨c,a2,b2⟩:=su_q 1 h2
 obtain⟨c3,a3,b3⟩:=su_q 1 (b2.ok h2)
 refine⟨.put _ c c3,⟨a1.o,a2.o,a3.o⟩,by have:=a2.d;have:=a3.d;simp only[Cs.dp];omega,?_,rfl,?_,((sm_nx _).trans ((sm_nx _).trans (b2.trans b3)))⟩
 ·exact((((((a1.z.app (lw_sg 91) (pS_c _ _)).wapp a2.z).app lw_be (pS_c _ _)).wapp a3.z).app lw_se (pS_c _ _))).cast rfl (by simp[Cs.tk])
 ·have:=a1.l;have:=a2.l;have:=a3.l
  simp only[stc_8,List.length_append,List.length_cons,List.length_nil];omega
theorem l_9 (h:okK (nxM (dcM m))):∃c,lfQ m (stc_9 B s m) c:=by
 have a0:=nm_q h
 have h1:=(sm_nx (nxM (dcM m))).ok h
 obtain⟨a,b⟩:=iv_q h1
 obtain⟨l,a2,b2⟩:=ag_q (nxV 4 (nxM (dcM m))) s (b.ok h1)
 refine⟨.cal (some _) _ l,⟨a.o,a0.o,a2.o⟩,by have:=a2.d;simp only[Cs.dp];omega,?_,rfl,?_,((sm_nx _).trans ((sm_nx _).trans (b.trans b2)))⟩
 ·exact((((((a.z.app lw_eq (pS_c _ _)).wapp a0.z).app (lw_sg 40) (pS_c _ _)).wapp a2.z).app lw_pc (pS_c _ _))).cast rfl (by simp[Cs.tk,agN_K])
 ·have:=a.l;have:=a0.l;have:=a2.l
  simp only[stc_9,List.length_append,List.length_cons,List.length_nil];omega
theorem l_11 (h:okK (nxM (dcM m))):∃c,lfQ m (stc_11 B s m) c:=by
 have a0:=nm_q h
 have h1:=(sm_nx (nxM (dcM m))).ok h
 have h2:=(sm_nx (nxM (nxM (dcM m)))).ok h1
 obtain⟨l,a2,b2⟩:=ag_q (IntKind.i64.wrap (nxV 4 (nxM (dcM m))+IntKind.i64.wrap ((nxV 9 (nxM (nxM (dcM m)))).tdiv 8))) s h2
 refine⟨.cal none _ l,⟨a0.o,a2.o⟩,by have:=a2.d;simp only[Cs.dp];omega,?_,rfl,?_,((sm_nx _).trans ((sm_nx _).trans ((sm_nx _).trans b2)))⟩
 ·exact((((a0.z.app (lw_sg 40) (pS_c _ _)).wapp a2.z).app lw_pc (pS_c _ _))).cast rfl (by simp[Cs.tk,agN_K])
 ·have:=a0.l;have:=a2.l
  simp only[stc_11,List.length_append,List.length_cons,List.length_nil];omega
theorem l_12 (h:okK (nxM (dcM m))):∃c,lfQ m (stc_12 B s m) c:=by
 obtain⟨c,a2,b2⟩:=su_q 1 h
 refine⟨.ret c,a2.o,by have:=a2.d;simp only[Cs.dp];omega,?_,rfl,?_,((sm_nx _).trans b2)⟩
 ·exact((lw_rt.wapp a2.z).app lw_se (pS_c _ _)).cast rfl (by simp[Cs.tk])
 ·have:=a2.l
  simp only[stc_12,List.length_append,List.length_cons,List.length_nil];omega
theorem l_13 (h:okK (nxM (dcM m))):∃c,lfQ m (stc_13 B s m) c:=by
 obtain⟨c,a2,b2⟩:=co_q s h
 refine⟨.ass c,a2.w,by have:=a2.d;simp only[Cs.dp];omega,?_,rfl,?_,((sm_nx _).trans b2)⟩
 ·have e1:Lw ([97,115,115,101,114,116,32]++[40]) ([(0,tAss)]++[(2,[40])]):=lw_as.wapp (lw_sg 40)
  exact((e1.wapp a2.z).app lw_pc (pS_c _ _)).cast rfl (by simp[Cs.tk])
 ·have:=a2.l
  simp only[stc_13,List.length_append,List.length_cons,List.length_nil];omega
theorem l_x (h:okK (dcM m)):∃c,lfQ m (([114,101,116,117,114,110,32]++(nuT (dcM m)).1)++[59,32],(nuT (dcM m)).2) c∧(([114,101,116,117,114,110,32]++(nuT (dcM m)).1)++[59,32]).length≤28:=by
 obtain⟨a,b⟩:=nu_q h
 have hl:(([114,101,116,117,114,110,32]++(nuT (dcM m)).1)++[59,32]).length≤28:=by
  have:=a.l
  simp only[List.length_append,List.length_cons,List.length_nil];omega
 refine⟨.ret (.num _),⟨⟨trivial,a.o⟩,Nat.zero_le _,?_,rfl,by have:=hl;exact Nat.le_trans hl (by decide),b⟩,hl⟩
 exact((lw_rt.wapp a.z).app lw_se (pS_c _ _)).cast rfl (by simp[Cs.tk,Cx.tk])
end Go.Proofs.YtlaggppdgoknjaaGreatDoor
