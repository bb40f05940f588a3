/- The maker's conditions, arguments, statements and their tokens. No conditions but those in each statement. -/
import Derived.Test.YtbiepiggmagfcaaGreatDoorMk5
set_option linter.unusedVariables false
set_option linter.unusedSimpArgs false
open List (length_append length_cons length_nil)
namespace Go.Proofs.YtbiepiggmagfcaaGreatDoor
open Go Go.Sy Go.RowKit
theorem A21:Lw [32,61,61,32] [(2,[61,61])]:=Lp.of (n:=3) (fun i=>[⟨2,[61,61],((i+1:Nat):Int)⟩]) (by decide) (fun _=>rfl) (fun f i r out=>by kernel_rfl)
theorem A22:Lw [32,33,61,32] [(2,[33,61])]:=Lp.of (n:=3) (fun i=>[⟨2,[33,61],((i+1:Nat):Int)⟩]) (by decide) (fun _=>rfl) (fun f i r out=>by kernel_rfl)
theorem A23:Lw [32,60,32] [(2,[60])]:=Lp.of (n:=3) (fun i=>[⟨2,[60],((i+1:Nat):Int)⟩]) (by decide) (fun _=>rfl) (fun f i r out=>by kernel_rfl)
theorem A24:Lw [32,60,61,32] [(2,[60,61])]:=Lp.of (n:=3) (fun i=>[⟨2,[60,61],((i+1:Nat):Int)⟩]) (by decide) (fun _=>rfl) (fun f i r out=>by kernel_rfl)
theorem A25:Lw [32,62,32] [(2,[62])]:=Lp.of (n:=3) (fun i=>[⟨2,[62],((i+1:Nat):Int)⟩]) (by decide) (fun _=>rfl) (fun f i r out=>by kernel_rfl)
theorem A26:Lw [32,62,61,32] [(2,[62,61])]:=Lp.of (n:=3) (fun i=>[⟨2,[62,61],((i+1:Nat):Int)⟩]) (by decide) (fun _=>rfl) (fun f i r out=>by kernel_rfl)
theorem mc:Lw [97,115,115,101,114,116,32] [(0,[97,115,115,101,114,116])]:=Lp.of (n:=2) (fun i=>[⟨0,[97,115,115,101,114,116],((i+0:Nat):Int)⟩]) (by decide) (fun _=>rfl) (fun f i r out=>by kernel_rfl)
theorem bJ:Lw [105,102,32] [(0,[105,102])]:=Lp.of (n:=2) (fun i=>[⟨0,[105,102],((i+0:Nat):Int)⟩]) (by decide) (fun _=>rfl) (fun f i r out=>by kernel_rfl)
theorem me:Lw [119,104,105,108,101,32] [(0,[119,104,105,108,101])]:=Lp.of (n:=2) (fun i=>[⟨0,[119,104,105,108,101],((i+0:Nat):Int)⟩]) (by decide) (fun _=>rfl) (fun f i r out=>by kernel_rfl)
theorem WY:Lz E5 [(0,E5)]:=(idn (by decide) (by decide)).2
structure coQ (D N:Nat) (t:List UInt8) (c:Cc):Prop where
 w:c.wf
 d:c.dp≤D
 z:Lz t c.tk
 n:t≠[]
 l:t.length≤N
theorem A7U {m:Mk} (h:okK m):∃ne:Bool,eqT.getD (nxV 2 m).toNat []=[32]++neT ne++[32]++E5∧Lz ([32]++neT ne++[32]++E5) [(2,neT ne),(0,E5)]:=by
 have:=MD h (j:=2) (by decide)
 have e:((2:Nat):Int)=2:=rfl
 rw[e]at this
 generalize (nxV 2 m).toNat=i at this
 match i,this with
 |0,_=>exact⟨false,rfl,bV.wapp WY⟩
 |1,_=>exact⟨true,rfl,bW.wapp WY⟩
theorem A7V {m:Mk} (h:okK m):∃o:Nat,o<6∧cmT.getD (nxV 6 m).toNat []=cpT o∧Lw ([32]++cpT o++[32]) [(2,cpT o)]:=by
 have:=MD h (j:=6) (by decide)
 have e:((6:Nat):Int)=6:=rfl
 rw[e]at this
 generalize (nxV 6 m).toNat=i at this
 match i,this with
 |0,_=>exact⟨2,by decide,rfl,A23⟩
 |1,_=>exact⟨3,by decide,rfl,A24⟩
 |2,_=>exact⟨4,by decide,rfl,A25⟩
 |3,_=>exact⟨5,by decide,rfl,A26⟩
 |4,_=>exact⟨0,by decide,rfl,A21⟩
 |5,_=>exact⟨1,by decide,rfl,A22⟩
theorem ol {o:Nat} (h:o<6):(cpT o).length≤2:=by
 match o,h with
 |0,_=>decide
 |1,_=>decide
 |2,_=>decide
 |3,_=>decide
 |4,_=>decide
 |5,_=>decide
theorem bK (s:Int) {m:Mk} (h:okK m):∃c,coQ 1 30 (DP s m).1 c∧c.lv=0∧Sm0 m (DP s m).2:=by
 have h1:=(Ak m).ok h
 unfold DP
 split
 ·obtain⟨a,b⟩:=RH (m:=nxM m) s
  obtain⟨ne,e1,e2⟩:=A7U (b.ok h1)
  rw[e1]
  refine⟨.nul _ ne,⟨⟨a.o.1,a.o.2⟩,Nat.zero_le _,?_,by simp,?_⟩,rfl,(Ak m).trans (b.trans (Ak _))⟩
  ·exact a.z.app e2 (by cases ne<;>exact Ac _ _)
  ·have:=a.l
   cases ne<;>simp only[neT,E5,jL3,if_true,if_false,jB]<;>omega
 ·obtain⟨a,b⟩:=LP h1
  have h2:=b.ok h1
  obtain⟨o,ho,eo,lo⟩:=A7V h2
  have h3:=(Ak (A6 (nxM m)).2).ok h2
  obtain⟨c,a2,b2⟩:=KF 1 h3
  rw[eo]
  refine⟨.cmp o (.var _) c,⟨⟨ho,a.o.1,a2.o.1,a.o.2,a2.o.2,by simp[Cx.fs]⟩,?_,?_,by simp,?_⟩,rfl,(Ak m).trans (b.trans ((Ak _).trans b2))⟩
  ·have:=a2.d;simp only[Cc.dp,Cx.dp];omega
  ·have e2:((((A6 (nxM m)).1++[32])++cpT o)++[32])++(A7 1 (nxM (A6 (nxM m)).2)).1=((A6 (nxM m)).1++([32]++cpT o++[32]))++(A7 1 (nxM (A6 (nxM m)).2)).1:=by simp
   have e3:(Cc.cmp o (.var (A6 (nxM m)).1) c).tk=([(0,(A6 (nxM m)).1)]++[(2,cpT o)])++c.tk:=by simp[Cc.tk,Cx.tk]
   show Lz (((((A6 (nxM m)).1++[32])++cpT o)++[32])++(A7 1 (nxM (A6 (nxM m)).2)).1) _
   rw[e2,e3]
   exact(a.z.app lo (Ac _ _)).wapp a2.z
  ·have:=a.l;have:=a2.l;have:=ol ho
   simp only[jL3];omega
theorem vt (s:Int) {m:Mk} (h:okK m):∃c,coQ 3 66 (condT 1 s m).1 c∧Sm0 m (condT 1 s m).2:=by
 have h1:=(Ak m).ok h
 obtain⟨c,a,l,b⟩:=bK s h1
 have h2:=b.ok h1
 obtain⟨c2,a2,l2,b2⟩:=bK s h2
 have w1:=a.w;have w2:=a2.w;have d1:=a.d;have d2:=a2.d;have z1:=a.z;have z2:=a2.z;have n1:=a.l;have n2:=a2.l
 simp only[condT]
 split
 ·refine⟨.not (.par c),⟨⟨w1,rfl⟩,by simp only[Cc.dp];omega,?_,by simp,?_⟩,(Ak m).trans b⟩
  ·have e1:(Cc.not (.par c)).tk=(([(2,[33])]++[(2,[40])])++c.tk)++[(2,[41])]:=by simp[Cc.tk]
   rw[e1]
   have e2:Lw [33,40] ([(2,[33])]++[(2,[40])]):=(ng 33).app (Bs 40) ⟨40,[],rfl,rfl⟩
   exact(e2.wapp z1).app (Bs 41).w (Ac _ _)
  ·simp only[jL3];omega
 split
 ·refine⟨.and c c2,⟨⟨w1,w2,by omega,l2⟩,by simp only[Cc.dp];omega,?_,by simp,?_⟩,(Ak m).trans (b.trans b2)⟩
  ·have e1:(Cc.and c c2).tk=(c.tk++[(2,[38,38])])++c2.tk:=by simp[Cc.tk]
   rw[e1]
   exact(z1.app mo (Ac _ _)).wapp z2
  ·simp only[jL3];omega
 split
 ·refine⟨.or (.par c) c2,⟨⟨w1,w2,by omega⟩,by simp only[Cc.dp];omega,?_,by simp,?_⟩,(Ak m).trans (b.trans b2)⟩
  ·have e1:(Cc.or (.par c) c2).tk=(([(2,[40])]++c.tk)++[(2,[41]),(2,[124,124])])++c2.tk:=by simp[Cc.tk]
   rw[e1]
   exact(((Bs 40).wapp z1).app A2O (Ac _ _)).wapp z2
  ·simp only[jL3];omega
 ·obtain⟨c,a,l,b⟩:=bK s h
  exact⟨c,⟨a.w,by have:=a.d;omega,a.z,a.n,by have:=a.l;omega⟩,b⟩
def agN:List Cx→List Kt
 |[]=>[]
 |[c]=>c.tk
 |c::l=>c.tk++kO 44::agN l
theorem SE:∀l:List Cx,agK l=agN l++[kO 41]
 |[]=>rfl
 |[c]=>rfl
 |c::d::l=>by simp only[agK,agN,SE (d::l)];simp
structure agQ (t:List UInt8) (l:List Cx):Prop where
 o:∀e∈l,exO e
 d:agD l≤1
 z:Lz t (agN l)
 n:t≠[]
 l:t.length≤46
theorem vu (t s:Int) {m:Mk} (h:okK m):∃l,agQ (Bq t s m).1 l∧Sm0 m (Bq t s m).2:=by
 unfold Bq
 split
 ·obtain⟨c,a,b⟩:=KF 1 h
  exact⟨[c],⟨by simpa using a.o,by have:=a.d;simp only[agD];omega,a.z,a.n,by have:=a.l;omega⟩,b⟩
 split
 ·obtain⟨c,a,b⟩:=KF 0 h
  obtain⟨c2,a2,b2⟩:=KF 1 (b.ok h)
  refine⟨[c,c2],⟨?_,by have:=a.d;have:=a2.d;simp only[agD];omega,?_,by simp,?_⟩,b.trans b2⟩
  ·intro e he
   simp only[List.mem_cons,List.not_mem_nil,or_false]at he
   rcases he with rfl|rfl
   ·exact a.o
   ·exact a2.o
  ·have e1:agN [c,c2]=(c.tk++[(2,[44])])++c2.tk:=by simp[agN]
   rw[e1]
   exact(a.z.app bT (Ac _ _)).wapp a2.z
  ·have:=a.l;have:=a2.l
   simp only[jL3];omega
 split
 ·obtain⟨a,b⟩:=RH (m:=m) s
  refine⟨[.var _],⟨?_,Nat.zero_le _,a.z,a.n,by have:=a.l;omega⟩,b⟩
  intro e he
  rw[List.mem_singleton.1 he]
  exact⟨a.o.1,a.o.2⟩
 ·obtain⟨c,a,b⟩:=KF 0 h
  obtain⟨a2,b2⟩:=RH (m:=(A7 0 m).2) s
  refine⟨[c,.var (pvT s (A7 0 m).2).1],⟨?_,by have:=a.d;simp only[agD,Cx.dp];omega,?_,by simp,?_⟩,b.trans b2⟩
  ·intro e he
   simp only[List.mem_cons,List.not_mem_nil,or_false]at he
   rcases he with rfl|rfl
   ·exact a.o
   ·exact⟨a2.o.1,a2.o.2⟩
  ·have e1:agN [c,.var (pvT s (A7 0 m).2).1]=(c.tk++[(2,[44])])++[(0,(pvT s (A7 0 m).2).1)]:=by simp[agN,Cx.tk]
   rw[e1]
   exact(a.z.app bT (Ac _ _)).wapp a2.z
  ·have:=a.l;have:=a2.l
   simp only[jL3];omega
structure lfQ (m:Mk) (r:T) (s:Cs):Prop where
 w:s.wf
 d:s.dp≤3
 z:Lw r.1 s.tk
 c:s.ct=1
 l:r.1.length≤100
 q:Sm0 (dcM m) r.2
theorem Lp.cast {P:UInt8→Bool} {t u:List UInt8} {ts us:List Kt} (h:Lp P t ts) (e:t=u) (e2:ts=us):Lp P u us:=by subst e;subst e2;exact h
variable {B:Mk→T} {s:Int} {m:Mk}
theorem l_0 (k:Nat) (hk:k≤2) (h:okK (nxM (dcM m))):∃c,lfQ m ((((A6 (nxM (dcM m))).1++[32,61,32])++(A7 k (A6 (nxM (dcM m))).2).1)++[59,32],(A7 k (A6 (nxM (dcM m))).2).2) c:=by
 obtain⟨a,b⟩:=LP h
 obtain⟨c,a2,b2⟩:=KF k (b.ok h)
 refine⟨.asg _ c,⟨a.o,a2.o⟩,by have:=a2.d;simp only[Cs.dp];omega,?_,rfl,?_,((Ak _).trans (b.trans b2))⟩
 ·exact(((a.z.app FC (Ac _ _)).wapp a2.z).app JY (Ac _ _)).cast rfl (by simp[Cs.tk])
 ·have:=a.l;have:=a2.l
  simp only[jL3];omega
theorem l_3 (h:okK (nxM (dcM m))):∃c,lfQ m (W2 B s m) c:=by
 obtain⟨a,b⟩:=RH (m:=nxM (dcM m)) s
 have a2:=A7f (b.ok h)
 refine⟨.adr _ _,⟨a.o,a2.o⟩,Nat.zero_le _,?_,rfl,?_,((Ak _).trans (b.trans (Ak _)))⟩
 ·have e1:Lp pA ([32,61,32]++[38]) ([(2,[61])]++[(2,[38])]):=FC.wapp nh
  have e2:∃c q,cdT.getD (nxV 2 (pvT s (nxM (dcM m))).2).toNat []=c::q∧pA c=true:=by
   obtain⟨c,q,e,hc⟩:=a2.o.2
   refine⟨c,q,e,?_⟩
   simp only[pA,Bool.not_eq_true',beq_eq_false_iff_ne]
   rintro rfl
   revert hc;decide
  exact(((a.z.app e1 (Ac _ _)).app a2.z e2).app JY (Ac _ _)).cast rfl (by simp[Cs.tk])
 ·have:=a.l;have:=a2.l
  simp only[W2,jL3];omega
theorem A7W {m:Mk} (h:okK m):nqT.getD (nxV 2 m).toNat []=E5∨nqT.getD (nxV 2 m).toNat []=[113]:=by
 have:=MD h (j:=2) (by decide)
 have e:((2:Nat):Int)=2:=rfl
 rw[e]at this
 generalize (nxV 2 m).toNat=i at this
 match i,this with
 |0,_=>exact .inl rfl
 |1,_=>exact .inr rfl
theorem l_4 (h:okK (nxM (dcM m))):∃c,lfQ m (W3 B s m) c:=by
 obtain⟨a,b⟩:=RH (m:=nxM (dcM m)) s
 unfold W3
 rcases A7W (b.ok h) with e|e
 ·rw[e]
  refine⟨.nul _,a.o,Nat.zero_le _,?_,rfl,?_,((Ak _).trans (b.trans (Ak _)))⟩
  ·exact(((a.z.app FC (Ac _ _)).wapp WY).app JY (Ac _ _)).cast rfl (by simp[Cs.tk])
  ·have:=a.l
   simp only[jL3];omega
 ·rw[e]
  have a2:nmQ [113]:=nmQ.of
  refine⟨.asg _ (.var [113]),⟨a.o,a2.o.1,a2.o.2⟩,Nat.zero_le _,?_,rfl,?_,((Ak _).trans (b.trans (Ak _)))⟩
  ·exact(((a.z.app FC (Ac _ _)).wapp a2.z).app JY (Ac _ _)).cast rfl (by simp[Cs.tk,Cx.tk])
  ·have:=a.l
   simp only[jL3];omega
theorem l_5 (h:okK (nxM (dcM m))):∃c,lfQ m (W4 B s m) c:=by
 obtain⟨a,b⟩:=LP h
 obtain⟨a2,b2⟩:=RH (m:=(A6 (nxM (dcM m))).2) s
 refine⟨.lod _ _,⟨a.o,a2.o⟩,Nat.zero_le _,?_,rfl,?_,((Ak _).trans (b.trans b2))⟩
 ·have e1:Lw ([32,61,32]++[42]) ([(2,[61])]++[(2,[42])]):=FC.wapp (Bs 42)
  exact(((a.z.app e1 (Ac _ _)).wapp a2.z).app JY (Ac _ _)).cast rfl (by simp[Cs.tk])
 ·have:=a.l;have:=a2.l
  simp only[W4,jL3];omega
theorem l_6 (h:okK (nxM (dcM m))):∃c,lfQ m (W5 B s m) c:=by
 obtain⟨a,b⟩:=RH (m:=nxM (dcM m)) s
 obtain⟨c,a2,b2⟩:=KF 1 (b.ok h)
 refine⟨.sto _ c,⟨a.o,a2.o⟩,by have:=a2.d;simp only[Cs.dp];omega,?_,rfl,?_,((Ak _).trans (b.trans b2))⟩
 ·exact(((((Bs 42).wapp a.z).app FC (Ac _ _)).wapp a2.z).app JY (Ac _ _)).cast rfl (by simp[Cs.tk])
 ·have:=a.l;have:=a2.l
  simp only[W5,jL3];omega
theorem l_7 (h:okK (nxM (dcM m))):∃c,lfQ m (W6 B s m) c:=by
 obtain⟨a,b⟩:=LP h
 have h2:=b.ok h
 have a1:=wL h2
 obtain⟨c,a2,b2⟩:=KF 1 ((Ak (A6 (nxM (dcM m))).2).ok h2)
 refine⟨.idx _ _ c,⟨a.o,a1.o,a2.o⟩,by have:=a2.d;simp only[Cs.dp];omega,?_,rfl,?_,((Ak _).trans (b.trans ((Ak _).trans b2)))⟩
 ·exact((((((a.z.app FC (Ac _ _)).wapp a1.z).app (Bs 91) (Ac _ _)).wapp a2.z).app A2J (Ac _ _))).cast rfl (by simp[Cs.tk])
 ·have:=a.l;have:=a1.l;have:=a2.l
  simp only[W6,jL3];omega
theorem l_8 (h:okK (nxM (dcM m))):∃c,lfQ m (W7 B s m) c:=by
 have a1:=wL h
 have h2:=(Ak (nxM (dcM m))).ok h
 obtain⟨c,a2,b2⟩:=KF 1 h2
 obtain⟨c3,a3,b3⟩:=KF 1 (b2.ok h2)
 refine⟨.put _ c c3,⟨a1.o,a2.o,a3.o⟩,by have:=a2.d;have:=a3.d;simp only[Cs.dp];omega,?_,rfl,?_,((Ak _).trans ((Ak _).trans (b2.trans b3)))⟩
 ·exact((((((a1.z.app (Bs 91) (Ac _ _)).wapp a2.z).app ml (Ac _ _)).wapp a3.z).app JY (Ac _ _))).cast rfl (by simp[Cs.tk])
 ·have:=a1.l;have:=a2.l;have:=a3.l
  simp only[W7,jL3];omega
theorem l_9 (h:okK (nxM (dcM m))):∃c,lfQ m (W8 B s m) c:=by
 have a0:=nm_q h
 have h1:=(Ak (nxM (dcM m))).ok h
 obtain⟨a,b⟩:=LP h1
 obtain⟨l,a2,b2⟩:=vu (nxV 4 (nxM (dcM m))) s (b.ok h1)
 refine⟨.cal (some _) _ l,⟨a.o,a0.o,a2.o⟩,by have:=a2.d;simp only[Cs.dp];omega,?_,rfl,?_,((Ak _).trans ((Ak _).trans (b.trans b2)))⟩
 ·exact((((((a.z.app FC (Ac _ _)).wapp a0.z).app (Bs 40) (Ac _ _)).wapp a2.z).app bS (Ac _ _))).cast rfl (by simp[Cs.tk,SE])
 ·have:=a.l;have:=a0.l;have:=a2.l
  simp only[W8,jL3];omega
theorem A7X (h:okK (nxM (dcM m))):∃c,lfQ m (SK B s m) c:=by
 have a0:=nm_q h
 have h1:=(Ak (nxM (dcM m))).ok h
 have h2:=(Ak (nxM (nxM (dcM m)))).ok h1
 obtain⟨l,a2,b2⟩:=vu (IntKind.i64.wrap (nxV 4 (nxM (dcM m))+IntKind.i64.wrap ((nxV 9 (nxM (nxM (dcM m)))).tdiv 8))) s h2
 refine⟨.cal none _ l,⟨a0.o,a2.o⟩,by have:=a2.d;simp only[Cs.dp];omega,?_,rfl,?_,((Ak _).trans ((Ak _).trans ((Ak _).trans b2)))⟩
 ·exact((((a0.z.app (Bs 40) (Ac _ _)).wapp a2.z).app bS (Ac _ _))).cast rfl (by simp[Cs.tk,SE])
 ·have:=a0.l;have:=a2.l
  simp only[SK,jL3];omega
theorem A7Y (h:okK (nxM (dcM m))):∃c,lfQ m (SL B s m) c:=by
 obtain⟨c,a2,b2⟩:=KF 1 h
 refine⟨.ret c,a2.o,by have:=a2.d;simp only[Cs.dp];omega,?_,rfl,?_,((Ak _).trans b2)⟩
 ·exact((W9.wapp a2.z).app JY (Ac _ _)).cast rfl (by simp[Cs.tk])
 ·have:=a2.l
  simp only[SL,jL3];omega
theorem A7Z (h:okK (nxM (dcM m))):∃c,lfQ m (SM B s m) c:=by
 obtain⟨c,a2,b2⟩:=vt s h
 refine⟨.ass c,a2.w,by have:=a2.d;simp only[Cs.dp];omega,?_,rfl,?_,((Ak _).trans b2)⟩
 ·have e1:Lw ([97,115,115,101,114,116,32]++[40]) ([(0,PQ)]++[(2,[40])]):=mc.wapp (Bs 40)
  exact((e1.wapp a2.z).app bS (Ac _ _)).cast rfl (by simp[Cs.tk])
 ·have:=a2.l
  simp only[SM,jL3];omega
theorem l_x (h:okK (dcM m)):∃c,lfQ m (([114,101,116,117,114,110,32]++(nuT (dcM m)).1)++[59,32],(nuT (dcM m)).2) c∧(([114,101,116,117,114,110,32]++(nuT (dcM m)).1)++[59,32]).length≤28:=by
 obtain⟨a,b⟩:=jk h
 have hl:(([114,101,116,117,114,110,32]++(nuT (dcM m)).1)++[59,32]).length≤28:=by
  have:=a.l
  simp only[jL3];omega
 refine⟨.ret (.num _),⟨⟨trivial,a.o⟩,Nat.zero_le _,?_,rfl,by have:=hl;exact Nat.le_trans hl (by decide),b⟩,hl⟩
 exact((W9.wapp a.z).app JY (Ac _ _)).cast rfl (by simp[Cs.tk,Cx.tk])
end Go.Proofs.YtbiepiggmagfcaaGreatDoor
namespace Go.Proofs.YtbiepiggmagfcaaGreatDoor
open Go Go.Sy Go.RowKit
def ph (n:Int):Int:=if 0≤n then 100*n else 28*n
theorem A7a {n:Int} (h:n≤0):ph n-ph (n-1)=28:=by
 unfold ph
 rw[if_neg (show ¬0≤n-1 by omega)]
 split<;>omega
theorem vx {n:Int} (h:1≤n):ph n-ph (n-1)=100:=by
 unfold ph
 rw[if_pos (by omega),if_pos (by omega)];omega
def xk:Nat→Int
 |0=>0
 |1=>6
 |_=>11
structure stQ (k:Nat) (m:Mk) (r:T) (s:Cs):Prop where
 w:s.wf
 d:s.dp≤3+k
 z:Lw r.1 s.tk
 b:r.2.b=m.b
 n:r.2.n=m.n-(s.ct:Int)
 x1:m.n≤0→s.ct=1
 x2:1≤m.n → -(xk k)≤m.n-(s.ct:Int)
 l:(r.1.length:Int)≤ph m.n-ph (m.n-(s.ct:Int))
structure slQ (k j:Nat) (m:Mk) (t:List UInt8) (q:Mk) (l:List Cs):Prop where
 w:wfB l
 d:dpB l≤3+k
 z:Lw t (tkB l)
 b:q.b=m.b
 n:q.n=m.n-(ctB l:Int)
 x1:m.n≤0→ctB l=j
 x2:1≤m.n→1≤m.n-(ctB l:Int)∨(-(xk k)-((j:Int)-1)≤m.n-(ctB l:Int)∧1≤j)
 e:l.length=j
 ln:(t.length:Int)≤ph m.n-ph (m.n-(ctB l:Int))
theorem Nw (k:Nat):0≤xk k∧xk k≤11:=by
 unfold xk;split<;>omega
theorem jT {f:Mk→T} {k:Nat} (hf:∀m,okK m → -1000000≤m.n→m.n≤25→∃s,stQ k m (f m) s):∀(j:Nat) (acc:List UInt8) (m:Mk),okK m → -1000000+(j:Int)≤m.n→m.n≤25→j≤100→∃t l,(blkL f j acc m).1=acc++t∧slQ k j m t (blkL f j acc m).2 l
 |0,acc,m,h,h1,h2,_=>⟨[],[],by simp[blkL],trivial,Nat.zero_le _,Lp.nil,rfl,by show m.n=m.n-0;omega,fun _=>rfl,fun h=>.inl (by show 1≤m.n-0;omega),rfl,by show (0:Int)≤ph m.n-ph (m.n-0);rw[show m.n-0=m.n by omega];omega⟩
 |j+1,acc,m,h,h1,h2,h3=>by
  obtain⟨s,a⟩:=hf m h (by omega) h2
  have hq:okK (f m).2:=by unfold okK;rw[a.b];exact h
  have x0:=Nw k
  have an:=a.n
  have c1:=vR s
  have lo : -1000000+(j:Int)≤(f m).2.n:=by
   rw[an]
   by_cases hm:m.n≤0
   ·rw[a.x1 hm];omega
   ·have:=a.x2 (by omega);omega
  obtain⟨t,l,e1,b⟩:=jT hf j (acc++(f m).1) (f m).2 hq lo (by rw[an];omega) (by omega)
  have bx1:=b.x1
  have bx2:=b.x2
  have bl:=b.ln
  have bn:=b.n
  rw[an]at bx1 bx2 bl bn
  refine⟨(f m).1++t,s::l,by simp only[blkL];rw[e1,List.append_assoc],⟨a.w,b.w⟩,?_,a.z.wapp b.z,b.b.trans a.b,?_,?_,?_,by rw[length_cons,b.e],?_⟩
  ·have:=a.d;have:=b.d;simp only[dpB];omega
  ·show (blkL f j (acc++(f m).1) (f m).2).2.n=_
   rw[bn];simp only[ctB];omega
  ·intro hm
   have e2:=a.x1 hm
   have e3:=bx1 (by omega)
   simp only[ctB];omega
  ·intro hm
   have e2:=a.x2 hm
   simp only[ctB]
   by_cases h4:1≤m.n-(s.ct:Int)
   ·rcases bx2 h4 with h5|h5
    ·left;omega
    ·right;omega
   ·have e3:=bx1 (by omega)
    right;omega
  ·have:=a.l
   simp only[ctB,length_append]
   rw[show m.n-((s.ct+ctB l:Nat):Int)=m.n-(s.ct:Int)-(ctB l:Int) by omega]
   omega
structure bkQ (k:Nat) (m:Mk) (r:T) (l:List Cs):Prop where
 w:wfB l
 d:dpB l≤3+k
 z:Lw r.1 (kO 123::(tkB l++[kO 125]))
 b:r.2.b=m.b
 n:r.2.n=m.n-(ctB l:Int)
 x1:m.n≤0→ctB l≤3
 x2:1≤m.n → -(xk k)-2≤m.n-(ctB l:Int)
 l:(r.1.length:Int)≤4+(ph m.n-ph (m.n-(ctB l:Int)))
 h:∃q,r.1=123::q
theorem A7b {f:Mk→T} {k:Nat} (hf:∀m,okK m → -1000000≤m.n→m.n≤25→∃s,stQ k m (f m) s) (m:Mk) (h:okK m) (h1 : -999990≤m.n) (h2:m.n≤25):∃l,bkQ k m (BX f m) l:=by
 have hj:=nxK h (j:=4) (by decide)
 have x0:=Nw k
 obtain⟨t,l,e1,a⟩:=jT hf (nxV 4 m).toNat [123,32] (nxM m) ((Ak m).ok h) (by show _≤m.n;omega) h2 (by omega)
 have hn:(nxM m).n=m.n:=rfl
 have ax1:=a.x1
 have ax2:=a.x2
 have al:=a.ln
 have an:=a.n
 rw[hn]at ax1 ax2 al an
 have e2:(BX f m).1=([123,32]++t)++[125,32]:=by show (blkL f (nxV 4 m).toNat [123,32] (nxM m)).1++[125,32]=_;rw[e1]
 refine⟨l,a.w,a.d,?_,a.b,an,?_,?_,?_,?_⟩
 ·rw[e2]
  exact((A2K.wapp a.z).wapp A2L).cast rfl (by simp)
 ·intro hm;have:=ax1 hm;omega
 ·intro hm
  rcases ax2 hm with h|h<;>omega
 ·rw[e2]
  simp only[jL3];omega
 ·rw[e2];exact⟨_,rfl⟩
theorem vy {m:Mk} (h1 : -1000000≤m.n) (h2:m.n≤25):(dcM m).n=m.n-1:=by
 show Ad (m.n-1)=_
 unfold Ad;rw[wrap_i64 (by omega) (by omega)]
theorem A27 {k:Nat} {m:Mk} {r:T} {s:Cs} (h1 : -1000000≤m.n) (h2:1≤m.n) (h3:m.n≤25) (h:lfQ m r s):stQ k m r s:=by
 have x0:=Nw k
 have hd:=vy h1 h3
 refine⟨h.w,by have:=h.d;omega,h.z,h.q.b,by rw[h.q.n,hd,h.c];rfl,fun h=>by omega,fun _=>by rw[h.c];omega,?_⟩
 rw[h.c]
 show _≤ph m.n-ph (m.n-1)
 have:=vx h2
 have:=h.l
 omega
theorem bL {k:Nat} {m:Mk} {r:T} {s:Cs} {c1 c2:Nat} (h1 : -1000000≤m.n) (h2:1≤m.n) (h3:m.n≤25) (hw:s.wf) (hd:s.dp≤3+(k+1)) (hz:Lw r.1 s.tk) (hb:r.2.b=m.b) (hc:s.ct=1+c1+c2) (hn:r.2.n=m.n-1-(c1:Int)-(c2:Int)) (hk:k=0∨k=1)
  (a1:m.n-1≤0→c1≤3) (a2:1≤m.n-1 → -(xk k)-2≤m.n-1-(c1:Int)) (b1:m.n-1-(c1:Int)≤0→c2≤3) (b2:1≤m.n-1-(c1:Int) → -(xk k)-2≤m.n-1-(c1:Int)-(c2:Int))
  (hl:(r.1.length:Int)≤100+(ph (m.n-1)-ph (m.n-1-(c1:Int)))+(ph (m.n-1-(c1:Int))-ph (m.n-1-(c1:Int)-(c2:Int)))):stQ (k+1) m r s:=by
 have e:m.n-(s.ct:Int)=m.n-1-(c1:Int)-(c2:Int):=by rw[hc];omega
 refine⟨hw,hd,hz,hb,by rw[e];exact hn,fun h=>by omega,fun _=>?_,?_⟩
 ·rw[e]
  have hx:xk (k+1)=xk k+5∨xk (k+1)=xk k+6:=by rcases hk with rfl|rfl<;>simp[xk]
  have hx2:6≤xk (k+1):=by rcases hk with rfl|rfl<;>simp[xk]
  by_cases g1:m.n-1≤0
  ·have:=a1 g1
   have:=b1 (by omega)
   omega
  ·have:=a2 (by omega)
   by_cases g2:m.n-1-(c1:Int)≤0
   ·have:=b1 g2;omega
   ·have:=b2 (by omega);omega
 ·rw[e]
  have:=vx h2
  omega
theorem vz {dp:Bool} {B:Mk→T} {s:Int} {k:Nat} (hB:dp=true→∃j,k=j+1∧(j=0∨j=1)∧∀q,okK q → -999990≤q.n→q.n≤25→∃l,bkQ j q (B q) l) {m:Mk} (h:okK m) (h1 : -1000000≤m.n) (h2:m.n≤25):∃c,stQ k m (stB dp B s m) c:=by
 have hd:=vy h1 h2
 have hk:okK (dcM m):=h
 have hk2:=(Ak (dcM m)).ok hk
 have x0:=Nw k
 unfold stB
 by_cases hn:decide ((dcM m).n<0)=true
 ·rw[if_pos hn]
  rw[hd,decide_eq_true_eq]at hn
  obtain⟨c,a,l⟩:=l_x hk
  refine⟨c,a.w,by have:=a.d;omega,a.z,a.q.b,by rw[a.q.n,hd,a.c];rfl,fun _=>a.c,fun h=>by omega,?_⟩
  rw[a.c]
  have:=A7a (n:=m.n) (by omega)
  have l':((((([114,101,116,117,114,110,32]++(nuT (dcM m)).1)++[59,32]).length:Nat)):Int)≤28:=by omega
  show ((((([114,101,116,117,114,110,32]++(nuT (dcM m)).1)++[59,32]).length:Nat)):Int)≤ph m.n-ph (m.n-1)
  omega
 ·rw[if_neg hn]
  rw[hd,decide_eq_true_eq]at hn
  have h3:1≤m.n:=by omega
  have leaf:∀{r:T},(∃c,lfQ m r c)→∃c,stQ k m r c:=fun ⟨c,a⟩=>⟨c,A27 h1 h3 h2 a⟩
  by_cases e0:(decide (nxV 18 (dcM m)<3))=true
  ·rw[if_pos e0];exact leaf (l_0 2 (Nat.le_refl _) hk2)
  rw[if_neg e0]
  by_cases e1:(nxV 18 (dcM m)==3)=true
  ·rw[if_pos e1];exact leaf (l_3 hk2)
  rw[if_neg e1]
  by_cases e2:(nxV 18 (dcM m)==4)=true
  ·rw[if_pos e2];exact leaf (l_4 hk2)
  rw[if_neg e2]
  by_cases e3:(nxV 18 (dcM m)==5)=true
  ·rw[if_pos e3];exact leaf (l_5 hk2)
  rw[if_neg e3]
  by_cases e4:(nxV 18 (dcM m)==6)=true
  ·rw[if_pos e4];exact leaf (l_6 hk2)
  rw[if_neg e4]
  by_cases e5:(nxV 18 (dcM m)==7)=true
  ·rw[if_pos e5];exact leaf (l_7 hk2)
  rw[if_neg e5]
  by_cases e6:(nxV 18 (dcM m)==8)=true
  ·rw[if_pos e6];exact leaf (l_8 hk2)
  rw[if_neg e6]
  by_cases e7:(decide (nxV 18 (dcM m)<11))=true
  ·rw[if_pos e7];exact leaf (l_9 hk2)
  rw[if_neg e7]
  by_cases e8:(nxV 18 (dcM m)==11)=true
  ·rw[if_pos e8];exact leaf (A7X hk2)
  rw[if_neg e8]
  by_cases e9:(nxV 18 (dcM m)==12)=true
  ·rw[if_pos e9];exact leaf (A7Y hk2)
  rw[if_neg e9]
  by_cases e10:(nxV 18 (dcM m)==13)=true
  ·rw[if_pos e10];exact leaf (A7Z hk2)
  rw[if_neg e10]
  by_cases hdp:(!dp)=true
  ·rw[if_pos hdp];exact leaf (l_0 1 (by omega) hk2)
  rw[if_neg hdp]
  obtain⟨j,rfl,hj,hB⟩:=hB (by simpa using hdp)
  have hk3:=(Ak (nxM (dcM m))).ok hk2
  obtain⟨c,a,b⟩:=vt s hk3
  have hk4:=b.ok hk3
  have en:(condT 1 s (nxM (nxM (dcM m)))).2.n=m.n-1:=by rw[b.n];exact hd
  have eb:(condT 1 s (nxM (nxM (dcM m)))).2.b=m.b:=b.b
  obtain⟨l,g⟩:=hB _ hk4 (by omega) (by omega)
  have gn:=g.n
  have gx1:=g.x1
  have gx2:=g.x2
  have gl:=g.l
  rw[en]at gn gx1 gx2 gl
  have al:=a.l
  have ad:=a.d
  have gd:=g.d
  by_cases c0:(nxV 2 (nxM (dcM m))==0)=true
  ·rw[if_pos c0]
   by_cases c1:(stV B s m==0)=true
   ·rw[if_pos c1]
    have hk5:okK (nxM (B (condT 1 s (nxM (nxM (dcM m)))).2).2):=by unfold okK;show ∀x∈(B (condT 1 s (nxM (nxM (dcM m)))).2).2.b,_;rw[g.b,eb];exact h
    have en2:(nxM (B (condT 1 s (nxM (nxM (dcM m)))).2).2).n=m.n-1-(ctB l:Int):=gn
    obtain⟨l2,g2⟩:=hB _ hk5 (by
     rw[en2];by_cases hh:1≤m.n-1
     ·have:=gx2 hh;have:=Nw j;omega
     ·have:=gx1 (by omega);omega) (by rw[en2];omega)
    have gn2:=g2.n
    have gx3:=g2.x1
    have gx4:=g2.x2
    have gl2:=g2.l
    have gd2:=g2.d
    rw[en2]at gn2 gx3 gx4 gl2
    refine⟨.ite c l (some l2),bL (c1:=ctB l) (c2:=ctB l2) h1 h3 h2 ⟨a.w,g.w,g2.w⟩ ?_ ?_ ?_ rfl gn2 hj gx1 gx2 gx3 gx4 ?_⟩
    ·simp only[Cs.dp];omega
    ·have e1:Lw ([105,102,32]++[40]) ([(0,tIf)]++[(2,[40])]):=bJ.wapp (Bs 40)
     exact(((((e1.wapp a.z).app bU (Ac _ _)).wapp g.z).wapp A2M).wapp g2.z).cast rfl (by simp[Cs.tk])
    ·exact g2.b.trans (g.b.trans eb)
    ·simp only[RG,jL3];omega
   ·rw[if_neg c1]
    refine⟨.ite c l none,bL (c1:=ctB l) (c2:=0) h1 h3 h2 ⟨a.w,g.w⟩ ?_ ?_ ?_ rfl ?_ hj gx1 gx2 (fun _=>Nat.zero_le _) (fun h=>?_) ?_⟩
    ·simp only[Cs.dp];omega
    ·have e1:Lw ([105,102,32]++[40]) ([(0,tIf)]++[(2,[40])]):=bJ.wapp (Bs 40)
     exact(((e1.wapp a.z).app bU (Ac _ _)).wapp g.z).cast rfl (by simp[Cs.tk])
    ·exact g.b.trans eb
    ·show (B (condT 1 s (nxM (nxM (dcM m)))).2).2.n=_
     rw[gn];omega
    ·have:=Nw j;omega
    ·simp only[Wc,jL3]
     rw[show m.n-1-(ctB l:Int)-((0:Nat):Int)=m.n-1-(ctB l:Int) by omega]
     omega
  ·rw[if_neg c0]
   refine⟨.whi c l,bL (c1:=ctB l) (c2:=0) h1 h3 h2 ⟨a.w,g.w⟩ ?_ ?_ ?_ rfl ?_ hj gx1 gx2 (fun _=>Nat.zero_le _) (fun h=>?_) ?_⟩
   ·simp only[Cs.dp];omega
   ·have e1:Lw ([119,104,105,108,101,32]++[40]) ([(0,PR)]++[(2,[40])]):=me.wapp (Bs 40)
    exact(((e1.wapp a.z).app bU (Ac _ _)).wapp g.z).cast rfl (by simp[Cs.tk])
   ·exact g.b.trans eb
   ·show (B (condT 1 s (nxM (nxM (dcM m)))).2).2.n=_
    rw[gn];omega
   ·have:=Nw j;omega
   ·simp only[PD,jL3]
    rw[show m.n-1-(ctB l:Int)-((0:Nat):Int)=m.n-1-(ctB l:Int) by omega]
    omega
theorem st_q:∀(k:Nat),k≤2→∀(s:Int) (m:Mk),okK m → -1000000≤m.n→m.n≤25→∃c,stQ k m (stT k s m) c
 |0,_,s,m,h,h1,h2=>vz (fun h=>by cases h) h h1 h2
 |k+1,hk,s,m,h,h1,h2=>vz (fun _=>⟨k,rfl,by omega,fun q hq q1 q2=>A7b (fun m=>st_q k (by omega) s m) q hq q1 q2⟩) h h1 h2
end Go.Proofs.YtbiepiggmagfcaaGreatDoor
