/- The maker's blocks and functions: what they say, how long they are. No conditions but those in each statement. -/
import Derived.Test.YtlaggppdgoknjaaGreatDoorMc2
set_option linter.unusedVariables false
set_option linter.unusedSimpArgs false
namespace Go.Proofs.YtlaggppdgoknjaaGreatDoor
open Go Go.Sy Go.RowKit
def ph (n:Int):Int:=if 0≤n then 100*n else 28*n
theorem ph_0 {n:Int} (h:n≤0):ph n-ph (n-1)=28:=by
 unfold ph
 rw[if_neg (show ¬0≤n-1 by omega)]
 split<;>omega
theorem ph_1 {n:Int} (h:1≤n):ph n-ph (n-1)=100:=by
 unfold ph
 rw[if_pos (by omega),if_pos (by omega)];omega
def xk:Nat→Int
 |0=>0
 |1=>6
 |_=>11
structure stQ (k:Nat) (m:Mk) (r:T) (s:Cs):Prop where
 w:s.wf
 d:s.dp≤3+k
 z:Lw r.1 s.tk
 b:r.2.b=m.b
 n:r.2.n=m.n-(s.ct:Int)
 x1:m.n≤0→s.ct=1
 x2:1≤m.n → -(xk k)≤m.n-(s.ct:Int)
 l:(r.1.length:Int)≤ph m.n-ph (m.n-(s.ct:Int))
structure slQ (k j:Nat) (m:Mk) (t:List UInt8) (q:Mk) (l:List Cs):Prop where
 w:wfB l
 d:dpB l≤3+k
 z:Lw t (tkB l)
 b:q.b=m.b
 n:q.n=m.n-(ctB l:Int)
 x1:m.n≤0→ctB l=j
 x2:1≤m.n→1≤m.n-(ctB l:Int)∨(-(xk k)-((j:Int)-1)≤m.n-(ctB l:Int)∧1≤j)
 e:l.length=j
 ln:(t.length:Int)≤ph m.n-ph (m.n-(ctB l:Int))
theorem xk_le (k:Nat):0≤xk k∧xk k≤11:=by
 unfold xk;split<;>omega
theorem bl_q {f:Mk→T} {k:Nat} (hf:∀m,okK m → -1000000≤m.n→m.n≤25→∃s,stQ k m (f m) s):∀(j:Nat) (acc:List UInt8) (m:Mk),okK m → -1000000+(j:Int)≤m.n→m.n≤25→j≤100→∃t l,(blkL f j acc m).1=acc++t∧slQ k j m t (blkL f j acc m).2 l
 |0,acc,m,h,h1,h2,_=>⟨[],[],by simp[blkL],trivial,Nat.zero_le _,Lp.nil,rfl,by show m.n=m.n-0;omega,fun _=>rfl,fun h=>.inl (by show 1≤m.n-0;omega),rfl,by show (0:Int)≤ph m.n-ph (m.n-0);rw[show m.n-0=m.n by omega];omega⟩
 |j+1,acc,m,h,h1,h2,h3=>by
  obtain⟨s,a⟩:=hf m h (by omega) h2
  have hq:okK (f m).2:=by unfold okK;rw[a.b];exact h
  have x0:=xk_le k
  have an:=a.n
  have c1:=ct_pos s
  have lo : -1000000+(j:Int)≤(f m).2.n:=by
   rw[an]
   by_cases hm:m.n≤0
   ·rw[a.x1 hm];omega
   ·have:=a.x2 (by omega);omega
  obtain⟨t,l,e1,b⟩:=bl_q hf j (acc++(f m).1) (f m).2 hq lo (by rw[an];omega) (by omega)
  have bx1:=b.x1
  have bx2:=b.x2
  have bl:=b.ln
  have bn:=b.n
  rw[an]at bx1 bx2 bl bn
  refine⟨(f m).1++t,s::l,by simp only[blkL];rw[e1,List.append_assoc],⟨a.w,b.w⟩,?_,a.z.wapp b.z,b.b.trans a.b,?_,?_,?_,by rw[List.length_cons,b.e],?_⟩
  ·have:=a.d;have:=b.d;simp only[dpB];omega
  ·show (blkL f j (acc++(f m).1) (f m).2).2.n=_
   rw[bn];simp only[ctB];omega
  ·intro hm
   have e2:=a.x1 hm
   have e3:=bx1 (by omega)
   simp only[ctB];omega
  ·intro hm
   have e2:=a.x2 hm
   simp only[ctB]
   by_cases h4:1≤m.n-(s.ct:Int)
   ·rcases bx2 h4 with h5|h5
    ·left;omega
    ·right;omega
   ·have e3:=bx1 (by omega)
    right;omega
  ·have:=a.l
   simp only[ctB,List.length_append]
   rw[show m.n-((s.ct+ctB l:Nat):Int)=m.n-(s.ct:Int)-(ctB l:Int) by omega]
   omega
structure bkQ (k:Nat) (m:Mk) (r:T) (l:List Cs):Prop where
 w:wfB l
 d:dpB l≤3+k
 z:Lw r.1 (kO 123::(tkB l++[kO 125]))
 b:r.2.b=m.b
 n:r.2.n=m.n-(ctB l:Int)
 x1:m.n≤0→ctB l≤3
 x2:1≤m.n → -(xk k)-2≤m.n-(ctB l:Int)
 l:(r.1.length:Int)≤4+(ph m.n-ph (m.n-(ctB l:Int)))
 h:∃q,r.1=123::q
theorem bk_q {f:Mk→T} {k:Nat} (hf:∀m,okK m → -1000000≤m.n→m.n≤25→∃s,stQ k m (f m) s) (m:Mk) (h:okK m) (h1 : -999990≤m.n) (h2:m.n≤25):∃l,bkQ k m (blkT f m) l:=by
 have hj:=nxK h (j:=4) (by decide)
 have x0:=xk_le k
 obtain⟨t,l,e1,a⟩:=bl_q hf (nxV 4 m).toNat [123,32] (nxM m) ((sm_nx m).ok h) (by show _≤m.n;omega) h2 (by omega)
 have hn:(nxM m).n=m.n:=rfl
 have ax1:=a.x1
 have ax2:=a.x2
 have al:=a.ln
 have an:=a.n
 rw[hn]at ax1 ax2 al an
 have e2:(blkT f m).1=([123,32]++t)++[125,32]:=by show (blkL f (nxV 4 m).toNat [123,32] (nxM m)).1++[125,32]=_;rw[e1]
 refine⟨l,a.w,a.d,?_,a.b,an,?_,?_,?_,?_⟩
 ·rw[e2]
  exact((lw_cb.wapp a.z).wapp lw_ce).cast rfl (by simp)
 ·intro hm;have:=ax1 hm;omega
 ·intro hm
  rcases ax2 hm with h|h<;>omega
 ·rw[e2]
  simp only[List.length_append,List.length_cons,List.length_nil];omega
 ·rw[e2];exact⟨_,rfl⟩
theorem dc_n {m:Mk} (h1 : -1000000≤m.n) (h2:m.n≤25):(dcM m).n=m.n-1:=by
 show w64i (m.n-1)=_
 unfold w64i;rw[wrap_i64 (by omega) (by omega)]
theorem st_lf {k:Nat} {m:Mk} {r:T} {s:Cs} (h1 : -1000000≤m.n) (h2:1≤m.n) (h3:m.n≤25) (h:lfQ m r s):stQ k m r s:=by
 have x0:=xk_le k
 have hd:=dc_n h1 h3
 refine⟨h.w,by have:=h.d;omega,h.z,h.q.b,by rw[h.q.n,hd,h.c];rfl,fun h=>by omega,fun _=>by rw[h.c];omega,?_⟩
 rw[h.c]
 show _≤ph m.n-ph (m.n-1)
 have:=ph_1 h2
 have:=h.l
 omega
theorem st_cp {k:Nat} {m:Mk} {r:T} {s:Cs} {c1 c2:Nat} (h1 : -1000000≤m.n) (h2:1≤m.n) (h3:m.n≤25) (hw:s.wf) (hd:s.dp≤3+(k+1)) (hz:Lw r.1 s.tk) (hb:r.2.b=m.b) (hc:s.ct=1+c1+c2) (hn:r.2.n=m.n-1-(c1:Int)-(c2:Int)) (hk:k=0∨k=1)
  (a1:m.n-1≤0→c1≤3) (a2:1≤m.n-1 → -(xk k)-2≤m.n-1-(c1:Int)) (b1:m.n-1-(c1:Int)≤0→c2≤3) (b2:1≤m.n-1-(c1:Int) → -(xk k)-2≤m.n-1-(c1:Int)-(c2:Int))
  (hl:(r.1.length:Int)≤100+(ph (m.n-1)-ph (m.n-1-(c1:Int)))+(ph (m.n-1-(c1:Int))-ph (m.n-1-(c1:Int)-(c2:Int)))):stQ (k+1) m r s:=by
 have e:m.n-(s.ct:Int)=m.n-1-(c1:Int)-(c2:Int):=by rw[hc];omega
 refine⟨hw,hd,hz,hb,by rw[e];exact hn,fun h=>by omega,fun _=>?_,?_⟩
 ·rw[e]
  have hx:xk (k+1)=xk k+5∨xk (k+1)=xk k+6:=by rcases hk with rfl|rfl<;>simp[xk]
  have hx2:6≤xk (k+1):=by rcases hk with rfl|rfl<;>simp[xk]
  by_cases g1:m.n-1≤0
  ·have:=a1 g1
   have:=b1 (by omega)
   omega
  ·have:=a2 (by omega)
   by_cases g2:m.n-1-(c1:Int)≤0
   ·have:=b1 g2;omega
   ·have:=b2 (by omega);omega
 ·rw[e]
  have:=ph_1 h2
  omega
theorem sB_q {dp:Bool} {B:Mk→T} {s:Int} {k:Nat} (hB:dp=true→∃j,k=j+1∧(j=0∨j=1)∧∀q,okK q → -999990≤q.n→q.n≤25→∃l,bkQ j q (B q) l) {m:Mk} (h:okK m) (h1 : -1000000≤m.n) (h2:m.n≤25):∃c,stQ k m (stB dp B s m) c:=by
 have hd:=dc_n h1 h2
 have hk:okK (dcM m):=h
 have hk2:=(sm_nx (dcM m)).ok hk
 have x0:=xk_le k
 unfold stB
 by_cases hn:decide ((dcM m).n<0)=true
 ·rw[if_pos hn]
  rw[hd,decide_eq_true_eq]at hn
  obtain⟨c,a,l⟩:=l_x hk
  refine⟨c,a.w,by have:=a.d;omega,a.z,a.q.b,by rw[a.q.n,hd,a.c];rfl,fun _=>a.c,fun h=>by omega,?_⟩
  rw[a.c]
  have:=ph_0 (n:=m.n) (by omega)
  have l':((((([114,101,116,117,114,110,32]++(nuT (dcM m)).1)++[59,32]).length:Nat)):Int)≤28:=by omega
  show ((((([114,101,116,117,114,110,32]++(nuT (dcM m)).1)++[59,32]).length:Nat)):Int)≤ph m.n-ph (m.n-1)
  omega
 ·rw[if_neg hn]
  rw[hd,decide_eq_true_eq]at hn
  have h3:1≤m.n:=by omega
  have leaf:∀{r:T},(∃c,lfQ m r c)→∃c,stQ k m r c:=fun ⟨c,a⟩=>⟨c,st_lf h1 h3 h2 a⟩
  by_cases e0:(decide (nxV 18 (dcM m)<3))=true
  ·rw[if_pos e0];exact leaf (l_0 2 (Nat.le_refl _) hk2)
  rw[if_neg e0]
  by_cases e1:(nxV 18 (dcM m)==3)=true
  ·rw[if_pos e1];exact leaf (l_3 hk2)
  rw[if_neg e1]
  by_cases e2:(nxV 18 (dcM m)==4)=true
  ·rw[if_pos e2];exact leaf (l_4 hk2)
  rw[if_neg e2]
  by_cases e3:(nxV 18 (dcM m)==5)=true
  ·rw[if_pos e3];exact leaf (l_5 hk2)
  rw[if_neg e3]
  by_cases e4:(nxV 18 (dcM m)==6)=true
  ·rw[if_pos e4];exact leaf (l_6 hk2)
  rw[if_neg e4]
  by_cases e5:(nxV 18 (dcM m)==7)=true
  ·rw[if_pos e5];exact leaf (l_7 hk2)
  rw[if_neg e5]
  by_cases e6:(nxV 18 (dcM m)==8)=true
  ·rw[if_pos e6];exact leaf (l_8 hk2)
  rw[if_neg e6]
  by_cases e7:(decide (nxV 18 (dcM m)<11))=true
  ·rw[if_pos e7];exact leaf (l_9 hk2)
  rw[if_neg e7]
  by_cases e8:(nxV 18 (dcM m)==11)=true
  ·rw[if_pos e8];exact leaf (l_11 hk2)
  rw[if_neg e8]
  by_cases e9:(nxV 18 (dcM m)==12)=true
  ·rw[if_pos e9];exact leaf (l_12 hk2)
  rw[if_neg e9]
  by_cases e10:(nxV 18 (dcM m)==13)=true
  ·rw[if_pos e10];exact leaf (l_13 hk2)
  rw[if_neg e10]
  by_cases hdp:(!dp)=true
  ·rw[if_pos hdp];exact leaf (l_0 1 (by omega) hk2)
  rw[if_neg hdp]
  obtain⟨j,rfl,hj,hB⟩:=hB (by simpa using hdp)
  have hk3:=(sm_nx (nxM (dcM m))).ok hk2
  obtain⟨c,a,b⟩:=co_q s hk3
  have hk4:=b.ok hk3
  have en:(condT 1 s (nxM (nxM (dcM m)))).2.n=m.n-1:=by rw[b.n];exact hd
  have eb:(condT 1 s (nxM (nxM (dcM m)))).2.b=m.b:=b.b
  obtain⟨l,g⟩:=hB _ hk4 (by omega) (by omega)
  have gn:=g.n
  have gx1:=g.x1
  have gx2:=g.x2
  have gl:=g.l
  rw[en]at gn gx1 gx2 gl
  have al:=a.l
  have ad:=a.d
  have gd:=g.d
  by_cases c0:(nxV 2 (nxM (dcM m))==0)=true
  ·rw[if_pos c0]
   by_cases c1:(stV B s m==0)=true
   ·rw[if_pos c1]
    have hk5:okK (nxM (B (condT 1 s (nxM (nxM (dcM m)))).2).2):=by unfold okK;show ∀x∈(B (condT 1 s (nxM (nxM (dcM m)))).2).2.b,_;rw[g.b,eb];exact h
    have en2:(nxM (B (condT 1 s (nxM (nxM (dcM m)))).2).2).n=m.n-1-(ctB l:Int):=gn
    obtain⟨l2,g2⟩:=hB _ hk5 (by
     rw[en2];by_cases hh:1≤m.n-1
     ·have:=gx2 hh;have:=xk_le j;omega
     ·have:=gx1 (by omega);omega) (by rw[en2];omega)
    have gn2:=g2.n
    have gx3:=g2.x1
    have gx4:=g2.x2
    have gl2:=g2.l
    have gd2:=g2.d
    rw[en2]at gn2 gx3 gx4 gl2
    refine⟨.ite c l (some l2),st_cp (c1:=ctB l) (c2:=ctB l2) h1 h3 h2 ⟨a.w,g.w,g2.w⟩ ?_ ?_ ?_ rfl gn2 hj gx1 gx2 gx3 gx4 ?_⟩
    ·simp only[Cs.dp];omega
    ·have e1:Lw ([105,102,32]++[40]) ([(0,tIf)]++[(2,[40])]):=lw_if.wapp (lw_sg 40)
     exact(((((e1.wapp a.z).app lw_pb (pS_c _ _)).wapp g.z).wapp lw_el).wapp g2.z).cast rfl (by simp[Cs.tk])
    ·exact g2.b.trans (g.b.trans eb)
    ·simp only[stc_else,List.length_append,List.length_cons,List.length_nil];omega
   ·rw[if_neg c1]
    refine⟨.ite c l none,st_cp (c1:=ctB l) (c2:=0) h1 h3 h2 ⟨a.w,g.w⟩ ?_ ?_ ?_ rfl ?_ hj gx1 gx2 (fun _=>Nat.zero_le _) (fun h=>?_) ?_⟩
    ·simp only[Cs.dp];omega
    ·have e1:Lw ([105,102,32]++[40]) ([(0,tIf)]++[(2,[40])]):=lw_if.wapp (lw_sg 40)
     exact(((e1.wapp a.z).app lw_pb (pS_c _ _)).wapp g.z).cast rfl (by simp[Cs.tk])
    ·exact g.b.trans eb
    ·show (B (condT 1 s (nxM (nxM (dcM m)))).2).2.n=_
     rw[gn];omega
    ·have:=xk_le j;omega
    ·simp only[stc_if,List.length_append,List.length_cons,List.length_nil]
     rw[show m.n-1-(ctB l:Int)-((0:Nat):Int)=m.n-1-(ctB l:Int) by omega]
     omega
  ·rw[if_neg c0]
   refine⟨.whi c l,st_cp (c1:=ctB l) (c2:=0) h1 h3 h2 ⟨a.w,g.w⟩ ?_ ?_ ?_ rfl ?_ hj gx1 gx2 (fun _=>Nat.zero_le _) (fun h=>?_) ?_⟩
   ·simp only[Cs.dp];omega
   ·have e1:Lw ([119,104,105,108,101,32]++[40]) ([(0,tWhi)]++[(2,[40])]):=lw_wh.wapp (lw_sg 40)
    exact(((e1.wapp a.z).app lw_pb (pS_c _ _)).wapp g.z).cast rfl (by simp[Cs.tk])
   ·exact g.b.trans eb
   ·show (B (condT 1 s (nxM (nxM (dcM m)))).2).2.n=_
    rw[gn];omega
   ·have:=xk_le j;omega
   ·simp only[stc_while,List.length_append,List.length_cons,List.length_nil]
    rw[show m.n-1-(ctB l:Int)-((0:Nat):Int)=m.n-1-(ctB l:Int) by omega]
    omega
theorem st_q:∀(k:Nat),k≤2→∀(s:Int) (m:Mk),okK m → -1000000≤m.n→m.n≤25→∃c,stQ k m (stT k s m) c
 |0,_,s,m,h,h1,h2=>sB_q (fun h=>by cases h) h h1 h2
 |k+1,hk,s,m,h,h1,h2=>sB_q (fun _=>⟨k,rfl,by omega,fun q hq q1 q2=>bk_q (fun m=>st_q k (by omega) s m) q hq q1 q2⟩) h h1 h2
end Go.Proofs.YtlaggppdgoknjaaGreatDoor
