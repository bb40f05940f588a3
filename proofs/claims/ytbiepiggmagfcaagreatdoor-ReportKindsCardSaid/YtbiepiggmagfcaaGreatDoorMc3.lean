/- The maker's blocks and functions: what they say, how long they are. No conditions but those in each statement. -/
import Derived.Test.YtbiepiggmagfcaaGreatDoorMc2
import Derived.Test.YtbiepiggmagfcaaGreatDoorRq2
import Derived.Test.YtbiepiggmagfcaaGreatDoorSy28
set_option linter.unusedVariables false
set_option linter.unusedSimpArgs false
namespace Go.Proofs.YtbiepiggmagfcaaGreatDoor
open Go Go.Sy Go.RowKit
def ph (n:Int):Int:=if 0≤n then 100*n else 28*n
theorem ph_0 {n:Int} (h:n≤0):ph n-ph (n-1)=28:=by
 unfold ph
 rw[if_neg (show ¬0≤n-1 by omega)]
 split<;>omega
theorem ph_1 {n:Int} (h:1≤n):ph n-ph (n-1)=100:=by
 unfold ph
 rw[if_pos (by omega),if_pos (by omega)];omega
def xk:Nat→Int
 |0=>0
 |1=>6
 |_=>11
structure stQ (k:Nat) (m:Mk) (r:T) (s:Cs):Prop where
 w:s.wf
 d:s.dp≤3+k
 z:Lw r.1 s.tk
 b:r.2.b=m.b
 n:r.2.n=m.n-(s.ct:Int)
 x1:m.n≤0→s.ct=1
 x2:1≤m.n → -(xk k)≤m.n-(s.ct:Int)
 l:(r.1.length:Int)≤ph m.n-ph (m.n-(s.ct:Int))
structure slQ (k j:Nat) (m:Mk) (t:List UInt8) (q:Mk) (l:List Cs):Prop where
 w:wfB l
 d:dpB l≤3+k
 z:Lw t (tkB l)
 b:q.b=m.b
 n:q.n=m.n-(ctB l:Int)
 x1:m.n≤0→ctB l=j
 x2:1≤m.n→1≤m.n-(ctB l:Int)∨(-(xk k)-((j:Int)-1)≤m.n-(ctB l:Int)∧1≤j)
 e:l.length=j
 ln:(t.length:Int)≤ph m.n-ph (m.n-(ctB l:Int))
theorem xk_le (k:Nat):0≤xk k∧xk k≤11:=by
 unfold xk;split<;>omega
theorem bl_q {f:Mk→T} {k:Nat} (hf:∀m,okK m → -1000000≤m.n→m.n≤25→∃s,stQ k m (f m) s):∀(j:Nat) (acc:List UInt8) (m:Mk),okK m → -1000000+(j:Int)≤m.n→m.n≤25→j≤100→∃t l,(blkL f j acc m).1=acc++t∧slQ k j m t (blkL f j acc m).2 l
 |0,acc,m,h,h1,h2,_=>⟨[],[],by simp[blkL],trivial,Nat.zero_le _,Lp.nil,rfl,by show m.n=m.n-0;omega,fun _=>rfl,fun h=>.inl (by show 1≤m.n-0;omega),rfl,by show (0:Int)≤ph m.n-ph (m.n-0);rw[show m.n-0=m.n by omega];omega⟩
 |j+1,acc,m,h,h1,h2,h3=>by
  obtain⟨s,a⟩:=hf m h (by omega) h2
  have hq:okK (f m).2:=by unfold okK;rw[a.b];exact h
  have x0:=xk_le k
  have an:=a.n
  have c1:=ct_pos s
  have lo : -1000000+(j:Int)≤(f m).2.n:=by
   rw[an]
   by_cases hm:m.n≤0
   ·rw[a.x1 hm];omega
   ·have:=a.x2 (by omega);omega
  obtain⟨t,l,e1,b⟩:=bl_q hf j (acc++(f m).1) (f m).2 hq lo (by rw[an];omega) (by omega)
  have bx1:=b.x1
  have bx2:=b.x2
  have bl:=b.ln
  have bn:=b.n
  rw[an]at bx1 bx2 bl bn
  refine⟨(f m).1++t,s::l,by simp only[blkL];rw[e1,List.append_assoc],⟨a.w,b.w⟩,?_,a.z.wapp b.z,b.b.trans a.b,?_,?_,?_,by rw[List.length_cons,b.e],?_⟩
  ·have:=a.d;have:=b.d;simp only[dpB];omega
  ·show (blkL f j (acc++(f m).1) (f m).2).2.n=_
   rw[bn];simp only[ctB];omega
  ·intro hm
   have e2:=a.x1 hm
   have e3:=bx1 (by omega)
   simp only[ctB];omega
  ·intro hm
   have e2:=a.x2 hm
   simp only[ctB]
   by_cases h4:1≤m.n-(s.ct:Int)
   ·rcases bx2 h4 with h5|h5
    ·left;omega
    ·right;omega
   ·have e3:=bx1 (by omega)
    right;omega
  ·have:=a.l
   simp only[ctB,List.length_append]
   rw[show m.n-((s.ct+ctB l:Nat):Int)=m.n-(s.ct:Int)-(ctB l:Int) by omega]
   omega
structure bkQ (k:Nat) (m:Mk) (r:T) (l:List Cs):Prop where
 w:wfB l
 d:dpB l≤3+k
 z:Lw r.1 (kO 123::(tkB l++[kO 125]))
 b:r.2.b=m.b
 n:r.2.n=m.n-(ctB l:Int)
 x1:m.n≤0→ctB l≤3
 x2:1≤m.n → -(xk k)-2≤m.n-(ctB l:Int)
 l:(r.1.length:Int)≤4+(ph m.n-ph (m.n-(ctB l:Int)))
 h:∃q,r.1=123::q
theorem bk_q {f:Mk→T} {k:Nat} (hf:∀m,okK m → -1000000≤m.n→m.n≤25→∃s,stQ k m (f m) s) (m:Mk) (h:okK m) (h1 : -999990≤m.n) (h2:m.n≤25):∃l,bkQ k m (blkT f m) l:=by
 have hj:=nxK h (j:=4) (by decide)
 have x0:=xk_le k
 obtain⟨t,l,e1,a⟩:=bl_q hf (nxV 4 m).toNat [123,32] (nxM m) ((sm_nx m).ok h) (by show _≤m.n;omega) h2 (by omega)
 have hn:(nxM m).n=m.n:=rfl
 have ax1:=a.x1
 have ax2:=a.x2
 have al:=a.ln
 have an:=a.n
 rw[hn]at ax1 ax2 al an
 have e2:(blkT f m).1=([123,32]++t)++[125,32]:=by show (blkL f (nxV 4 m).toNat [123,32] (nxM m)).1++[125,32]=_;rw[e1]
 refine⟨l,a.w,a.d,?_,a.b,an,?_,?_,?_,?_⟩
 ·rw[e2]
  exact((lw_cb.wapp a.z).wapp lw_ce).cast rfl (by simp)
 ·intro hm;have:=ax1 hm;omega
 ·intro hm
  rcases ax2 hm with h|h<;>omega
 ·rw[e2]
  simp only[List.length_append,List.length_cons,List.length_nil];omega
 ·rw[e2];exact⟨_,rfl⟩
theorem dc_n {m:Mk} (h1 : -1000000≤m.n) (h2:m.n≤25):(dcM m).n=m.n-1:=by
 show w64i (m.n-1)=_
 unfold w64i;rw[wrap_i64 (by omega) (by omega)]
theorem st_lf {k:Nat} {m:Mk} {r:T} {s:Cs} (h1 : -1000000≤m.n) (h2:1≤m.n) (h3:m.n≤25) (h:lfQ m r s):stQ k m r s:=by
 have x0:=xk_le k
 have hd:=dc_n h1 h3
 refine⟨h.w,by have:=h.d;omega,h.z,h.q.b,by rw[h.q.n,hd,h.c];rfl,fun h=>by omega,fun _=>by rw[h.c];omega,?_⟩
 rw[h.c]
 show _≤ph m.n-ph (m.n-1)
 have:=ph_1 h2
 have:=h.l
 omega
theorem st_cp {k:Nat} {m:Mk} {r:T} {s:Cs} {c1 c2:Nat} (h1 : -1000000≤m.n) (h2:1≤m.n) (h3:m.n≤25) (hw:s.wf) (hd:s.dp≤3+(k+1)) (hz:Lw r.1 s.tk) (hb:r.2.b=m.b) (hc:s.ct=1+c1+c2) (hn:r.2.n=m.n-1-(c1:Int)-(c2:Int)) (hk:k=0∨k=1)
  (a1:m.n-1≤0→c1≤3) (a2:1≤m.n-1 → -(xk k)-2≤m.n-1-(c1:Int)) (b1:m.n-1-(c1:Int)≤0→c2≤3) (b2:1≤m.n-1-(c1:Int) → -(xk k)-2≤m.n-1-(c1:Int)-(c2:Int))
  (hl:(r.1.length:Int)≤100+(ph (m.n-1)-ph (m.n-1-(c1:Int)))+(ph (m.n-1-(c1:Int))-ph (m.n-1-(c1:Int)-(c2:Int)))):stQ (k+1) m r s:=by
 have e:m.n-(s.ct:Int)=m.n-1-(c1:Int)-(c2:Int):=by rw[hc];omega
 refine⟨hw,hd,hz,hb,by rw[e];exact hn,fun h=>by omega,fun _=>?_,?_⟩
 ·rw[e]
  have hx:xk (k+1)=xk k+5∨xk (k+1)=xk k+6:=by rcases hk with rfl|rfl<;>simp[xk]
  have hx2:6≤xk (k+1):=by rcases hk with rfl|rfl<;>simp[xk]
  by_cases g1:m.n-1≤0
  ·have:=a1 g1
   have:=b1 (by omega)
   omega
  ·have:=a2 (by omega)
   by_cases g2:m.n-1-(c1:Int)≤0
   ·have:=b1 g2;omega
   ·have:=b2 (by omega);omega
 ·rw[e]
  have:=ph_1 h2
  omega
theorem sB_q {dp:Bool} {B:Mk→T} {s:Int} {k:Nat} (hB:dp=true→∃j,k=j+1∧(j=0∨j=1)∧∀q,okK q → -999990≤q.n→q.n≤25→∃l,bkQ j q (B q) l) {m:Mk} (h:okK m) (h1 : -1000000≤m.n) (h2:m.n≤25):∃c,stQ k m (stB dp B s m) c:=by
 have hd:=dc_n h1 h2
 have hk:okK (dcM m):=h
 have hk2:=(sm_nx (dcM m)).ok hk
 have x0:=xk_le k
 unfold stB
 by_cases hn:decide ((dcM m).n<0)=true
 ·rw[if_pos hn]
  rw[hd,decide_eq_true_eq]at hn
  obtain⟨c,a,l⟩:=l_x hk
  refine⟨c,a.w,by have:=a.d;omega,a.z,a.q.b,by rw[a.q.n,hd,a.c];rfl,fun _=>a.c,fun h=>by omega,?_⟩
  rw[a.c]
  have:=ph_0 (n:=m.n) (by omega)
  have l':((((([114,101,116,117,114,110,32]++(nuT (dcM m)).1)++[59,32]).length:Nat)):Int)≤28:=by omega
  show ((((([114,101,116,117,114,110,32]++(nuT (dcM m)).1)++[59,32]).length:Nat)):Int)≤ph m.n-ph (m.n-1)
  omega
 ·rw[if_neg hn]
  rw[hd,decide_eq_true_eq]at hn
  have h3:1≤m.n:=by omega
  have leaf:∀{r:T},(∃c,lfQ m r c)→∃c,stQ k m r c:=fun ⟨c,a⟩=>⟨c,st_lf h1 h3 h2 a⟩
  by_cases e0:(decide (nxV 18 (dcM m)<3))=true
  ·rw[if_pos e0];exact leaf (l_0 2 (Nat.le_refl _) hk2)
  rw[if_neg e0]
  by_cases e1:(nxV 18 (dcM m)==3)=true
  ·rw[if_pos e1];exact leaf (l_3 hk2)
  rw[if_neg e1]
  by_cases e2:(nxV 18 (dcM m)==4)=true
  ·rw[if_pos e2];exact leaf (l_4 hk2)
  rw[if_neg e2]
  by_cases e3:(nxV 18 (dcM m)==5)=true
  ·rw[if_pos e3];exact leaf (l_5 hk2)
  rw[if_neg e3]
  by_cases e4:(nxV 18 (dcM m)==6)=true
  ·rw[if_pos e4];exact leaf (l_6 hk2)
  rw[if_neg e4]
  by_cases e5:(nxV 18 (dcM m)==7)=true
  ·rw[if_pos e5];exact leaf (l_7 hk2)
  rw[if_neg e5]
  by_cases e6:(nxV 18 (dcM m)==8)=true
  ·rw[if_pos e6];exact leaf (l_8 hk2)
  rw[if_neg e6]
  by_cases e7:(decide (nxV 18 (dcM m)<11))=true
  ·rw[if_pos e7];exact leaf (l_9 hk2)
  rw[if_neg e7]
  by_cases e8:(nxV 18 (dcM m)==11)=true
  ·rw[if_pos e8];exact leaf (l_11 hk2)
  rw[if_neg e8]
  by_cases e9:(nxV 18 (dcM m)==12)=true
  ·rw[if_pos e9];exact leaf (l_12 hk2)
  rw[if_neg e9]
  by_cases e10:(nxV 18 (dcM m)==13)=true
  ·rw[if_pos e10];exact leaf (l_13 hk2)
  rw[if_neg e10]
  by_cases hdp:(!dp)=true
  ·rw[if_pos hdp];exact leaf (l_0 1 (by omega) hk2)
  rw[if_neg hdp]
  obtain⟨j,rfl,hj,hB⟩:=hB (by simpa using hdp)
  have hk3:=(sm_nx (nxM (dcM m))).ok hk2
  obtain⟨c,a,b⟩:=co_q s hk3
  have hk4:=b.ok hk3
  have en:(condT 1 s (nxM (nxM (dcM m)))).2.n=m.n-1:=by rw[b.n];exact hd
  have eb:(condT 1 s (nxM (nxM (dcM m)))).2.b=m.b:=b.b
  obtain⟨l,g⟩:=hB _ hk4 (by omega) (by omega)
  have gn:=g.n
  have gx1:=g.x1
  have gx2:=g.x2
  have gl:=g.l
  rw[en]at gn gx1 gx2 gl
  have al:=a.l
  have ad:=a.d
  have gd:=g.d
  by_cases c0:(nxV 2 (nxM (dcM m))==0)=true
  ·rw[if_pos c0]
   by_cases c1:(stV B s m==0)=true
   ·rw[if_pos c1]
    have hk5:okK (nxM (B (condT 1 s (nxM (nxM (dcM m)))).2).2):=by unfold okK;show ∀x∈(B (condT 1 s (nxM (nxM (dcM m)))).2).2.b,_;rw[g.b,eb];exact h
    have en2:(nxM (B (condT 1 s (nxM (nxM (dcM m)))).2).2).n=m.n-1-(ctB l:Int):=gn
    obtain⟨l2,g2⟩:=hB _ hk5 (by
     rw[en2];by_cases hh:1≤m.n-1
     ·have:=gx2 hh;have:=xk_le j;omega
     ·have:=gx1 (by omega);omega) (by rw[en2];omega)
    have gn2:=g2.n
    have gx3:=g2.x1
    have gx4:=g2.x2
    have gl2:=g2.l
    have gd2:=g2.d
    rw[en2]at gn2 gx3 gx4 gl2
    refine⟨.ite c l (some l2),st_cp (c1:=ctB l) (c2:=ctB l2) h1 h3 h2 ⟨a.w,g.w,g2.w⟩ ?_ ?_ ?_ rfl gn2 hj gx1 gx2 gx3 gx4 ?_⟩
    ·simp only[Cs.dp];omega
    ·have e1:Lw ([105,102,32]++[40]) ([(0,tIf)]++[(2,[40])]):=lw_if.wapp (lw_sg 40)
     exact(((((e1.wapp a.z).app lw_pb (pS_c _ _)).wapp g.z).wapp lw_el).wapp g2.z).cast rfl (by simp[Cs.tk])
    ·exact g2.b.trans (g.b.trans eb)
    ·simp only[stc_else,List.length_append,List.length_cons,List.length_nil];omega
   ·rw[if_neg c1]
    refine⟨.ite c l none,st_cp (c1:=ctB l) (c2:=0) h1 h3 h2 ⟨a.w,g.w⟩ ?_ ?_ ?_ rfl ?_ hj gx1 gx2 (fun _=>Nat.zero_le _) (fun h=>?_) ?_⟩
    ·simp only[Cs.dp];omega
    ·have e1:Lw ([105,102,32]++[40]) ([(0,tIf)]++[(2,[40])]):=lw_if.wapp (lw_sg 40)
     exact(((e1.wapp a.z).app lw_pb (pS_c _ _)).wapp g.z).cast rfl (by simp[Cs.tk])
    ·exact g.b.trans eb
    ·show (B (condT 1 s (nxM (nxM (dcM m)))).2).2.n=_
     rw[gn];omega
    ·have:=xk_le j;omega
    ·simp only[stc_if,List.length_append,List.length_cons,List.length_nil]
     rw[show m.n-1-(ctB l:Int)-((0:Nat):Int)=m.n-1-(ctB l:Int) by omega]
     omega
  ·rw[if_neg c0]
   refine⟨.whi c l,st_cp (c1:=ctB l) (c2:=0) h1 h3 h2 ⟨a.w,g.w⟩ ?_ ?_ ?_ rfl ?_ hj gx1 gx2 (fun _=>Nat.zero_le _) (fun h=>?_) ?_⟩
   ·simp only[Cs.dp];omega
   ·have e1:Lw ([119,104,105,108,101,32]++[40]) ([(0,tWhi)]++[(2,[40])]):=lw_wh.wapp (lw_sg 40)
    exact(((e1.wapp a.z).app lw_pb (pS_c _ _)).wapp g.z).cast rfl (by simp[Cs.tk])
   ·exact g.b.trans eb
   ·show (B (condT 1 s (nxM (nxM (dcM m)))).2).2.n=_
    rw[gn];omega
   ·have:=xk_le j;omega
   ·simp only[stc_while,List.length_append,List.length_cons,List.length_nil]
    rw[show m.n-1-(ctB l:Int)-((0:Nat):Int)=m.n-1-(ctB l:Int) by omega]
    omega
theorem st_q:∀(k:Nat),k≤2→∀(s:Int) (m:Mk),okK m → -1000000≤m.n→m.n≤25→∃c,stQ k m (stT k s m) c
 |0,_,s,m,h,h1,h2=>sB_q (fun h=>by cases h) h h1 h2
 |k+1,hk,s,m,h,h1,h2=>sB_q (fun _=>⟨k,rfl,by omega,fun q hq q1 q2=>bk_q (fun m=>st_q k (by omega) s m) q hq q1 q2⟩) h h1 h2
end Go.Proofs.YtbiepiggmagfcaaGreatDoor
namespace Go.Proofs.YtbiepiggmagfcaaGreatDoor
open Go Go.Sy Go.RowKit
structure mkQ (t:List UInt8) (f:Cf):Prop where
 ok:f.ok
 z:Lw t f.tk
 l:t.length≤4096
 d:dpB f.body≤5
 c:ctB f.body≤42
 nl:f.name.length≤1
 pl:∀v∈f.ps,v.s.length≤1
 vl:∀v∈f.ls,v.s.length≤1
end Go.Proofs.YtbiepiggmagfcaaGreatDoor
namespace Go.Proofs.YtbiepiggmagfcaaGreatDoor
open Go Go.Sy Go.RowKit
theorem wT_le {ts:List Kt} (h:∀t∈ts,t.2.length≤4096):wT ts≤ts.length*4296:=by
 induction ts with
 |nil=>exact Nat.zero_le _
 |cons t l ih=>
  have:=ih fun x hx=>h x (List.mem_cons_of_mem _ hx)
  have:=h t (by simp)
  rw[wT_cons,List.length_cons,Nat.succ_mul];omega
structure RqF (f:Fn):Prop where
 p:okPr 5000 8 f.body
 r:okRg 8 f.body
 pl:f.ps.length≤5000
 ll:f.ls.length≤5000
 l:(fnT f).length≤100000000
theorem lens_le {l:List (List UInt8)} {c:Nat} (h:∀x∈l,x.length≤c):Lib.lens l≤c*l.length:=by
 induction l with
 |nil=>exact Nat.zero_le _
 |cons a l ih=>
  have:=ih fun x hx=>h x (List.mem_cons_of_mem _ hx)
  have:=h a (by simp)
  simp only[Lib.lens,List.map_cons,List.sum_cons,List.length_cons,Nat.mul_succ]at *;omega
theorem lc_le {l:List Vr} (h:∀v∈l,v.s.length≤1):(lnX (lcL l)).length≤8*l.length:=by
 induction l with
 |nil=>exact Nat.zero_le _
 |cons a l ih=>
  have:=ih fun x hx=>h x (List.mem_cons_of_mem _ hx)
  have:=h a (by simp)
  have e:(locT a).length=a.s.length+6:=by
   obtain⟨s,p⟩:=a
   cases p<;>simp[locT]<;>omega
  show (lnX (⟨locT a,-1⟩::lcL l)).length≤_
  rw[lnX_cons,List.length_append,List.length_append,e,List.length_cons]
  simp only[List.length_cons,List.length_nil];omega
theorem cf_rq {t:List UInt8} {f:Cf} (h:mkQ t f) (h1:f.tk.length≤4096) (h2:∀t∈f.tk,t.2.length≤4096):RqF f.v:=by
 have h3:(tkB f.body).length≤f.tk.length∧∀t∈tkB f.body,t∈f.tk:=by
  unfold Cf.tk
  refine⟨by simp only[List.length_cons,List.length_append];omega,fun t ht=>by simp[ht]⟩
 have hd:=h.d
 have a:=rq_B f.body 5000 8 1 0 h.ok.w (by omega) (by omega) (by omega) (by omega)
 have w:=wT_le (ts:=tkB f.body) fun t ht=>h2 t (h3.2 t ht)
 have w2:(tkB f.body).length*4296≤4096*4296:=Nat.mul_le_mul_right _ (by omega)
 have al:=a.l
 have hp:=h.ok.pl
 have hl:=h.ok.ll
 refine⟨a.p,a.r,by show f.ps.length≤_;omega,by show f.ls.length≤_;omega,?_⟩
 rw[fnT_eq]
 have e1:=lc_le h.vl
 have e2:=jn_len (f.ps.map vrT)
 have e3:Lib.lens (f.ps.map vrT)≤2*(f.ps.map vrT).length:=lens_le fun x hx=>by
  obtain⟨v,hv,rfl⟩:=List.mem_map.1 hx
  have:=h.pl v hv
  unfold vrT
  split
  ·simp only[List.length_append,List.length_cons,List.length_nil];omega
  ·omega
 rw[List.length_map]at e2 e3
 have e4:=h.nl
 have e5:=lT_len 0 (fnH f.v)
 have e6:(fnH f.v).flatten.length=3+(f.name.length+(1+((jnT (f.ps.map vrT)).length+3))):=by
  show [_,f.name,_,jnT (f.ps.map vrT),_].flatten.length=_
  simp only[List.flatten_cons,List.flatten_nil,List.length_append,List.length_cons,List.length_nil]
 have e7:=lT_len 0 [([125]:List UInt8)]
 show (lineT 0 (fnH f.v)++(lnX (lcL f.ls)++(lnX (lnB 1 (vB 0 f.body))++lineT 0 [[125]]))).length≤_
 simp only[List.length_append,List.flatten_cons,List.flatten_nil,List.length_cons,List.length_nil]at e5 e7 ⊢
 omega
end Go.Proofs.YtbiepiggmagfcaaGreatDoor
namespace Go.Sy
open Go Go.RowKit
section
variable {P:Program} {X:Ctx} {w0:World} {n:Nat}
theorem tri_mono {c:Code} {s:St} {Q Q':Exit→St→Prop} (h:Tri (P:=P) X w0 n c s Q) (hq:∀e s,Q e s→Q' e s):Tri (P:=P) X w0 n c s Q':=by
 intro a w hs
 refine Code.wp_mono ?_ (h a w hs)
 rintro e a' w' ⟨s',h1,h2⟩
 exact⟨s',hq e s' h1,h2⟩
theorem tri_seq {a b:Code} {s:St} {Q:Exit→St→Prop} (h:Tri (P:=P) X w0 n a s (thenQ (fun s'=>Tri (P:=P) X w0 n b s' Q) Q)):Tri (P:=P) X w0 n (.seq a b) s Q:=by
 intro act w hs
 refine wp_seq ?_
 refine Code.wp_mono ?_ (h act w hs)
 rintro e a' w' ⟨s',hq,hs'⟩
 cases e with
 |normal=>exact hq a' w' hs'
 |_=>exact⟨s',hq,hs'⟩
theorem tri_to {c:Code} {s t:St} {Q:Exit→St→Prop} (h:Tri (P:=P) X w0 n c t Q) (hs:To X s t):Tri (P:=P) X w0 n c s Q:=fun a w hh=>h a w (hs w0 n a w hh)
theorem tri_cut {Y:Type} {a b:Code} {s:St} {Q:Exit→St→Prop} (J:Y→Prop) (S:Y→St) (sp:List (Spec P X w0)) (g:Gh) (h1:vc X w0 sp n g a s (thenQ (fun s'=>∃y,J y∧To X s' (S y)) Q)) (h2:∀y,J y→Tri (P:=P) X w0 n b (S y) Q):Tri (P:=P) X w0 n (.seq a b) s Q:=by
 refine tri_seq (tri_mono (vc_ok sp g a s _ h1) ?_)
 intro e s' hq
 cases e with
 |normal=>obtain⟨y,hy,hto⟩:=hq;exact tri_to (h2 y hy) hto
 |_=>exact hq
theorem tri_next {a b:Code} {s:St} {Q:Exit→St→Prop} (sp:List (Spec P X w0)) (g:Gh) (h1:vc X w0 sp n g a s (thenQ (fun s'=>Tri (P:=P) X w0 n b s' Q) Q)):Tri (P:=P) X w0 n (.seq a b) s Q:=tri_seq (vc_ok sp g a s _ h1)
end
section
variable {P:Program}
theorem calls_tri {f:FuncId} {fn:Func} {c:Code} (hf:P.funcs[f]?=some fn) (hb:fn.body=some c) (w:World) (fz:Nat→Prop) (args:List SV) (hnm:∀v∈args,v.names=[]) (hfz:∀b,fz b→b<w.heap.size)
  (xs:List Value) (hlen:xs.length=args.length) (hx:∀(j:Nat) (v:SV) (x:Value),args[j]?=some v→xs[j]?=some x→CD (hp w) fz v x) (R:SV→Prop)
  (hn:args.length≤fn.ntmps) (h:Tri (P:=P) (clX fz) w fn.ntmps c ⟨argE 0 args,[]⟩ (retQ P (clX fz) fn.results.toList (fun _ vs=>(resV vs).names=[]∧R (resV vs)))) :
  Calls P f xs.toArray w (DPost w fz R):=by
 refine calls_of_wp hf hb (Code.wp_mono ?_ (h _ w ?_))
 ·rintro e a w' ⟨s,hq,hs⟩
  have fin:RetP P (clX fz) fn.results.toList (fun _ vs=>(resV vs).names=[]∧R (resV vs)) s→a.defers=[]∧∃v,(results fn a.tmps).run P w'= .ok v w'∧DPost w fz R (Ending.returned v) w':=by
   rintro ⟨cs,s',vs,h1,h2,h3,h4,h5⟩
   refine⟨hs.defers,?_⟩
   obtain⟨_,I,lab,fz',hA⟩:=runCs_ent h1 a w' hs
   obtain⟨x,x1,x2⟩:=results_ok hA h2 h3
   refine⟨x,x1,resV vs,x,fun b=>fz' b∨fz b,rfl,h5,h4,fun b hb=>.inr hb,fun b hb=>?_,fun b hb=>?_,sd_closed (fun b hb=>⟨.inl hb,rfl⟩) h4 x2,hA.m.kept.below (fun _ _ hf=>hf)⟩
   ·rcases hb with hb|hb
    ·rcases hA.m.fzo b hb with h|h|h
     ·exact .inl h
     ·exact .inr h
     ·exact h.elim
    ·exact .inl hb
   ·rcases hb with hb|hb
    ·exact(hA.m.fzl b hb).1
    ·exact Nat.lt_of_lt_of_le (hfz b hb) hA.m.kept.size
  cases e with
  |normal=>exact fin hq
  |ret=>exact fin hq
  |_=>exact hq.elim
 ·have hE0:∀t g v,lkp (argE 0 args) t=some (g,v)→g=true∧args[t]?=some v:=by
   intro t g v ht
   rw[argE_lkp]at ht
   simp only[Nat.zero_le,if_true,Nat.sub_zero,Option.map_eq_some_iff,Prod.mk.injEq]at ht
   obtain⟨u,hu,rfl,rfl⟩:=ht
   exact⟨rfl,hu⟩
  refine⟨?_,nm0,fun _=>none,fz,?_,rfl,?_,⟨?_,?_,?_,fun b hb=>⟨hfz b hb,rfl⟩,fun b hb=>.inl hb,Kept.refl _ _,by intro p hp;cases hp⟩⟩
  ·intro t g v ht _
   have:=(hE0 t g v ht).2
   rw[hnm v (List.mem_of_getElem? this)]
   intro k hk;cases hk
  ·simp[hlen];omega
  ·intro t g v ht
   obtain⟨rfl,hv⟩:=hE0 t g v ht
   have hlt:t<args.length:=(List.getElem?_eq_some_iff.1 hv).1
   have hlt2:t<xs.length:=by omega
   refine⟨xs[t],?_,?_⟩
   ·rw[Array.getElem?_append_left (by simpa using hlt2)]
    simp[hlt2]
   ·simp only[if_true]
    exact sd_closed (fun b hb=>⟨hb,rfl⟩) (hnm v (List.mem_of_getElem? hv)) (hx t v _ hv (List.getElem?_eq_getElem hlt2))
  ·intro k ch hk;simp[lkp]at hk
  ·intro k ch hk;simp[lkp]at hk
  ·intro b π hb;cases hb
theorem calls_triL {f:FuncId} {fn:Func} {c:Code} (hf:P.funcs[f]?=some fn) (hb:fn.body=some c) (w:World) (fz:Nat→Prop) {A:Type} (ac:ArgC A) (F:A→SV) (a:A) (xs:List Value) (hfz:∀b,fz b→b<w.heap.size) (hl:xs.length=(ac.e a).length)
  (hx:∀(j:Nat) (v:SV) (x:Value),(ac.e a)[j]?=some v→xs[j]?=some x→CD (hp w) fz v x) (hn:(ac.e a).length≤fn.ntmps)
  (h:Tri (P:=P) (clX fz) w fn.ntmps c ⟨argE 0 (ac.e a),[]⟩ (retQ P (clX fz) fn.results.toList (RESL (F a)))):Calls P f xs.toArray w (DPost w fz (fun v=>v=F a)):=
 (calls_tri hf hb w fz (ac.e a) (ac.n a) hfz xs hl hx (fun v=>leV v (F a)) hn h).mono fun _ _ h=>dpost_le h
end
end Go.Sy
