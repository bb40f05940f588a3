/- The maker's functions are read as what they say. No conditions but those in each statement. -/
import Derived.Test.YtlaggppdgoknjaaGreatDoorMc3
import Derived.Test.YtlaggppdgoknjaaGreatDoorSyC
import Derived.Test.YtlaggppdgoknjaaGreatDoorTy2
import Derived.Lib.Bytealg
import Derived.Deep.Draws
import Derived.BigCall
import Derived.BigGuard
set_option linter.unusedVariables false
set_option linter.unusedSimpArgs false
namespace Go.Proofs.YtlaggppdgoknjaaGreatDoor
open Go Go.Sy Go.RowKit
theorem lw_h0:Lw [102,110,32,102,40,120,41,32,123,32,118,97,114,32,97,59,32,118,97,114,32,98,59,32,112,116,114,32,113,59,32] [(0,[102,110]),(0,[102]),(2,[40]),(0,[120]),(2,[41]),(2,[123]),(0,[118,97,114]),(0,[97]),(2,[59]),(0,[118,97,114]),(0,[98]),(2,[59]),(0,[112,116,114]),(0,[113]),(2,[59])]:=Lp.of (n:=24) (fun i=>[⟨0,[102,110],((i+0:Nat):Int)⟩,⟨0,[102],((i+3:Nat):Int)⟩,⟨2,[40],((i+4:Nat):Int)⟩,⟨0,[120],((i+5:Nat):Int)⟩,⟨2,[41],((i+6:Nat):Int)⟩,⟨2,[123],((i+8:Nat):Int)⟩,⟨0,[118,97,114],((i+10:Nat):Int)⟩,⟨0,[97],((i+14:Nat):Int)⟩,⟨2,[59],((i+15:Nat):Int)⟩,⟨0,[118,97,114],((i+17:Nat):Int)⟩,⟨0,[98],((i+21:Nat):Int)⟩,⟨2,[59],((i+22:Nat):Int)⟩,⟨0,[112,116,114],((i+24:Nat):Int)⟩,⟨0,[113],((i+28:Nat):Int)⟩,⟨2,[59],((i+29:Nat):Int)⟩]) (by decide) (fun _=>rfl) (fun f i r out=>by kernel_rfl)
theorem lw_h1:Lw [102,110,32,103,40,120,44,32,121,41,32,123,32,118,97,114,32,97,59,32,118,97,114,32,98,59,32,112,116,114,32,113,59,32] [(0,[102,110]),(0,[103]),(2,[40]),(0,[120]),(2,[44]),(0,[121]),(2,[41]),(2,[123]),(0,[118,97,114]),(0,[97]),(2,[59]),(0,[118,97,114]),(0,[98]),(2,[59]),(0,[112,116,114]),(0,[113]),(2,[59])]:=Lp.of (n:=27) (fun i=>[⟨0,[102,110],((i+0:Nat):Int)⟩,⟨0,[103],((i+3:Nat):Int)⟩,⟨2,[40],((i+4:Nat):Int)⟩,⟨0,[120],((i+5:Nat):Int)⟩,⟨2,[44],((i+6:Nat):Int)⟩,⟨0,[121],((i+8:Nat):Int)⟩,⟨2,[41],((i+9:Nat):Int)⟩,⟨2,[123],((i+11:Nat):Int)⟩,⟨0,[118,97,114],((i+13:Nat):Int)⟩,⟨0,[97],((i+17:Nat):Int)⟩,⟨2,[59],((i+18:Nat):Int)⟩,⟨0,[118,97,114],((i+20:Nat):Int)⟩,⟨0,[98],((i+24:Nat):Int)⟩,⟨2,[59],((i+25:Nat):Int)⟩,⟨0,[112,116,114],((i+27:Nat):Int)⟩,⟨0,[113],((i+31:Nat):Int)⟩,⟨2,[59],((i+32:Nat):Int)⟩]) (by decide) (fun _=>rfl) (fun f i r out=>by kernel_rfl)
theorem lw_h2:Lw [102,110,32,104,40,42,112,41,32,123,32,118,97,114,32,97,59,32,118,97,114,32,98,59,32,118,97,114,32,120,59,32,112,116,114,32,113,59,32] [(0,[102,110]),(0,[104]),(2,[40]),(2,[42]),(0,[112]),(2,[41]),(2,[123]),(0,[118,97,114]),(0,[97]),(2,[59]),(0,[118,97,114]),(0,[98]),(2,[59]),(0,[118,97,114]),(0,[120]),(2,[59]),(0,[112,116,114]),(0,[113]),(2,[59])]:=Lp.of (n:=30) (fun i=>[⟨0,[102,110],((i+0:Nat):Int)⟩,⟨0,[104],((i+3:Nat):Int)⟩,⟨2,[40],((i+4:Nat):Int)⟩,⟨2,[42],((i+5:Nat):Int)⟩,⟨0,[112],((i+6:Nat):Int)⟩,⟨2,[41],((i+7:Nat):Int)⟩,⟨2,[123],((i+9:Nat):Int)⟩,⟨0,[118,97,114],((i+11:Nat):Int)⟩,⟨0,[97],((i+15:Nat):Int)⟩,⟨2,[59],((i+16:Nat):Int)⟩,⟨0,[118,97,114],((i+18:Nat):Int)⟩,⟨0,[98],((i+22:Nat):Int)⟩,⟨2,[59],((i+23:Nat):Int)⟩,⟨0,[118,97,114],((i+25:Nat):Int)⟩,⟨0,[120],((i+29:Nat):Int)⟩,⟨2,[59],((i+30:Nat):Int)⟩,⟨0,[112,116,114],((i+32:Nat):Int)⟩,⟨0,[113],((i+36:Nat):Int)⟩,⟨2,[59],((i+37:Nat):Int)⟩]) (by decide) (fun _=>rfl) (fun f i r out=>by kernel_rfl)
theorem lw_h3:Lw [102,110,32,107,40,120,44,32,42,112,41,32,123,32,118,97,114,32,97,59,32,118,97,114,32,98,59,32,112,116,114,32,113,59,32] [(0,[102,110]),(0,[107]),(2,[40]),(0,[120]),(2,[44]),(2,[42]),(0,[112]),(2,[41]),(2,[123]),(0,[118,97,114]),(0,[97]),(2,[59]),(0,[118,97,114]),(0,[98]),(2,[59]),(0,[112,116,114]),(0,[113]),(2,[59])]:=Lp.of (n:=28) (fun i=>[⟨0,[102,110],((i+0:Nat):Int)⟩,⟨0,[107],((i+3:Nat):Int)⟩,⟨2,[40],((i+4:Nat):Int)⟩,⟨0,[120],((i+5:Nat):Int)⟩,⟨2,[44],((i+6:Nat):Int)⟩,⟨2,[42],((i+8:Nat):Int)⟩,⟨0,[112],((i+9:Nat):Int)⟩,⟨2,[41],((i+10:Nat):Int)⟩,⟨2,[123],((i+12:Nat):Int)⟩,⟨0,[118,97,114],((i+14:Nat):Int)⟩,⟨0,[97],((i+18:Nat):Int)⟩,⟨2,[59],((i+19:Nat):Int)⟩,⟨0,[118,97,114],((i+21:Nat):Int)⟩,⟨0,[98],((i+25:Nat):Int)⟩,⟨2,[59],((i+26:Nat):Int)⟩,⟨0,[112,116,114],((i+28:Nat):Int)⟩,⟨0,[113],((i+32:Nat):Int)⟩,⟨2,[59],((i+33:Nat):Int)⟩]) (by decide) (fun _=>rfl) (fun f i r out=>by kernel_rfl)
def vI (s:List UInt8):Vr:=⟨s,false⟩
def vP (s:List UInt8):Vr:=⟨s,true⟩
def hdC (s:Int):List UInt8×List Vr×List Vr:=
 if s.tmod 4=0 then ([102],[vI [120]],[vI [97],vI [98],vP [113]])
 else if s.tmod 4=1 then ([103],[vI [120],vI [121]],[vI [97],vI [98],vP [113]])
 else if s.tmod 4=2 then ([104],[vP [112]],[vI [97],vI [98],vI [120],vP [113]])
 else ([107],[vI [120],vP [112]],[vI [97],vI [98],vP [113]])
theorem hd_q {s:Int} (hs:0≤s):Lw (txH s) ((0,tFn)::(0,(hdC s).1)::kO 40::(psK (hdC s).2.1++kO 123::lsK (hdC s).2.2))∧nmQ (hdC s).1∧(∀v∈(hdC s).2.1,nmQ v.s)∧(∀v∈(hdC s).2.2,nmQ v.s)∧(hdC s).2.1.length≤2∧(hdC s).2.2.length≤4:=by
 have h4:=tmod4 hs
 have h5:s.tmod 4=0∨s.tmod 4=1∨s.tmod 4=2∨s.tmod 4=3:=by omega
 have a:=(nmQ.of:nmQ [97])
 have b:=(nmQ.of:nmQ [98])
 have x:=(nmQ.of:nmQ [120])
 have y:=(nmQ.of:nmQ [121])
 have p:=(nmQ.of:nmQ [112])
 have q:=(nmQ.of:nmQ [113])
 unfold txH hdS hdC
 rcases h5 with e|e|e|e<;>rw[e]
 ·refine⟨lw_h0,(nmQ.of:nmQ [102]),?_,?_,by decide,by decide⟩
  ·intro v hv
   simp only[if_true,List.mem_singleton]at hv
   subst hv;exact x
  ·intro v hv
   simp only[if_true,List.mem_cons,List.not_mem_nil,or_false]at hv
   rcases hv with rfl|rfl|rfl
   ·exact a
   ·exact b
   ·exact q
 ·refine⟨lw_h1,(nmQ.of:nmQ [103]),?_,?_,by decide,by decide⟩
  ·intro v hv
   have hv:v∈[vI [120],vI [121]]:=hv
   simp only[List.mem_cons,List.not_mem_nil,or_false]at hv
   rcases hv with rfl|rfl
   ·exact x
   ·exact y
  ·intro v hv
   have hv:v∈[vI [97],vI [98],vP [113]]:=hv
   simp only[List.mem_cons,List.not_mem_nil,or_false]at hv
   rcases hv with rfl|rfl|rfl
   ·exact a
   ·exact b
   ·exact q
 ·refine⟨lw_h2,(nmQ.of:nmQ [104]),?_,?_,by decide,by decide⟩
  ·intro v hv
   have hv:v∈[vP [112]]:=hv
   rw[List.mem_singleton.1 hv];exact p
  ·intro v hv
   have hv:v∈[vI [97],vI [98],vI [120],vP [113]]:=hv
   simp only[List.mem_cons,List.not_mem_nil,or_false]at hv
   rcases hv with rfl|rfl|rfl|rfl
   ·exact a
   ·exact b
   ·exact x
   ·exact q
 ·refine⟨lw_h3,(nmQ.of:nmQ [107]),?_,?_,by decide,by decide⟩
  ·intro v hv
   have hv:v∈[vI [120],vP [112]]:=hv
   simp only[List.mem_cons,List.not_mem_nil,or_false]at hv
   rcases hv with rfl|rfl
   ·exact x
   ·exact p
  ·intro v hv
   have hv:v∈[vI [97],vI [98],vP [113]]:=hv
   simp only[List.mem_cons,List.not_mem_nil,or_false]at hv
   rcases hv with rfl|rfl|rfl
   ·exact a
   ·exact b
   ·exact q
theorem tkB_app:∀l m:List Cs,tkB (l++m)=tkB l++tkB m
 |[],m=>rfl
 |s::l,m=>by rw[List.cons_append,tkB,tkB_app l m,tkB,List.append_assoc]
theorem wfB_app:∀l m:List Cs,wfB l→wfB m→wfB (l++m)
 |[],m,_,h=>h
 |s::l,m,h,k=>⟨h.1,wfB_app l m h.2 k⟩
theorem dpB_app:∀l m:List Cs,dpB (l++m)=max (dpB l) (dpB m)
 |[],m=>by simp[dpB]
 |s::l,m=>by rw[List.cons_append,dpB,dpB_app l m,dpB];omega
theorem ctB_app:∀l m:List Cs,ctB (l++m)=ctB l+ctB m
 |[],m=>by simp[ctB]
 |s::l,m=>by rw[List.cons_append,ctB,ctB_app l m,ctB];omega
structure mkQ (t:List UInt8) (f:Cf):Prop where
 ok:f.ok
 z:Lw t f.tk
 l:t.length≤4096
 d:dpB f.body≤5
 c:ctB f.body≤42
 nl:f.name.length≤1
 pl:∀v∈f.ps,v.s.length≤1
 vl:∀v∈f.ls,v.s.length≤1
theorem ph_le {n:Int} (h : -16≤n):ph 25-ph n≤2948:=by
 have:ph 25=2500:=rfl
 unfold ph at*
 split<;>omega
theorem mk_q1 {s:Int} (hs:0≤s) {b:List Int} (hb:okY b):∃f,mkQ (txT s b) f∧f.name=(hdC s).1∧f.body≠[]:=by
 obtain⟨z0,q1,q2,q3,q4,q5⟩:=hd_q hs
 have hk0:okK (m0 b):=hb.2
 have hk1:okK (nxM (m0 b)):=hb.2
 have hj:=nxK hk0 (j:=6) (by decide)
 obtain⟨t,l,e1,a⟩:=bl_q (fun m=>st_q 2 (Nat.le_refl _) s m) (1+nxV 6 (m0 b)).toNat (txH s) (nxM (m0 b)) hk1 (by show _≤(25:Int);omega) (by show (25:Int)≤25;omega) (by omega)
 have hn:(nxM (m0 b)).n=25:=rfl
 have x2:=a.x2
 have ln:=a.ln
 have hlne:l≠[]:=by
  rintro rfl
  have:=a.e
  simp only[List.length_nil]at this
  omega
 have x0:xk 2=11:=rfl
 rw[hn]at x2 ln
 have hc:ctB l≤41:=by rcases x2 (by decide) with h|h<;>omega
 have hl:=ph_le (n:=25-(ctB l:Int)) (by omega)
 have hH:=txH_len s
 have e2:(txB s b).1=txH s++t:=e1
 have hkB:okK (txB s b).2:=by unfold okK;show ∀x∈(blkL _ _ _ _).2.b,_;rw[a.b];exact hb.2
 have key:∀(f:Cf) (u:List UInt8) (us:List Cs),f.name=(hdC s).1→f.ps=(hdC s).2.1→f.ls=(hdC s).2.2→f.body=l++us→wfB us→dpB us≤3→ctB us≤1→Lw u (tkB us)→u.length≤30→mkQ (((txH s++t)++u)++[125]) f:=by
  intro f u us f1 f2 f3 f4 w d c z lu
  refine⟨⟨by rw[f1];exact q1.o,by rw[f2];exact fun v hv=>(q2 v hv).o,by rw[f3];exact fun v hv=>(q3 v hv).o,by rw[f2];omega,by rw[f3];omega,by rw[f4];exact wfB_app _ _ a.w w,?_,?_⟩,?_,?_,?_,?_,by rw[f1];exact q1.l,by rw[f2];exact fun v hv=>(q2 v hv).l,by rw[f3];exact fun v hv=>(q3 v hv).l⟩
  ·rw[f4,dpB_app];have:=a.d;omega
  ·rw[f4,ctB_app];omega
  ·refine((((z0.wapp a.z).wapp z).wapp (lw_sg 125))).cast rfl ?_
   unfold Cf.tk
   rw[f1,f2,f3,f4,tkB_app];simp
  ·simp only[List.length_append,List.length_cons,List.length_nil];omega
  ·rw[f4,dpB_app];have:=a.d;omega
  ·rw[f4,ctB_app];omega
 unfold txT
 rw[e2]
 by_cases c0:(nxV 2 (txB s b).2==0)=true
 ·rw[if_pos c0]
  obtain⟨i,_⟩:=iv_q ((sm_nx (txB s b).2).ok hkB)
  refine⟨⟨(hdC s).1,(hdC s).2.1,(hdC s).2.2,l++[.ret (.var (ivT' (nxM (txB s b).2)).1)]⟩,?_,rfl,by simp⟩
  have:=key ⟨(hdC s).1,(hdC s).2.1,(hdC s).2.2,l++[.ret (.var (ivT' (nxM (txB s b).2)).1)]⟩ (([114,101,116,117,114,110,32]++(ivT' (nxM (txB s b).2)).1)++[59,32]) [.ret (.var (ivT' (nxM (txB s b).2)).1)] rfl rfl rfl rfl ⟨⟨i.o.1,i.o.2⟩,trivial⟩ (by simp[dpB,Cs.dp,Cx.dp]) (by simp[ctB,Cs.ct]) (((lw_rt.wapp i.z).app lw_se (pS_c _ _)).cast rfl (by simp[tkB,Cs.tk,Cx.tk])) (by have:=i.l;simp only[List.length_append,List.length_cons,List.length_nil];omega)
  simpa using this
 ·rw[if_neg c0]
  refine⟨⟨(hdC s).1,(hdC s).2.1,(hdC s).2.2,l⟩,?_,rfl,hlne⟩
  have:=key ⟨(hdC s).1,(hdC s).2.1,(hdC s).2.2,l⟩ [] [] rfl rfl rfl (by simp) trivial (Nat.zero_le _) (Nat.zero_le _) Lp.nil (Nat.zero_le _)
  simpa using this
theorem mk_q {s:Int} (hs:0≤s) {b:List Int} (hb:okY b):∃f,mkQ (txT s b) f∧f.name=(hdC s).1:=by
 obtain⟨f,a,n,_⟩:=mk_q1 hs hb
 exact⟨f,a,n⟩
end Go.Proofs.YtlaggppdgoknjaaGreatDoor
namespace Go.Proofs.YtlaggppdgoknjaaGreatDoor
open Go Go.Sy Go.RowKit
def pB:UInt8→Bool:=fun c=>blB (c.toNat:Int)
theorem pB_S (c:UInt8) (h:pB c=true):pS c=true:=by
 unfold pB at h
 unfold pS
 cases h1:letB (c.toNat:Int) with
 |true=>rw[(let_bl h1).1]at h;cases h
 |false=>
  cases h2:digB (c.toNat:Int) with
  |true=>rw[(dig_bl h2).1]at h;cases h
  |false=>unfold idB;rw[h1,h2];rfl
theorem pB_n {d:UInt8} (h:pB d=true):(d==61)=false∧(d==38)=false∧(d==124)=false:=by
 refine⟨?_,?_,?_⟩
 all_goals
  rw[beq_eq_false_iff_ne]
  rintro rfl
  revert h
  decide
def tkJ (t:Kt):Prop:=Lp pB t.2 [t]
theorem jspan_all (p:Int→Bool):∀l:List UInt8,∀c∈l.take (spanN p l),p (c.toNat:Int)=true
 |[],c,h=>by simp at h
 |b::r,c,h=>by
  simp only[spanN]at h
  split at h
  ·rename_i hb
   rw[List.take_succ_cons]at h
   rcases List.mem_cons.1 h with rfl|h
   ·exact hb
   ·exact jspan_all p r c h
  ·simp at h
theorem jspan_stop (p:Int→Bool):∀l:List UInt8,∀c q,l.drop (spanN p l)=c::q→p (c.toNat:Int)=false
 |[],c,q,h=>by simp at h
 |b::r,c,q,h=>by
  simp only[spanN]at h
  split at h
  ·rw[List.drop_succ_cons]at h
   exact jspan_stop p r c q h
  ·rename_i hb
   rw[List.drop_zero]at h
   rw[← (List.cons.inj h).1]
   simpa using hb
theorem jspan_take (p:Int→Bool) (l:List UInt8):(l.take (spanN p l)).length=spanN p l:=by
 rw[List.length_take];have:=spanN_le p l;omega
theorem rxG_J:∀(f i:Nat) (s:List UInt8) (out T:List Tok),(∀t∈out,tkJ (kt t))→rxG f i s out=(T,0,0)→∀t∈T,tkJ (kt t)
 |0,i,s,out,T,ho,h=>by
  simp only[rxG,Prod.mk.injEq]at h
  rw[← h.1];exact ho
 |f+1,i,[],out,T,ho,h=>by
  simp only[rxG,Prod.mk.injEq]at h
  rw[← h.1];exact ho
 |f+1,i,c::r,out,T,ho,h=>by
  have snoc:∀x:Tok,tkJ (kt x)→∀t∈out++[x],tkJ (kt t):=fun x hx t ht=>by
   rcases List.mem_append.1 ht with ht|ht
   ·exact ho t ht
   ·rw[List.mem_singleton.1 ht];exact hx
  simp only[rxG]at h
  split at h
  ·exact rxG_J f _ _ out T ho h
  rename_i n1
  split at h
  ·exact rxG_J f _ _ out T ho h
  rename_i n2
  split at h
  ·rename_i hl
   split at h
   ·simp at h
   ·rename_i h32
    refine rxG_J f _ _ _ T (snoc _ ?_) h
    have hc:idB (c.toNat:Int)=true:=by unfold idB;rw[hl];rfl
    have hs:spanN idB (c::r)=spanN idB r+1:=by simp only[spanN];rw[if_pos hc]
    have h1:=jspan_all idB (c::r)
    have h2:=jspan_take idB (c::r)
    have h3:spanN idB (c::r)≤32:=by simp only[decide_eq_true_eq]at h32;omega
    show Lp pB ((c::r).take (spanN idB (c::r))) [(0,(c::r).take (spanN idB (c::r)))]
    rw[hs]at h1 h2 ⊢
    rw[List.take_succ_cons]at h1 h2 ⊢
    exact(lz_nm ⟨c,_,rfl,hl⟩ h1 (by omega)).imp pB_S
  rename_i n3
  split at h
  ·rename_i hd
   split at h
   ·simp at h
   rename_i hg
   split at h
   ·simp at h
   rename_i hz
   refine rxG_J f _ _ _ T (snoc _ ?_) h
   have hs:spanN digB (c::r)=spanN digB r+1:=by simp only[spanN];rw[if_pos hd]
   have h1:=jspan_all digB (c::r)
   have h2:=jspan_take digB (c::r)
   have h4:=jspan_stop digB (c::r)
   show Lp pB ((c::r).take (spanN digB (c::r))) [(1,(c::r).take (spanN digB (c::r)))]
   refine(lz_nu ?_).imp pB_S
   have e:=dgF_app ((c::r).take (spanN digB (c::r))) ((c::r).drop (spanN digB (c::r))) 0 false h1 h4
   rw[List.take_append_drop]at e
   refine⟨h1,?_,?_,?_⟩
   ·rw[hs,List.take_succ_cons];simp
   ·by_cases h5:spanN digB (c::r)≤1
    ·left;rw[h2];omega
    ·right
     rw[hs,List.take_succ_cons]
     intro hh
     have hh:c=48:=by simpa using hh
     apply hz
     rw[hh]
     have:decide (1<((spanN digB (48::r):Nat):Int))=true:=by rw[decide_eq_true_eq];rw[hh]at h5;omega
     rw[this];simp
   ·rw[← e]
    unfold greB at hg
    simp only[Bool.or_eq_true,decide_eq_true_eq,not_or]at hg
    exact⟨by simpa using hg.1,by omega⟩
  rename_i n4
  have hN:(blB (c.toNat:Int)||(c.toNat:Int)==35||letB (c.toNat:Int)||digB (c.toNat:Int))=false:=by
   rw[Bool.eq_false_iff.2 n1,Bool.eq_false_iff.2 n2,Bool.eq_false_iff.2 n3,Bool.eq_false_iff.2 n4];rfl
  split at h
  ·rename_i h2
   refine rxG_J f _ _ _ T (snoc _ ?_) h
   cases r with
   |nil=>
    have:decide (2≤[c].length)=false:=rfl
    rw[this,Bool.false_and]at h2
    cases h2
   |cons d r=>
    have h3:=twB_2 c d r
    unfold twB at h3
    rw[h2]at h3
    exact(lw_s2 c d h3.symm hN).w
  split at h
  ·rename_i h1
   refine rxG_J f _ _ _ T (snoc _ ?_) h
   refine lp_sg pB c h1 hN fun d hd=>?_
   obtain⟨a1,a2,a3⟩:=pB_n hd
   rw[a1,a2,a3];simp
  ·simp at h
theorem rx_J {t:List UInt8} {T:List Tok} (hl:t.length≤4096) (h:rxT t=(T,0,0)):∀k∈T,tkJ (kt k):=by
 have hr:rxT t=rxG t.length 0 t []:=by
  unfold rxT
  rw[if_neg (by simp;omega),rxF_G _ _ _ _ (Nat.zero_le _)];rfl
 rw[hr]at h
 exact rxG_J _ _ _ _ _ (fun t ht=>by cases ht) h
def gpT:List (List UInt8):=[[32],[10],[9],[32,35,59,10],[32,32]]
theorem lw_gp3:Lw [32,35,59,10] []:=Lp.of (n:=3) (fun _=>[]) (by decide) (fun _=>rfl) (fun f i r out=>by kernel_rfl)
theorem gp_ok:∀g∈gpT,Lw g []∧(∃c q,g=c::q∧pB c=true)∧g.length≤4:=by
 intro g hg
 simp only[gpT,List.mem_cons,List.not_mem_nil,or_false]at hg
 rcases hg with rfl|rfl|rfl|rfl|rfl
 ·exact⟨lw_bl 32,⟨_,_,rfl,by decide⟩,by decide⟩
 ·exact⟨lw_bl 10,⟨_,_,rfl,by decide⟩,by decide⟩
 ·exact⟨lw_bl 9,⟨_,_,rfl,by decide⟩,by decide⟩
 ·exact⟨lw_gp3,⟨_,_,rfl,by decide⟩,by decide⟩
 ·exact⟨((lw_bl 32).wapp (lw_bl 32)).cast rfl rfl,⟨_,_,rfl,by decide⟩,by decide⟩
def gpA (bl:List Int) (i:Nat):List UInt8:=if i<bl.length then gpT.getD ((bl.getD i 0).tmod 5).toNat [] else [32]
def bzP (T:List Tok) (bl:List Int):Nat→List UInt8
 |0=>[]
 |i+1=>(bzP T bl i++(T.getD i ⟨0,[],0⟩).t)++gpA bl i
theorem gpA_ok {bl:List Int} (hb:∀x∈bl,0≤x∧x<256) (i:Nat):Lw (gpA bl i) []∧(∃c q,gpA bl i=c::q∧pB c=true)∧(gpA bl i).length≤4:=by
 unfold gpA
 split
 ·rename_i h
  apply gp_ok
  have e:bl.getD i 0=bl[i]:=by simp[List.getD,h]
  have h1:=hb bl[i] (List.getElem_mem h)
  have h2:=Int.tmod_nonneg 5 h1.1
  have h3:bl[i].tmod 5<5:=Int.tmod_lt_of_pos _ (by decide)
  rw[e]
  have h4:(bl[i].tmod 5).toNat<gpT.length:=by show _<5;omega
  rw[List.getD,List.getElem?_eq_getElem h4]
  exact List.getElem_mem h4
 ·exact⟨lw_bl 32,⟨_,_,rfl,by decide⟩,by decide⟩
theorem bz_lw {T:List Tok} {bl:List Int} (hT:∀k∈T,tkJ (kt k)) (hb:∀x∈bl,0≤x∧x<256):∀i,i≤T.length→Lw (bzP T bl i) ((T.map kt).take i)
 |0,_=>Lp.nil
 |i+1,h=>by
  have ih:=bz_lw hT hb i (by omega)
  obtain⟨g1,g2,_⟩:=gpA_ok hb i
  have hi:i<T.length:=by omega
  have e:T.getD i ⟨0,[],0⟩=T[i]:=by simp[List.getD,hi]
  have hj:Lp pB (T[i]).t [kt T[i]]:=hT _ (List.getElem_mem hi)
  have e2:(T.map kt).take (i+1)=(T.map kt).take i++[kt T[i]]:=by
   rw[List.take_succ_eq_append_getElem (by rw[List.length_map];exact hi),List.getElem_map]
  have h1:Lw ((T[i]).t++gpA bl i) [kt T[i]]:=(hj.app g1 g2).cast rfl (by simp)
  rw[e2]
  show Lw ((bzP T bl i++(T.getD i ⟨0,[],0⟩).t)++gpA bl i) _
  rw[e,List.append_assoc]
  exact ih.wapp h1
theorem bz_len {T:List Tok} {bl:List Int} (hT:∀k∈T,k.t.length≤4096) (hb:∀x∈bl,0≤x∧x<256):∀i,i≤T.length→(bzP T bl i).length≤4100*i
 |0,_=>Nat.le_refl _
 |i+1,h=>by
  have ih:=bz_len hT hb i (by omega)
  obtain⟨_,_,g3⟩:=gpA_ok hb i
  have hi:i<T.length:=by omega
  have e:T.getD i ⟨0,[],0⟩=T[i]:=by simp[List.getD,hi]
  have:=hT _ (List.getElem_mem hi)
  show ((bzP T bl i++(T.getD i ⟨0,[],0⟩).t)++gpA bl i).length≤_
  rw[e,List.length_append,List.length_append];omega
theorem bz_fun {s:Int} (hs:0≤s) {b:List Int} (hb:okY b) {bl:List Int} (hl:∀x∈bl,0≤x∧x<256):∃T,rxT (txT s b)=(T,0,0)∧T.length≤4096∧(∀k∈T,k.t.length≤4096)∧(txT s b).length≤4096∧(funF (txT s b)).2=(0,0)∧((bzP T bl T.length).length≤4096→funF (bzP T bl T.length)=funF (txT s b)):=by
 obtain⟨f,a,_⟩:=mk_q hs hb
 obtain⟨T,e1,e2⟩:=rx_all a.z a.l
 have h:=rxT_ok (txT s b)
 rw[e1]at h
 refine⟨T,e1,h.1,h.2,a.l,by rw[cf_fun a.ok e1 e2],fun hlen=>?_⟩
 have z:=bz_lw (rx_J a.l e1) hl T.length (Nat.le_refl _)
 rw[List.take_of_length_le (by rw[List.length_map];exact Nat.le_refl _)]at z
 obtain⟨T2,k1,k2⟩:=rx_all z hlen
 rw[cf_fun a.ok e1 e2,cf_fun a.ok k1 (k2.trans e2)]
end Go.Proofs.YtlaggppdgoknjaaGreatDoor
namespace Go.Proofs.YtlaggppdgoknjaaGreatDoor
open Go Go.Sy Go.RowKit
set_option maxRecDepth 20000 in
theorem c_liteIndexByte (s:List UInt8) (c:Int) (w:World):Calls Tryz.prog 89 #[.string (bs s),.int .u8 c] w fun e w'=>e= .returned (.int .i64 (Lib.indexByte s c.toNat.toUInt8))∧w'=w:=by
 go_enter Tryz.func89,Tryz.ntmps89
 go_wp2
 rw[run_callFunc_extern Tryz.func103 (by kernel_rfl) (by kernel_rfl) (by kernel_rfl) (e:=Extern.BytealgIndexByte.indexByte) (by kernel_rfl),Lib.run_indexByteString]
 simp only[Result.andThen]
 rw[Oper.upon_value]
 go_wp2
 go_ret
 exact⟨rfl,rfl⟩
theorem below_same {v:Value} {e:Ending} {w w':World} (h:e= .returned v∧w'=w):e= .returned v∧Below w.heap.size w w':=by
 obtain⟨h1,rfl⟩:=h
 exact⟨h1,Below.refl _ _⟩
end Go.Proofs.YtlaggppdgoknjaaGreatDoor
