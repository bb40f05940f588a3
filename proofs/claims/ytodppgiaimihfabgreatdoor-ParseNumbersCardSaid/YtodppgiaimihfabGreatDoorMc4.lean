/- The maker's functions are read as what they say. No conditions but those in each statement. -/
import Derived.Test.YtodppgiaimihfabGreatDoorMc3
import Derived.Test.YtodppgiaimihfabGreatDoorPz1
import Derived.Test.YtodppgiaimihfabGreatDoorFp
import Derived.Test.YtodppgiaimihfabGreatDoorOp
import Derived.Test.YtodppgiaimihfabGreatDoorMk5
import Derived.Test.YtodppgiaimihfabGreatDoorTie
import Derived.Test.YtodppgiaimihfabGreatDoorCards
import Derived.LaidMore
import Derived.Lay
import Derived.SevenTiedAt
import Derived.Stop.Joined
import Derived.ProofKit
import Derived.OpenShut
import Derived.Lib.SmallJoins
import Derived.Carry
set_option linter.unusedVariables false
set_option linter.unusedSimpArgs false
namespace Go.Proofs.YtodppgiaimihfabGreatDoor
open Go Go.Sy Go.RowKit
theorem lw_h0:Lw [102,110,32,102,40,120,41,32,123,32,118,97,114,32,97,59,32,118,97,114,32,98,59,32,112,116,114,32,113,59,32] [(0,[102,110]),(0,[102]),(2,[40]),(0,[120]),(2,[41]),(2,[123]),(0,[118,97,114]),(0,[97]),(2,[59]),(0,[118,97,114]),(0,[98]),(2,[59]),(0,[112,116,114]),(0,[113]),(2,[59])]:=Lp.of (n:=24) (fun i=>[⟨0,[102,110],((i+0:Nat):Int)⟩,⟨0,[102],((i+3:Nat):Int)⟩,⟨2,[40],((i+4:Nat):Int)⟩,⟨0,[120],((i+5:Nat):Int)⟩,⟨2,[41],((i+6:Nat):Int)⟩,⟨2,[123],((i+8:Nat):Int)⟩,⟨0,[118,97,114],((i+10:Nat):Int)⟩,⟨0,[97],((i+14:Nat):Int)⟩,⟨2,[59],((i+15:Nat):Int)⟩,⟨0,[118,97,114],((i+17:Nat):Int)⟩,⟨0,[98],((i+21:Nat):Int)⟩,⟨2,[59],((i+22:Nat):Int)⟩,⟨0,[112,116,114],((i+24:Nat):Int)⟩,⟨0,[113],((i+28:Nat):Int)⟩,⟨2,[59],((i+29:Nat):Int)⟩]) (by decide) (fun _=>rfl) (fun f i r out=>by kernel_rfl)
theorem lw_h1:Lw [102,110,32,103,40,120,44,32,121,41,32,123,32,118,97,114,32,97,59,32,118,97,114,32,98,59,32,112,116,114,32,113,59,32] [(0,[102,110]),(0,[103]),(2,[40]),(0,[120]),(2,[44]),(0,[121]),(2,[41]),(2,[123]),(0,[118,97,114]),(0,[97]),(2,[59]),(0,[118,97,114]),(0,[98]),(2,[59]),(0,[112,116,114]),(0,[113]),(2,[59])]:=Lp.of (n:=27) (fun i=>[⟨0,[102,110],((i+0:Nat):Int)⟩,⟨0,[103],((i+3:Nat):Int)⟩,⟨2,[40],((i+4:Nat):Int)⟩,⟨0,[120],((i+5:Nat):Int)⟩,⟨2,[44],((i+6:Nat):Int)⟩,⟨0,[121],((i+8:Nat):Int)⟩,⟨2,[41],((i+9:Nat):Int)⟩,⟨2,[123],((i+11:Nat):Int)⟩,⟨0,[118,97,114],((i+13:Nat):Int)⟩,⟨0,[97],((i+17:Nat):Int)⟩,⟨2,[59],((i+18:Nat):Int)⟩,⟨0,[118,97,114],((i+20:Nat):Int)⟩,⟨0,[98],((i+24:Nat):Int)⟩,⟨2,[59],((i+25:Nat):Int)⟩,⟨0,[112,116,114],((i+27:Nat):Int)⟩,⟨0,[113],((i+31:Nat):Int)⟩,⟨2,[59],((i+32:Nat):Int)⟩]) (by decide) (fun _=>rfl) (fun f i r out=>by kernel_rfl)
theorem lw_h2:Lw [102,110,32,104,40,42,112,41,32,123,32,118,97,114,32,97,59,32,118,97,114,32,98,59,32,118,97,114,32,120,59,32,112,116,114,32,113,59,32] [(0,[102,110]),(0,[104]),(2,[40]),(2,[42]),(0,[112]),(2,[41]),(2,[123]),(0,[118,97,114]),(0,[97]),(2,[59]),(0,[118,97,114]),(0,[98]),(2,[59]),(0,[118,97,114]),(0,[120]),(2,[59]),(0,[112,116,114]),(0,[113]),(2,[59])]:=Lp.of (n:=30) (fun i=>[⟨0,[102,110],((i+0:Nat):Int)⟩,⟨0,[104],((i+3:Nat):Int)⟩,⟨2,[40],((i+4:Nat):Int)⟩,⟨2,[42],((i+5:Nat):Int)⟩,⟨0,[112],((i+6:Nat):Int)⟩,⟨2,[41],((i+7:Nat):Int)⟩,⟨2,[123],((i+9:Nat):Int)⟩,⟨0,[118,97,114],((i+11:Nat):Int)⟩,⟨0,[97],((i+15:Nat):Int)⟩,⟨2,[59],((i+16:Nat):Int)⟩,⟨0,[118,97,114],((i+18:Nat):Int)⟩,⟨0,[98],((i+22:Nat):Int)⟩,⟨2,[59],((i+23:Nat):Int)⟩,⟨0,[118,97,114],((i+25:Nat):Int)⟩,⟨0,[120],((i+29:Nat):Int)⟩,⟨2,[59],((i+30:Nat):Int)⟩,⟨0,[112,116,114],((i+32:Nat):Int)⟩,⟨0,[113],((i+36:Nat):Int)⟩,⟨2,[59],((i+37:Nat):Int)⟩]) (by decide) (fun _=>rfl) (fun f i r out=>by kernel_rfl)
theorem lw_h3:Lw [102,110,32,107,40,120,44,32,42,112,41,32,123,32,118,97,114,32,97,59,32,118,97,114,32,98,59,32,112,116,114,32,113,59,32] [(0,[102,110]),(0,[107]),(2,[40]),(0,[120]),(2,[44]),(2,[42]),(0,[112]),(2,[41]),(2,[123]),(0,[118,97,114]),(0,[97]),(2,[59]),(0,[118,97,114]),(0,[98]),(2,[59]),(0,[112,116,114]),(0,[113]),(2,[59])]:=Lp.of (n:=28) (fun i=>[⟨0,[102,110],((i+0:Nat):Int)⟩,⟨0,[107],((i+3:Nat):Int)⟩,⟨2,[40],((i+4:Nat):Int)⟩,⟨0,[120],((i+5:Nat):Int)⟩,⟨2,[44],((i+6:Nat):Int)⟩,⟨2,[42],((i+8:Nat):Int)⟩,⟨0,[112],((i+9:Nat):Int)⟩,⟨2,[41],((i+10:Nat):Int)⟩,⟨2,[123],((i+12:Nat):Int)⟩,⟨0,[118,97,114],((i+14:Nat):Int)⟩,⟨0,[97],((i+18:Nat):Int)⟩,⟨2,[59],((i+19:Nat):Int)⟩,⟨0,[118,97,114],((i+21:Nat):Int)⟩,⟨0,[98],((i+25:Nat):Int)⟩,⟨2,[59],((i+26:Nat):Int)⟩,⟨0,[112,116,114],((i+28:Nat):Int)⟩,⟨0,[113],((i+32:Nat):Int)⟩,⟨2,[59],((i+33:Nat):Int)⟩]) (by decide) (fun _=>rfl) (fun f i r out=>by kernel_rfl)
def vI (s:List UInt8):Vr:=⟨s,false⟩
def vP (s:List UInt8):Vr:=⟨s,true⟩
def hdC (s:Int):List UInt8×List Vr×List Vr:=
 if s.tmod 4=0 then ([102],[vI [120]],[vI [97],vI [98],vP [113]])
 else if s.tmod 4=1 then ([103],[vI [120],vI [121]],[vI [97],vI [98],vP [113]])
 else if s.tmod 4=2 then ([104],[vP [112]],[vI [97],vI [98],vI [120],vP [113]])
 else ([107],[vI [120],vP [112]],[vI [97],vI [98],vP [113]])
theorem hd_q {s:Int} (hs:0≤s):Lw (txH s) ((0,tFn)::(0,(hdC s).1)::kO 40::(psK (hdC s).2.1++kO 123::lsK (hdC s).2.2))∧nmQ (hdC s).1∧(∀v∈(hdC s).2.1,nmQ v.s)∧(∀v∈(hdC s).2.2,nmQ v.s)∧(hdC s).2.1.length≤2∧(hdC s).2.2.length≤4:=by
 have h4:=tmod4 hs
 have h5:s.tmod 4=0∨s.tmod 4=1∨s.tmod 4=2∨s.tmod 4=3:=by omega
 have a:=(nmQ.of:nmQ [97])
 have b:=(nmQ.of:nmQ [98])
 have x:=(nmQ.of:nmQ [120])
 have y:=(nmQ.of:nmQ [121])
 have p:=(nmQ.of:nmQ [112])
 have q:=(nmQ.of:nmQ [113])
 unfold txH hdS hdC
 rcases h5 with e|e|e|e<;>rw[e]
 ·refine⟨lw_h0,(nmQ.of:nmQ [102]),?_,?_,by decide,by decide⟩
  ·intro v hv
   simp only[if_true,List.mem_singleton]at hv
   subst hv;exact x
  ·intro v hv
   simp only[if_true,List.mem_cons,List.not_mem_nil,or_false]at hv
   rcases hv with rfl|rfl|rfl
   ·exact a
   ·exact b
   ·exact q
 ·refine⟨lw_h1,(nmQ.of:nmQ [103]),?_,?_,by decide,by decide⟩
  ·intro v hv
   have hv:v∈[vI [120],vI [121]]:=hv
   simp only[List.mem_cons,List.not_mem_nil,or_false]at hv
   rcases hv with rfl|rfl
   ·exact x
   ·exact y
  ·intro v hv
   have hv:v∈[vI [97],vI [98],vP [113]]:=hv
   simp only[List.mem_cons,List.not_mem_nil,or_false]at hv
   rcases hv with rfl|rfl|rfl
   ·exact a
   ·exact b
   ·exact q
 ·refine⟨lw_h2,(nmQ.of:nmQ [104]),?_,?_,by decide,by decide⟩
  ·intro v hv
   have hv:v∈[vP [112]]:=hv
   rw[List.mem_singleton.1 hv];exact p
  ·intro v hv
   have hv:v∈[vI [97],vI [98],vI [120],vP [113]]:=hv
   simp only[List.mem_cons,List.not_mem_nil,or_false]at hv
   rcases hv with rfl|rfl|rfl|rfl
   ·exact a
   ·exact b
   ·exact x
   ·exact q
 ·refine⟨lw_h3,(nmQ.of:nmQ [107]),?_,?_,by decide,by decide⟩
  ·intro v hv
   have hv:v∈[vI [120],vP [112]]:=hv
   simp only[List.mem_cons,List.not_mem_nil,or_false]at hv
   rcases hv with rfl|rfl
   ·exact x
   ·exact p
  ·intro v hv
   have hv:v∈[vI [97],vI [98],vP [113]]:=hv
   simp only[List.mem_cons,List.not_mem_nil,or_false]at hv
   rcases hv with rfl|rfl|rfl
   ·exact a
   ·exact b
   ·exact q
theorem tkB_app:∀l m:List Cs,tkB (l++m)=tkB l++tkB m
 |[],m=>rfl
 |s::l,m=>by rw[List.cons_append,tkB,tkB_app l m,tkB,List.append_assoc]
theorem wfB_app:∀l m:List Cs,wfB l→wfB m→wfB (l++m)
 |[],m,_,h=>h
 |s::l,m,h,k=>⟨h.1,wfB_app l m h.2 k⟩
theorem dpB_app:∀l m:List Cs,dpB (l++m)=max (dpB l) (dpB m)
 |[],m=>by simp[dpB]
 |s::l,m=>by rw[List.cons_append,dpB,dpB_app l m,dpB];omega
theorem ctB_app:∀l m:List Cs,ctB (l++m)=ctB l+ctB m
 |[],m=>by simp[ctB]
 |s::l,m=>by rw[List.cons_append,ctB,ctB_app l m,ctB];omega
structure mkQ (t:List UInt8) (f:Cf):Prop where
 ok:f.ok
 z:Lw t f.tk
 l:t.length≤4096
 d:dpB f.body≤5
 c:ctB f.body≤42
 nl:f.name.length≤1
 pl:∀v∈f.ps,v.s.length≤1
 vl:∀v∈f.ls,v.s.length≤1
theorem ph_le {n:Int} (h : -16≤n):ph 25-ph n≤2948:=by
 have:ph 25=2500:=rfl
 unfold ph at*
 split<;>omega
theorem mk_q1 {s:Int} (hs:0≤s) {b:List Int} (hb:okY b):∃f,mkQ (txT s b) f∧f.name=(hdC s).1∧f.body≠[]:=by
 obtain⟨z0,q1,q2,q3,q4,q5⟩:=hd_q hs
 have hk0:okK (m0 b):=hb.2
 have hk1:okK (nxM (m0 b)):=hb.2
 have hj:=nxK hk0 (j:=6) (by decide)
 obtain⟨t,l,e1,a⟩:=bl_q (fun m=>st_q 2 (Nat.le_refl _) s m) (1+nxV 6 (m0 b)).toNat (txH s) (nxM (m0 b)) hk1 (by show _≤(25:Int);omega) (by show (25:Int)≤25;omega) (by omega)
 have hn:(nxM (m0 b)).n=25:=rfl
 have x2:=a.x2
 have ln:=a.ln
 have hlne:l≠[]:=by
  rintro rfl
  have:=a.e
  simp only[List.length_nil]at this
  omega
 have x0:xk 2=11:=rfl
 rw[hn]at x2 ln
 have hc:ctB l≤41:=by rcases x2 (by decide) with h|h<;>omega
 have hl:=ph_le (n:=25-(ctB l:Int)) (by omega)
 have hH:=txH_len s
 have e2:(txB s b).1=txH s++t:=e1
 have hkB:okK (txB s b).2:=by unfold okK;show ∀x∈(blkL _ _ _ _).2.b,_;rw[a.b];exact hb.2
 have key:∀(f:Cf) (u:List UInt8) (us:List Cs),f.name=(hdC s).1→f.ps=(hdC s).2.1→f.ls=(hdC s).2.2→f.body=l++us→wfB us→dpB us≤3→ctB us≤1→Lw u (tkB us)→u.length≤30→mkQ (((txH s++t)++u)++[125]) f:=by
  intro f u us f1 f2 f3 f4 w d c z lu
  refine⟨⟨by rw[f1];exact q1.o,by rw[f2];exact fun v hv=>(q2 v hv).o,by rw[f3];exact fun v hv=>(q3 v hv).o,by rw[f2];omega,by rw[f3];omega,by rw[f4];exact wfB_app _ _ a.w w,?_,?_⟩,?_,?_,?_,?_,by rw[f1];exact q1.l,by rw[f2];exact fun v hv=>(q2 v hv).l,by rw[f3];exact fun v hv=>(q3 v hv).l⟩
  ·rw[f4,dpB_app];have:=a.d;omega
  ·rw[f4,ctB_app];omega
  ·refine((((z0.wapp a.z).wapp z).wapp (lw_sg 125))).cast rfl ?_
   unfold Cf.tk
   rw[f1,f2,f3,f4,tkB_app];simp
  ·simp only[List.length_append,List.length_cons,List.length_nil];omega
  ·rw[f4,dpB_app];have:=a.d;omega
  ·rw[f4,ctB_app];omega
 unfold txT
 rw[e2]
 by_cases c0:(nxV 2 (txB s b).2==0)=true
 ·rw[if_pos c0]
  obtain⟨i,_⟩:=iv_q ((sm_nx (txB s b).2).ok hkB)
  refine⟨⟨(hdC s).1,(hdC s).2.1,(hdC s).2.2,l++[.ret (.var (ivT' (nxM (txB s b).2)).1)]⟩,?_,rfl,by simp⟩
  have:=key ⟨(hdC s).1,(hdC s).2.1,(hdC s).2.2,l++[.ret (.var (ivT' (nxM (txB s b).2)).1)]⟩ (([114,101,116,117,114,110,32]++(ivT' (nxM (txB s b).2)).1)++[59,32]) [.ret (.var (ivT' (nxM (txB s b).2)).1)] rfl rfl rfl rfl ⟨⟨i.o.1,i.o.2⟩,trivial⟩ (by simp[dpB,Cs.dp,Cx.dp]) (by simp[ctB,Cs.ct]) (((lw_rt.wapp i.z).app lw_se (pS_c _ _)).cast rfl (by simp[tkB,Cs.tk,Cx.tk])) (by have:=i.l;simp only[List.length_append,List.length_cons,List.length_nil];omega)
  simpa using this
 ·rw[if_neg c0]
  refine⟨⟨(hdC s).1,(hdC s).2.1,(hdC s).2.2,l⟩,?_,rfl,hlne⟩
  have:=key ⟨(hdC s).1,(hdC s).2.1,(hdC s).2.2,l⟩ [] [] rfl rfl rfl (by simp) trivial (Nat.zero_le _) (Nat.zero_le _) Lp.nil (Nat.zero_le _)
  simpa using this
theorem mk_q {s:Int} (hs:0≤s) {b:List Int} (hb:okY b):∃f,mkQ (txT s b) f∧f.name=(hdC s).1:=by
 obtain⟨f,a,n,_⟩:=mk_q1 hs hb
 exact⟨f,a,n⟩
theorem mk_ne {s:Int} (hs:0≤s) {b:List Int} (hb:okY b):(funF (txT s b)).2.2=0∧(funF (txT s b)).1.body≠[]:=by
 obtain⟨f,a,_,n⟩:=mk_q1 hs hb
 obtain⟨T,e1,e2⟩:=rx_all a.z a.l
 rw[cf_fun a.ok e1 e2]
 refine⟨rfl,?_⟩
 show vB 0 f.body≠[]
 intro h
 cases hb:f.body with
 |nil=>exact n hb
 |cons x l=>rw[hb]at h;cases h
end Go.Proofs.YtodppgiaimihfabGreatDoor
namespace Go.Proofs.YtodppgiaimihfabGreatDoor
open Go Go.Sy Go.RowKit
theorem rg_lenA (a b:Int):(rg a b).length=(b-a).toNat:=by simp[rg]
theorem nu_ok (s:List UInt8):okNu (funF s).1.body 0∧((alB (funF s).1.body).length:Int)≤4096:=by
 obtain⟨⟨b,h1,h2,h3⟩,_⟩:=funF_al s
 have h4:(((alB (funF s).1.body).length:Nat):Int)=b:=by rw[h1,rg_lenA];omega
 refine⟨⟨?_,Int.le_refl _,by omega⟩,by omega⟩
 rw[h4,h1];simp
theorem nu_pos {s:Int} (hs:0≤s) {b:List Int} (hb:okY b):decide ((1:Int)≤0+((alB (funF (txT s b)).1.body).length:Int))=true:=by
 have h:=(mk_ne hs hb).2
 have h2:=alB_len (funF (txT s b)).1.body
 have h3:1≤(funF (txT s b)).1.body.length:=by
  cases e:(funF (txT s b)).1.body with
  |nil=>exact absurd e h
  |cons x l=>simp
 rw[decide_eq_true_eq];omega
theorem mk_sm {s:Int} (hs:0≤s) {b:List Int} (hb:okY b):smallB (txT s b):=by
 obtain⟨f,a,_⟩:=mk_q hs hb
 unfold smallB
 have:=a.l
 omega
abbrev yc_ParseNumbers (k:Int) (b:List Int):Prop:=b.length≤maxLen∧∀x∈b,0≤x∧x<256
abbrev yr_ParseNumbers (k:Int) (b:List Int):SV:=.one (.v (.bool true))
noncomputable abbrev ya_ParseNumbers:ArgC ((Int)×(List Int)×Unit):=(acS (cInt .i64) (acS (cBy) ac0))
abbrev yq_ParseNumbers:Prop:=CallsY Tryz.prog 3 ya_ParseNumbers (fun p:(Int)×(List Int)×Unit=>yc_ParseNumbers p.1 p.2.1) (fun p:(Int)×(List Int)×Unit=>yr_ParseNumbers p.1 p.2.1)
attribute [local go_sem] Fn.c cBy_d' cBy_e cSs_d cSs_e pairN_o pairO_n rBy_e rBy_z spFn_n yg_numbers yp_Place yp_Text yp_known7 yp_qFunc yr_Place yr_Text yr_known7 zBy_ln
set_option maxRecDepth 20000 in set_option maxHeartbeats 8000000 in
theorem y_ParseNumbers:yq_ParseNumbers:=by
 rintro ⟨k,b,_u⟩ w fz xs hc hfz hl hx
 refine calls_toL Tryz.func3 rfl w fz [yp_known7,yp_Place,yp_Text,yp_qFunc,(yg_numbers (ndL (funF (txT (plF k) b)).1.body+1) (y_numbers _))] [] ya_ParseNumbers (fun p:(Int)×(List Int)×Unit=>yr_ParseNumbers p.1 p.2.1) _ xs hfz hl hx (Nat.le_of_ble_eq_true rfl) ?_
 clear hx hl hfz xs
 simp only[Tryz.f3]
 obtain⟨hbl,hby⟩:=hc
 dsimp only at hbl hby
 cases c1:decide ((200:Int)<(b.length:Int)) with
 |true=>
  simp only[↓eB,seval,go_sem,c1]
  try simp only[impB,impN]
  repeat' first|exact ck|with_reducible apply And.intro|intro _
  all_goals first|exact trivial|(rename_i h;first|exact oI h|exact nah h)|(rename_i _ h _ g;exact sL h g)|decide|omega|(refine ret_with [] ?_;simp only[↓eB,seval,go_sem,bne,yr_ParseNumbers])
 |false=>
 have hb2:=of_decide_eq_false c1
 have p0:=plF_in k
 have g1:okY b:=⟨by omega,hby⟩
 have g2:0≤plF k:=p0.1
 have hs:=mk_sm g2 g1
 have he:=(mk_ne g2 g1).1
 have hN:=(nu_ok (txT (plF k) b)).1
 have hp:=nu_pos g2 g1
 have hN1:=hN.1
 have q1:yc_numbers (ndL (funF (txT (plF k) b)).1.body+1) (funF (txT (plF k) b)).1.body 0:=⟨Nat.lt_succ_self _,hN⟩
 simp only[↓eB,seval,go_sem,c1,he,hp]
 try simp only[impB,impN]
 repeat' first|exact ck|with_reducible apply And.intro|intro _
 all_goals first|exact g1|exact g2|exact hs|exact q1|exact hN1|(rename_i h;first|exact oI h|exact nah h)|(rename_i _ h _ g;exact sL h g)|decide|omega|(refine ret_with [] ?_;simp only[↓eB,seval,go_sem,bne,yr_ParseNumbers])
end Go.Proofs.YtodppgiaimihfabGreatDoor
namespace Go.Proofs.YtodppgiaimihfabGreatDoor
open Go Go.Sy Go.RowKit Go.ChangeShapes Go.WideShapes Go.ChangeAt
section
variable {H:Type} {enc:TypeId×Value→H} {W:World} {base:Nat} {v:Value} {d:DataW H} {p:List MemPlace}
theorem wf_byte {n:Int} (h:(Lit.int .u8 n).wf=true):0≤n∧n<256:=by
 have:=bounds_u8 h;omega
theorem opn_bytes:Opn enc Tryz.prog W 22 (fun l:List Int=>[.sl zBy (l.map byD)]) (fun l=>l.length≤maxLen∧∀x∈l,0≤x∧x<256):=by
 intro fuel
 cases fuel with
 |zero=>exact opnF_zero
 |succ n=>exact opnF_map id _ _ (opnF_slice Tryz.underlying22 zBy (by kernel_rfl) (by decide) (opnF_int Tryz.underlying5)) (fun _=>rfl) (fun _ h=>⟨h.1,fun x hx=>wf_byte (h.2 x hx)⟩)
set_option maxRecDepth 100000 in
theorem open_bytes (hv:Value.okWide Tryz.prog W .any base 22 v) (h:DataW.Trod enc Tryz.prog W 0 (fun _=>true) true 22 v d p) :
  ∃a:List Int,(a.length≤maxLen∧∀x∈a,0≤x∧x<256)∧CD (hp W) (fun b=>b<W.heap.size) (.one (.d (.sl zBy (a.map byD)))) v:=
 open_one (r:=.any) (base:=base) (f:=fun l:List Int=>.sl zBy (l.map byD)) (okWide_sl Tryz.underlying22 hv) h opn_bytes
end
end Go.Proofs.YtodppgiaimihfabGreatDoor
namespace Go.Proofs.YtodppgiaimihfabGreatDoor
open Go Go.Sy Go.RowKit Go.ChangeShapes Go.WideShapes Go.ChangeAt
theorem to_plainLY {P:Program} {f:FuncId} {A:Type} {ac:ArgC A} {Cd:A→Prop} {F:A→SV} (h:CallsY P f ac Cd F) (a:A) (w:World) (hc:Cd a) (vals:List Value) (val:Value) (hl:vals.length=(ac.e a).length)
  (h1:∀(j:Nat) (v:SV) (x:Value),(ac.e a)[j]?=some v→vals[j]?=some x→CD (hp w) (fun b=>b<w.heap.size) v x)
  (h2:clos (F a)=some val):Calls P f vals.toArray w (fun e w'=>e= .returned val∧Below w.heap.size w w'):=by
 refine(h a w (fun b=>b<w.heap.size) vals hc (fun _ h=>h) hl h1).mono ?_
 rintro e w' ⟨v,x,fz',rfl,rfl,g1,g2,g3,g4,g5,g6⟩
 rw[sd_clos g5 h2]
 exact⟨rfl,g6⟩
theorem c_ParseNumbers (k:Int) (_hk:(Lit.int .i64 k).wf=true) (b:List Int) (v:Value) (hb:b.length≤maxLen∧∀x∈b,0≤x∧x<256) (W:World) (hx:CD (hp W) (fun b=>b<W.heap.size) (.one (.d (.sl zBy (b.map byD)))) v) :
  Calls Tryz.prog 3 #[.int .i64 k,v] W (fun en W'=>en= .returned (.bool true)∧Below W.heap.size W W'):=by
 refine to_plainLY y_ParseNumbers (k,b,()) W hb [.int .i64 k,v] (.bool true) rfl ?_ rfl
 intro j u x h1 h2
 rcases j with _|_|j
 ·obtain rfl:Value.int .i64 k=x:=Option.some.inj h2
  obtain rfl:SV.one (.v (.int .i64 k))=u:=Option.some.inj h1
  exact sc_of (H:=fun _=>none) (c:=.v _) rfl (.v _ _ rfl)
 ·obtain rfl:v=x:=Option.some.inj h2
  obtain rfl:SV.one (.d (.sl zBy (b.map byD)))=u:=Option.some.inj h1
  exact hx
 ·exact absurd (show ([]:List Value)[j]?=some x from h2) (by simp)
end Go.Proofs.YtodppgiaimihfabGreatDoor
namespace Go.Proofs.YtodppgiaimihfabGreatDoor
open Go Go.RowKit Go.ChangeShapes Go.WideShapes Go.ChangeAt
theorem ownK:ownKnob Tryz.prog.godebug=none:=by kernel_rfl
theorem laidK:laidOutB Tryz.prog=true:=by kernel_rfl
theorem trodAll_below {H:Type} {enc:TypeId×Value→H} {P:Program} (hl:laidOutB P=true) {W W':World} (hb:Below W.heap.size W W'):∀(ts:List TypeId) (vs:List Value) (ds:List (DataW H)) (ps:List MemPlace),
  (∀t∈ts,P.readableRec t=true∧t<P.types.size)→DataW.TrodAll enc P W 0 (fun _=>true) true ts vs ds ps→(∀x∈ps,x.block<W.heap.size)→DataW.TrodAll enc P W' 0 (fun b=>decide (b<W.heap.size)) true ts vs ds ps
 |[],vs,ds,ps,_,h,_=>by
  obtain⟨rfl,rfl,rfl⟩:=trodAll_nil h
  exact trodAll_mk0
 |t::ts,vs,ds,ps,hts,h,hlt=>by
  obtain⟨v,vs',d,ds',p,q,rfl,rfl,rfl,h1,h2⟩:=trodAll_cons h
  have ht:=hts t (List.mem_cons_self ..)
  exact trodAll_cons_mk (Below.trod hl ht.1 ht.2 h1 hb fun x hx=>hlt x (List.mem_append_left _ hx))
   (trodAll_below hl hb ts vs' ds' q (fun t' ht'=>hts t' (List.mem_cons_of_mem _ ht')) h2 fun x hx=>hlt x (List.mem_append_right _ hx))
theorem law_post {H:Type} {enc:TypeId×Value→H} {f:Func} {s:ChangeSpec} {W W':World} {args:Array Value} {ds gs:List (DataW H)} {before:List MemPlace} (hW:DataW.Whole enc Tryz.prog f.params.toList s.vars false W args.toList ds gs before)
  (hv:s.vars=[]) (hr:f.resultTypes = #[4]) (hts:∀t∈f.params.toList,Tryz.prog.readableRec t=true∧t<Tryz.prog.types.size)
  (hf:gs=[]→(s.fn H (ds++gs)).results=[.lit (.bool true)]∧(s.fn H (ds++gs)).args=ds∧(s.fn H (ds++gs)).vars=[]) (hb:Below W.heap.size W W') :
  s.post enc Tryz.prog f false true false false W args (.bool true) W':=by
 have hlt:=hW.lt
 have hW0:=hW
 obtain⟨p,q,hA,hV,rfl,_,_⟩:=hW
 rw[hv]at hV
 obtain⟨rfl,rfl⟩:=trodVars_none hV
 obtain⟨f1,f2,f3⟩:=hf rfl
 refine⟨ds,[],p++[],[],p,[],hW0,?_,?_,?_,hb.frame _,fun h=>by cases h⟩
 ·rw[f1,hr]
  exact trodAll_cons_mk (shut_bool Tryz.underlying4 true) trodAll_mk0
 ·rw[f2]
  exact trodAll_below laidK hb _ _ _ _ hts hA fun x hx=>by simpa using hlt x (List.mem_append_left _ hx)
 ·rw[f3,hv];rfl
end Go.Proofs.YtodppgiaimihfabGreatDoor
