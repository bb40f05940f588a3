/- The maker's heads, arguments and conditions. No conditions but those in each statement. -/
import Derived.Test.YtlaggppdgoknjaaGreatDoorMk2
set_option linter.unusedVariables false
set_option linter.unusedSimpArgs false
namespace Go.Proofs.YtlaggppdgoknjaaGreatDoor
open Go Go.Sy Go.RowKit
theorem tn0:Int.toNat 0=0:=rfl
theorem tn1:Int.toNat 1=1:=rfl
theorem tn2:Int.toNat 2=2:=rfl
def hdS (s:Int):List UInt8:=hdT.getD (s.tmod 4).toNat []
def nmS (s:Int):List UInt8:=nmT.getD (s.tmod 4).toNat []
def cndB (s:Int) (m:Mk):T:=
 if (nxV 10 m==3)=true then ((pvT s (nxM m)).1++eqT.getD (nxV 2 (pvT s (nxM m)).2).toNat [],nxM (pvT s (nxM m)).2)
 else (((((ivT' (nxM m)).1++[32])++cmT.getD (nxV 6 (ivT' (nxM m)).2).toNat [])++[32])++(sumT 1 (nxM (ivT' (nxM m)).2)).1,(sumT 1 (nxM (ivT' (nxM m)).2)).2)
def condT:Nat→Int→Mk→T
 |0,s,m=>cndB s m
 |k+1,s,m=>
  if (nxV 10 m==0)=true then (([33,40]++(condT k s (nxM m)).1)++[41],(condT k s (nxM m)).2)
  else if (nxV 10 m==1)=true then (((condT k s (nxM m)).1++[32,38,38,32])++(cndB s (condT k s (nxM m)).2).1,(cndB s (condT k s (nxM m)).2).2)
  else if (nxV 10 m==2)=true then ((([40]++(condT k s (nxM m)).1)++[41,32,124,124,32])++(cndB s (condT k s (nxM m)).2).1,(cndB s (condT k s (nxM m)).2).2)
  else cndB s m
theorem cond0 (s:Int) (m:Mk):condT 0 s m=cndB s m:=rfl
theorem cnd_ax {s:Int} {m:Mk} (h:okM m 24):Ax m (cndB s m).2 24:=by
 have a1:=nx_ax (h.mono (by decide))
 have o1:okM (nxM m) 23:=a1.ok (h.mono (by decide))
 unfold cndB
 split
 ·have a2:=pv_ax (s:=s) (o1.mono (by decide))
  have a3:=nx_ax (a2.ok (o1.mono (by decide)):okM _ 1)
  exact((a1.trans a2).trans a3).mono (by decide)
 ·have a2:=iv_ax (o1.mono (by decide))
  have o2:okM (ivT' (nxM m)).2 22:=a2.ok (o1.mono (by decide))
  have a3:=nx_ax (o2.mono (by decide))
  have a4:=sum_ax 1 (a3.ok (o2.mono (by decide)):okM _ (4*(((1:Nat):Int)+1)))
  exact(((a1.trans a2).trans a3).trans a4).mono (by decide)
theorem cnd_len (s:Int) (m:Mk):(cndB s m).1.length≤140:=by
 have h1:=pv_len s (nxM m)
 have h2:=eqT_len (nxV 2 (pvT s (nxM m)).2).toNat
 have h3:=iv_len (nxM m)
 have h4:=cmT_len (nxV 6 (ivT' (nxM m)).2).toNat
 have h5:=sum_len 1 (nxM (ivT' (nxM m)).2)
 unfold cndB
 split<;>simp only[List.length_append,List.length_cons,List.length_nil]<;>omega
theorem cond_ax:∀(k:Nat) {s:Int} {m:Mk},okM m (25*(k:Int)+24)→Ax m (condT k s m).2 (25*(k:Int)+24)
 |0,s,m,h=>cnd_ax h
 |k+1,s,m,h=>by
  have a1:=nx_ax (h.mono (by omega))
  have o1:okM (nxM m) (25*(k:Int)+24+24):=a1.ok (h.mono (by omega))
  have a2:=cond_ax k (s:=s) (o1.mono (by omega))
  have a3:=cnd_ax (s:=s) (a2.ok (o1.mono (by omega)):okM _ 24)
  simp only[condT]
  split
  ·exact(a1.trans a2).mono (by omega)
  split
  ·exact((a1.trans a2).trans a3).mono (by omega)
  split
  ·exact((a1.trans a2).trans a3).mono (by omega)
  ·exact(cnd_ax (h.mono (by omega))).mono (by omega)
theorem cond_len:∀(k:Nat) (s:Int) (m:Mk),(condT k s m).1.length≤160*(k+1)
 |0,s,m=>by have:=cnd_len s m;simp only[condT];omega
 |k+1,s,m=>by
  have h1:=cond_len k s (nxM m)
  have h2:=cnd_len s (condT k s (nxM m)).2
  have h3:=cnd_len s m
  simp only[condT]
  repeat' split
  all_goals (try simp only[List.length_append,List.length_cons,List.length_nil])
  all_goals omega
def argT (t s:Int) (m:Mk):T:=
 if (t.tmod 4==0)=true then sumT 1 m
 else if (t.tmod 4==1)=true then (((sumT 0 m).1++[44,32])++(sumT 1 (sumT 0 m).2).1,(sumT 1 (sumT 0 m).2).2)
 else if (t.tmod 4==2)=true then pvT s m
 else (((sumT 0 m).1++[44,32])++(pvT s (sumT 0 m).2).1,(pvT s (sumT 0 m).2).2)
theorem arg_ax {t s:Int} {m:Mk} (h:okM m 12):Ax m (argT t s m).2 12:=by
 have a1:=sum_ax 0 (h.mono (by decide))
 have o1:okM (sumT 0 m).2 8:=a1.ok (h.mono (by decide))
 unfold argT
 split
 ·exact(sum_ax 1 (h.mono (by decide))).mono (by decide)
 split
 ·exact(a1.trans (sum_ax 1 (o1.mono (by decide)))).mono (by decide)
 split
 ·exact(pv_ax (h.mono (by decide))).mono (by decide)
 ·exact(a1.trans (pv_ax (o1.mono (by decide)))).mono (by decide)
theorem arg_len (t s:Int) (m:Mk):(argT t s m).1.length≤200:=by
 have h1:=sum_len 1 m
 have h2:=sum_len 0 m
 have h3:=sum_len 1 (sumT 0 m).2
 have h4:=pv_len s m
 have h5:=pv_len s (sumT 0 m).2
 unfold argT
 repeat' split
 all_goals (try simp only[List.length_append,List.length_cons,List.length_nil])
 all_goals omega
theorem tmod4 {s:Int} (h:0≤s):0≤s.tmod 4∧s.tmod 4<4:=⟨Int.tmod_nonneg 4 h,Int.tmod_lt_of_pos s (by decide)⟩
abbrev yc_head (s:Int):Prop:=0≤s
abbrev yr_head (s:Int):SV:=SV.one (.v (.string (bs (hdS s))))
attribute [local go_sem] Mk.c cdT_at cmT_at cond0 eqT_at hdT_at ivT_at mMk_d mMk_e mMk_z mk_eta nmT_at nqT_at numT_at opT_at tn0 tn1 tn2 tuT_at yg_ksum yp_ivar yp_next yp_num yp_pvar zBy
theorem y_head:CallsY Tryz.prog 13 (acS (cInt .i64) ac0) (fun p:(Int×Unit)=>yc_head p.1) (fun p:(Int×Unit)=>yr_head p.1):=by
 rintro ⟨s,_u⟩ w fz xs hc hfz hl hx
 refine calls_toL Tryz.func13 rfl w fz [] [] (acS (cInt .i64) ac0) (fun p:(Int×Unit)=>yr_head p.1) _ xs hfz hl hx (Nat.le_of_ble_eq_true rfl) ?_
 clear hx hl hfz xs
 simp only[Tryz.f13]
 have h0:0≤s:=hc
 have h1:=tmod4 h0
 simp only[↓eB,seval,go_sem]
 try simp only[impB,impN]
 repeat' first|exact ck|with_reducible apply And.intro|intro _
 all_goals first|exact h1|(rename_i h;first|exact oI h|exact nah h)|(rename_i _ h _ g;exact sL h g)|decide|omega|(refine ret_with [] ?_;simp only[↓eB,seval,go_sem,bne,yr_head,hdS])
theorem yn_head:∀p:(Int×Unit),((fun p:(Int×Unit)=>yr_head p.1) p).names=[]:=by intro p;first|rfl|simp[SV.names,C.names]
noncomputable def yp_head {X:Ctx} {w0:World}:Sy.Spec Tryz.prog X w0:=specD 13 Tryz.call13 (acS (cInt .i64) ac0) (fun p:(Int×Unit)=>yc_head p.1) (fun p:(Int×Unit)=>yr_head p.1) yn_head y_head
abbrev yc_Name (s:Int):Prop:=0≤s
abbrev yr_Name (s:Int):SV:=SV.one (.v (.string (bs (nmS s))))
theorem y_Name:CallsY Tryz.prog 40 (acS (cInt .i64) ac0) (fun p:(Int×Unit)=>yc_Name p.1) (fun p:(Int×Unit)=>yr_Name p.1):=by
 rintro ⟨s,_u⟩ w fz xs hc hfz hl hx
 refine calls_toL Tryz.func40 rfl w fz [] [] (acS (cInt .i64) ac0) (fun p:(Int×Unit)=>yr_Name p.1) _ xs hfz hl hx (Nat.le_of_ble_eq_true rfl) ?_
 clear hx hl hfz xs
 simp only[Tryz.f40]
 have h0:0≤s:=hc
 have h1:=tmod4 h0
 simp only[↓eB,seval,go_sem]
 try simp only[impB,impN]
 repeat' first|exact ck|with_reducible apply And.intro|intro _
 all_goals first|exact h1|(rename_i h;first|exact oI h|exact nah h)|(rename_i _ h _ g;exact sL h g)|decide|omega|(refine ret_with [] ?_;simp only[↓eB,seval,go_sem,bne,yr_Name,nmS])
theorem yn_Name:∀p:(Int×Unit),((fun p:(Int×Unit)=>yr_Name p.1) p).names=[]:=by intro p;first|rfl|simp[SV.names,C.names]
noncomputable def yp_Name {X:Ctx} {w0:World}:Sy.Spec Tryz.prog X w0:=specD 40 Tryz.call40 (acS (cInt .i64) ac0) (fun p:(Int×Unit)=>yc_Name p.1) (fun p:(Int×Unit)=>yr_Name p.1) yn_Name y_Name
abbrev yc_kargs (m:Mk) (t:Int) (s:Int):Prop:=okM m 12
abbrev yr_kargs (m:Mk) (t:Int) (s:Int):SV:=.one (.v (.string (bs (argT t s m).1)))
abbrev ym_kargs (m:Mk) (t:Int) (s:Int):List (Option MV):=[some (zMk,[(argT t s m).2.c])]
noncomputable abbrev ya_kargs:ArgM ((Mk)×(Int)×(Int)×Unit):=(amP (mMk) (amD (cInt .i64) (amD (cInt .i64) am0)))
abbrev yq_kargs:Prop:=CallsM Tryz.prog 41 ((ya_kargs).args 0) (ya_kargs).mem (fun p:(Mk)×(Int)×(Int)×Unit=>yc_kargs p.1 p.2.1 p.2.2.1) (fun p:(Mk)×(Int)×(Int)×Unit=>yr_kargs p.1 p.2.1 p.2.2.1) (fun p:(Mk)×(Int)×(Int)×Unit=>ym_kargs p.1 p.2.1 p.2.2.1)
theorem yl_kargs:∀p,(fun p:(Mk)×(Int)×(Int)×Unit=>yc_kargs p.1 p.2.1 p.2.2.1) p→lenM ((ya_kargs).mem p).length ((fun p:(Mk)×(Int)×(Int)×Unit=>ym_kargs p.1 p.2.1 p.2.2.1) p)=true:=by intro p _;rfl
theorem yo_kargs:∀p,(fun p:(Mk)×(Int)×(Int)×Unit=>yc_kargs p.1 p.2.1 p.2.2.1) p→outV ((fun p:(Mk)×(Int)×(Int)×Unit=>ym_kargs p.1 p.2.1 p.2.2.1) p).length ((fun p:(Mk)×(Int)×(Int)×Unit=>yr_kargs p.1 p.2.1 p.2.2.1) p)=true:=by intro p _;first|rfl|exact ex_out _ _|exact cd_out _ _|(simp[outV,outC,ex_out,cd_out];done)
theorem yn_kargs:∀p,(fun p:(Mk)×(Int)×(Int)×Unit=>yc_kargs p.1 p.2.1 p.2.2.1) p→∀q,some q∈(fun p:(Mk)×(Int)×(Int)×Unit=>ym_kargs p.1 p.2.1 p.2.2.1) p→∀r∈q.2,∀c∈r,c.names=[]:=by intro p _;exact mem_mk _
theorem y_kargs:yq_kargs:=by
 rintro ⟨m,t,s,_u⟩ w M I lab fz xs hc hA hl hx
 refine calls_toML Tryz.func41 rfl ((ya_kargs).mem ⟨m,t,s,_u⟩) w M I lab fz [yp_next,yp_pvar,(yg_ksum 3 (y_ksum 3))] [] ((ya_kargs).args 0 ⟨m,t,s,_u⟩) ((fun p:(Mk)×(Int)×(Int)×Unit=>ym_kargs p.1 p.2.1 p.2.2.1) ⟨m,t,s,_u⟩) ((fun p:(Mk)×(Int)×(Int)×Unit=>yr_kargs p.1 p.2.1 p.2.2.1) ⟨m,t,s,_u⟩) xs hA hl hx (fun v hv k hk=>by have:=(ya_kargs).an 0 ⟨m,t,s,_u⟩ v hv k hk;omega) (Nat.le_of_ble_eq_true rfl) (Nat.le_of_ble_eq_true rfl) ?_
 clear hx hl hA xs
 simp only[Tryz.f41]
 have o0:okM m 12:=hc
 have a1:=sum_ax 0 (okM.mono o0 (by decide))
 have o1:okM (sumT 0 m).2 8:=a1.ok (okM.mono o0 (by decide))
 have l1:=sum_len 0 m
 have l2:=sum_len 1 (sumT 0 m).2
 have l3:=pv_len s (sumT 0 m).2
 cases t0:(t.tmod 4==0) with
 |true=>
  have hr:argT t s m=sumT 1 m:=by unfold argT;rw[if_pos t0]
  simp only[↓eB,seval,go_sem,t0]
  try simp only[impB,impN]
  repeat' first|exact ck|with_reducible apply And.intro|intro _
  all_goals first|exact okM.mono o0 (by omega)|(simp only[List.length_append,List.length_cons,List.length_nil]at *;omega)|(rename_i h;first|exact oI h|exact nah h)|(rename_i _ h _ g;exact sL h g)|decide|omega|(refine ret_with [] ?_;simp only[↓eB,seval,go_sem,bne,yr_kargs,ym_kargs,hr])
 |false=>
 cases t1:(t.tmod 4==1) with
 |true=>
  have hr:argT t s m=(((sumT 0 m).1++[44,32])++(sumT 1 (sumT 0 m).2).1,(sumT 1 (sumT 0 m).2).2):=by unfold argT;rw[if_neg (by rw[t0];decide),if_pos t1]
  simp only[↓eB,seval,go_sem,t0,t1]
  try simp only[impB,impN]
  repeat' first|exact ck|with_reducible apply And.intro|intro _
  all_goals first|exact okM.mono o0 (by omega)|exact okM.mono o1 (by omega)|(simp only[List.length_append,List.length_cons,List.length_nil]at *;omega)|(rename_i h;first|exact oI h|exact nah h)|(rename_i _ h _ g;exact sL h g)|decide|omega|(refine ret_with [] ?_;simp only[↓eB,seval,go_sem,bne,yr_kargs,ym_kargs,hr])
 |false=>
 cases t2:(t.tmod 4==2) with
 |true=>
  have hr:argT t s m=pvT s m:=by unfold argT;rw[if_neg (by rw[t0];decide),if_neg (by rw[t1];decide),if_pos t2]
  simp only[↓eB,seval,go_sem,t0,t1,t2]
  try simp only[impB,impN]
  repeat' first|exact ck|with_reducible apply And.intro|intro _
  all_goals first|exact okM.mono o0 (by omega)|(simp only[List.length_append,List.length_cons,List.length_nil]at *;omega)|(rename_i h;first|exact oI h|exact nah h)|(rename_i _ h _ g;exact sL h g)|decide|omega|(refine ret_with [] ?_;simp only[↓eB,seval,go_sem,bne,yr_kargs,ym_kargs,hr])
 |false=>
  have hr:argT t s m=(((sumT 0 m).1++[44,32])++(pvT s (sumT 0 m).2).1,(pvT s (sumT 0 m).2).2):=by unfold argT;rw[if_neg (by rw[t0];decide),if_neg (by rw[t1];decide),if_neg (by rw[t2];decide)]
  simp only[↓eB,seval,go_sem,t0,t1,t2]
  try simp only[impB,impN]
  repeat' first|exact ck|with_reducible apply And.intro|intro _
  all_goals first|exact okM.mono o0 (by omega)|exact okM.mono o1 (by omega)|(simp only[List.length_append,List.length_cons,List.length_nil]at *;omega)|(rename_i h;first|exact oI h|exact nah h)|(rename_i _ h _ g;exact sL h g)|decide|omega|(refine ret_with [] ?_;simp only[↓eB,seval,go_sem,bne,yr_kargs,ym_kargs,hr])
noncomputable def yp_kargs {X:Ctx} {w0:World}:Sy.Spec Tryz.prog X w0:=specM 41 Tryz.call41 (ya_kargs) (fun p:(Mk)×(Int)×(Int)×Unit=>yc_kargs p.1 p.2.1 p.2.2.1) (fun p:(Mk)×(Int)×(Int)×Unit=>yr_kargs p.1 p.2.1 p.2.2.1) (fun p:(Mk)×(Int)×(Int)×Unit=>ym_kargs p.1 p.2.1 p.2.2.1) yl_kargs yo_kargs yn_kargs y_kargs
abbrev yc_kcond (n:Nat) (m:Mk) (s:Int) (d:Int):Prop:=okM m (25*d+24)∧0≤d∧d<(n:Int)∧d≤4
abbrev yr_kcond (n:Nat) (m:Mk) (s:Int) (d:Int):SV:=.one (.v (.string (bs (condT d.toNat s m).1)))
abbrev ym_kcond (n:Nat) (m:Mk) (s:Int) (d:Int):List (Option MV):=[some (zMk,[(condT d.toNat s m).2.c])]
noncomputable abbrev ya_kcond:ArgM ((Mk)×(Int)×(Int)×Unit):=(amP (mMk) (amD (cInt .i64) (amD (cInt .i64) am0)))
abbrev yq_kcond (n:Nat):Prop:=CallsM Tryz.prog 42 ((ya_kcond).args 0) (ya_kcond).mem (fun p:(Mk)×(Int)×(Int)×Unit=>yc_kcond n p.1 p.2.1 p.2.2.1) (fun p:(Mk)×(Int)×(Int)×Unit=>yr_kcond n p.1 p.2.1 p.2.2.1) (fun p:(Mk)×(Int)×(Int)×Unit=>ym_kcond n p.1 p.2.1 p.2.2.1)
theorem yl_kcond (n:Nat):∀p,(fun p:(Mk)×(Int)×(Int)×Unit=>yc_kcond n p.1 p.2.1 p.2.2.1) p→lenM ((ya_kcond).mem p).length ((fun p:(Mk)×(Int)×(Int)×Unit=>ym_kcond n p.1 p.2.1 p.2.2.1) p)=true:=by intro p _;rfl
theorem yo_kcond (n:Nat):∀p,(fun p:(Mk)×(Int)×(Int)×Unit=>yc_kcond n p.1 p.2.1 p.2.2.1) p→outV ((fun p:(Mk)×(Int)×(Int)×Unit=>ym_kcond n p.1 p.2.1 p.2.2.1) p).length ((fun p:(Mk)×(Int)×(Int)×Unit=>yr_kcond n p.1 p.2.1 p.2.2.1) p)=true:=by intro p _;first|rfl|exact ex_out _ _|exact cd_out _ _|(simp[outV,outC,ex_out,cd_out];done)
theorem yn_kcond (n:Nat):∀p,(fun p:(Mk)×(Int)×(Int)×Unit=>yc_kcond n p.1 p.2.1 p.2.2.1) p→∀q,some q∈(fun p:(Mk)×(Int)×(Int)×Unit=>ym_kcond n p.1 p.2.1 p.2.2.1) p→∀r∈q.2,∀c∈r,c.names=[]:=by intro p _;exact mem_mk _
noncomputable def yg_kcond {X:Ctx} {w0:World} (n:Nat) (h:yq_kcond n):Sy.Spec Tryz.prog X w0:=specM 42 Tryz.call42 (ya_kcond) (fun p:(Mk)×(Int)×(Int)×Unit=>yc_kcond n p.1 p.2.1 p.2.2.1) (fun p:(Mk)×(Int)×(Int)×Unit=>yr_kcond n p.1 p.2.1 p.2.2.1) (fun p:(Mk)×(Int)×(Int)×Unit=>ym_kcond n p.1 p.2.1 p.2.2.1) (yl_kcond n) (yo_kcond n) (yn_kcond n) h
set_option maxRecDepth 20000 in set_option maxHeartbeats 8000000 in
theorem y_kcondS (n:Nat) (hu:yq_kcond n):yq_kcond (n+1):=by
 rintro ⟨m,s,d,_u⟩ w M I lab fz xs hc hA hl hx
 refine calls_toML Tryz.func42 rfl ((ya_kcond).mem ⟨m,s,d,_u⟩) w M I lab fz [yp_next,yp_ivar,yp_pvar,(yg_ksum 3 (y_ksum 3)),(yg_kcond n hu)] [] ((ya_kcond).args 0 ⟨m,s,d,_u⟩) ((fun p:(Mk)×(Int)×(Int)×Unit=>ym_kcond (n+1) p.1 p.2.1 p.2.2.1) ⟨m,s,d,_u⟩) ((fun p:(Mk)×(Int)×(Int)×Unit=>yr_kcond (n+1) p.1 p.2.1 p.2.2.1) ⟨m,s,d,_u⟩) xs hA hl hx (fun v hv k hk=>by have:=(ya_kcond).an 0 ⟨m,s,d,_u⟩ v hv k hk;omega) (Nat.le_of_ble_eq_true rfl) (Nat.le_of_ble_eq_true rfl) ?_
 clear hx hl hA xs
 simp only[Tryz.f42]
 obtain⟨o0,g0,g1,g2⟩:=hc
 dsimp only at o0 g0 g1 g2
 have a1:Ax m (nxM m) 1:=nx_ax (okM.mono o0 (by omega))
 have o1:okM (nxM m) (25*d+23):=a1.ok (okM.mono o0 (by omega))
 cases hd0:decide (0<d) with
 |false=>
  have hb:condT d.toNat s m=cndB s m:=by
   have h:d.toNat=0:=by (have:=of_decide_eq_false hd0;omega)
   rw[h];rfl
  have a2:=pv_ax (s:=s) (okM.mono o1 (by omega):okM _ 1)
  have o2:okM (pvT s (nxM m)).2 1:=a2.ok (okM.mono o1 (by omega))
  have b2:=iv_ax (okM.mono o1 (by omega):okM _ 1)
  have r2:okM (ivT' (nxM m)).2 9:=b2.ok (okM.mono o1 (by omega))
  have b3:=nx_ax (okM.mono r2 (by omega):okM _ 1)
  have r3:okM (nxM (ivT' (nxM m)).2) 8:=b3.ok (okM.mono r2 (by omega))
  have l1:=pv_len s (nxM m)
  have l2:=eqT_len (nxV 2 (pvT s (nxM m)).2).toNat
  have l3:=iv_len (nxM m)
  have l4:=cmT_len (nxV 6 (ivT' (nxM m)).2).toNat
  have l5:=sum_len 1 (nxM (ivT' (nxM m)).2)
  have q2:=nxV_in (j:=2) o2 (by decide)
  have q6:=nxV_in (j:=6) r2 (by decide)
  cases e3:(nxV 10 m==3) with
  |true=>
   have hr:condT d.toNat s m=((pvT s (nxM m)).1++eqT.getD (nxV 2 (pvT s (nxM m)).2).toNat [],nxM (pvT s (nxM m)).2):=by rw[hb];unfold cndB;rw[if_pos e3]
   simp only[↓eB,seval,go_sem,yg_kcond,hd0,e3]
   try simp only[impB,impN]
   repeat' first|exact ck|with_reducible apply And.intro|intro _
   all_goals first|exact okM.mono o0 (by omega)|exact okM.mono o1 (by omega)|exact okM.mono o2 (by omega)|exact q2|(simp only[List.length_append,List.length_cons,List.length_nil]at *;omega)|(rename_i h;first|exact oI h|exact nah h)|(rename_i _ h _ g;exact sL h g)|decide|omega|(refine ret_with [] ?_;simp only[↓eB,seval,go_sem,bne,yr_kcond,ym_kcond,hr])
  |false=>
   have hr:condT d.toNat s m=(((((ivT' (nxM m)).1++[32])++cmT.getD (nxV 6 (ivT' (nxM m)).2).toNat [])++[32])++(sumT 1 (nxM (ivT' (nxM m)).2)).1,(sumT 1 (nxM (ivT' (nxM m)).2)).2):=by rw[hb];unfold cndB;rw[if_neg (by rw[e3];decide)]
   simp only[↓eB,seval,go_sem,yg_kcond,hd0,e3]
   try simp only[impB,impN]
   repeat' first|exact ck|with_reducible apply And.intro|intro _
   all_goals first|exact okM.mono o0 (by omega)|exact okM.mono o1 (by omega)|exact okM.mono r2 (by omega)|exact okM.mono r3 (by omega)|exact q6|(simp only[List.length_append,List.length_cons,List.length_nil]at *;omega)|(rename_i h;first|exact oI h|exact nah h)|(rename_i _ h _ g;exact sL h g)|decide|omega|(refine ret_with [] ?_;simp only[↓eB,seval,go_sem,bne,yr_kcond,ym_kcond,hr])
 |true=>
  obtain⟨k,hk⟩:∃k:Nat,d.toNat=k+1:=⟨d.toNat-1,by have:=of_decide_eq_true hd0;omega⟩
  obtain⟨d',hd'⟩:∃d':Int,d'=d-1:=⟨_,rfl⟩
  have hk':d'.toNat=k:=by omega
  have hdw:IntKind.i64.wrap (d-1)=d':=by rw[hd'];exact wrap_i64 (by omega) (by omega)
  have hdk:(k:Int)=d':=by have:=of_decide_eq_true hd0;omega
  have p0:0≤d':=by omega
  have p1:d'<(n:Int):=by omega
  have p2:d'≤4:=by omega
  have p3:(0:Int)<(n:Int):=by omega
  have e9:condT d.toNat s m=condT (k+1) s m:=by rw[hk]
  have o1':okM (nxM m) (25*d'+24):=okM.mono o1 (by omega)
  have a2:Ax (nxM m) (condT k s (nxM m)).2 (25*d'+24):=by have h:=cond_ax k (s:=s) (m:=nxM m) (by rw[hdk];exact o1');rw[hdk]at h;exact h
  have o2:okM (condT k s (nxM m)).2 24:=a2.ok (okM.mono o1 (by omega))
  have l1:=cond_len k s (nxM m)
  have l2:=cnd_len s (condT k s (nxM m)).2
  have hkb:k≤4:=by omega
  cases e0:(nxV 10 m==0) with
  |true=>
   have hr:condT d.toNat s m=(([33,40]++(condT k s (nxM m)).1)++[41],(condT k s (nxM m)).2):=by rw[e9];simp only[condT];rw[if_pos e0]
   simp only[↓eB,seval,go_sem,yg_kcond,hd0,e0,hdw,hk']
   try simp only[impB,impN]
   repeat' first|exact ck|with_reducible apply And.intro|intro _
   all_goals first|exact okM.mono o0 (by omega)|exact okM.mono o1' (by omega)|exact okM.mono o2 (by omega)|exact p0|exact p1|exact p2|exact p3|(simp only[List.length_append,List.length_cons,List.length_nil]at *;omega)|(rename_i h;first|exact oI h|exact nah h)|(rename_i _ h _ g;exact sL h g)|decide|omega|(refine ret_with [] ?_;simp only[↓eB,seval,go_sem,bne,yr_kcond,ym_kcond,hr])
  |false=>
  cases e1:(nxV 10 m==1) with
  |true=>
   have hr:condT d.toNat s m=(((condT k s (nxM m)).1++[32,38,38,32])++(cndB s (condT k s (nxM m)).2).1,(cndB s (condT k s (nxM m)).2).2):=by rw[e9];simp only[condT];rw[if_neg (by rw[e0];decide),if_pos e1]
   simp only[↓eB,seval,go_sem,yg_kcond,hd0,e0,e1,hdw,hk']
   try simp only[impB,impN]
   repeat' first|exact ck|with_reducible apply And.intro|intro _
   all_goals first|exact okM.mono o0 (by omega)|exact okM.mono o1' (by omega)|exact okM.mono o2 (by omega)|exact p0|exact p1|exact p2|exact p3|(simp only[List.length_append,List.length_cons,List.length_nil]at *;omega)|(rename_i h;first|exact oI h|exact nah h)|(rename_i _ h _ g;exact sL h g)|decide|omega|(refine ret_with [] ?_;simp only[↓eB,seval,go_sem,bne,yr_kcond,ym_kcond,hr])
  |false=>
  cases e2:(nxV 10 m==2) with
  |true=>
   have hr:condT d.toNat s m=((([40]++(condT k s (nxM m)).1)++[41,32,124,124,32])++(cndB s (condT k s (nxM m)).2).1,(cndB s (condT k s (nxM m)).2).2):=by rw[e9];simp only[condT];rw[if_neg (by rw[e0];decide),if_neg (by rw[e1];decide),if_pos e2]
   simp only[↓eB,seval,go_sem,yg_kcond,hd0,e0,e1,e2,hdw,hk']
   try simp only[impB,impN]
   repeat' first|exact ck|with_reducible apply And.intro|intro _
   all_goals first|exact okM.mono o0 (by omega)|exact okM.mono o1' (by omega)|exact okM.mono o2 (by omega)|exact p0|exact p1|exact p2|exact p3|(simp only[List.length_append,List.length_cons,List.length_nil]at *;omega)|(rename_i h;first|exact oI h|exact nah h)|(rename_i _ h _ g;exact sL h g)|decide|omega|(refine ret_with [] ?_;simp only[↓eB,seval,go_sem,bne,yr_kcond,ym_kcond,hr])
  |false=>
  have hb:condT d.toNat s m=cndB s m:=by rw[e9];simp only[condT];rw[if_neg (by rw[e0];decide),if_neg (by rw[e1];decide),if_neg (by rw[e2];decide)]
  clear a2 o2 l1 l2
  have a2:=pv_ax (s:=s) (okM.mono o1 (by omega):okM _ 1)
  have o2:okM (pvT s (nxM m)).2 1:=a2.ok (okM.mono o1 (by omega))
  have b2:=iv_ax (okM.mono o1 (by omega):okM _ 1)
  have r2:okM (ivT' (nxM m)).2 9:=b2.ok (okM.mono o1 (by omega))
  have b3:=nx_ax (okM.mono r2 (by omega):okM _ 1)
  have r3:okM (nxM (ivT' (nxM m)).2) 8:=b3.ok (okM.mono r2 (by omega))
  have l1:=pv_len s (nxM m)
  have l2:=eqT_len (nxV 2 (pvT s (nxM m)).2).toNat
  have l3:=iv_len (nxM m)
  have l4:=cmT_len (nxV 6 (ivT' (nxM m)).2).toNat
  have l5:=sum_len 1 (nxM (ivT' (nxM m)).2)
  have q2:=nxV_in (j:=2) o2 (by decide)
  have q6:=nxV_in (j:=6) r2 (by decide)
  cases e3:(nxV 10 m==3) with
  |true=>
   have hr:condT d.toNat s m=((pvT s (nxM m)).1++eqT.getD (nxV 2 (pvT s (nxM m)).2).toNat [],nxM (pvT s (nxM m)).2):=by rw[hb];unfold cndB;rw[if_pos e3]
   simp only[↓eB,seval,go_sem,yg_kcond,hd0,e0,e1,e2,e3]
   try simp only[impB,impN]
   repeat' first|exact ck|with_reducible apply And.intro|intro _
   all_goals first|exact okM.mono o0 (by omega)|exact okM.mono o1 (by omega)|exact okM.mono o2 (by omega)|exact q2|(simp only[List.length_append,List.length_cons,List.length_nil]at *;omega)|(rename_i h;first|exact oI h|exact nah h)|(rename_i _ h _ g;exact sL h g)|decide|omega|(refine ret_with [] ?_;simp only[↓eB,seval,go_sem,bne,yr_kcond,ym_kcond,hr])
  |false=>
   have hr:condT d.toNat s m=(((((ivT' (nxM m)).1++[32])++cmT.getD (nxV 6 (ivT' (nxM m)).2).toNat [])++[32])++(sumT 1 (nxM (ivT' (nxM m)).2)).1,(sumT 1 (nxM (ivT' (nxM m)).2)).2):=by rw[hb];unfold cndB;rw[if_neg (by rw[e3];decide)]
   simp only[↓eB,seval,go_sem,yg_kcond,hd0,e0,e1,e2,e3]
   try simp only[impB,impN]
   repeat' first|exact ck|with_reducible apply And.intro|intro _
   all_goals first|exact okM.mono o0 (by omega)|exact okM.mono o1 (by omega)|exact okM.mono r2 (by omega)|exact okM.mono r3 (by omega)|exact q6|(simp only[List.length_append,List.length_cons,List.length_nil]at *;omega)|(rename_i h;first|exact oI h|exact nah h)|(rename_i _ h _ g;exact sL h g)|decide|omega|(refine ret_with [] ?_;simp only[↓eB,seval,go_sem,bne,yr_kcond,ym_kcond,hr])
theorem y_kcond:∀n:Nat,yq_kcond n
 |0=>by
  rintro ⟨m,s,d,_u⟩ w M I lab fz xs hc hA hl hx
  exact absurd hc.2.2.1 (by have:=hc.2.1;dsimp only at this ⊢;omega)
 |n+1=>y_kcondS n (y_kcond n)
end Go.Proofs.YtlaggppdgoknjaaGreatDoor
