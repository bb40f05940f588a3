/- The maker's sums and conditions. No conditions but those in each statement. -/
import Derived.Test.YtlaggppdgoknjaaGreatDoorMk1
set_option linter.unusedVariables false
set_option linter.unusedSimpArgs false
namespace Go.Proofs.YtlaggppdgoknjaaGreatDoor
open Go Go.Sy Go.RowKit
theorem nu_ax {m:Mk} (h:okM m 1):Ax m (nuT m).2 1:=nx_ax h
theorem iv_ax {m:Mk} (h:okM m 1):Ax m (ivT' m).2 1:=nx_ax h
theorem pv_ax {s:Int} {m:Mk} (h:okM m 1):Ax m (pvT s m).2 1:=by
 unfold pvT
 split
 ·split<;>exact nx_ax h
 ·exact(Ax.refl m).mono (by decide)
theorem nu_len (m:Mk):(nuT m).1.length≤19:=numT_len _
theorem iv_len (m:Mk):(ivT' m).1.length≤1:=ivT_len _
theorem pv_len (s:Int) (m:Mk):(pvT s m).1.length≤1:=by
 unfold pvT
 split
 ·split<;>exact Nat.le_refl _
 ·exact Nat.le_refl _
def sumT:Nat→Mk→T
 |0,m=>if decide (nxV 12 m<7)=true then nuT (nxM m) else ivT' (nxM m)
 |k+1,m=>
  if decide (nxV 12 m<3)=true then nuT (nxM m)
  else if decide (nxV 12 m<6)=true then ivT' (nxM m)
  else if (nxV 12 m==6)=true then ([45]++(ivT' (nxM m)).1,(ivT' (nxM m)).2)
  else if (nxV 12 m==11)=true then (([40]++(sumT k (nxM m)).1)++[41,32,45,32]++(ivT' (sumT k (nxM m)).2).1,(ivT' (sumT k (nxM m)).2).2)
  else ((((((sumT k (nxM m)).1++[32])++opT.getD (nxV 5 (sumT k (nxM m)).2).toNat [])++[32])++(ivT' (nxM (sumT k (nxM m)).2)).1),(ivT' (nxM (sumT k (nxM m)).2)).2)
theorem sum_ax:∀(k:Nat) {m:Mk},okM m (4*((k:Int)+1))→Ax m (sumT k m).2 (4*((k:Int)+1))
 |0,m,h=>by
  have a1:=nx_ax (h.mono (by decide))
  have o1:okM (nxM m) 1:=a1.ok (h.mono (by decide))
  simp only[sumT]
  split
  ·exact(a1.trans (nu_ax o1)).mono (by decide)
  ·exact(a1.trans (iv_ax o1)).mono (by decide)
 |k+1,m,h=>by
  have a1:=nx_ax (h.mono (by omega))
  have o1:okM (nxM m) (4*((k:Int)+1)+2):=a1.ok (h.mono (by omega))
  have a2:=sum_ax k (o1.mono (by omega))
  have o2:okM (sumT k (nxM m)).2 2:=a2.ok (o1.mono (by omega))
  simp only[sumT]
  split
  ·exact(a1.trans (nu_ax (o1.mono (by omega)))).mono (by omega)
  split
  ·exact(a1.trans (iv_ax (o1.mono (by omega)))).mono (by omega)
  split
  ·exact(a1.trans (iv_ax (o1.mono (by omega)))).mono (by omega)
  split
  ·exact((a1.trans a2).trans (iv_ax (o2.mono (by omega)))).mono (by omega)
  ·have a3:=nx_ax (o2.mono (by omega))
   exact(((a1.trans a2).trans a3).trans (iv_ax (a3.ok (o2.mono (by omega))))).mono (by omega)
theorem sum_len:∀(k:Nat) (m:Mk),(sumT k m).1.length≤64*(k+1)
 |0,m=>by
  have h1:=nu_len (nxM m)
  have h2:=iv_len (nxM m)
  simp only[sumT]
  split<;>omega
 |k+1,m=>by
  have h1:=nu_len (nxM m)
  have h2:=iv_len (nxM m)
  have h3:=sum_len k (nxM m)
  have h4:=iv_len (sumT k (nxM m)).2
  have h5:=opT_len (nxV 5 (sumT k (nxM m)).2).toNat
  have h6:=iv_len (nxM (sumT k (nxM m)).2)
  simp only[sumT]
  repeat' split
  all_goals (try simp only[List.length_append,List.length_cons,List.length_nil])
  all_goals omega
abbrev yc_ksum (n:Nat) (m:Mk) (d:Int):Prop:=okM m (4*(d+1))∧0≤d∧d<(n:Int)∧d≤4
abbrev yr_ksum (n:Nat) (m:Mk) (d:Int):SV:=.one (.v (.string (bs (sumT d.toNat m).1)))
abbrev ym_ksum (n:Nat) (m:Mk) (d:Int):List (Option MV):=[some (zMk,[(sumT d.toNat m).2.c])]
noncomputable abbrev ya_ksum:ArgM ((Mk)×(Int)×Unit):=(amP (mMk) (amD (cInt .i64) am0))
abbrev yq_ksum (n:Nat):Prop:=CallsM Tryz.prog 38 ((ya_ksum).args 0) (ya_ksum).mem (fun p:(Mk)×(Int)×Unit=>yc_ksum n p.1 p.2.1) (fun p:(Mk)×(Int)×Unit=>yr_ksum n p.1 p.2.1) (fun p:(Mk)×(Int)×Unit=>ym_ksum n p.1 p.2.1)
theorem yl_ksum (n:Nat):∀p,(fun p:(Mk)×(Int)×Unit=>yc_ksum n p.1 p.2.1) p→lenM ((ya_ksum).mem p).length ((fun p:(Mk)×(Int)×Unit=>ym_ksum n p.1 p.2.1) p)=true:=by intro p _;rfl
theorem yo_ksum (n:Nat):∀p,(fun p:(Mk)×(Int)×Unit=>yc_ksum n p.1 p.2.1) p→outV ((fun p:(Mk)×(Int)×Unit=>ym_ksum n p.1 p.2.1) p).length ((fun p:(Mk)×(Int)×Unit=>yr_ksum n p.1 p.2.1) p)=true:=by intro p _;first|rfl|exact ex_out _ _|exact cd_out _ _|(simp[outV,outC,ex_out,cd_out];done)
theorem yn_ksum (n:Nat):∀p,(fun p:(Mk)×(Int)×Unit=>yc_ksum n p.1 p.2.1) p→∀q,some q∈(fun p:(Mk)×(Int)×Unit=>ym_ksum n p.1 p.2.1) p→∀r∈q.2,∀c∈r,c.names=[]:=by intro p _;exact mem_mk _
noncomputable def yg_ksum {X:Ctx} {w0:World} (n:Nat) (h:yq_ksum n):Sy.Spec Tryz.prog X w0:=specM 38 Tryz.call38 (ya_ksum) (fun p:(Mk)×(Int)×Unit=>yc_ksum n p.1 p.2.1) (fun p:(Mk)×(Int)×Unit=>yr_ksum n p.1 p.2.1) (fun p:(Mk)×(Int)×Unit=>ym_ksum n p.1 p.2.1) (yl_ksum n) (yo_ksum n) (yn_ksum n) h
attribute [local go_sem] Mk.c cdT_at cmT_at eqT_at hdT_at ivT_at mMk_d mMk_e mMk_z mk_eta nmT_at nqT_at numT_at opT_at tuT_at yg_ksum yp_ivar yp_next yp_num yp_pvar zBy
set_option maxRecDepth 20000 in set_option maxHeartbeats 8000000 in
theorem y_ksumS (n:Nat) (hu:yq_ksum n):yq_ksum (n+1):=by
 rintro ⟨m,d,_u⟩ w M I lab fz xs hc hA hl hx
 refine calls_toML Tryz.func38 rfl ((ya_ksum).mem ⟨m,d,_u⟩) w M I lab fz [yp_next,yp_num,yp_ivar,(yg_ksum n hu)] [] ((ya_ksum).args 0 ⟨m,d,_u⟩) ((fun p:(Mk)×(Int)×Unit=>ym_ksum (n+1) p.1 p.2.1) ⟨m,d,_u⟩) ((fun p:(Mk)×(Int)×Unit=>yr_ksum (n+1) p.1 p.2.1) ⟨m,d,_u⟩) xs hA hl hx (fun v hv k hk=>by have:=(ya_ksum).an 0 ⟨m,d,_u⟩ v hv k hk;omega) (Nat.le_of_ble_eq_true rfl) (Nat.le_of_ble_eq_true rfl) ?_
 clear hx hl hA xs
 simp only[Tryz.f38]
 obtain⟨o0,g0,g1,g2⟩:=hc
 dsimp only at o0 g0 g1 g2
 have a1:Ax m (nxM m) 1:=nx_ax (okM.mono o0 (by omega))
 have o1:okM (nxM m) (4*(d+1)-1):=a1.ok (okM.mono o0 (by omega))
 cases hd0:decide (d≤0) with
 |true=>
  have hd1:d.toNat=0:=by have:=of_decide_eq_true hd0;omega
  cases v7:decide (nxV 12 m<7) with
  |true=>
   have hr:sumT d.toNat m=nuT (nxM m):=by rw[hd1];simp only[sumT];rw[if_pos v7]
   simp only[↓eB,seval,go_sem,hd0,v7]
   try simp only[impB,impN]
   repeat' first|exact ck|with_reducible apply And.intro|intro _
   all_goals first|exact okM.mono o0 (by omega)|exact okM.mono o1 (by omega)|(rename_i h;first|exact oI h|exact nah h)|(rename_i _ h _ g;exact sL h g)|decide|omega|(refine ret_with [] ?_;simp only[↓eB,seval,go_sem,bne,yr_ksum,ym_ksum,hr])
  |false=>
   have v3:decide (nxV 12 m<3)=false:=decide_eq_false (by have:=of_decide_eq_false v7;omega)
   have hr:sumT d.toNat m=ivT' (nxM m):=by rw[hd1];simp only[sumT];rw[if_neg (by rw[v7];decide)]
   simp only[↓eB,seval,go_sem,hd0,v3,v7]
   try simp only[impB,impN]
   repeat' first|exact ck|with_reducible apply And.intro|intro _
   all_goals first|exact okM.mono o0 (by omega)|exact okM.mono o1 (by omega)|(rename_i h;first|exact oI h|exact nah h)|(rename_i _ h _ g;exact sL h g)|decide|omega|(refine ret_with [] ?_;simp only[↓eB,seval,go_sem,bne,yr_ksum,ym_ksum,hr])
 |false=>
  obtain⟨k,hk⟩:∃k:Nat,d.toNat=k+1:=⟨d.toNat-1,by have:=of_decide_eq_false hd0;omega⟩
  obtain⟨d',hd'⟩:∃d':Int,d'=d-1:=⟨_,rfl⟩
  have hk':d'.toNat=k:=by omega
  have hdw:IntKind.i64.wrap (d-1)=d':=by rw[hd'];exact wrap_i64 (by omega) (by omega)
  have hdk:(k:Int)=d':=by have:=of_decide_eq_false hd0;omega
  have p0:0≤d':=by omega
  have p1:d'<(n:Int):=by omega
  have p2:d'≤4:=by omega
  have e0:sumT d.toNat m=sumT (k+1) m:=by rw[hk]
  cases v3:decide (nxV 12 m<3) with
  |true=>
   have hr:sumT d.toNat m=nuT (nxM m):=by rw[e0];simp only[sumT];rw[if_pos v3]
   simp only[↓eB,seval,go_sem,hd0,v3]
   try simp only[impB,impN]
   repeat' first|exact ck|with_reducible apply And.intro|intro _
   all_goals first|exact okM.mono o0 (by omega)|exact okM.mono o1 (by omega)|(rename_i h;first|exact oI h|exact nah h)|(rename_i _ h _ g;exact sL h g)|decide|omega|(refine ret_with [] ?_;simp only[↓eB,seval,go_sem,bne,yr_ksum,ym_ksum,hr])
  |false=>
  cases v6:decide (nxV 12 m<6) with
  |true=>
   have hr:sumT d.toNat m=ivT' (nxM m):=by rw[e0];simp only[sumT];rw[if_neg (by rw[v3];decide),if_pos v6]
   simp only[↓eB,seval,go_sem,hd0,v3,v6]
   try simp only[impB,impN]
   repeat' first|exact ck|with_reducible apply And.intro|intro _
   all_goals first|exact okM.mono o0 (by omega)|exact okM.mono o1 (by omega)|(rename_i h;first|exact oI h|exact nah h)|(rename_i _ h _ g;exact sL h g)|decide|omega|(refine ret_with [] ?_;simp only[↓eB,seval,go_sem,bne,yr_ksum,ym_ksum,hr])
  |false=>
  cases w6:(nxV 12 m==6) with
  |true=>
   have hr:sumT d.toNat m=([45]++(ivT' (nxM m)).1,(ivT' (nxM m)).2):=by rw[e0];simp only[sumT];rw[if_neg (by rw[v3];decide),if_neg (by rw[v6];decide),if_pos w6]
   have l1:=iv_len (nxM m)
   simp only[↓eB,seval,go_sem,hd0,v3,v6,w6]
   try simp only[impB,impN]
   repeat' first|exact ck|with_reducible apply And.intro|intro _
   all_goals first|exact okM.mono o0 (by omega)|exact okM.mono o1 (by omega)|(simp only[List.length_append,List.length_cons,List.length_nil]at *;omega)|(rename_i h;first|exact oI h|exact nah h)|(rename_i _ h _ g;exact sL h g)|decide|omega|(refine ret_with [] ?_;simp only[↓eB,seval,go_sem,bne,yr_ksum,ym_ksum,hr])
  |false=>
  have a2:Ax (nxM m) (sumT k (nxM m)).2 (4*(d'+1)):=by have h:=sum_ax k (m:=nxM m) (by rw[hdk];exact okM.mono o1 (by omega));rw[hdk]at h;exact h
  have o2:okM (sumT k (nxM m)).2 2:=a2.ok (okM.mono o1 (by omega))
  have a3:=nx_ax (okM.mono o2 (by omega):okM _ 1)
  have o3:okM (nxM (sumT k (nxM m)).2) 1:=a3.ok (okM.mono o2 (by omega))
  have l2:=sum_len k (nxM m)
  have hkb:k≤4:=by omega
  cases w11:(nxV 12 m==11) with
  |true=>
   have hr:sumT d.toNat m=(([40]++(sumT k (nxM m)).1)++[41,32,45,32]++(ivT' (sumT k (nxM m)).2).1,(ivT' (sumT k (nxM m)).2).2):=by rw[e0];simp only[sumT];rw[if_neg (by rw[v3];decide),if_neg (by rw[v6];decide),if_neg (by rw[w6];decide),if_pos w11]
   have l3:=iv_len (sumT k (nxM m)).2
   simp only[↓eB,seval,go_sem,hd0,v3,v6,w6,w11,hdw,hk']
   try simp only[impB,impN]
   repeat' first|exact ck|with_reducible apply And.intro|intro _
   all_goals first|exact okM.mono o0 (by omega)|exact okM.mono o1 (by omega)|exact okM.mono o2 (by omega)|exact p0|exact p1|exact p2|(simp only[List.length_append,List.length_cons,List.length_nil]at *;omega)|(rename_i h;first|exact oI h|exact nah h)|(rename_i _ h _ g;exact sL h g)|decide|omega|(refine ret_with [] ?_;simp only[↓eB,seval,go_sem,bne,yr_ksum,ym_ksum,hr])
  |false=>
   have hr:sumT d.toNat m=((((((sumT k (nxM m)).1++[32])++opT.getD (nxV 5 (sumT k (nxM m)).2).toNat [])++[32])++(ivT' (nxM (sumT k (nxM m)).2)).1),(ivT' (nxM (sumT k (nxM m)).2)).2):=by rw[e0];simp only[sumT];rw[if_neg (by rw[v3];decide),if_neg (by rw[v6];decide),if_neg (by rw[w6];decide),if_neg (by rw[w11];decide)]
   have l3:=opT_len (nxV 5 (sumT k (nxM m)).2).toNat
   have l4:=iv_len (nxM (sumT k (nxM m)).2)
   have q5:=nxV_in (j:=5) o2 (by decide)
   simp only[↓eB,seval,go_sem,hd0,v3,v6,w6,w11,hdw,hk']
   try simp only[impB,impN]
   repeat' first|exact ck|with_reducible apply And.intro|intro _
   all_goals first|exact okM.mono o0 (by omega)|exact okM.mono o1 (by omega)|exact okM.mono o2 (by omega)|exact okM.mono o3 (by omega)|exact p0|exact p1|exact p2|(simp only[List.length_append,List.length_cons,List.length_nil]at *;omega)|(rename_i h;first|exact oI h|exact nah h)|(rename_i _ h _ g;exact sL h g)|decide|omega|(refine ret_with [] ?_;simp only[↓eB,seval,go_sem,bne,yr_ksum,ym_ksum,hr])
theorem y_ksum:∀n:Nat,yq_ksum n
 |0=>by
  rintro ⟨m,d,_u⟩ w M I lab fz xs hc hA hl hx
  exact absurd hc.2.2.1 (by have:=hc.2.1;dsimp only at this ⊢;omega)
 |n+1=>y_ksumS n (y_ksum n)
end Go.Proofs.YtlaggppdgoknjaaGreatDoor
