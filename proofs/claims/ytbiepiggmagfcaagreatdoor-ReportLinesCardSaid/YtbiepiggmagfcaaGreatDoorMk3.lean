/- The maker's heads, arguments and conditions. No conditions but those in each statement. -/
import Derived.Test.YtbiepiggmagfcaaGreatDoorMk1
set_option linter.unusedVariables false
set_option linter.unusedSimpArgs false
open List (length_append length_cons length_nil)
namespace Go.Proofs.YtbiepiggmagfcaaGreatDoor
open Go Go.Sy Go.RowKit
theorem tn0:Int.toNat 0=0:=rfl
theorem tn1:Int.toNat 1=1:=rfl
theorem tn2:Int.toNat 2=2:=rfl
def hdS (s:Int):List UInt8:=hdT.getD (s.tmod 4).toNat []
def nmS (s:Int):List UInt8:=nmT.getD (s.tmod 4).toNat []
def DP (s:Int) (m:Mk):T:=
 if (nxV 10 m==3)=true then ((pvT s (nxM m)).1++eqT.getD (nxV 2 (pvT s (nxM m)).2).toNat [],nxM (pvT s (nxM m)).2)
 else (((((A6 (nxM m)).1++[32])++cmT.getD (nxV 6 (A6 (nxM m)).2).toNat [])++[32])++(A7 1 (nxM (A6 (nxM m)).2)).1,(A7 1 (nxM (A6 (nxM m)).2)).2)
def condT:Nat→Int→Mk→T
 |0,s,m=>DP s m
 |k+1,s,m=>
  if (nxV 10 m==0)=true then (([33,40]++(condT k s (nxM m)).1)++[41],(condT k s (nxM m)).2)
  else if (nxV 10 m==1)=true then (((condT k s (nxM m)).1++[32,38,38,32])++(DP s (condT k s (nxM m)).2).1,(DP s (condT k s (nxM m)).2).2)
  else if (nxV 10 m==2)=true then ((([40]++(condT k s (nxM m)).1)++[41,32,124,124,32])++(DP s (condT k s (nxM m)).2).1,(DP s (condT k s (nxM m)).2).2)
  else DP s m
theorem A2H (s:Int) (m:Mk):condT 0 s m=DP s m:=rfl
theorem WZ {s:Int} {m:Mk} (h:okM m 24):Ax m (DP s m).2 24:=by
 have a1:=Aq (h.mono (by decide))
 have o1:okM (nxM m) 23:=a1.ok (h.mono (by decide))
 unfold DP
 split
 ·have a2:=G3 (s:=s) (o1.mono (by decide))
  have a3:=Aq (a2.ok (o1.mono (by decide)):okM _ 1)
  exact((a1.trans a2).trans a3).mono (by decide)
 ·have a2:=D4 (o1.mono (by decide))
  have o2:okM (A6 (nxM m)).2 22:=a2.ok (o1.mono (by decide))
  have a3:=Aq (o2.mono (by decide))
  have a4:=C6 1 (a3.ok (o2.mono (by decide)):okM _ (4*(((1:Nat):Int)+1)))
  exact(((a1.trans a2).trans a3).trans a4).mono (by decide)
theorem QK (s:Int) (m:Mk):(DP s m).1.length≤140:=by
 have h1:=Dq s (nxM m)
 have h2:=U2 (nxV 2 (pvT s (nxM m)).2).toNat
 have h3:=Bp (nxM m)
 have h4:=U1 (nxV 6 (A6 (nxM m)).2).toNat
 have h5:=BQ 1 (nxM (A6 (nxM m)).2)
 unfold DP
 split<;>simp only[jL3]<;>omega
theorem F4:∀(k:Nat) {s:Int} {m:Mk},okM m (25*(k:Int)+24)→Ax m (condT k s m).2 (25*(k:Int)+24)
 |0,s,m,h=>WZ h
 |k+1,s,m,h=>by
  have a1:=Aq (h.mono (by omega))
  have o1:okM (nxM m) (25*(k:Int)+24+24):=a1.ok (h.mono (by omega))
  have a2:=F4 k (s:=s) (o1.mono (by omega))
  have a3:=WZ (s:=s) (a2.ok (o1.mono (by omega)):okM _ 24)
  simp only[condT]
  split
  ·exact(a1.trans a2).mono (by omega)
  split
  ·exact((a1.trans a2).trans a3).mono (by omega)
  split
  ·exact((a1.trans a2).trans a3).mono (by omega)
  ·exact(WZ (h.mono (by omega))).mono (by omega)
theorem E7:∀(k:Nat) (s:Int) (m:Mk),(condT k s m).1.length≤160*(k+1)
 |0,s,m=>by have:=QK s m;simp only[condT];omega
 |k+1,s,m=>by
  have h1:=E7 k s (nxM m)
  have h2:=QK s (condT k s (nxM m)).2
  have h3:=QK s m
  simp only[condT]
  repeat' split
  all_goals (try simp only[jL3])
  all_goals omega
def Bq (t s:Int) (m:Mk):T:=
 if (t.tmod 4==0)=true then A7 1 m
 else if (t.tmod 4==1)=true then (((A7 0 m).1++[44,32])++(A7 1 (A7 0 m).2).1,(A7 1 (A7 0 m).2).2)
 else if (t.tmod 4==2)=true then pvT s m
 else (((A7 0 m).1++[44,32])++(pvT s (A7 0 m).2).1,(pvT s (A7 0 m).2).2)
theorem PC {t s:Int} {m:Mk} (h:okM m 12):Ax m (Bq t s m).2 12:=by
 have a1:=C6 0 (h.mono (by decide))
 have o1:okM (A7 0 m).2 8:=a1.ok (h.mono (by decide))
 unfold Bq
 split
 ·exact(C6 1 (h.mono (by decide))).mono (by decide)
 split
 ·exact(a1.trans (C6 1 (o1.mono (by decide)))).mono (by decide)
 split
 ·exact(G3 (h.mono (by decide))).mono (by decide)
 ·exact(a1.trans (G3 (o1.mono (by decide)))).mono (by decide)
theorem Mz (t s:Int) (m:Mk):(Bq t s m).1.length≤200:=by
 have h1:=BQ 1 m
 have h2:=BQ 0 m
 have h3:=BQ 1 (A7 0 m).2
 have h4:=Dq s m
 have h5:=Dq s (A7 0 m).2
 unfold Bq
 repeat' split
 all_goals (try simp only[jL3])
 all_goals omega
theorem bP {s:Int} (h:0≤s):0≤s.tmod 4∧s.tmod 4<4:=⟨Int.tmod_nonneg 4 h,Int.tmod_lt_of_pos s (by decide)⟩
abbrev ZA (s:Int):Prop:=0≤s
abbrev N0 (s:Int):SV:=SV.one (.v (.string (bs (hdS s))))
attribute [local go_sem] Mk.c P3 P2 A2H P6 P7 P0 SH SG SF Oz P8 P4 Mt P1 tn0 tn1 tn2 P5 Ih F3 Bv PB Kq zBy
theorem wG:AP Tryz.prog 38 (acS (cInt .i64) ac0) (fun p:(Int×Unit)=>ZA p.1) (fun p:(Int×Unit)=>N0 p.1):=by
 rintro ⟨s,_u⟩ w fz xs hc hfz hl hx
 refine A9 Tryz.func38 rfl w fz [] [] (acS (cInt .i64) ac0) (fun p:(Int×Unit)=>N0 p.1) _ xs hfz hl hx (jN rfl) ?_
 clear hx hl hfz xs
 simp only[Tryz.f38]
 have h0:0≤s:=hc
 have h1:=bP h0
 simp only[↓eB,seval,go_sem]
 try simp only[A1,A2]
 repeat' first|exact ck|with_reducible apply And.intro|intro _
 all_goals first|exact h1|(rename_i h;first|exact oI h|exact nah h)|(rename_i _ h _ g;exact sL h g)|decide|omega|(refine A0 [] ?_;simp only[↓eB,seval,go_sem,bne,N0,hdS])
theorem pQ:∀p:(Int×Unit),((fun p:(Int×Unit)=>N0 p.1) p).names=[]:=by intro p;first|rfl|simp[SV.names,C.names]
noncomputable def QL {X:Ctx} {w0:World}:Sy.Spec Tryz.prog X w0:=Am 38 Tryz.call38 (acS (cInt .i64) ac0) (fun p:(Int×Unit)=>ZA p.1) (fun p:(Int×Unit)=>N0 p.1) pQ wG
abbrev ZB (s:Int):Prop:=0≤s
abbrev N1 (s:Int):SV:=SV.one (.v (.string (bs (nmS s))))
theorem wH:AP Tryz.prog 45 (acS (cInt .i64) ac0) (fun p:(Int×Unit)=>ZB p.1) (fun p:(Int×Unit)=>N1 p.1):=by
 rintro ⟨s,_u⟩ w fz xs hc hfz hl hx
 refine A9 Tryz.func45 rfl w fz [] [] (acS (cInt .i64) ac0) (fun p:(Int×Unit)=>N1 p.1) _ xs hfz hl hx (jN rfl) ?_
 clear hx hl hfz xs
 simp only[Tryz.f45]
 have h0:0≤s:=hc
 have h1:=bP h0
 simp only[↓eB,seval,go_sem]
 try simp only[A1,A2]
 repeat' first|exact ck|with_reducible apply And.intro|intro _
 all_goals first|exact h1|(rename_i h;first|exact oI h|exact nah h)|(rename_i _ h _ g;exact sL h g)|decide|omega|(refine A0 [] ?_;simp only[↓eB,seval,go_sem,bne,N1,nmS])
theorem pR:∀p:(Int×Unit),((fun p:(Int×Unit)=>N1 p.1) p).names=[]:=by intro p;first|rfl|simp[SV.names,C.names]
noncomputable def QM {X:Ctx} {w0:World}:Sy.Spec Tryz.prog X w0:=Am 45 Tryz.call45 (acS (cInt .i64) ac0) (fun p:(Int×Unit)=>ZB p.1) (fun p:(Int×Unit)=>N1 p.1) pR wH
abbrev LL (m:Mk) (t:Int) (s:Int):Prop:=okM m 12
abbrev FL (m:Mk) (t:Int) (s:Int):SV:=.one (.v (.string (bs (Bq t s m).1)))
abbrev E8 (m:Mk) (t:Int) (s:Int):List (Option MV):=[some (zMk,[(Bq t s m).2.c])]
noncomputable abbrev Gj:ArgM ((Mk)×(Int)×(Int)×Unit):=(amP (mMk) (amD (cInt .i64) (amD (cInt .i64) am0)))
abbrev jW:Prop:=BD Tryz.prog 74 ((Gj).args 0) (Gj).mem (fun p:(Mk)×(Int)×(Int)×Unit=>LL p.1 p.2.1 p.2.2.1) (fun p:(Mk)×(Int)×(Int)×Unit=>FL p.1 p.2.1 p.2.2.1) (fun p:(Mk)×(Int)×(Int)×Unit=>E8 p.1 p.2.1 p.2.2.1)
theorem jX:∀p,(fun p:(Mk)×(Int)×(Int)×Unit=>LL p.1 p.2.1 p.2.2.1) p→BA ((Gj).mem p).length ((fun p:(Mk)×(Int)×(Int)×Unit=>E8 p.1 p.2.1 p.2.2.1) p)=true:=by intro p _;rfl
theorem jY:∀p,(fun p:(Mk)×(Int)×(Int)×Unit=>LL p.1 p.2.1 p.2.2.1) p→AQ ((fun p:(Mk)×(Int)×(Int)×Unit=>E8 p.1 p.2.1 p.2.2.1) p).length ((fun p:(Mk)×(Int)×(Int)×Unit=>FL p.1 p.2.1 p.2.2.1) p)=true:=by intro p _;first|rfl|exact AK _ _|exact AL _ _|(simp[AQ,Bn,AK,AL];done)
theorem jZ:∀p,(fun p:(Mk)×(Int)×(Int)×Unit=>LL p.1 p.2.1 p.2.2.1) p→∀q,some q∈(fun p:(Mk)×(Int)×(Int)×Unit=>E8 p.1 p.2.1 p.2.2.1) p→∀r∈q.2,∀c∈r,c.names=[]:=by intro p _;exact Hj _
theorem pU:jW:=by
 rintro ⟨m,t,s,_u⟩ w M I lab fz xs hc hA hl hx
 refine AJ Tryz.func74 rfl _ w M I lab fz [Bv,Kq,(Ih 3 (SJ 3))] [] _ _ _ xs hA hl hx (fun v hv k hk=>by have:=(Gj).an 0 ⟨m,t,s,_u⟩ v hv k hk;omega) (jN rfl) (jN rfl) ?_
 clear hx hl hA xs
 simp only[Tryz.f74]
 have o0:okM m 12:=hc
 have a1:=C6 0 (okM.mono o0 (by decide))
 have o1:okM (A7 0 m).2 8:=a1.ok (okM.mono o0 (by decide))
 have l1:=BQ 0 m
 have l2:=BQ 1 (A7 0 m).2
 have l3:=Dq s (A7 0 m).2
 cases t0:(t.tmod 4==0) with
 |true=>
  have hr:Bq t s m=A7 1 m:=by unfold Bq;rw[if_pos t0]
  simp only[↓eB,seval,go_sem,t0]
  try simp only[A1,A2]
  repeat' first|exact ck|with_reducible apply And.intro|intro _
  all_goals first|exact okM.mono o0 (by omega)|(simp only[jL3]at *;omega)|(rename_i h;first|exact oI h|exact nah h)|(rename_i _ h _ g;exact sL h g)|decide|omega|(refine A0 [] ?_;simp only[↓eB,seval,go_sem,bne,FL,E8,hr])
 |false=>
 cases t1:(t.tmod 4==1) with
 |true=>
  have hr:Bq t s m=(((A7 0 m).1++[44,32])++(A7 1 (A7 0 m).2).1,(A7 1 (A7 0 m).2).2):=by unfold Bq;rw[if_neg (by rw[t0];decide),if_pos t1]
  simp only[↓eB,seval,go_sem,t0,t1]
  try simp only[A1,A2]
  repeat' first|exact ck|with_reducible apply And.intro|intro _
  all_goals first|exact okM.mono o0 (by omega)|exact okM.mono o1 (by omega)|(simp only[jL3]at *;omega)|(rename_i h;first|exact oI h|exact nah h)|(rename_i _ h _ g;exact sL h g)|decide|omega|(refine A0 [] ?_;simp only[↓eB,seval,go_sem,bne,FL,E8,hr])
 |false=>
 cases t2:(t.tmod 4==2) with
 |true=>
  have hr:Bq t s m=pvT s m:=by unfold Bq;rw[if_neg (by rw[t0];decide),if_neg (by rw[t1];decide),if_pos t2]
  simp only[↓eB,seval,go_sem,t0,t1,t2]
  try simp only[A1,A2]
  repeat' first|exact ck|with_reducible apply And.intro|intro _
  all_goals first|exact okM.mono o0 (by omega)|(simp only[jL3]at *;omega)|(rename_i h;first|exact oI h|exact nah h)|(rename_i _ h _ g;exact sL h g)|decide|omega|(refine A0 [] ?_;simp only[↓eB,seval,go_sem,bne,FL,E8,hr])
 |false=>
  have hr:Bq t s m=(((A7 0 m).1++[44,32])++(pvT s (A7 0 m).2).1,(pvT s (A7 0 m).2).2):=by unfold Bq;rw[if_neg (by rw[t0];decide),if_neg (by rw[t1];decide),if_neg (by rw[t2];decide)]
  simp only[↓eB,seval,go_sem,t0,t1,t2]
  try simp only[A1,A2]
  repeat' first|exact ck|with_reducible apply And.intro|intro _
  all_goals first|exact okM.mono o0 (by omega)|exact okM.mono o1 (by omega)|(simp only[jL3]at *;omega)|(rename_i h;first|exact oI h|exact nah h)|(rename_i _ h _ g;exact sL h g)|decide|omega|(refine A0 [] ?_;simp only[↓eB,seval,go_sem,bne,FL,E8,hr])
noncomputable def Wa {X:Ctx} {w0:World}:Sy.Spec Tryz.prog X w0:=Be 74 Tryz.call74 (Gj) (fun p:(Mk)×(Int)×(Int)×Unit=>LL p.1 p.2.1 p.2.2.1) (fun p:(Mk)×(Int)×(Int)×Unit=>FL p.1 p.2.1 p.2.2.1) (fun p:(Mk)×(Int)×(Int)×Unit=>E8 p.1 p.2.1 p.2.2.1) jX jY jZ pU
abbrev LM (n:Nat) (m:Mk) (s:Int) (d:Int):Prop:=okM m (25*d+24)∧0≤d∧d<(n:Int)∧d≤4
abbrev DZ (n:Nat) (m:Mk) (s:Int) (d:Int):SV:=.one (.v (.string (bs (condT d.toNat s m).1)))
abbrev Cr (n:Nat) (m:Mk) (s:Int) (d:Int):List (Option MV):=[some (zMk,[(condT d.toNat s m).2.c])]
noncomputable abbrev Gk:ArgM ((Mk)×(Int)×(Int)×Unit):=(amP (mMk) (amD (cInt .i64) (amD (cInt .i64) am0)))
abbrev Nz (n:Nat):Prop:=BD Tryz.prog 75 ((Gk).args 0) (Gk).mem (fun p:(Mk)×(Int)×(Int)×Unit=>LM n p.1 p.2.1 p.2.2.1) (fun p:(Mk)×(Int)×(Int)×Unit=>DZ n p.1 p.2.1 p.2.2.1) (fun p:(Mk)×(Int)×(Int)×Unit=>Cr n p.1 p.2.1 p.2.2.1)
theorem ja (n:Nat):∀p,(fun p:(Mk)×(Int)×(Int)×Unit=>LM n p.1 p.2.1 p.2.2.1) p→BA ((Gk).mem p).length ((fun p:(Mk)×(Int)×(Int)×Unit=>Cr n p.1 p.2.1 p.2.2.1) p)=true:=by intro p _;rfl
theorem jb (n:Nat):∀p,(fun p:(Mk)×(Int)×(Int)×Unit=>LM n p.1 p.2.1 p.2.2.1) p→AQ ((fun p:(Mk)×(Int)×(Int)×Unit=>Cr n p.1 p.2.1 p.2.2.1) p).length ((fun p:(Mk)×(Int)×(Int)×Unit=>DZ n p.1 p.2.1 p.2.2.1) p)=true:=by intro p _;first|rfl|exact AK _ _|exact AL _ _|(simp[AQ,Bn,AK,AL];done)
theorem jc (n:Nat):∀p,(fun p:(Mk)×(Int)×(Int)×Unit=>LM n p.1 p.2.1 p.2.2.1) p→∀q,some q∈(fun p:(Mk)×(Int)×(Int)×Unit=>Cr n p.1 p.2.1 p.2.2.1) p→∀r∈q.2,∀c∈r,c.names=[]:=by intro p _;exact Hj _
noncomputable def O0 {X:Ctx} {w0:World} (n:Nat) (h:Nz n):Sy.Spec Tryz.prog X w0:=Be 75 Tryz.call75 (Gk) (fun p:(Mk)×(Int)×(Int)×Unit=>LM n p.1 p.2.1 p.2.2.1) (fun p:(Mk)×(Int)×(Int)×Unit=>DZ n p.1 p.2.1 p.2.2.1) (fun p:(Mk)×(Int)×(Int)×Unit=>Cr n p.1 p.2.1 p.2.2.1) (ja n) (jb n) (jc n) h
set_option maxRecDepth 20000 in set_option maxHeartbeats 8000000 in
attribute[local go_sem] O0 in
theorem jd (n:Nat) (hu:Nz n):Nz (n+1):=by
 rintro ⟨m,s,d,_u⟩ w M I lab fz xs hc hA hl hx
 refine AJ Tryz.func75 rfl _ w M I lab fz [Bv,F3,Kq,(Ih 3 (SJ 3)),(O0 n hu)] [] _ _ _ xs hA hl hx (fun v hv k hk=>by have:=(Gk).an 0 ⟨m,s,d,_u⟩ v hv k hk;omega) (jN rfl) (jN rfl) ?_
 clear hx hl hA xs
 simp only[Tryz.f75]
 obtain⟨o0,g0,g1,g2⟩:=hc
 dsimp only at o0 g0 g1 g2
 have a1:Ax m (nxM m) 1:=Aq (okM.mono o0 (by omega))
 have o1:okM (nxM m) (25*d+23):=a1.ok (okM.mono o0 (by omega))
 cases hd0:decide (0<d) with
 |false=>
  have hb:condT d.toNat s m=DP s m:=by
   have h:d.toNat=0:=by (have:=of_decide_eq_false hd0;omega)
   rw[h];rfl
  have a2:=G3 (s:=s) (okM.mono o1 (by omega):okM _ 1)
  have o2:okM (pvT s (nxM m)).2 1:=a2.ok (okM.mono o1 (by omega))
  have b2:=D4 (okM.mono o1 (by omega):okM _ 1)
  have r2:okM (A6 (nxM m)).2 9:=b2.ok (okM.mono o1 (by omega))
  have b3:=Aq (okM.mono r2 (by omega):okM _ 1)
  have r3:okM (nxM (A6 (nxM m)).2) 8:=b3.ok (okM.mono r2 (by omega))
  have l1:=Dq s (nxM m)
  have l2:=U2 (nxV 2 (pvT s (nxM m)).2).toNat
  have l3:=Bp (nxM m)
  have l4:=U1 (nxV 6 (A6 (nxM m)).2).toNat
  have l5:=BQ 1 (nxM (A6 (nxM m)).2)
  have q2:=Bu (j:=2) o2 (by decide)
  have q6:=Bu (j:=6) r2 (by decide)
  cases e3:(nxV 10 m==3) with
  |true=>
   have hr:condT d.toNat s m=((pvT s (nxM m)).1++eqT.getD (nxV 2 (pvT s (nxM m)).2).toNat [],nxM (pvT s (nxM m)).2):=by rw[hb];unfold DP;rw[if_pos e3]
   simp only[↓eB,seval,go_sem,hd0,e3]
   try simp only[A1,A2]
   repeat' first|exact ck|with_reducible apply And.intro|intro _
   all_goals first|exact okM.mono o0 (by omega)|exact okM.mono o1 (by omega)|exact okM.mono o2 (by omega)|exact q2|(simp only[jL3]at *;omega)|(rename_i h;first|exact oI h|exact nah h)|(rename_i _ h _ g;exact sL h g)|decide|omega|(refine A0 [] ?_;simp only[↓eB,seval,go_sem,bne,DZ,Cr,hr])
  |false=>
   have hr:condT d.toNat s m=(((((A6 (nxM m)).1++[32])++cmT.getD (nxV 6 (A6 (nxM m)).2).toNat [])++[32])++(A7 1 (nxM (A6 (nxM m)).2)).1,(A7 1 (nxM (A6 (nxM m)).2)).2):=by rw[hb];unfold DP;rw[if_neg (by rw[e3];decide)]
   simp only[↓eB,seval,go_sem,hd0,e3]
   try simp only[A1,A2]
   repeat' first|exact ck|with_reducible apply And.intro|intro _
   all_goals first|exact okM.mono o0 (by omega)|exact okM.mono o1 (by omega)|exact okM.mono r2 (by omega)|exact okM.mono r3 (by omega)|exact q6|(simp only[jL3]at *;omega)|(rename_i h;first|exact oI h|exact nah h)|(rename_i _ h _ g;exact sL h g)|decide|omega|(refine A0 [] ?_;simp only[↓eB,seval,go_sem,bne,DZ,Cr,hr])
 |true=>
  obtain⟨k,hk⟩:∃k:Nat,d.toNat=k+1:=⟨d.toNat-1,by have:=of_decide_eq_true hd0;omega⟩
  obtain⟨d',hd'⟩:∃d':Int,d'=d-1:=⟨_,rfl⟩
  have hk':d'.toNat=k:=by omega
  have hdw:IntKind.i64.wrap (d-1)=d':=by rw[hd'];exact wrap_i64 (by omega) (by omega)
  have hdk:(k:Int)=d':=by have:=of_decide_eq_true hd0;omega
  have p0:0≤d':=by omega
  have p1:d'<(n:Int):=by omega
  have p2:d'≤4:=by omega
  have p3:(0:Int)<(n:Int):=by omega
  have e9:condT d.toNat s m=condT (k+1) s m:=by rw[hk]
  have o1':okM (nxM m) (25*d'+24):=okM.mono o1 (by omega)
  have a2:Ax (nxM m) (condT k s (nxM m)).2 (25*d'+24):=by have h:=F4 k (s:=s) (m:=nxM m) (by rw[hdk];exact o1');rw[hdk]at h;exact h
  have o2:okM (condT k s (nxM m)).2 24:=a2.ok (okM.mono o1 (by omega))
  have l1:=E7 k s (nxM m)
  have l2:=QK s (condT k s (nxM m)).2
  have hkb:k≤4:=by omega
  cases e0:(nxV 10 m==0) with
  |true=>
   have hr:condT d.toNat s m=(([33,40]++(condT k s (nxM m)).1)++[41],(condT k s (nxM m)).2):=by rw[e9];simp only[condT];rw[if_pos e0]
   simp only[↓eB,seval,go_sem,hd0,e0,hdw,hk']
   try simp only[A1,A2]
   repeat' first|exact ck|with_reducible apply And.intro|intro _
   all_goals first|exact okM.mono o0 (by omega)|exact okM.mono o1' (by omega)|exact okM.mono o2 (by omega)|exact p0|exact p1|exact p2|exact p3|(simp only[jL3]at *;omega)|(rename_i h;first|exact oI h|exact nah h)|(rename_i _ h _ g;exact sL h g)|decide|omega|(refine A0 [] ?_;simp only[↓eB,seval,go_sem,bne,DZ,Cr,hr])
  |false=>
  cases e1:(nxV 10 m==1) with
  |true=>
   have hr:condT d.toNat s m=(((condT k s (nxM m)).1++[32,38,38,32])++(DP s (condT k s (nxM m)).2).1,(DP s (condT k s (nxM m)).2).2):=by rw[e9];simp only[condT];rw[if_neg (by rw[e0];decide),if_pos e1]
   simp only[↓eB,seval,go_sem,hd0,e0,e1,hdw,hk']
   try simp only[A1,A2]
   repeat' first|exact ck|with_reducible apply And.intro|intro _
   all_goals first|exact okM.mono o0 (by omega)|exact okM.mono o1' (by omega)|exact okM.mono o2 (by omega)|exact p0|exact p1|exact p2|exact p3|(simp only[jL3]at *;omega)|(rename_i h;first|exact oI h|exact nah h)|(rename_i _ h _ g;exact sL h g)|decide|omega|(refine A0 [] ?_;simp only[↓eB,seval,go_sem,bne,DZ,Cr,hr])
  |false=>
  cases e2:(nxV 10 m==2) with
  |true=>
   have hr:condT d.toNat s m=((([40]++(condT k s (nxM m)).1)++[41,32,124,124,32])++(DP s (condT k s (nxM m)).2).1,(DP s (condT k s (nxM m)).2).2):=by rw[e9];simp only[condT];rw[if_neg (by rw[e0];decide),if_neg (by rw[e1];decide),if_pos e2]
   simp only[↓eB,seval,go_sem,hd0,e0,e1,e2,hdw,hk']
   try simp only[A1,A2]
   repeat' first|exact ck|with_reducible apply And.intro|intro _
   all_goals first|exact okM.mono o0 (by omega)|exact okM.mono o1' (by omega)|exact okM.mono o2 (by omega)|exact p0|exact p1|exact p2|exact p3|(simp only[jL3]at *;omega)|(rename_i h;first|exact oI h|exact nah h)|(rename_i _ h _ g;exact sL h g)|decide|omega|(refine A0 [] ?_;simp only[↓eB,seval,go_sem,bne,DZ,Cr,hr])
  |false=>
  have hb:condT d.toNat s m=DP s m:=by rw[e9];simp only[condT];rw[if_neg (by rw[e0];decide),if_neg (by rw[e1];decide),if_neg (by rw[e2];decide)]
  clear a2 o2 l1 l2
  have a2:=G3 (s:=s) (okM.mono o1 (by omega):okM _ 1)
  have o2:okM (pvT s (nxM m)).2 1:=a2.ok (okM.mono o1 (by omega))
  have b2:=D4 (okM.mono o1 (by omega):okM _ 1)
  have r2:okM (A6 (nxM m)).2 9:=b2.ok (okM.mono o1 (by omega))
  have b3:=Aq (okM.mono r2 (by omega):okM _ 1)
  have r3:okM (nxM (A6 (nxM m)).2) 8:=b3.ok (okM.mono r2 (by omega))
  have l1:=Dq s (nxM m)
  have l2:=U2 (nxV 2 (pvT s (nxM m)).2).toNat
  have l3:=Bp (nxM m)
  have l4:=U1 (nxV 6 (A6 (nxM m)).2).toNat
  have l5:=BQ 1 (nxM (A6 (nxM m)).2)
  have q2:=Bu (j:=2) o2 (by decide)
  have q6:=Bu (j:=6) r2 (by decide)
  cases e3:(nxV 10 m==3) with
  |true=>
   have hr:condT d.toNat s m=((pvT s (nxM m)).1++eqT.getD (nxV 2 (pvT s (nxM m)).2).toNat [],nxM (pvT s (nxM m)).2):=by rw[hb];unfold DP;rw[if_pos e3]
   simp only[↓eB,seval,go_sem,hd0,e0,e1,e2,e3]
   try simp only[A1,A2]
   repeat' first|exact ck|with_reducible apply And.intro|intro _
   all_goals first|exact okM.mono o0 (by omega)|exact okM.mono o1 (by omega)|exact okM.mono o2 (by omega)|exact q2|(simp only[jL3]at *;omega)|(rename_i h;first|exact oI h|exact nah h)|(rename_i _ h _ g;exact sL h g)|decide|omega|(refine A0 [] ?_;simp only[↓eB,seval,go_sem,bne,DZ,Cr,hr])
  |false=>
   have hr:condT d.toNat s m=(((((A6 (nxM m)).1++[32])++cmT.getD (nxV 6 (A6 (nxM m)).2).toNat [])++[32])++(A7 1 (nxM (A6 (nxM m)).2)).1,(A7 1 (nxM (A6 (nxM m)).2)).2):=by rw[hb];unfold DP;rw[if_neg (by rw[e3];decide)]
   simp only[↓eB,seval,go_sem,hd0,e0,e1,e2,e3]
   try simp only[A1,A2]
   repeat' first|exact ck|with_reducible apply And.intro|intro _
   all_goals first|exact okM.mono o0 (by omega)|exact okM.mono o1 (by omega)|exact okM.mono r2 (by omega)|exact okM.mono r3 (by omega)|exact q6|(simp only[jL3]at *;omega)|(rename_i h;first|exact oI h|exact nah h)|(rename_i _ h _ g;exact sL h g)|decide|omega|(refine A0 [] ?_;simp only[↓eB,seval,go_sem,bne,DZ,Cr,hr])
theorem ZC:∀n:Nat,Nz n
 |0=>by
  rintro ⟨m,s,d,_u⟩ w M I lab fz xs hc hA hl hx
  exact absurd hc.2.2.1 (by have:=hc.2.1;dsimp only at this ⊢;omega)
 |n+1=>jd n (ZC n)
end Go.Proofs.YtbiepiggmagfcaaGreatDoor
