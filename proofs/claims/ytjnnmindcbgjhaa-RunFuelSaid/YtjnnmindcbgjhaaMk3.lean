/- The maker's heads, arguments and conditions. No conditions but those in each statement. -/
import Derived.Test.YtjnnmindcbgjhaaMk2
set_option linter.unusedVariables false
set_option linter.unusedSimpArgs false
open List (length_append length_cons length_nil)
namespace Go.Proofs.Ytjnnmindcbgjhaa
open Go Go.Sy Go.RowKit
theorem tn0:Int.toNat 0=0:=rfl
theorem tn1:Int.toNat 1=1:=rfl
theorem tn2:Int.toNat 2=2:=rfl
def hdS (s:Int):List UInt8:=hdT.getD (s.tmod 4).toNat []
def nmS (s:Int):List UInt8:=nmT.getD (s.tmod 4).toNat []
def GJ (s:Int) (m:Mk):T:=
 if (nxV 10 m==3)=true then ((pvT s (nxM m)).1++eqT.getD (nxV 2 (pvT s (nxM m)).2).toNat [],nxM (pvT s (nxM m)).2)
 else (((((An (nxM m)).1++[32])++cmT.getD (nxV 6 (An (nxM m)).2).toNat [])++[32])++(AW 1 (nxM (An (nxM m)).2)).1,(AW 1 (nxM (An (nxM m)).2)).2)
def Al:Nat→Int→Mk→T
 |0,s,m=>GJ s m
 |k+1,s,m=>
  if (nxV 10 m==0)=true then (([33,40]++(Al k s (nxM m)).1)++[41],(Al k s (nxM m)).2)
  else if (nxV 10 m==1)=true then (((Al k s (nxM m)).1++[32,38,38,32])++(GJ s (Al k s (nxM m)).2).1,(GJ s (Al k s (nxM m)).2).2)
  else if (nxV 10 m==2)=true then ((([40]++(Al k s (nxM m)).1)++[41,32,124,124,32])++(GJ s (Al k s (nxM m)).2).1,(GJ s (Al k s (nxM m)).2).2)
  else GJ s m
theorem kJ (s:Int) (m:Mk):Al 0 s m=GJ s m:=rfl
theorem Ww {s:Int} {m:Mk} (h:okM m 24):Ax m (GJ s m).2 24:=by
 have a1:=BX (h.mono (by decide))
 have o1:okM (nxM m) 23:=a1.ok (h.mono (by decide))
 unfold GJ
 split
 ·have a2:=Ix (s:=s) (o1.mono (by decide))
  have a3:=BX (a2.ok (o1.mono (by decide)):okM _ 1)
  exact((a1.trans a2).trans a3).mono (by decide)
 ·have a2:=Eo (o1.mono (by decide))
  have o2:okM (An (nxM m)).2 22:=a2.ok (o1.mono (by decide))
  have a3:=BX (o2.mono (by decide))
  have a4:=DN 1 (a3.ok (o2.mono (by decide)):okM _ (4*(((1:Nat):Int)+1)))
  exact(((a1.trans a2).trans a3).trans a4).mono (by decide)
theorem RN (s:Int) (m:Mk):(GJ s m).1.length≤140:=by
 have h1:=G0 s (nxM m)
 have h2:=UT (nxV 2 (pvT s (nxM m)).2).toNat
 have h3:=Cu (nxM m)
 have h4:=US (nxV 6 (An (nxM m)).2).toNat
 have h5:=CU 1 (nxM (An (nxM m)).2)
 unfold GJ
 split<;>simp only[jL3]<;>omega
theorem He:∀(k:Nat) {s:Int} {m:Mk},okM m (25*(k:Int)+24)→Ax m (Al k s m).2 (25*(k:Int)+24)
 |0,s,m,h=>Ww h
 |k+1,s,m,h=>by
  have a1:=BX (h.mono (by omega))
  have o1:okM (nxM m) (25*(k:Int)+24+24):=a1.ok (h.mono (by omega))
  have a2:=He k (s:=s) (o1.mono (by omega))
  have a3:=Ww (s:=s) (a2.ok (o1.mono (by omega)):okM _ 24)
  simp only[Al]
  split
  ·exact(a1.trans a2).mono (by omega)
  split
  ·exact((a1.trans a2).trans a3).mono (by omega)
  split
  ·exact((a1.trans a2).trans a3).mono (by omega)
  ·exact(Ww (h.mono (by omega))).mono (by omega)
theorem GK:∀(k:Nat) (s:Int) (m:Mk),(Al k s m).1.length≤160*(k+1)
 |0,s,m=>by have:=RN s m;simp only[Al];omega
 |k+1,s,m=>by
  have h1:=GK k s (nxM m)
  have h2:=RN s (Al k s (nxM m)).2
  have h3:=RN s m
  simp only[Al]
  repeat' split
  all_goals (try simp only[jL3])
  all_goals omega
def Gd (t s:Int) (m:Mk):T:=
 if (t.tmod 4==0)=true then AW 1 m
 else if (t.tmod 4==1)=true then (((AW 0 m).1++[44,32])++(AW 1 (AW 0 m).2).1,(AW 1 (AW 0 m).2).2)
 else if (t.tmod 4==2)=true then pvT s m
 else (((AW 0 m).1++[44,32])++(pvT s (AW 0 m).2).1,(pvT s (AW 0 m).2).2)
theorem QY {t s:Int} {m:Mk} (h:okM m 12):Ax m (Gd t s m).2 12:=by
 have a1:=DN 0 (h.mono (by decide))
 have o1:okM (AW 0 m).2 8:=a1.ok (h.mono (by decide))
 unfold Gd
 split
 ·exact(DN 1 (h.mono (by decide))).mono (by decide)
 split
 ·exact(a1.trans (DN 1 (o1.mono (by decide)))).mono (by decide)
 split
 ·exact(Ix (h.mono (by decide))).mono (by decide)
 ·exact(a1.trans (Ix (o1.mono (by decide)))).mono (by decide)
theorem Oc (t s:Int) (m:Mk):(Gd t s m).1.length≤200:=by
 have h1:=CU 1 m
 have h2:=CU 0 m
 have h3:=CU 1 (AW 0 m).2
 have h4:=G0 s m
 have h5:=G0 s (AW 0 m).2
 unfold Gd
 repeat' split
 all_goals (try simp only[jL3])
 all_goals omega
theorem kK {s:Int} (h:0≤s):0≤s.tmod 4∧s.tmod 4<4:=⟨Int.tmod_nonneg 4 h,Int.tmod_lt_of_pos s (by decide)⟩
abbrev Yr (s:Int):Prop:=0≤s
abbrev Od (s:Int):SV:=SV.one (.v (.string (bs (hdS s))))
attribute [local go_sem] Dz Dy E2 E3 Dw E4 E0 DE Dx E1
theorem u7:Cc Try.prog 67 (acS (cInt .i64) ac0) (fun p:(Int×Unit)=>Yr p.1) (fun p:(Int×Unit)=>Od p.1):=by
 rintro ⟨s,_u⟩ w fz xs hc hfz hl hx
 refine Bj Try.func67 rfl w fz [] [] (acS (cInt .i64) ac0) (fun p:(Int×Unit)=>Od p.1) _ xs hfz hl hx (jN rfl) ?_
 clear hx hl hfz xs
 simp only[Try.f67]
 have h0:0≤s:=hc
 have h1:=kK h0
 simp only[↓eB,seval,go_sem]
 try simp only[A2,A3]
 repeat' first|exact ck|with_reducible apply And.intro|intro _
 all_goals first|exact h1|(rename_i h;first|exact oI h|exact nah h)|(rename_i _ h _ g;exact sL h g)|decide|omega|(refine A0 [] ?_;simp only[↓eB,seval,go_sem,bne,Od,hdS])
theorem mO:∀p:(Int×Unit),((fun p:(Int×Unit)=>Od p.1) p).names=[]:=by intro p;first|rfl|simp[SV.names,C.names]
noncomputable def Ge {X:Ctx} {w0:World}:Sy.Spec Try.prog X w0:=DD 67 Try.call67 (acS (cInt .i64) ac0) (fun p:(Int×Unit)=>Yr p.1) (fun p:(Int×Unit)=>Od p.1) mO u7
abbrev Ys (s:Int):Prop:=0≤s
abbrev Fy (s:Int):SV:=SV.one (.v (.string (bs (nmS s))))
theorem u9:Cc Try.prog 14 (acS (cInt .i64) ac0) (fun p:(Int×Unit)=>Ys p.1) (fun p:(Int×Unit)=>Fy p.1):=by
 rintro ⟨s,_u⟩ w fz xs hc hfz hl hx
 refine Bj Try.func14 rfl w fz [] [] (acS (cInt .i64) ac0) (fun p:(Int×Unit)=>Fy p.1) _ xs hfz hl hx (jN rfl) ?_
 clear hx hl hfz xs
 simp only[Try.f14]
 have h0:0≤s:=hc
 have h1:=kK h0
 simp only[↓eB,seval,go_sem]
 try simp only[A2,A3]
 repeat' first|exact ck|with_reducible apply And.intro|intro _
 all_goals first|exact h1|(rename_i h;first|exact oI h|exact nah h)|(rename_i _ h _ g;exact sL h g)|decide|omega|(refine A0 [] ?_;simp only[↓eB,seval,go_sem,bne,Fy,nmS])
theorem mP:∀p:(Int×Unit),((fun p:(Int×Unit)=>Fy p.1) p).names=[]:=by intro p;first|rfl|simp[SV.names,C.names]
noncomputable def Ec {X:Ctx} {w0:World}:Sy.Spec Try.prog X w0:=DD 14 Try.call14 (acS (cInt .i64) ac0) (fun p:(Int×Unit)=>Ys p.1) (fun p:(Int×Unit)=>Fy p.1) mP u9
abbrev My (m:Mk) (t:Int) (s:Int):Prop:=okM m 12
abbrev IK (m:Mk) (t:Int) (s:Int):SV:=.one (.v (.string (bs (Gd t s m).1)))
abbrev GL (m:Mk) (t:Int) (s:Int):List (Option MV):=[some (zMk,[(Gd t s m).2.c])]
noncomputable abbrev Jc:ArgM ((Mk)×(Int)×(Int)×Unit):=(amP (mMk) (amD (cInt .i64) (amD (cInt .i64) am0)))
abbrev fm:Prop:=Bs Try.prog 82 ((Jc).args 0) (Jc).mem (fun p:(Mk)×(Int)×(Int)×Unit=>My p.1 p.2.1 p.2.2.1) (fun p:(Mk)×(Int)×(Int)×Unit=>IK p.1 p.2.1 p.2.2.1) (fun p:(Mk)×(Int)×(Int)×Unit=>GL p.1 p.2.1 p.2.2.1)
theorem fq:∀p,(fun p:(Mk)×(Int)×(Int)×Unit=>My p.1 p.2.1 p.2.2.1) p→Cm ((Jc).mem p).length ((fun p:(Mk)×(Int)×(Int)×Unit=>GL p.1 p.2.1 p.2.2.1) p)=true:=by intro p _;rfl
theorem fr:∀p,(fun p:(Mk)×(Int)×(Int)×Unit=>My p.1 p.2.1 p.2.2.1) p→As ((fun p:(Mk)×(Int)×(Int)×Unit=>GL p.1 p.2.1 p.2.2.1) p).length ((fun p:(Mk)×(Int)×(Int)×Unit=>IK p.1 p.2.1 p.2.2.1) p)=true:=by intro p _;first|rfl|exact AO _ _|exact AP _ _|(simp[As,Bz,AO,AP];done)
theorem fv:∀p,(fun p:(Mk)×(Int)×(Int)×Unit=>My p.1 p.2.1 p.2.2.1) p→∀q,some q∈(fun p:(Mk)×(Int)×(Int)×Unit=>GL p.1 p.2.1 p.2.2.1) p→∀r∈q.2,∀c∈r,c.names=[]:=by intro p _;exact KD _
attribute[local go_sem] Mk.c kJ En Em El Dh tn0 tn1 tn2 Gc D3 Bk KE Hd zBy in
theorem mQ:fm:=by
 rintro ⟨m,t,s,_u⟩ w M I lab fz xs hc hA hl hx
 refine Am Try.func82 rfl ((Jc).mem ⟨m,t,s,_u⟩) w M I lab fz [Bk,Hd,(Gc 3 (TE 3))] [] ((Jc).args 0 ⟨m,t,s,_u⟩) ((fun p:(Mk)×(Int)×(Int)×Unit=>GL p.1 p.2.1 p.2.2.1) ⟨m,t,s,_u⟩) ((fun p:(Mk)×(Int)×(Int)×Unit=>IK p.1 p.2.1 p.2.2.1) ⟨m,t,s,_u⟩) xs hA hl hx (fun v hv k hk=>by have:=(Jc).an 0 ⟨m,t,s,_u⟩ v hv k hk;omega) (jN rfl) (jN rfl) ?_
 clear hx hl hA xs
 simp only[Try.f82]
 have o0:okM m 12:=hc
 have a1:=DN 0 (okM.mono o0 (by decide))
 have o1:okM (AW 0 m).2 8:=a1.ok (okM.mono o0 (by decide))
 have l1:=CU 0 m
 have l2:=CU 1 (AW 0 m).2
 have l3:=G0 s (AW 0 m).2
 cases t0:(t.tmod 4==0) with
 |true=>
  have hr:Gd t s m=AW 1 m:=by unfold Gd;rw[if_pos t0]
  simp only[↓eB,seval,go_sem,t0]
  try simp only[A2,A3]
  repeat' first|exact ck|with_reducible apply And.intro|intro _
  all_goals first|exact okM.mono o0 (by omega)|(simp only[jL3]at *;omega)|(rename_i h;first|exact oI h|exact nah h)|(rename_i _ h _ g;exact sL h g)|decide|omega|(refine A0 [] ?_;simp only[↓eB,seval,go_sem,bne,IK,GL,hr])
 |false=>
 cases t1:(t.tmod 4==1) with
 |true=>
  have hr:Gd t s m=(((AW 0 m).1++[44,32])++(AW 1 (AW 0 m).2).1,(AW 1 (AW 0 m).2).2):=by unfold Gd;rw[if_neg (by rw[t0];decide),if_pos t1]
  simp only[↓eB,seval,go_sem,t0,t1]
  try simp only[A2,A3]
  repeat' first|exact ck|with_reducible apply And.intro|intro _
  all_goals first|exact okM.mono o0 (by omega)|exact okM.mono o1 (by omega)|(simp only[jL3]at *;omega)|(rename_i h;first|exact oI h|exact nah h)|(rename_i _ h _ g;exact sL h g)|decide|omega|(refine A0 [] ?_;simp only[↓eB,seval,go_sem,bne,IK,GL,hr])
 |false=>
 cases t2:(t.tmod 4==2) with
 |true=>
  have hr:Gd t s m=pvT s m:=by unfold Gd;rw[if_neg (by rw[t0];decide),if_neg (by rw[t1];decide),if_pos t2]
  simp only[↓eB,seval,go_sem,t0,t1,t2]
  try simp only[A2,A3]
  repeat' first|exact ck|with_reducible apply And.intro|intro _
  all_goals first|exact okM.mono o0 (by omega)|(simp only[jL3]at *;omega)|(rename_i h;first|exact oI h|exact nah h)|(rename_i _ h _ g;exact sL h g)|decide|omega|(refine A0 [] ?_;simp only[↓eB,seval,go_sem,bne,IK,GL,hr])
 |false=>
  have hr:Gd t s m=(((AW 0 m).1++[44,32])++(pvT s (AW 0 m).2).1,(pvT s (AW 0 m).2).2):=by unfold Gd;rw[if_neg (by rw[t0];decide),if_neg (by rw[t1];decide),if_neg (by rw[t2];decide)]
  simp only[↓eB,seval,go_sem,t0,t1,t2]
  try simp only[A2,A3]
  repeat' first|exact ck|with_reducible apply And.intro|intro _
  all_goals first|exact okM.mono o0 (by omega)|exact okM.mono o1 (by omega)|(simp only[jL3]at *;omega)|(rename_i h;first|exact oI h|exact nah h)|(rename_i _ h _ g;exact sL h g)|decide|omega|(refine A0 [] ?_;simp only[↓eB,seval,go_sem,bne,IK,GL,hr])
noncomputable def Mz {X:Ctx} {w0:World}:Sy.Spec Try.prog X w0:=CY 82 Try.call82 (Jc) (fun p:(Mk)×(Int)×(Int)×Unit=>My p.1 p.2.1 p.2.2.1) (fun p:(Mk)×(Int)×(Int)×Unit=>IK p.1 p.2.1 p.2.2.1) (fun p:(Mk)×(Int)×(Int)×Unit=>GL p.1 p.2.1 p.2.2.1) fq fr fv mQ
abbrev N0 (n:Nat) (m:Mk) (s:Int) (d:Int):Prop:=okM m (25*d+24)∧0≤d∧d<(n:Int)∧d≤4
abbrev Fh (n:Nat) (m:Mk) (s:Int) (d:Int):SV:=.one (.v (.string (bs (Al d.toNat s m).1)))
abbrev Ed (n:Nat) (m:Mk) (s:Int) (d:Int):List (Option MV):=[some (zMk,[(Al d.toNat s m).2.c])]
noncomputable abbrev Jd:ArgM ((Mk)×(Int)×(Int)×Unit):=(amP (mMk) (amD (cInt .i64) (amD (cInt .i64) am0)))
abbrev Pc (n:Nat):Prop:=Bs Try.prog 83 ((Jd).args 0) (Jd).mem (fun p:(Mk)×(Int)×(Int)×Unit=>N0 n p.1 p.2.1 p.2.2.1) (fun p:(Mk)×(Int)×(Int)×Unit=>Fh n p.1 p.2.1 p.2.2.1) (fun p:(Mk)×(Int)×(Int)×Unit=>Ed n p.1 p.2.1 p.2.2.1)
theorem fw (n:Nat):∀p,(fun p:(Mk)×(Int)×(Int)×Unit=>N0 n p.1 p.2.1 p.2.2.1) p→Cm ((Jd).mem p).length ((fun p:(Mk)×(Int)×(Int)×Unit=>Ed n p.1 p.2.1 p.2.2.1) p)=true:=by intro p _;rfl
theorem fy (n:Nat):∀p,(fun p:(Mk)×(Int)×(Int)×Unit=>N0 n p.1 p.2.1 p.2.2.1) p→As ((fun p:(Mk)×(Int)×(Int)×Unit=>Ed n p.1 p.2.1 p.2.2.1) p).length ((fun p:(Mk)×(Int)×(Int)×Unit=>Fh n p.1 p.2.1 p.2.2.1) p)=true:=by intro p _;first|rfl|exact AO _ _|exact AP _ _|(simp[As,Bz,AO,AP];done)
theorem gA (n:Nat):∀p,(fun p:(Mk)×(Int)×(Int)×Unit=>N0 n p.1 p.2.1 p.2.2.1) p→∀q,some q∈(fun p:(Mk)×(Int)×(Int)×Unit=>Ed n p.1 p.2.1 p.2.2.1) p→∀r∈q.2,∀c∈r,c.names=[]:=by intro p _;exact KD _
noncomputable def Je {X:Ctx} {w0:World} (n:Nat) (h:Pc n):Sy.Spec Try.prog X w0:=CY 83 Try.call83 (Jd) (fun p:(Mk)×(Int)×(Int)×Unit=>N0 n p.1 p.2.1 p.2.2.1) (fun p:(Mk)×(Int)×(Int)×Unit=>Fh n p.1 p.2.1 p.2.2.1) (fun p:(Mk)×(Int)×(Int)×Unit=>Ed n p.1 p.2.1 p.2.2.1) (fw n) (fy n) (gA n) h
set_option maxRecDepth 20000 in set_option maxHeartbeats 8000000 in
attribute[local go_sem] Mk.c kJ En Em El Dh tn0 tn1 tn2 Je Gc D3 Bk KE Hd zBy in
theorem gC (n:Nat) (hu:Pc n):Pc (n+1):=by
 rintro ⟨m,s,d,_u⟩ w M I lab fz xs hc hA hl hx
 refine Am Try.func83 rfl ((Jd).mem ⟨m,s,d,_u⟩) w M I lab fz [Bk,D3,Hd,(Gc 3 (TE 3)),(Je n hu)] [] ((Jd).args 0 ⟨m,s,d,_u⟩) ((fun p:(Mk)×(Int)×(Int)×Unit=>Ed (n+1) p.1 p.2.1 p.2.2.1) ⟨m,s,d,_u⟩) ((fun p:(Mk)×(Int)×(Int)×Unit=>Fh (n+1) p.1 p.2.1 p.2.2.1) ⟨m,s,d,_u⟩) xs hA hl hx (fun v hv k hk=>by have:=(Jd).an 0 ⟨m,s,d,_u⟩ v hv k hk;omega) (jN rfl) (jN rfl) ?_
 clear hx hl hA xs
 simp only[Try.f83]
 obtain⟨o0,g0,g1,g2⟩:=hc
 dsimp only at o0 g0 g1 g2
 have a1:Ax m (nxM m) 1:=BX (okM.mono o0 (by omega))
 have o1:okM (nxM m) (25*d+23):=a1.ok (okM.mono o0 (by omega))
 cases hd0:decide (0<d) with
 |false=>
  have hb:Al d.toNat s m=GJ s m:=by
   have h:d.toNat=0:=by (have:=of_decide_eq_false hd0;omega)
   rw[h];rfl
  have a2:=Ix (s:=s) (okM.mono o1 (by omega):okM _ 1)
  have o2:okM (pvT s (nxM m)).2 1:=a2.ok (okM.mono o1 (by omega))
  have b2:=Eo (okM.mono o1 (by omega):okM _ 1)
  have r2:okM (An (nxM m)).2 9:=b2.ok (okM.mono o1 (by omega))
  have b3:=BX (okM.mono r2 (by omega):okM _ 1)
  have r3:okM (nxM (An (nxM m)).2) 8:=b3.ok (okM.mono r2 (by omega))
  have l1:=G0 s (nxM m)
  have l2:=UT (nxV 2 (pvT s (nxM m)).2).toNat
  have l3:=Cu (nxM m)
  have l4:=US (nxV 6 (An (nxM m)).2).toNat
  have l5:=CU 1 (nxM (An (nxM m)).2)
  have q2:=D2 (j:=2) o2 (by decide)
  have q6:=D2 (j:=6) r2 (by decide)
  cases e3:(nxV 10 m==3) with
  |true=>
   have hr:Al d.toNat s m=((pvT s (nxM m)).1++eqT.getD (nxV 2 (pvT s (nxM m)).2).toNat [],nxM (pvT s (nxM m)).2):=by rw[hb];unfold GJ;rw[if_pos e3]
   simp only[↓eB,seval,go_sem,hd0,e3]
   try simp only[A2,A3]
   repeat' first|exact ck|with_reducible apply And.intro|intro _
   all_goals first|exact okM.mono o0 (by omega)|exact okM.mono o1 (by omega)|exact okM.mono o2 (by omega)|exact q2|(simp only[jL3]at *;omega)|(rename_i h;first|exact oI h|exact nah h)|(rename_i _ h _ g;exact sL h g)|decide|omega|(refine A0 [] ?_;simp only[↓eB,seval,go_sem,bne,Fh,Ed,hr])
  |false=>
   have hr:Al d.toNat s m=(((((An (nxM m)).1++[32])++cmT.getD (nxV 6 (An (nxM m)).2).toNat [])++[32])++(AW 1 (nxM (An (nxM m)).2)).1,(AW 1 (nxM (An (nxM m)).2)).2):=by rw[hb];unfold GJ;rw[if_neg (by rw[e3];decide)]
   simp only[↓eB,seval,go_sem,hd0,e3]
   try simp only[A2,A3]
   repeat' first|exact ck|with_reducible apply And.intro|intro _
   all_goals first|exact okM.mono o0 (by omega)|exact okM.mono o1 (by omega)|exact okM.mono r2 (by omega)|exact okM.mono r3 (by omega)|exact q6|(simp only[jL3]at *;omega)|(rename_i h;first|exact oI h|exact nah h)|(rename_i _ h _ g;exact sL h g)|decide|omega|(refine A0 [] ?_;simp only[↓eB,seval,go_sem,bne,Fh,Ed,hr])
 |true=>
  obtain⟨k,hk⟩:∃k:Nat,d.toNat=k+1:=⟨d.toNat-1,by have:=of_decide_eq_true hd0;omega⟩
  obtain⟨d',hd'⟩:∃d':Int,d'=d-1:=⟨_,rfl⟩
  have hk':d'.toNat=k:=by omega
  have hdw:IntKind.i64.wrap (d-1)=d':=by rw[hd'];exact wrap_i64 (by omega) (by omega)
  have hdk:(k:Int)=d':=by have:=of_decide_eq_true hd0;omega
  have p0:0≤d':=by omega
  have p1:d'<(n:Int):=by omega
  have p2:d'≤4:=by omega
  have p3:(0:Int)<(n:Int):=by omega
  have e9:Al d.toNat s m=Al (k+1) s m:=by rw[hk]
  have o1':okM (nxM m) (25*d'+24):=okM.mono o1 (by omega)
  have a2:Ax (nxM m) (Al k s (nxM m)).2 (25*d'+24):=by have h:=He k (s:=s) (m:=nxM m) (by rw[hdk];exact o1');rw[hdk]at h;exact h
  have o2:okM (Al k s (nxM m)).2 24:=a2.ok (okM.mono o1 (by omega))
  have l1:=GK k s (nxM m)
  have l2:=RN s (Al k s (nxM m)).2
  have hkb:k≤4:=by omega
  cases e0:(nxV 10 m==0) with
  |true=>
   have hr:Al d.toNat s m=(([33,40]++(Al k s (nxM m)).1)++[41],(Al k s (nxM m)).2):=by rw[e9];simp only[Al];rw[if_pos e0]
   simp only[↓eB,seval,go_sem,hd0,e0,hdw,hk']
   try simp only[A2,A3]
   repeat' first|exact ck|with_reducible apply And.intro|intro _
   all_goals first|exact okM.mono o0 (by omega)|exact okM.mono o1' (by omega)|exact okM.mono o2 (by omega)|exact p0|exact p1|exact p2|exact p3|(simp only[jL3]at *;omega)|(rename_i h;first|exact oI h|exact nah h)|(rename_i _ h _ g;exact sL h g)|decide|omega|(refine A0 [] ?_;simp only[↓eB,seval,go_sem,bne,Fh,Ed,hr])
  |false=>
  cases e1:(nxV 10 m==1) with
  |true=>
   have hr:Al d.toNat s m=(((Al k s (nxM m)).1++[32,38,38,32])++(GJ s (Al k s (nxM m)).2).1,(GJ s (Al k s (nxM m)).2).2):=by rw[e9];simp only[Al];rw[if_neg (by rw[e0];decide),if_pos e1]
   simp only[↓eB,seval,go_sem,hd0,e0,e1,hdw,hk']
   try simp only[A2,A3]
   repeat' first|exact ck|with_reducible apply And.intro|intro _
   all_goals first|exact okM.mono o0 (by omega)|exact okM.mono o1' (by omega)|exact okM.mono o2 (by omega)|exact p0|exact p1|exact p2|exact p3|(simp only[jL3]at *;omega)|(rename_i h;first|exact oI h|exact nah h)|(rename_i _ h _ g;exact sL h g)|decide|omega|(refine A0 [] ?_;simp only[↓eB,seval,go_sem,bne,Fh,Ed,hr])
  |false=>
  cases e2:(nxV 10 m==2) with
  |true=>
   have hr:Al d.toNat s m=((([40]++(Al k s (nxM m)).1)++[41,32,124,124,32])++(GJ s (Al k s (nxM m)).2).1,(GJ s (Al k s (nxM m)).2).2):=by rw[e9];simp only[Al];rw[if_neg (by rw[e0];decide),if_neg (by rw[e1];decide),if_pos e2]
   simp only[↓eB,seval,go_sem,hd0,e0,e1,e2,hdw,hk']
   try simp only[A2,A3]
   repeat' first|exact ck|with_reducible apply And.intro|intro _
   all_goals first|exact okM.mono o0 (by omega)|exact okM.mono o1' (by omega)|exact okM.mono o2 (by omega)|exact p0|exact p1|exact p2|exact p3|(simp only[jL3]at *;omega)|(rename_i h;first|exact oI h|exact nah h)|(rename_i _ h _ g;exact sL h g)|decide|omega|(refine A0 [] ?_;simp only[↓eB,seval,go_sem,bne,Fh,Ed,hr])
  |false=>
  have hb:Al d.toNat s m=GJ s m:=by rw[e9];simp only[Al];rw[if_neg (by rw[e0];decide),if_neg (by rw[e1];decide),if_neg (by rw[e2];decide)]
  clear a2 o2 l1 l2
  have a2:=Ix (s:=s) (okM.mono o1 (by omega):okM _ 1)
  have o2:okM (pvT s (nxM m)).2 1:=a2.ok (okM.mono o1 (by omega))
  have b2:=Eo (okM.mono o1 (by omega):okM _ 1)
  have r2:okM (An (nxM m)).2 9:=b2.ok (okM.mono o1 (by omega))
  have b3:=BX (okM.mono r2 (by omega):okM _ 1)
  have r3:okM (nxM (An (nxM m)).2) 8:=b3.ok (okM.mono r2 (by omega))
  have l1:=G0 s (nxM m)
  have l2:=UT (nxV 2 (pvT s (nxM m)).2).toNat
  have l3:=Cu (nxM m)
  have l4:=US (nxV 6 (An (nxM m)).2).toNat
  have l5:=CU 1 (nxM (An (nxM m)).2)
  have q2:=D2 (j:=2) o2 (by decide)
  have q6:=D2 (j:=6) r2 (by decide)
  cases e3:(nxV 10 m==3) with
  |true=>
   have hr:Al d.toNat s m=((pvT s (nxM m)).1++eqT.getD (nxV 2 (pvT s (nxM m)).2).toNat [],nxM (pvT s (nxM m)).2):=by rw[hb];unfold GJ;rw[if_pos e3]
   simp only[↓eB,seval,go_sem,hd0,e0,e1,e2,e3]
   try simp only[A2,A3]
   repeat' first|exact ck|with_reducible apply And.intro|intro _
   all_goals first|exact okM.mono o0 (by omega)|exact okM.mono o1 (by omega)|exact okM.mono o2 (by omega)|exact q2|(simp only[jL3]at *;omega)|(rename_i h;first|exact oI h|exact nah h)|(rename_i _ h _ g;exact sL h g)|decide|omega|(refine A0 [] ?_;simp only[↓eB,seval,go_sem,bne,Fh,Ed,hr])
  |false=>
   have hr:Al d.toNat s m=(((((An (nxM m)).1++[32])++cmT.getD (nxV 6 (An (nxM m)).2).toNat [])++[32])++(AW 1 (nxM (An (nxM m)).2)).1,(AW 1 (nxM (An (nxM m)).2)).2):=by rw[hb];unfold GJ;rw[if_neg (by rw[e3];decide)]
   simp only[↓eB,seval,go_sem,hd0,e0,e1,e2,e3]
   try simp only[A2,A3]
   repeat' first|exact ck|with_reducible apply And.intro|intro _
   all_goals first|exact okM.mono o0 (by omega)|exact okM.mono o1 (by omega)|exact okM.mono r2 (by omega)|exact okM.mono r3 (by omega)|exact q6|(simp only[jL3]at *;omega)|(rename_i h;first|exact oI h|exact nah h)|(rename_i _ h _ g;exact sL h g)|decide|omega|(refine A0 [] ?_;simp only[↓eB,seval,go_sem,bne,Fh,Ed,hr])
theorem Yt:∀n:Nat,Pc n
 |0=>by
  rintro ⟨m,s,d,_u⟩ w M I lab fz xs hc hA hl hx
  exact absurd hc.2.2.1 (by have:=hc.2.1;dsimp only at this ⊢;omega)
 |n+1=>gC n (Yt n)
end Go.Proofs.Ytjnnmindcbgjhaa
