/- The maker's heads, arguments and conditions. No conditions but those in each statement. -/
import Derived.Test.YtjnnmindcbgjhaaMk2
set_option linter.unusedVariables false
set_option linter.unusedSimpArgs false
open List (length_append length_cons length_nil)
namespace Go.Proofs.Ytjnnmindcbgjhaa
open Go Go.Sy Go.RowKit
theorem tn0:Int.toNat 0=0:=rfl
theorem tn1:Int.toNat 1=1:=rfl
theorem tn2:Int.toNat 2=2:=rfl
def hdS (s:Int):List UInt8:=hdT.getD (s.tmod 4).toNat []
def nmS (s:Int):List UInt8:=nmT.getD (s.tmod 4).toNat []
def GW (s:Int) (m:Mk):T:=
 if (nxV 10 m==3)=true then ((pvT s (nxM m)).1++eqT.getD (nxV 2 (pvT s (nxM m)).2).toNat [],nxM (pvT s (nxM m)).2)
 else (((((Ao (nxM m)).1++[32])++cmT.getD (nxV 6 (Ao (nxM m)).2).toNat [])++[32])++(AX 1 (nxM (Ao (nxM m)).2)).1,(AX 1 (nxM (Ao (nxM m)).2)).2)
def Am:Nat→Int→Mk→T
 |0,s,m=>GW s m
 |k+1,s,m=>
  if (nxV 10 m==0)=true then (([33,40]++(Am k s (nxM m)).1)++[41],(Am k s (nxM m)).2)
  else if (nxV 10 m==1)=true then (((Am k s (nxM m)).1++[32,38,38,32])++(GW s (Am k s (nxM m)).2).1,(GW s (Am k s (nxM m)).2).2)
  else if (nxV 10 m==2)=true then ((([40]++(Am k s (nxM m)).1)++[41,32,124,124,32])++(GW s (Am k s (nxM m)).2).1,(GW s (Am k s (nxM m)).2).2)
  else GW s m
theorem kl (s:Int) (m:Mk):Am 0 s m=GW s m:=rfl
theorem X5 {s:Int} {m:Mk} (h:okM m 24):Ax m (GW s m).2 24:=by
 have a1:=Ba (h.mono (by decide))
 have o1:okM (nxM m) 23:=a1.ok (h.mono (by decide))
 unfold GW
 split
 ·have a2:=JA (s:=s) (o1.mono (by decide))
  have a3:=Ba (a2.ok (o1.mono (by decide)):okM _ 1)
  exact((a1.trans a2).trans a3).mono (by decide)
 ·have a2:=Em (o1.mono (by decide))
  have o2:okM (Ao (nxM m)).2 22:=a2.ok (o1.mono (by decide))
  have a3:=Ba (o2.mono (by decide))
  have a4:=DN 1 (a3.ok (o2.mono (by decide)):okM _ (4*(((1:Nat):Int)+1)))
  exact(((a1.trans a2).trans a3).trans a4).mono (by decide)
theorem Rh (s:Int) (m:Mk):(GW s m).1.length≤140:=by
 have h1:=GB s (nxM m)
 have h2:=Uj (nxV 2 (pvT s (nxM m)).2).toNat
 have h3:=Cu (nxM m)
 have h4:=Ui (nxV 6 (Ao (nxM m)).2).toNat
 have h5:=CV 1 (nxM (Ao (nxM m)).2)
 unfold GW
 split<;>simp only[jL3]<;>omega
theorem Hw:∀(k:Nat) {s:Int} {m:Mk},okM m (25*(k:Int)+24)→Ax m (Am k s m).2 (25*(k:Int)+24)
 |0,s,m,h=>X5 h
 |k+1,s,m,h=>by
  have a1:=Ba (h.mono (by omega))
  have o1:okM (nxM m) (25*(k:Int)+24+24):=a1.ok (h.mono (by omega))
  have a2:=Hw k (s:=s) (o1.mono (by omega))
  have a3:=X5 (s:=s) (a2.ok (o1.mono (by omega)):okM _ 24)
  simp only[Am]
  split
  ·exact(a1.trans a2).mono (by omega)
  split
  ·exact((a1.trans a2).trans a3).mono (by omega)
  split
  ·exact((a1.trans a2).trans a3).mono (by omega)
  ·exact(X5 (h.mono (by omega))).mono (by omega)
theorem GX:∀(k:Nat) (s:Int) (m:Mk),(Am k s m).1.length≤160*(k+1)
 |0,s,m=>by have:=Rh s m;simp only[Am];omega
 |k+1,s,m=>by
  have h1:=GX k s (nxM m)
  have h2:=Rh s (Am k s (nxM m)).2
  have h3:=Rh s m
  simp only[Am]
  repeat' split
  all_goals (try simp only[jL3])
  all_goals omega
def Gt (t s:Int) (m:Mk):T:=
 if (t.tmod 4==0)=true then AX 1 m
 else if (t.tmod 4==1)=true then (((AX 0 m).1++[44,32])++(AX 1 (AX 0 m).2).1,(AX 1 (AX 0 m).2).2)
 else if (t.tmod 4==2)=true then pvT s m
 else (((AX 0 m).1++[44,32])++(pvT s (AX 0 m).2).1,(pvT s (AX 0 m).2).2)
theorem Qq {t s:Int} {m:Mk} (h:okM m 12):Ax m (Gt t s m).2 12:=by
 have a1:=DN 0 (h.mono (by decide))
 have o1:okM (AX 0 m).2 8:=a1.ok (h.mono (by decide))
 unfold Gt
 split
 ·exact(DN 1 (h.mono (by decide))).mono (by decide)
 split
 ·exact(a1.trans (DN 1 (o1.mono (by decide)))).mono (by decide)
 split
 ·exact(JA (h.mono (by decide))).mono (by decide)
 ·exact(a1.trans (JA (o1.mono (by decide)))).mono (by decide)
theorem Ow (t s:Int) (m:Mk):(Gt t s m).1.length≤200:=by
 have h1:=CV 1 m
 have h2:=CV 0 m
 have h3:=CV 1 (AX 0 m).2
 have h4:=GB s m
 have h5:=GB s (AX 0 m).2
 unfold Gt
 repeat' split
 all_goals (try simp only[jL3])
 all_goals omega
theorem km {s:Int} (h:0≤s):0≤s.tmod 4∧s.tmod 4<4:=⟨Int.tmod_nonneg 4 h,Int.tmod_lt_of_pos s (by decide)⟩
abbrev Z5 (s:Int):Prop:=0≤s
abbrev Ox (s:Int):SV:=SV.one (.v (.string (bs (hdS s))))
attribute [local go_sem] Dz Dy E2 E3 Dw E4 E0 DF Dx E1
theorem uT:CY Try.prog 67 (acS (cInt .i64) ac0) (fun p:(Int×Unit)=>Z5 p.1) (fun p:(Int×Unit)=>Ox p.1):=by
 rintro ⟨s,_u⟩ w fz xs hc hfz hl hx
 refine BZ Try.func67 rfl w fz [] [] (acS (cInt .i64) ac0) (fun p:(Int×Unit)=>Ox p.1) _ xs hfz hl hx (jN rfl) ?_
 clear hx hl hfz xs
 simp only[Try.f67]
 have h0:0≤s:=hc
 have h1:=km h0
 simp only[↓eB,seval,go_sem]
 try simp only[A3,A4]
 repeat' first|exact ck|with_reducible apply And.intro|intro _
 all_goals first|exact h1|(rename_i h;first|exact oI h|exact nah h)|(rename_i _ h _ g;exact sL h g)|decide|omega|(refine A0 [] ?_;simp only[↓eB,seval,go_sem,bne,Ox,hdS])
theorem mq:∀p:(Int×Unit),((fun p:(Int×Unit)=>Ox p.1) p).names=[]:=by intro p;first|rfl|simp[SV.names,C.names]
noncomputable def Gu {X:Ctx} {w0:World}:Sy.Spec Try.prog X w0:=D4 67 Try.call67 (acS (cInt .i64) ac0) (fun p:(Int×Unit)=>Z5 p.1) (fun p:(Int×Unit)=>Ox p.1) mq uT
abbrev Z6 (s:Int):Prop:=0≤s
abbrev Gv (s:Int):SV:=SV.one (.v (.string (bs (nmS s))))
theorem uU:CY Try.prog 14 (acS (cInt .i64) ac0) (fun p:(Int×Unit)=>Z6 p.1) (fun p:(Int×Unit)=>Gv p.1):=by
 rintro ⟨s,_u⟩ w fz xs hc hfz hl hx
 refine BZ Try.func14 rfl w fz [] [] (acS (cInt .i64) ac0) (fun p:(Int×Unit)=>Gv p.1) _ xs hfz hl hx (jN rfl) ?_
 clear hx hl hfz xs
 simp only[Try.f14]
 have h0:0≤s:=hc
 have h1:=km h0
 simp only[↓eB,seval,go_sem]
 try simp only[A3,A4]
 repeat' first|exact ck|with_reducible apply And.intro|intro _
 all_goals first|exact h1|(rename_i h;first|exact oI h|exact nah h)|(rename_i _ h _ g;exact sL h g)|decide|omega|(refine A0 [] ?_;simp only[↓eB,seval,go_sem,bne,Gv,nmS])
theorem mu:∀p:(Int×Unit),((fun p:(Int×Unit)=>Gv p.1) p).names=[]:=by intro p;first|rfl|simp[SV.names,C.names]
noncomputable def Fi {X:Ctx} {w0:World}:Sy.Spec Try.prog X w0:=D4 14 Try.call14 (acS (cInt .i64) ac0) (fun p:(Int×Unit)=>Z6 p.1) (fun p:(Int×Unit)=>Gv p.1) mu uU
abbrev NG (m:Mk) (t:Int) (s:Int):Prop:=okM m 12
abbrev Ih (m:Mk) (t:Int) (s:Int):SV:=.one (.v (.string (bs (Gt t s m).1)))
abbrev GY (m:Mk) (t:Int) (s:Int):List (Option MV):=[some (zMk,[(Gt t s m).2.c])]
noncomputable abbrev Jp:ArgM ((Mk)×(Int)×(Int)×Unit):=(amP (mMk) (amD (cInt .i64) (amD (cInt .i64) am0)))
abbrev gL:Prop:=Bt Try.prog 82 ((Jp).args 0) (Jp).mem (fun p:(Mk)×(Int)×(Int)×Unit=>NG p.1 p.2.1 p.2.2.1) (fun p:(Mk)×(Int)×(Int)×Unit=>Ih p.1 p.2.1 p.2.2.1) (fun p:(Mk)×(Int)×(Int)×Unit=>GY p.1 p.2.1 p.2.2.1)
theorem gM:∀p,(fun p:(Mk)×(Int)×(Int)×Unit=>NG p.1 p.2.1 p.2.2.1) p→Cn ((Jp).mem p).length ((fun p:(Mk)×(Int)×(Int)×Unit=>GY p.1 p.2.1 p.2.2.1) p)=true:=by intro p _;rfl
theorem gN:∀p,(fun p:(Mk)×(Int)×(Int)×Unit=>NG p.1 p.2.1 p.2.2.1) p→Av ((fun p:(Mk)×(Int)×(Int)×Unit=>GY p.1 p.2.1 p.2.2.1) p).length ((fun p:(Mk)×(Int)×(Int)×Unit=>Ih p.1 p.2.1 p.2.2.1) p)=true:=by intro p _;first|rfl|exact AO _ _|exact AP _ _|(simp[Av,C0,AO,AP];done)
theorem gO:∀p,(fun p:(Mk)×(Int)×(Int)×Unit=>NG p.1 p.2.1 p.2.2.1) p→∀q,some q∈(fun p:(Mk)×(Int)×(Int)×Unit=>GY p.1 p.2.1 p.2.2.1) p→∀r∈q.2,∀c∈r,c.names=[]:=by intro p _;exact KQ _
attribute[local go_sem] Mk.c kl El Ek Ej Dg tn0 tn1 tn2 Gs D5 Bl KR Hv zBy in
theorem mw:gL:=by
 rintro ⟨m,t,s,_u⟩ w M I lab fz xs hc hA hl hx
 refine An Try.func82 rfl ((Jp).mem ⟨m,t,s,_u⟩) w M I lab fz [Bl,Hv,(Gs 3 (TY 3))] [] ((Jp).args 0 ⟨m,t,s,_u⟩) ((fun p:(Mk)×(Int)×(Int)×Unit=>GY p.1 p.2.1 p.2.2.1) ⟨m,t,s,_u⟩) ((fun p:(Mk)×(Int)×(Int)×Unit=>Ih p.1 p.2.1 p.2.2.1) ⟨m,t,s,_u⟩) xs hA hl hx (fun v hv k hk=>by have:=(Jp).an 0 ⟨m,t,s,_u⟩ v hv k hk;omega) (jN rfl) (jN rfl) ?_
 clear hx hl hA xs
 simp only[Try.f82]
 have o0:okM m 12:=hc
 have a1:=DN 0 (okM.mono o0 (by decide))
 have o1:okM (AX 0 m).2 8:=a1.ok (okM.mono o0 (by decide))
 have l1:=CV 0 m
 have l2:=CV 1 (AX 0 m).2
 have l3:=GB s (AX 0 m).2
 cases t0:(t.tmod 4==0) with
 |true=>
  have hr:Gt t s m=AX 1 m:=by unfold Gt;rw[if_pos t0]
  simp only[↓eB,seval,go_sem,t0]
  try simp only[A3,A4]
  repeat' first|exact ck|with_reducible apply And.intro|intro _
  all_goals first|exact okM.mono o0 (by omega)|(simp only[jL3]at *;omega)|(rename_i h;first|exact oI h|exact nah h)|(rename_i _ h _ g;exact sL h g)|decide|omega|(refine A0 [] ?_;simp only[↓eB,seval,go_sem,bne,Ih,GY,hr])
 |false=>
 cases t1:(t.tmod 4==1) with
 |true=>
  have hr:Gt t s m=(((AX 0 m).1++[44,32])++(AX 1 (AX 0 m).2).1,(AX 1 (AX 0 m).2).2):=by unfold Gt;rw[if_neg (by rw[t0];decide),if_pos t1]
  simp only[↓eB,seval,go_sem,t0,t1]
  try simp only[A3,A4]
  repeat' first|exact ck|with_reducible apply And.intro|intro _
  all_goals first|exact okM.mono o0 (by omega)|exact okM.mono o1 (by omega)|(simp only[jL3]at *;omega)|(rename_i h;first|exact oI h|exact nah h)|(rename_i _ h _ g;exact sL h g)|decide|omega|(refine A0 [] ?_;simp only[↓eB,seval,go_sem,bne,Ih,GY,hr])
 |false=>
 cases t2:(t.tmod 4==2) with
 |true=>
  have hr:Gt t s m=pvT s m:=by unfold Gt;rw[if_neg (by rw[t0];decide),if_neg (by rw[t1];decide),if_pos t2]
  simp only[↓eB,seval,go_sem,t0,t1,t2]
  try simp only[A3,A4]
  repeat' first|exact ck|with_reducible apply And.intro|intro _
  all_goals first|exact okM.mono o0 (by omega)|(simp only[jL3]at *;omega)|(rename_i h;first|exact oI h|exact nah h)|(rename_i _ h _ g;exact sL h g)|decide|omega|(refine A0 [] ?_;simp only[↓eB,seval,go_sem,bne,Ih,GY,hr])
 |false=>
  have hr:Gt t s m=(((AX 0 m).1++[44,32])++(pvT s (AX 0 m).2).1,(pvT s (AX 0 m).2).2):=by unfold Gt;rw[if_neg (by rw[t0];decide),if_neg (by rw[t1];decide),if_neg (by rw[t2];decide)]
  simp only[↓eB,seval,go_sem,t0,t1,t2]
  try simp only[A3,A4]
  repeat' first|exact ck|with_reducible apply And.intro|intro _
  all_goals first|exact okM.mono o0 (by omega)|exact okM.mono o1 (by omega)|(simp only[jL3]at *;omega)|(rename_i h;first|exact oI h|exact nah h)|(rename_i _ h _ g;exact sL h g)|decide|omega|(refine A0 [] ?_;simp only[↓eB,seval,go_sem,bne,Ih,GY,hr])
noncomputable def NH {X:Ctx} {w0:World}:Sy.Spec Try.prog X w0:=Ca 82 Try.call82 (Jp) (fun p:(Mk)×(Int)×(Int)×Unit=>NG p.1 p.2.1 p.2.2.1) (fun p:(Mk)×(Int)×(Int)×Unit=>Ih p.1 p.2.1 p.2.2.1) (fun p:(Mk)×(Int)×(Int)×Unit=>GY p.1 p.2.1 p.2.2.1) gM gN gO mw
abbrev NI (n:Nat) (m:Mk) (s:Int) (d:Int):Prop:=okM m (25*d+24)∧0≤d∧d<(n:Int)∧d≤4
abbrev Fs (n:Nat) (m:Mk) (s:Int) (d:Int):SV:=.one (.v (.string (bs (Am d.toNat s m).1)))
abbrev Ec (n:Nat) (m:Mk) (s:Int) (d:Int):List (Option MV):=[some (zMk,[(Am d.toNat s m).2.c])]
noncomputable abbrev Jq:ArgM ((Mk)×(Int)×(Int)×Unit):=(amP (mMk) (amD (cInt .i64) (amD (cInt .i64) am0)))
abbrev Pv (n:Nat):Prop:=Bt Try.prog 83 ((Jq).args 0) (Jq).mem (fun p:(Mk)×(Int)×(Int)×Unit=>NI n p.1 p.2.1 p.2.2.1) (fun p:(Mk)×(Int)×(Int)×Unit=>Fs n p.1 p.2.1 p.2.2.1) (fun p:(Mk)×(Int)×(Int)×Unit=>Ec n p.1 p.2.1 p.2.2.1)
theorem gP (n:Nat):∀p,(fun p:(Mk)×(Int)×(Int)×Unit=>NI n p.1 p.2.1 p.2.2.1) p→Cn ((Jq).mem p).length ((fun p:(Mk)×(Int)×(Int)×Unit=>Ec n p.1 p.2.1 p.2.2.1) p)=true:=by intro p _;rfl
theorem gQ (n:Nat):∀p,(fun p:(Mk)×(Int)×(Int)×Unit=>NI n p.1 p.2.1 p.2.2.1) p→Av ((fun p:(Mk)×(Int)×(Int)×Unit=>Ec n p.1 p.2.1 p.2.2.1) p).length ((fun p:(Mk)×(Int)×(Int)×Unit=>Fs n p.1 p.2.1 p.2.2.1) p)=true:=by intro p _;first|rfl|exact AO _ _|exact AP _ _|(simp[Av,C0,AO,AP];done)
theorem gR (n:Nat):∀p,(fun p:(Mk)×(Int)×(Int)×Unit=>NI n p.1 p.2.1 p.2.2.1) p→∀q,some q∈(fun p:(Mk)×(Int)×(Int)×Unit=>Ec n p.1 p.2.1 p.2.2.1) p→∀r∈q.2,∀c∈r,c.names=[]:=by intro p _;exact KQ _
noncomputable def Jr {X:Ctx} {w0:World} (n:Nat) (h:Pv n):Sy.Spec Try.prog X w0:=Ca 83 Try.call83 (Jq) (fun p:(Mk)×(Int)×(Int)×Unit=>NI n p.1 p.2.1 p.2.2.1) (fun p:(Mk)×(Int)×(Int)×Unit=>Fs n p.1 p.2.1 p.2.2.1) (fun p:(Mk)×(Int)×(Int)×Unit=>Ec n p.1 p.2.1 p.2.2.1) (gP n) (gQ n) (gR n) h
set_option maxRecDepth 20000 in set_option maxHeartbeats 8000000 in
attribute[local go_sem] Mk.c kl El Ek Ej Dg tn0 tn1 tn2 Jr Gs D5 Bl KR Hv zBy in
theorem gS (n:Nat) (hu:Pv n):Pv (n+1):=by
 rintro ⟨m,s,d,_u⟩ w M I lab fz xs hc hA hl hx
 refine An Try.func83 rfl ((Jq).mem ⟨m,s,d,_u⟩) w M I lab fz [Bl,D5,Hv,(Gs 3 (TY 3)),(Jr n hu)] [] ((Jq).args 0 ⟨m,s,d,_u⟩) ((fun p:(Mk)×(Int)×(Int)×Unit=>Ec (n+1) p.1 p.2.1 p.2.2.1) ⟨m,s,d,_u⟩) ((fun p:(Mk)×(Int)×(Int)×Unit=>Fs (n+1) p.1 p.2.1 p.2.2.1) ⟨m,s,d,_u⟩) xs hA hl hx (fun v hv k hk=>by have:=(Jq).an 0 ⟨m,s,d,_u⟩ v hv k hk;omega) (jN rfl) (jN rfl) ?_
 clear hx hl hA xs
 simp only[Try.f83]
 obtain⟨o0,g0,g1,g2⟩:=hc
 dsimp only at o0 g0 g1 g2
 have a1:Ax m (nxM m) 1:=Ba (okM.mono o0 (by omega))
 have o1:okM (nxM m) (25*d+23):=a1.ok (okM.mono o0 (by omega))
 cases hd0:decide (0<d) with
 |false=>
  have hb:Am d.toNat s m=GW s m:=by
   have h:d.toNat=0:=by (have:=of_decide_eq_false hd0;omega)
   rw[h];rfl
  have a2:=JA (s:=s) (okM.mono o1 (by omega):okM _ 1)
  have o2:okM (pvT s (nxM m)).2 1:=a2.ok (okM.mono o1 (by omega))
  have b2:=Em (okM.mono o1 (by omega):okM _ 1)
  have r2:okM (Ao (nxM m)).2 9:=b2.ok (okM.mono o1 (by omega))
  have b3:=Ba (okM.mono r2 (by omega):okM _ 1)
  have r3:okM (nxM (Ao (nxM m)).2) 8:=b3.ok (okM.mono r2 (by omega))
  have l1:=GB s (nxM m)
  have l2:=Uj (nxV 2 (pvT s (nxM m)).2).toNat
  have l3:=Cu (nxM m)
  have l4:=Ui (nxV 6 (Ao (nxM m)).2).toNat
  have l5:=CV 1 (nxM (Ao (nxM m)).2)
  have q2:=D2 (j:=2) o2 (by decide)
  have q6:=D2 (j:=6) r2 (by decide)
  cases e3:(nxV 10 m==3) with
  |true=>
   have hr:Am d.toNat s m=((pvT s (nxM m)).1++eqT.getD (nxV 2 (pvT s (nxM m)).2).toNat [],nxM (pvT s (nxM m)).2):=by rw[hb];unfold GW;rw[if_pos e3]
   simp only[↓eB,seval,go_sem,hd0,e3]
   try simp only[A3,A4]
   repeat' first|exact ck|with_reducible apply And.intro|intro _
   all_goals first|exact okM.mono o0 (by omega)|exact okM.mono o1 (by omega)|exact okM.mono o2 (by omega)|exact q2|(simp only[jL3]at *;omega)|(rename_i h;first|exact oI h|exact nah h)|(rename_i _ h _ g;exact sL h g)|decide|omega|(refine A0 [] ?_;simp only[↓eB,seval,go_sem,bne,Fs,Ec,hr])
  |false=>
   have hr:Am d.toNat s m=(((((Ao (nxM m)).1++[32])++cmT.getD (nxV 6 (Ao (nxM m)).2).toNat [])++[32])++(AX 1 (nxM (Ao (nxM m)).2)).1,(AX 1 (nxM (Ao (nxM m)).2)).2):=by rw[hb];unfold GW;rw[if_neg (by rw[e3];decide)]
   simp only[↓eB,seval,go_sem,hd0,e3]
   try simp only[A3,A4]
   repeat' first|exact ck|with_reducible apply And.intro|intro _
   all_goals first|exact okM.mono o0 (by omega)|exact okM.mono o1 (by omega)|exact okM.mono r2 (by omega)|exact okM.mono r3 (by omega)|exact q6|(simp only[jL3]at *;omega)|(rename_i h;first|exact oI h|exact nah h)|(rename_i _ h _ g;exact sL h g)|decide|omega|(refine A0 [] ?_;simp only[↓eB,seval,go_sem,bne,Fs,Ec,hr])
 |true=>
  obtain⟨k,hk⟩:∃k:Nat,d.toNat=k+1:=⟨d.toNat-1,by have:=of_decide_eq_true hd0;omega⟩
  obtain⟨d',hd'⟩:∃d':Int,d'=d-1:=⟨_,rfl⟩
  have hk':d'.toNat=k:=by omega
  have hdw:IntKind.i64.wrap (d-1)=d':=by rw[hd'];exact wrap_i64 (by omega) (by omega)
  have hdk:(k:Int)=d':=by have:=of_decide_eq_true hd0;omega
  have p0:0≤d':=by omega
  have p1:d'<(n:Int):=by omega
  have p2:d'≤4:=by omega
  have p3:(0:Int)<(n:Int):=by omega
  have e9:Am d.toNat s m=Am (k+1) s m:=by rw[hk]
  have o1':okM (nxM m) (25*d'+24):=okM.mono o1 (by omega)
  have a2:Ax (nxM m) (Am k s (nxM m)).2 (25*d'+24):=by have h:=Hw k (s:=s) (m:=nxM m) (by rw[hdk];exact o1');rw[hdk]at h;exact h
  have o2:okM (Am k s (nxM m)).2 24:=a2.ok (okM.mono o1 (by omega))
  have l1:=GX k s (nxM m)
  have l2:=Rh s (Am k s (nxM m)).2
  have hkb:k≤4:=by omega
  cases e0:(nxV 10 m==0) with
  |true=>
   have hr:Am d.toNat s m=(([33,40]++(Am k s (nxM m)).1)++[41],(Am k s (nxM m)).2):=by rw[e9];simp only[Am];rw[if_pos e0]
   simp only[↓eB,seval,go_sem,hd0,e0,hdw,hk']
   try simp only[A3,A4]
   repeat' first|exact ck|with_reducible apply And.intro|intro _
   all_goals first|exact okM.mono o0 (by omega)|exact okM.mono o1' (by omega)|exact okM.mono o2 (by omega)|exact p0|exact p1|exact p2|exact p3|(simp only[jL3]at *;omega)|(rename_i h;first|exact oI h|exact nah h)|(rename_i _ h _ g;exact sL h g)|decide|omega|(refine A0 [] ?_;simp only[↓eB,seval,go_sem,bne,Fs,Ec,hr])
  |false=>
  cases e1:(nxV 10 m==1) with
  |true=>
   have hr:Am d.toNat s m=(((Am k s (nxM m)).1++[32,38,38,32])++(GW s (Am k s (nxM m)).2).1,(GW s (Am k s (nxM m)).2).2):=by rw[e9];simp only[Am];rw[if_neg (by rw[e0];decide),if_pos e1]
   simp only[↓eB,seval,go_sem,hd0,e0,e1,hdw,hk']
   try simp only[A3,A4]
   repeat' first|exact ck|with_reducible apply And.intro|intro _
   all_goals first|exact okM.mono o0 (by omega)|exact okM.mono o1' (by omega)|exact okM.mono o2 (by omega)|exact p0|exact p1|exact p2|exact p3|(simp only[jL3]at *;omega)|(rename_i h;first|exact oI h|exact nah h)|(rename_i _ h _ g;exact sL h g)|decide|omega|(refine A0 [] ?_;simp only[↓eB,seval,go_sem,bne,Fs,Ec,hr])
  |false=>
  cases e2:(nxV 10 m==2) with
  |true=>
   have hr:Am d.toNat s m=((([40]++(Am k s (nxM m)).1)++[41,32,124,124,32])++(GW s (Am k s (nxM m)).2).1,(GW s (Am k s (nxM m)).2).2):=by rw[e9];simp only[Am];rw[if_neg (by rw[e0];decide),if_neg (by rw[e1];decide),if_pos e2]
   simp only[↓eB,seval,go_sem,hd0,e0,e1,e2,hdw,hk']
   try simp only[A3,A4]
   repeat' first|exact ck|with_reducible apply And.intro|intro _
   all_goals first|exact okM.mono o0 (by omega)|exact okM.mono o1' (by omega)|exact okM.mono o2 (by omega)|exact p0|exact p1|exact p2|exact p3|(simp only[jL3]at *;omega)|(rename_i h;first|exact oI h|exact nah h)|(rename_i _ h _ g;exact sL h g)|decide|omega|(refine A0 [] ?_;simp only[↓eB,seval,go_sem,bne,Fs,Ec,hr])
  |false=>
  have hb:Am d.toNat s m=GW s m:=by rw[e9];simp only[Am];rw[if_neg (by rw[e0];decide),if_neg (by rw[e1];decide),if_neg (by rw[e2];decide)]
  clear a2 o2 l1 l2
  have a2:=JA (s:=s) (okM.mono o1 (by omega):okM _ 1)
  have o2:okM (pvT s (nxM m)).2 1:=a2.ok (okM.mono o1 (by omega))
  have b2:=Em (okM.mono o1 (by omega):okM _ 1)
  have r2:okM (Ao (nxM m)).2 9:=b2.ok (okM.mono o1 (by omega))
  have b3:=Ba (okM.mono r2 (by omega):okM _ 1)
  have r3:okM (nxM (Ao (nxM m)).2) 8:=b3.ok (okM.mono r2 (by omega))
  have l1:=GB s (nxM m)
  have l2:=Uj (nxV 2 (pvT s (nxM m)).2).toNat
  have l3:=Cu (nxM m)
  have l4:=Ui (nxV 6 (Ao (nxM m)).2).toNat
  have l5:=CV 1 (nxM (Ao (nxM m)).2)
  have q2:=D2 (j:=2) o2 (by decide)
  have q6:=D2 (j:=6) r2 (by decide)
  cases e3:(nxV 10 m==3) with
  |true=>
   have hr:Am d.toNat s m=((pvT s (nxM m)).1++eqT.getD (nxV 2 (pvT s (nxM m)).2).toNat [],nxM (pvT s (nxM m)).2):=by rw[hb];unfold GW;rw[if_pos e3]
   simp only[↓eB,seval,go_sem,hd0,e0,e1,e2,e3]
   try simp only[A3,A4]
   repeat' first|exact ck|with_reducible apply And.intro|intro _
   all_goals first|exact okM.mono o0 (by omega)|exact okM.mono o1 (by omega)|exact okM.mono o2 (by omega)|exact q2|(simp only[jL3]at *;omega)|(rename_i h;first|exact oI h|exact nah h)|(rename_i _ h _ g;exact sL h g)|decide|omega|(refine A0 [] ?_;simp only[↓eB,seval,go_sem,bne,Fs,Ec,hr])
  |false=>
   have hr:Am d.toNat s m=(((((Ao (nxM m)).1++[32])++cmT.getD (nxV 6 (Ao (nxM m)).2).toNat [])++[32])++(AX 1 (nxM (Ao (nxM m)).2)).1,(AX 1 (nxM (Ao (nxM m)).2)).2):=by rw[hb];unfold GW;rw[if_neg (by rw[e3];decide)]
   simp only[↓eB,seval,go_sem,hd0,e0,e1,e2,e3]
   try simp only[A3,A4]
   repeat' first|exact ck|with_reducible apply And.intro|intro _
   all_goals first|exact okM.mono o0 (by omega)|exact okM.mono o1 (by omega)|exact okM.mono r2 (by omega)|exact okM.mono r3 (by omega)|exact q6|(simp only[jL3]at *;omega)|(rename_i h;first|exact oI h|exact nah h)|(rename_i _ h _ g;exact sL h g)|decide|omega|(refine A0 [] ?_;simp only[↓eB,seval,go_sem,bne,Fs,Ec,hr])
theorem Z7:∀n:Nat,Pv n
 |0=>by
  rintro ⟨m,s,d,_u⟩ w M I lab fz xs hc hA hl hx
  exact absurd hc.2.2.1 (by have:=hc.2.1;dsimp only at this ⊢;omega)
 |n+1=>gS n (Z7 n)
end Go.Proofs.Ytjnnmindcbgjhaa
