/- The maker's heads, arguments and conditions. No conditions but those in each statement. -/
import Derived.Test.YtapedeoheilnnaaGreatMk1
set_option linter.all false
open List (length_append length_cons length_nil)
namespace Go.Proofs.YtapedeoheilnnaaGreat
open Go Go.Sy Go.RowKit
variable{P:Prop}{s:Int}
theorem KZ4(h:P:=by (repeat' first|exact ck|with_reducible apply And.intro|intro _);all_goals first|exact okM.mono o0 (by omega)|(simp only[jL3]at *;omega)|exact KZ|(refine A1 [] ?_;simp only[seval,go_sem,bne,Qc,Qe,hr])):P:=h
theorem KZ5(h:P:=by (repeat' first|exact ck|with_reducible apply And.intro|intro _);all_goals first|exact okM.mono o0 (by omega)|exact okM.mono o1 (by omega)|(simp only[jL3]at *;omega)|exact KZ|(refine A1 [] ?_;simp only[seval,go_sem,bne,Qc,Qe,hr])):P:=h
theorem KZ6(h:P:=by (repeat' first|exact ck|with_reducible apply And.intro|intro _);all_goals first|exact okM.mono o0 (by omega)|exact okM.mono o1 (by omega)|exact okM.mono o2 (by omega)|exact q2|(simp only[jL3]at *;omega)|exact KZ|(refine A1 [] ?_;simp only[seval,go_sem,bne,Nl,Nn,hr])):P:=h
theorem KZ7(h:P:=by (repeat' first|exact ck|with_reducible apply And.intro|intro _);all_goals first|exact okM.mono o0 (by omega)|exact okM.mono o1 (by omega)|exact okM.mono r2 (by omega)|exact okM.mono r3 (by omega)|exact q6|(simp only[jL3]at *;omega)|exact KZ|(refine A1 [] ?_;simp only[seval,go_sem,bne,Nl,Nn,hr])):P:=h
theorem KZ8(h:P:=by (repeat' first|exact ck|with_reducible apply And.intro|intro _);all_goals first|exact okM.mono o0 (by omega)|exact okM.mono o1' (by omega)|exact okM.mono o2 (by omega)|exact p0|exact p1|exact p2|exact p3|(simp only[jL3]at *;omega)|exact KZ|(refine A1 [] ?_;simp only[seval,go_sem,bne,Nl,Nn,hr])):P:=h
theorem tn0:Int.toNat 0=0:=rfl
theorem tn1:Int.toNat 1=1:=rfl
theorem tn2:Int.toNat 2=2:=rfl
def hdS(s:Int):List UInt8:=hdT.getD (s.tmod 4).toNat []
def nmS(s:Int):List UInt8:=nmT.getD (s.tmod 4).toNat []
def HT(s:Int)(m:Mk):T:=
 if (nxV 10 m==3)=true then ((pvT s (nxM m)).1++eqT.getD (nxV 2 (pvT s (nxM m)).2).toNat [],nxM (pvT s (nxM m)).2)
 else (((((B7 (nxM m)).1++[32])++cmT.getD (nxV 6 (B7 (nxM m)).2).toNat [])++[32])++(AV 1 (nxM (B7 (nxM m)).2)).1,(AV 1 (nxM (B7 (nxM m)).2)).2)
def B0:Nat->Int->Mk->T
 |0,s,m=>HT s m
 |k+1,s,m=>
  if (nxV 10 m==0)=true then (([33,40]++(B0 k s (nxM m)).1)++[41],(B0 k s (nxM m)).2)
  else if (nxV 10 m==1)=true then (((B0 k s (nxM m)).1++[32,38,38,32])++(HT s (B0 k s (nxM m)).2).1,(HT s (B0 k s (nxM m)).2).2)
  else if (nxV 10 m==2)=true then ((([40]++(B0 k s (nxM m)).1)++[41,32,124,124,32])++(HT s (B0 k s (nxM m)).2).1,(HT s (B0 k s (nxM m)).2).2)
  else HT s m
theorem pz(s:Int)(m:Mk):B0 0 s m=HT s m:=rfl
theorem ZP{m:Mk}(h:okM m 24):Ax m (HT s m).2 24:=by
 have a1:=C6 (h.mono (by decide))
 have o1:okM (nxM m) 23:=a1.ok (h.mono (by decide))
 unfold HT
 split
 .have a2:=Jf (s:=s) (o1.mono (by decide))
  have a3:=C6 (a2.ok (o1.mono (by decide)):okM _ 1)
  exact((a1.trans a2).trans a3).mono (by decide)
 have a2:=Fh (o1.mono (by decide))
 have o2:okM (B7 (nxM m)).2 22:=a2.ok (o1.mono (by decide))
 have a3:=C6 (o2.mono (by decide))
 have a4:=EU 1 (a3.ok (o2.mono (by decide)):okM _ (4*(((1:Nat):Int)+1)))
 exact(((a1.trans a2).trans a3).trans a4).mono (by decide)
theorem Sq(s:Int)(m:Mk):(HT s m).1.length<=140:=by
 have h1:=H5 s (nxM m)
 have h2:=Wb (nxV 2 (pvT s (nxM m)).2).toNat
 have h3:=Do (nxM m)
 have h4:=Wa (nxV 6 (B7 (nxM m)).2).toNat
 have h5:=DF 1 (nxM (B7 (nxM m)).2)
 unfold HT
 split<;>simp only[jL3]<;>omega
theorem Ie:∀(k:Nat) {s:Int} {m:Mk},okM m (25*(k:Int)+24)->Ax m (B0 k s m).2 (25*(k:Int)+24)
 |0,s,m,h=>ZP h
 |k+1,s,m,h=>by
  have a1:=C6 (h.mono (by omega))
  have o1:okM (nxM m) (25*(k:Int)+24+24):=a1.ok (h.mono (by omega))
  have a2:=Ie k (s:=s) (o1.mono (by omega))
  have a3:=ZP (s:=s) (a2.ok (o1.mono (by omega)):okM _ 24)
  simp only[B0]
  split
  .exact(a1.trans a2).mono (by omega)
  split
  .exact((a1.trans a2).trans a3).mono (by omega)
  split
  .exact((a1.trans a2).trans a3).mono (by omega)
  exact(ZP (h.mono (by omega))).mono (by omega)
theorem HU:∀(k:Nat) (s:Int) (m:Mk),(B0 k s m).1.length<=160*(k+1)
 |0,s,m=>by have:=Sq s m;simp only[B0];omega
 |k+1,s,m=>by
  have h1:=HU k s (nxM m)
  have h2:=Sq s (B0 k s (nxM m)).2
  have h3:=Sq s m
  simp only[B0]
  repeat' split
  all_goals (try simp only[jL3])
  all_goals omega
def Hm(t s:Int)(m:Mk):T:=
 if (t.tmod 4==0)=true then AV 1 m
 else if (t.tmod 4==1)=true then (((AV 0 m).1++[44,32])++(AV 1 (AV 0 m).2).1,(AV 1 (AV 0 m).2).2)
 else if (t.tmod 4==2)=true then pvT s m
 else (((AV 0 m).1++[44,32])++(pvT s (AV 0 m).2).1,(pvT s (AV 0 m).2).2)
theorem S0{t:Int}{m:Mk}(h:okM m 12):Ax m (Hm t s m).2 12:=by
 have a1:=EU 0 (h.mono (by decide))
 have o1:okM (AV 0 m).2 8:=a1.ok (h.mono (by decide))
 unfold Hm
 split
 .exact(EU 1 (h.mono (by decide))).mono (by decide)
 split
 .exact(a1.trans (EU 1 (o1.mono (by decide)))).mono (by decide)
 split
 .exact(Jf (h.mono (by decide))).mono (by decide)
 exact(a1.trans (Jf (o1.mono (by decide)))).mono (by decide)
theorem PZ(t s:Int)(m:Mk):(Hm t s m).1.length<=200:=by
 have h1:=DF 1 m
 have h2:=DF 0 m
 have h3:=DF 1 (AV 0 m).2
 have h4:=H5 s m
 have h5:=H5 s (AV 0 m).2
 unfold Hm
 repeat' split
 all_goals (try simp only[jL3])
 all_goals omega
theorem qA(h:0<=s):0<=s.tmod 4/\s.tmod 4<4:=⟨Int.tmod_nonneg 4 h,Int.tmod_lt_of_pos s (by decide)⟩
abbrev sT(s:Int):Prop:=0<=s
abbrev Wi(s:Int):SV:=SV.one (.v (.string (bs (hdS s))))
attribute [local go_sem] Fq Fp Fv Fw Fm Fx Fs F3 Fo Ft
theorem xf:Cu Tryz.prog 68 (acS (cInt .i64) ac0) (λp:(Int×Unit)=>sT p.1) (λp:(Int×Unit)=>Wi p.1):=by
 rintro ⟨s,_u⟩ w fz xs hc hfz hl hx
 refine Bu Tryz.func68 rfl w fz [] [] (acS (cInt .i64) ac0) (λp:(Int×Unit)=>Wi p.1) _ xs hfz hl hx (jN rfl) ?_
 clear hx hl hfz xs
 simp only[Tryz.f68]
 have h0:0<=s:=hc
 have h1:=qA h0
 simp only[seval,go_sem]
 try simp only[A2,A3]
 repeat' first|exact ck|with_reducible apply And.intro|intro _
 all_goals first|exact h1|exact KZ|(refine A1 [] ?_;simp only[seval,go_sem,bne,Wi,hdS])
noncomputable def Hn{X:Ctx}{w0:World}:Sy.Spec Tryz.prog X w0:=E2 68 Tryz.call68 (acS (cInt .i64) ac0) _ _ KF7 xf
abbrev sU(s:Int):Prop:=0<=s
abbrev Ig(s:Int):SV:=SV.one (.v (.string (bs (nmS s))))
theorem xg:Cu Tryz.prog 10 (acS (cInt .i64) ac0) (λp:(Int×Unit)=>sU p.1) (λp:(Int×Unit)=>Ig p.1):=by
 rintro ⟨s,_u⟩ w fz xs hc hfz hl hx
 refine Bu Tryz.func10 rfl w fz [] [] (acS (cInt .i64) ac0) (λp:(Int×Unit)=>Ig p.1) _ xs hfz hl hx (jN rfl) ?_
 clear hx hl hfz xs
 simp only[Tryz.f10]
 have h0:0<=s:=hc
 have h1:=qA h0
 simp only[seval,go_sem]
 try simp only[A2,A3]
 repeat' first|exact ck|with_reducible apply And.intro|intro _
 all_goals first|exact h1|exact KZ|(refine A1 [] ?_;simp only[seval,go_sem,bne,Ig,nmS])
noncomputable def G8{X:Ctx}{w0:World}:Sy.Spec Tryz.prog X w0:=E2 10 Tryz.call10 (acS (cInt .i64) ac0) _ _ KF7 xg
abbrev mF(m:Mk)(t:Int)(s:Int):Prop:=okM m 12
abbrev Qc(m:Mk)(t:Int)(s:Int):SV:=.one (.v (.string (bs (Hm t s m).1)))
abbrev Qe(m:Mk)(t:Int)(s:Int):List (Option MV):=[some (zMk,[(Hm t s m).2.c])]
noncomputable abbrev LY:ArgM ((Mk)×(Int)×(Int)×Unit):=(amP (mMk) (amD (cInt .i64) (amD (cInt .i64) am0)))
abbrev mG:Prop:=Bv Tryz.prog 84 ((LY).args 0) (LY).mem (λp:(Mk)×(Int)×(Int)×Unit=>mF p.1 p.2.1 p.2.2.1) (λp:(Mk)×(Int)×(Int)×Unit=>Qc p.1 p.2.1 p.2.2.1) (λp:(Mk)×(Int)×(Int)×Unit=>Qe p.1 p.2.1 p.2.2.1)
attribute[local go_sem] Mk.c pz Gu Gt Gs FY tn0 tn1 tn2 Hl E4 CK L4 Ib zBy in
theorem sV:mG:=by
 rintro ⟨m,t,s,_u⟩ w M I lab fz xs hc hA hl hx
 refine Aa Tryz.func84 rfl ((LY).mem ⟨m,t,s,_u⟩) w M I lab fz [CK,Ib,(Hl 3 (V4 3))] [] ((LY).args 0 ⟨m,t,s,_u⟩) ((λp:(Mk)×(Int)×(Int)×Unit=>Qe p.1 p.2.1 p.2.2.1) ⟨m,t,s,_u⟩) ((λp:(Mk)×(Int)×(Int)×Unit=>Qc p.1 p.2.1 p.2.2.1) ⟨m,t,s,_u⟩) xs hA hl hx (λv hv k hk=>by have:=(LY).an 0 ⟨m,t,s,_u⟩ v hv k hk;omega) (jN rfl) (jN rfl) ?_
 clear hx hl hA xs
 simp only[Tryz.f84]
 have o0:okM m 12:=hc
 have a1:=EU 0 (okM.mono o0 (by decide))
 have o1:okM (AV 0 m).2 8:=a1.ok (okM.mono o0 (by decide))
 have l1:=DF 0 m
 have l2:=DF 1 (AV 0 m).2
 have l3:=H5 s (AV 0 m).2
 cases t0:(t.tmod 4==0) with
 |true=>
  have hr:Hm t s m=AV 1 m:=by unfold Hm;rw[if_pos t0]
  simp only[seval,go_sem,t0]
  try simp only[A2,A3]
  try exact KZ4
 |false=>
 cases t1:(t.tmod 4==1) with
 |true=>
  have hr:Hm t s m=(((AV 0 m).1++[44,32])++(AV 1 (AV 0 m).2).1,(AV 1 (AV 0 m).2).2):=by unfold Hm;rw[if_neg (by rw[t0];decide),if_pos t1]
  simp only[seval,go_sem,t0,t1]
  try simp only[A2,A3]
  try exact KZ5
 |false=>
 cases t2:(t.tmod 4==2) with
 |true=>
  have hr:Hm t s m=pvT s m:=by unfold Hm;rw[if_neg (by rw[t0];decide),if_neg (by rw[t1];decide),if_pos t2]
  simp only[seval,go_sem,t0,t1,t2]
  try simp only[A2,A3]
  try exact KZ4
 |false=>
 have hr:Hm t s m=(((AV 0 m).1++[44,32])++(pvT s (AV 0 m).2).1,(pvT s (AV 0 m).2).2):=by unfold Hm;rw[if_neg (by rw[t0];decide),if_neg (by rw[t1];decide),if_neg (by rw[t2];decide)]
 simp only[seval,go_sem,t0,t1,t2]
 try simp only[A2,A3]
 try exact KZ5
noncomputable def Nk{X:Ctx}{w0:World}:Sy.Spec Tryz.prog X w0:=Cl 84 Tryz.call84 (LY) _ _ _ KF1 KF0 KF6 sV
abbrev mH(n:Nat)(m:Mk)(s:Int)(d:Int):Prop:=okM m (25*d+24)/\0<=d/\d<(n:Int)/\d<=4
abbrev Nl(n:Nat)(m:Mk)(s:Int)(d:Int):SV:=.one (.v (.string (bs (B0 d.toNat s m).1)))
abbrev Nn(n:Nat)(m:Mk)(s:Int)(d:Int):List (Option MV):=[some (zMk,[(B0 d.toNat s m).2.c])]
noncomputable abbrev LZ:ArgM ((Mk)×(Int)×(Int)×Unit):=(amP (mMk) (amD (cInt .i64) (amD (cInt .i64) am0)))
abbrev Qg(n:Nat):Prop:=Bv Tryz.prog 85 ((LZ).args 0) (LZ).mem (λp:(Mk)×(Int)×(Int)×Unit=>mH n p.1 p.2.1 p.2.2.1) (λp:(Mk)×(Int)×(Int)×Unit=>Nl n p.1 p.2.1 p.2.2.1) (λp:(Mk)×(Int)×(Int)×Unit=>Nn n p.1 p.2.1 p.2.2.1)
noncomputable def KM{X:Ctx}{w0:World}(n:Nat)(h:Qg n):Sy.Spec Tryz.prog X w0:=Cl 85 Tryz.call85 (LZ) _ _ _ KF1 KF0 KF6 h
set_option maxRecDepth 20000 in set_option maxHeartbeats 8000000 in
attribute[local go_sem] Mk.c pz Gu Gt Gs FY tn0 tn1 tn2 KM Hl E4 CK L4 Ib zBy in
theorem mJ(n:Nat)(hu:Qg n):Qg (n+1):=by
 rintro ⟨m,s,d,_u⟩ w M I lab fz xs hc hA hl hx
 refine Aa Tryz.func85 rfl ((LZ).mem ⟨m,s,d,_u⟩) w M I lab fz [CK,E4,Ib,(Hl 3 (V4 3)),(KM n hu)] [] ((LZ).args 0 ⟨m,s,d,_u⟩) ((λp:(Mk)×(Int)×(Int)×Unit=>Nn (n+1) p.1 p.2.1 p.2.2.1) ⟨m,s,d,_u⟩) ((λp:(Mk)×(Int)×(Int)×Unit=>Nl (n+1) p.1 p.2.1 p.2.2.1) ⟨m,s,d,_u⟩) xs hA hl hx (λv hv k hk=>by have:=(LZ).an 0 ⟨m,s,d,_u⟩ v hv k hk;omega) (jN rfl) (jN rfl) ?_
 clear hx hl hA xs
 simp only[Tryz.f85]
 obtain⟨o0,g0,g1,g2⟩:=hc
 dsimp only at o0 g0 g1 g2
 have a1:Ax m (nxM m) 1:=C6 (okM.mono o0 (by omega))
 have o1:okM (nxM m) (25*d+23):=a1.ok (okM.mono o0 (by omega))
 cases hd0:decide (0<d) with
 |false=>
  have hb:B0 d.toNat s m=HT s m:=by
   have h:d.toNat=0:=by (have:=of_decide_eq_false hd0;omega)
   rw[h];rfl
  have a2:=Jf (s:=s) (okM.mono o1 (by omega):okM _ 1)
  have o2:okM (pvT s (nxM m)).2 1:=a2.ok (okM.mono o1 (by omega))
  have b2:=Fh (okM.mono o1 (by omega):okM _ 1)
  have r2:okM (B7 (nxM m)).2 9:=b2.ok (okM.mono o1 (by omega))
  have b3:=C6 (okM.mono r2 (by omega):okM _ 1)
  have r3:okM (nxM (B7 (nxM m)).2) 8:=b3.ok (okM.mono r2 (by omega))
  have l1:=H5 s (nxM m)
  have l2:=Wb (nxV 2 (pvT s (nxM m)).2).toNat
  have l3:=Do (nxM m)
  have l4:=Wa (nxV 6 (B7 (nxM m)).2).toNat
  have l5:=DF 1 (nxM (B7 (nxM m)).2)
  have q2:=E0 (j:=2) o2 (by decide)
  have q6:=E0 (j:=6) r2 (by decide)
  cases e3:(nxV 10 m==3) with
  |true=>
   have hr:B0 d.toNat s m=((pvT s (nxM m)).1++eqT.getD (nxV 2 (pvT s (nxM m)).2).toNat [],nxM (pvT s (nxM m)).2):=by rw[hb];unfold HT;rw[if_pos e3]
   simp only[seval,go_sem,hd0,e3]
   try simp only[A2,A3]
   try exact KZ6
  |false=>
  have hr:B0 d.toNat s m=(((((B7 (nxM m)).1++[32])++cmT.getD (nxV 6 (B7 (nxM m)).2).toNat [])++[32])++(AV 1 (nxM (B7 (nxM m)).2)).1,(AV 1 (nxM (B7 (nxM m)).2)).2):=by rw[hb];unfold HT;rw[if_neg (by rw[e3];decide)]
  simp only[seval,go_sem,hd0,e3]
  try simp only[A2,A3]
  try exact KZ7
 |true=>
 obtain⟨k,hk⟩:∃k:Nat,d.toNat=k+1:=⟨d.toNat-1,by have:=of_decide_eq_true hd0;omega⟩
 obtain⟨d',hd'⟩:∃d':Int,d'=d-1:=⟨_,rfl⟩
 have hk':d'.toNat=k:=by omega
 have hdw:IntKind.i64.wrap (d-1)=d':=by rw[hd'];exact wrap_i64 (by omega) (by omega)
 have hdk:(k:Int)=d':=by have:=of_decide_eq_true hd0;omega
 have p0:0<=d':=by omega
 have p1:d'<(n:Int):=by omega
 have p2:d'<=4:=by omega
 have p3:(0:Int)<(n:Int):=by omega
 have e9:B0 d.toNat s m=B0 (k+1) s m:=by rw[hk]
 have o1':okM (nxM m) (25*d'+24):=okM.mono o1 (by omega)
 have a2:Ax (nxM m) (B0 k s (nxM m)).2 (25*d'+24):=by have h:=Ie k (s:=s) (m:=nxM m) (by rw[hdk];exact o1');rw[hdk]at h;exact h
 have o2:okM (B0 k s (nxM m)).2 24:=a2.ok (okM.mono o1 (by omega))
 have l1:=HU k s (nxM m)
 have l2:=Sq s (B0 k s (nxM m)).2
 have hkb:k<=4:=by omega
 cases e0:(nxV 10 m==0) with
 |true=>
  have hr:B0 d.toNat s m=(([33,40]++(B0 k s (nxM m)).1)++[41],(B0 k s (nxM m)).2):=by rw[e9];simp only[B0];rw[if_pos e0]
  simp only[seval,go_sem,hd0,e0,hdw,hk']
  try simp only[A2,A3]
  try exact KZ8
 |false=>
 cases e1:(nxV 10 m==1) with
 |true=>
  have hr:B0 d.toNat s m=(((B0 k s (nxM m)).1++[32,38,38,32])++(HT s (B0 k s (nxM m)).2).1,(HT s (B0 k s (nxM m)).2).2):=by rw[e9];simp only[B0];rw[if_neg (by rw[e0];decide),if_pos e1]
  simp only[seval,go_sem,hd0,e0,e1,hdw,hk']
  try simp only[A2,A3]
  try exact KZ8
 |false=>
 cases e2:(nxV 10 m==2) with
 |true=>
  have hr:B0 d.toNat s m=((([40]++(B0 k s (nxM m)).1)++[41,32,124,124,32])++(HT s (B0 k s (nxM m)).2).1,(HT s (B0 k s (nxM m)).2).2):=by rw[e9];simp only[B0];rw[if_neg (by rw[e0];decide),if_neg (by rw[e1];decide),if_pos e2]
  simp only[seval,go_sem,hd0,e0,e1,e2,hdw,hk']
  try simp only[A2,A3]
  try exact KZ8
 |false=>
 have hb:B0 d.toNat s m=HT s m:=by rw[e9];simp only[B0];rw[if_neg (by rw[e0];decide),if_neg (by rw[e1];decide),if_neg (by rw[e2];decide)]
 clear a2 o2 l1 l2
 have a2:=Jf (s:=s) (okM.mono o1 (by omega):okM _ 1)
 have o2:okM (pvT s (nxM m)).2 1:=a2.ok (okM.mono o1 (by omega))
 have b2:=Fh (okM.mono o1 (by omega):okM _ 1)
 have r2:okM (B7 (nxM m)).2 9:=b2.ok (okM.mono o1 (by omega))
 have b3:=C6 (okM.mono r2 (by omega):okM _ 1)
 have r3:okM (nxM (B7 (nxM m)).2) 8:=b3.ok (okM.mono r2 (by omega))
 have l1:=H5 s (nxM m)
 have l2:=Wb (nxV 2 (pvT s (nxM m)).2).toNat
 have l3:=Do (nxM m)
 have l4:=Wa (nxV 6 (B7 (nxM m)).2).toNat
 have l5:=DF 1 (nxM (B7 (nxM m)).2)
 have q2:=E0 (j:=2) o2 (by decide)
 have q6:=E0 (j:=6) r2 (by decide)
 cases e3:(nxV 10 m==3) with
 |true=>
  have hr:B0 d.toNat s m=((pvT s (nxM m)).1++eqT.getD (nxV 2 (pvT s (nxM m)).2).toNat [],nxM (pvT s (nxM m)).2):=by rw[hb];unfold HT;rw[if_pos e3]
  simp only[seval,go_sem,hd0,e0,e1,e2,e3]
  try simp only[A2,A3]
  try exact KZ6
 |false=>
 have hr:B0 d.toNat s m=(((((B7 (nxM m)).1++[32])++cmT.getD (nxV 6 (B7 (nxM m)).2).toNat [])++[32])++(AV 1 (nxM (B7 (nxM m)).2)).1,(AV 1 (nxM (B7 (nxM m)).2)).2):=by rw[hb];unfold HT;rw[if_neg (by rw[e3];decide)]
 simp only[seval,go_sem,hd0,e0,e1,e2,e3]
 try simp only[A2,A3]
 try exact KZ7
theorem cU:∀n:Nat,Qg n
 |0=>by
  rintro ⟨m,s,d,_u⟩ w M I lab fz xs hc hA hl hx
  exact absurd hc.2.2.1 (by have:=hc.2.1;dsimp only at this ⊢;omega)
 |n+1=>mJ n (cU n)
end Go.Proofs.YtapedeoheilnnaaGreat
