/- The maker's heads, arguments and conditions. No conditions but those in each statement. -/
import Derived.Test.YtapedeoheilnnaaGreatMk1
set_option linter.all false
open List (length_append length_cons length_nil)
namespace Go.Proofs.YtapedeoheilnnaaGreat
open Go Go.Sy Go.RowKit
variable{P:Prop}{s:Int}
theorem nr(h:P:=by (repeat' first|exact ck|with_reducible apply And.intro|intro _);all_goals first|exact okM.mono o0 (by omega)|(simp only[jL3]at *;omega)|exact KZ|(refine A1 [] ?_;simp only[seval,go_sem,bne,Qw,Qx,hr])):P:=h
theorem XN(h:P:=by (repeat' first|exact ck|with_reducible apply And.intro|intro _);all_goals first|exact okM.mono o0 (by omega)|exact okM.mono o1 (by omega)|(simp only[jL3]at *;omega)|exact KZ|(refine A1 [] ?_;simp only[seval,go_sem,bne,Qw,Qx,hr])):P:=h
theorem zS(h:P:=by (repeat' first|exact ck|with_reducible apply And.intro|intro _);all_goals first|exact okM.mono o0 (by omega)|exact okM.mono o1 (by omega)|exact okM.mono o2 (by omega)|exact q2|(simp only[jL3]at *;omega)|exact KZ|(refine A1 [] ?_;simp only[seval,go_sem,bne,O1,O2,hr])):P:=h
theorem zU(h:P:=by (repeat' first|exact ck|with_reducible apply And.intro|intro _);all_goals first|exact okM.mono o0 (by omega)|exact okM.mono o1 (by omega)|exact okM.mono r2 (by omega)|exact okM.mono r3 (by omega)|exact q6|(simp only[jL3]at *;omega)|exact KZ|(refine A1 [] ?_;simp only[seval,go_sem,bne,O1,O2,hr])):P:=h
theorem zV(h:P:=by (repeat' first|exact ck|with_reducible apply And.intro|intro _);all_goals first|exact okM.mono o0 (by omega)|exact okM.mono o1' (by omega)|exact okM.mono o2 (by omega)|exact p0|exact p1|exact p2|exact p3|(simp only[jL3]at *;omega)|exact KZ|(refine A1 [] ?_;simp only[seval,go_sem,bne,O1,O2,hr])):P:=h
theorem tn0:Int.toNat 0=0:=rfl
theorem tn1:Int.toNat 1=1:=rfl
theorem tn2:Int.toNat 2=2:=rfl
def hdS(s:Int):List UInt8:=hdT.getD (s.tmod 4).toNat []
def nmS(s:Int):List UInt8:=nmT.getD (s.tmod 4).toNat []
def HX(s:Int)(m:Mk):T:=
 if (nxV 10 m==3)=true then ((pvT s (nxM m)).1++eqT.getD (nxV 2 (pvT s (nxM m)).2).toNat [],nxM (pvT s (nxM m)).2)
 else (((((BB (nxM m)).1++[32])++cmT.getD (nxV 6 (BB (nxM m)).2).toNat [])++[32])++(AY 1 (nxM (BB (nxM m)).2)).1,(AY 1 (nxM (BB (nxM m)).2)).2)
def B4:Nat->Int->Mk->T
 |0,s,m=>HX s m
 |k+1,s,m=>
  if (nxV 10 m==0)=true then (([33,40]++(B4 k s (nxM m)).1)++[41],(B4 k s (nxM m)).2)
  else if (nxV 10 m==1)=true then (((B4 k s (nxM m)).1++[32,38,38,32])++(HX s (B4 k s (nxM m)).2).1,(HX s (B4 k s (nxM m)).2).2)
  else if (nxV 10 m==2)=true then ((([40]++(B4 k s (nxM m)).1)++[41,32,124,124,32])++(HX s (B4 k s (nxM m)).2).1,(HX s (B4 k s (nxM m)).2).2)
  else HX s m
theorem qa(s:Int)(m:Mk):B4 0 s m=HX s m:=rfl
theorem Zk{m:Mk}(h:okM m 24):Ax m (HX s m).2 24:=by
 have a1:=CL (h.mono (by decide))
 have o1:okM (nxM m) 23:=a1.ok (h.mono (by decide))
 unfold HX
 split
 .have a2:=Jp (s:=s) (o1.mono (by decide))
  have a3:=CL (a2.ok (o1.mono (by decide)):okM _ 1)
  exact((a1.trans a2).trans a3).mono (by decide)
 have a2:=Fs (o1.mono (by decide))
 have o2:okM (BB (nxM m)).2 22:=a2.ok (o1.mono (by decide))
 have a3:=CL (o2.mono (by decide))
 have a4:=Ea 1 (a3.ok (o2.mono (by decide)):okM _ (4*(((1:Nat):Int)+1)))
 exact(((a1.trans a2).trans a3).trans a4).mono (by decide)
theorem T8(s:Int)(m:Mk):(HX s m).1.length<=140:=by
 have h1:=HJ s (nxM m)
 have h2:=Wl (nxV 2 (pvT s (nxM m)).2).toNat
 have h3:=Dx (nxM m)
 have h4:=Wk (nxV 6 (BB (nxM m)).2).toNat
 have h5:=DW 1 (nxM (BB (nxM m)).2)
 unfold HX
 split<;>simp only[jL3]<;>omega
theorem Ir:∀(k:Nat) {s:Int} {m:Mk},okM m (25*(k:Int)+24)->Ax m (B4 k s m).2 (25*(k:Int)+24)
 |0,s,m,h=>Zk h
 |k+1,s,m,h=>by
  have a1:=CL (h.mono (by omega))
  have o1:okM (nxM m) (25*(k:Int)+24+24):=a1.ok (h.mono (by omega))
  have a2:=Ir k (s:=s) (o1.mono (by omega))
  have a3:=Zk (s:=s) (a2.ok (o1.mono (by omega)):okM _ 24)
  simp only[B4]
  split
  .exact(a1.trans a2).mono (by omega)
  split
  .exact((a1.trans a2).trans a3).mono (by omega)
  split
  .exact((a1.trans a2).trans a3).mono (by omega)
  exact(Zk (h.mono (by omega))).mono (by omega)
theorem HY:∀(k:Nat) (s:Int) (m:Mk),(B4 k s m).1.length<=160*(k+1)
 |0,s,m=>by have:=T8 s m;simp only[B4];omega
 |k+1,s,m=>by
  have h1:=HY k s (nxM m)
  have h2:=T8 s (B4 k s (nxM m)).2
  have h3:=T8 s m
  simp only[B4]
  exact AA4
def Hr(t s:Int)(m:Mk):T:=
 if (t.tmod 4==0)=true then AY 1 m
 else if (t.tmod 4==1)=true then (((AY 0 m).1++[44,32])++(AY 1 (AY 0 m).2).1,(AY 1 (AY 0 m).2).2)
 else if (t.tmod 4==2)=true then pvT s m
 else (((AY 0 m).1++[44,32])++(pvT s (AY 0 m).2).1,(pvT s (AY 0 m).2).2)
theorem SD{t:Int}{m:Mk}(h:okM m 12):Ax m (Hr t s m).2 12:=by
 have a1:=Ea 0 (h.mono (by decide))
 have o1:okM (AY 0 m).2 8:=a1.ok (h.mono (by decide))
 unfold Hr
 split
 .exact(Ea 1 (h.mono (by decide))).mono (by decide)
 split
 .exact(a1.trans (Ea 1 (o1.mono (by decide)))).mono (by decide)
 split
 .exact(Jp (h.mono (by decide))).mono (by decide)
 exact(a1.trans (Jp (o1.mono (by decide)))).mono (by decide)
theorem Px(t s:Int)(m:Mk):(Hr t s m).1.length<=200:=by
 have h1:=DW 1 m
 have h2:=DW 0 m
 have h3:=DW 1 (AY 0 m).2
 have h4:=HJ s m
 have h5:=HJ s (AY 0 m).2
 unfold Hr
 exact AA4
theorem qb(h:0<=s):0<=s.tmod 4/\s.tmod 4<4:=⟨Int.tmod_nonneg 4 h,Int.tmod_lt_of_pos s (by decide)⟩
abbrev tL(s:Int):Prop:=0<=s
abbrev Wo(s:Int):SV:=SV.one (.v (.string (bs (hdS s))))
attribute [local go_sem] G2 G1 G5 G6 Fy G7 G3 FB G0 G4
theorem yO:Ca Tryz.prog 68 (acS (cInt .i64) ac0) (λp:(Int×Unit)=>tL p.1) (λp:(Int×Unit)=>Wo p.1):=by
 rintro ⟨s,_u⟩ w fz xs hc hfz hl hx
 refine Bg Tryz.func68 rfl w fz [] [] (acS (cInt .i64) ac0) (λp:(Int×Unit)=>Wo p.1) _ xs hfz hl hx (jN rfl) ?_
 clear hx hl hfz xs
 simp only[Tryz.f68]
 have h0:0<=s:=hc
 have h1:=qb h0
 simp only[seval,go_sem]
 repeat refine AX ?_
 refine A1 [] ?_;simp only[seval,go_sem,bne,Wo,hdS]
noncomputable def Hs{X:Ctx}{w0:World}:Sy.Spec Tryz.prog X w0:=Dq 68 Tryz.call68 (acS (cInt .i64) ac0) _ _ KF8 yO
abbrev tM(s:Int):Prop:=0<=s
abbrev It(s:Int):SV:=SV.one (.v (.string (bs (nmS s))))
theorem yP:Ca Tryz.prog 10 (acS (cInt .i64) ac0) (λp:(Int×Unit)=>tM p.1) (λp:(Int×Unit)=>It p.1):=by
 rintro ⟨s,_u⟩ w fz xs hc hfz hl hx
 refine Bg Tryz.func10 rfl w fz [] [] (acS (cInt .i64) ac0) (λp:(Int×Unit)=>It p.1) _ xs hfz hl hx (jN rfl) ?_
 clear hx hl hfz xs
 simp only[Tryz.f10]
 have h0:0<=s:=hc
 have h1:=qb h0
 simp only[seval,go_sem]
 repeat refine AX ?_
 refine A1 [] ?_;simp only[seval,go_sem,bne,It,nmS]
noncomputable def Fo{X:Ctx}{w0:World}:Sy.Spec Tryz.prog X w0:=Dq 10 Tryz.call10 (acS (cInt .i64) ac0) _ _ KF8 yP
abbrev ml(m:Mk)(t:Int)(s:Int):Prop:=okM m 12
abbrev Qw(m:Mk)(t:Int)(s:Int):SV:=.one (.v (.string (bs (Hr t s m).1)))
abbrev Qx(m:Mk)(t:Int)(s:Int):List (Option MV):=[some (zMk,[(Hr t s m).2.c])]
noncomputable abbrev Lg:ArgM ((Mk)×(Int)×(Int)×Unit):=(amP (mMk) (amD (cInt .i64) (amD (cInt .i64) am0)))
abbrev mq:Prop:=C7 Tryz.prog 84 ((Lg).args 0) (Lg).mem (λp:(Mk)×(Int)×(Int)×Unit=>ml p.1 p.2.1 p.2.2.1) (λp:(Mk)×(Int)×(Int)×Unit=>Qw p.1 p.2.1 p.2.2.1) (λp:(Mk)×(Int)×(Int)×Unit=>Qx p.1 p.2.1 p.2.2.1)
attribute[local go_sem] Mk.c qa HE HD HC Fm tn0 tn1 tn2 Hq EG CV LB Iq zBy in
theorem tN:mq:=by
 rintro ⟨m,t,s,_u⟩ w M I lab fz xs hc hA hl hx
 refine Ac Tryz.func84 rfl ((Lg).mem ⟨m,t,s,_u⟩) w M I lab fz [CV,Iq,(Hq 3 (VM 3))] [] ((Lg).args 0 ⟨m,t,s,_u⟩) ((λp:(Mk)×(Int)×(Int)×Unit=>Qx p.1 p.2.1 p.2.2.1) ⟨m,t,s,_u⟩) ((λp:(Mk)×(Int)×(Int)×Unit=>Qw p.1 p.2.1 p.2.2.1) ⟨m,t,s,_u⟩) xs hA hl hx (λv hv k hk=>by have:=(Lg).an 0 ⟨m,t,s,_u⟩ v hv k hk;omega) (jN rfl) (jN rfl) ?_
 clear hx hl hA xs
 simp only[Tryz.f84]
 have o0:okM m 12:=hc
 have a1:=Ea 0 (okM.mono o0 (by decide))
 have o1:okM (AY 0 m).2 8:=a1.ok (okM.mono o0 (by decide))
 have l1:=DW 0 m
 have l2:=DW 1 (AY 0 m).2
 have l3:=HJ s (AY 0 m).2
 cases t0:(t.tmod 4==0) with
 |true=>
  have hr:Hr t s m=AY 1 m:=by unfold Hr;rw[if_pos t0]
  simp only[seval,go_sem,t0]
  try exact nr
 |false=>
 cases t1:(t.tmod 4==1) with
 |true=>
  have hr:Hr t s m=(((AY 0 m).1++[44,32])++(AY 1 (AY 0 m).2).1,(AY 1 (AY 0 m).2).2):=by unfold Hr;rw[if_neg (by rw[t0];decide),if_pos t1]
  simp only[seval,go_sem,t0,t1]
  try exact XN
 |false=>
 cases t2:(t.tmod 4==2) with
 |true=>
  have hr:Hr t s m=pvT s m:=by unfold Hr;rw[if_neg (by rw[t0];decide),if_neg (by rw[t1];decide),if_pos t2]
  simp only[seval,go_sem,t0,t1,t2]
  try exact nr
 |false=>
 have hr:Hr t s m=(((AY 0 m).1++[44,32])++(pvT s (AY 0 m).2).1,(pvT s (AY 0 m).2).2):=by unfold Hr;rw[if_neg (by rw[t0];decide),if_neg (by rw[t1];decide),if_neg (by rw[t2];decide)]
 simp only[seval,go_sem,t0,t1,t2]
 try exact XN
noncomputable def O0{X:Ctx}{w0:World}:Sy.Spec Tryz.prog X w0:=D0 84 Tryz.call84 (Lg) _ _ _ KF1 KF0 KF7 tN
abbrev mu(n:Nat)(m:Mk)(s:Int)(d:Int):Prop:=okM m (25*d+24)/\0<=d/\d<(n:Int)/\d<=4
abbrev O1(n:Nat)(m:Mk)(s:Int)(d:Int):SV:=.one (.v (.string (bs (B4 d.toNat s m).1)))
abbrev O2(n:Nat)(m:Mk)(s:Int)(d:Int):List (Option MV):=[some (zMk,[(B4 d.toNat s m).2.c])]
noncomputable abbrev Lh:ArgM ((Mk)×(Int)×(Int)×Unit):=(amP (mMk) (amD (cInt .i64) (amD (cInt .i64) am0)))
abbrev Qy(n:Nat):Prop:=C7 Tryz.prog 85 ((Lh).args 0) (Lh).mem (λp:(Mk)×(Int)×(Int)×Unit=>mu n p.1 p.2.1 p.2.2.1) (λp:(Mk)×(Int)×(Int)×Unit=>O1 n p.1 p.2.1 p.2.2.1) (λp:(Mk)×(Int)×(Int)×Unit=>O2 n p.1 p.2.1 p.2.2.1)
noncomputable def KV{X:Ctx}{w0:World}(n:Nat)(h:Qy n):Sy.Spec Tryz.prog X w0:=D0 85 Tryz.call85 (Lh) _ _ _ KF1 KF0 KF7 h
set_option maxRecDepth 20000 in set_option maxHeartbeats 8000000 in
attribute[local go_sem] Mk.c qa HE HD HC Fm tn0 tn1 tn2 KV Hq EG CV LB Iq zBy in
theorem mw(n:Nat)(hu:Qy n):Qy (n+1):=by
 rintro ⟨m,s,d,_u⟩ w M I lab fz xs hc hA hl hx
 refine Ac Tryz.func85 rfl ((Lh).mem ⟨m,s,d,_u⟩) w M I lab fz [CV,EG,Iq,(Hq 3 (VM 3)),(KV n hu)] [] ((Lh).args 0 ⟨m,s,d,_u⟩) ((λp:(Mk)×(Int)×(Int)×Unit=>O2 (n+1) p.1 p.2.1 p.2.2.1) ⟨m,s,d,_u⟩) ((λp:(Mk)×(Int)×(Int)×Unit=>O1 (n+1) p.1 p.2.1 p.2.2.1) ⟨m,s,d,_u⟩) xs hA hl hx (λv hv k hk=>by have:=(Lh).an 0 ⟨m,s,d,_u⟩ v hv k hk;omega) (jN rfl) (jN rfl) ?_
 clear hx hl hA xs
 simp only[Tryz.f85]
 obtain⟨o0,g0,g1,g2⟩:=hc
 dsimp only at o0 g0 g1 g2
 have a1:Ax m (nxM m) 1:=CL (okM.mono o0 (by omega))
 have o1:okM (nxM m) (25*d+23):=a1.ok (okM.mono o0 (by omega))
 cases hd0:decide (0<d) with
 |false=>
  have hb:B4 d.toNat s m=HX s m:=by
   have h:d.toNat=0:=by (have:=of_decide_eq_false hd0;omega)
   rw[h];rfl
  have a2:=Jp (s:=s) (okM.mono o1 (by omega):okM _ 1)
  have o2:okM (pvT s (nxM m)).2 1:=a2.ok (okM.mono o1 (by omega))
  have b2:=Fs (okM.mono o1 (by omega):okM _ 1)
  have r2:okM (BB (nxM m)).2 9:=b2.ok (okM.mono o1 (by omega))
  have b3:=CL (okM.mono r2 (by omega):okM _ 1)
  have r3:okM (nxM (BB (nxM m)).2) 8:=b3.ok (okM.mono r2 (by omega))
  have l1:=HJ s (nxM m)
  have l2:=Wl (nxV 2 (pvT s (nxM m)).2).toNat
  have l3:=Dx (nxM m)
  have l4:=Wk (nxV 6 (BB (nxM m)).2).toNat
  have l5:=DW 1 (nxM (BB (nxM m)).2)
  have q2:=E7 (j:=2) o2 (by decide)
  have q6:=E7 (j:=6) r2 (by decide)
  cases e3:(nxV 10 m==3) with
  |true=>
   have hr:B4 d.toNat s m=((pvT s (nxM m)).1++eqT.getD (nxV 2 (pvT s (nxM m)).2).toNat [],nxM (pvT s (nxM m)).2):=by rw[hb];unfold HX;rw[if_pos e3]
   simp only[seval,go_sem,hd0,e3]
   try exact zS
  |false=>
  have hr:B4 d.toNat s m=(((((BB (nxM m)).1++[32])++cmT.getD (nxV 6 (BB (nxM m)).2).toNat [])++[32])++(AY 1 (nxM (BB (nxM m)).2)).1,(AY 1 (nxM (BB (nxM m)).2)).2):=by rw[hb];unfold HX;rw[if_neg (by rw[e3];decide)]
  simp only[seval,go_sem,hd0,e3]
  try exact zU
 |true=>
 obtain⟨k,hk⟩:∃k:Nat,d.toNat=k+1:=⟨d.toNat-1,by have:=of_decide_eq_true hd0;omega⟩
 obtain⟨d',hd'⟩:∃d':Int,d'=d-1:=⟨_,rfl⟩
 have hk':d'.toNat=k:=by omega
 have hdw:IntKind.i64.wrap (d-1)=d':=by rw[hd'];exact wrap_i64 (by omega) (by omega)
 have hdk:(k:Int)=d':=by have:=of_decide_eq_true hd0;omega
 have p0:0<=d':=by omega
 have p1:d'<(n:Int):=by omega
 have p2:d'<=4:=by omega
 have p3:(0:Int)<(n:Int):=by omega
 have e9:B4 d.toNat s m=B4 (k+1) s m:=by rw[hk]
 have o1':okM (nxM m) (25*d'+24):=okM.mono o1 (by omega)
 have a2:Ax (nxM m) (B4 k s (nxM m)).2 (25*d'+24):=by have h:=Ir k (s:=s) (m:=nxM m) (by rw[hdk];exact o1');rw[hdk]at h;exact h
 have o2:okM (B4 k s (nxM m)).2 24:=a2.ok (okM.mono o1 (by omega))
 have l1:=HY k s (nxM m)
 have l2:=T8 s (B4 k s (nxM m)).2
 have hkb:k<=4:=by omega
 cases e0:(nxV 10 m==0) with
 |true=>
  have hr:B4 d.toNat s m=(([33,40]++(B4 k s (nxM m)).1)++[41],(B4 k s (nxM m)).2):=by rw[e9];simp only[B4];rw[if_pos e0]
  simp only[seval,go_sem,hd0,e0,hdw,hk']
  try exact zV
 |false=>
 cases e1:(nxV 10 m==1) with
 |true=>
  have hr:B4 d.toNat s m=(((B4 k s (nxM m)).1++[32,38,38,32])++(HX s (B4 k s (nxM m)).2).1,(HX s (B4 k s (nxM m)).2).2):=by rw[e9];simp only[B4];rw[if_neg (by rw[e0];decide),if_pos e1]
  simp only[seval,go_sem,hd0,e0,e1,hdw,hk']
  try exact zV
 |false=>
 cases e2:(nxV 10 m==2) with
 |true=>
  have hr:B4 d.toNat s m=((([40]++(B4 k s (nxM m)).1)++[41,32,124,124,32])++(HX s (B4 k s (nxM m)).2).1,(HX s (B4 k s (nxM m)).2).2):=by rw[e9];simp only[B4];rw[if_neg (by rw[e0];decide),if_neg (by rw[e1];decide),if_pos e2]
  simp only[seval,go_sem,hd0,e0,e1,e2,hdw,hk']
  try exact zV
 |false=>
 have hb:B4 d.toNat s m=HX s m:=by rw[e9];simp only[B4];rw[if_neg (by rw[e0];decide),if_neg (by rw[e1];decide),if_neg (by rw[e2];decide)]
 clear a2 o2 l1 l2
 have a2:=Jp (s:=s) (okM.mono o1 (by omega):okM _ 1)
 have o2:okM (pvT s (nxM m)).2 1:=a2.ok (okM.mono o1 (by omega))
 have b2:=Fs (okM.mono o1 (by omega):okM _ 1)
 have r2:okM (BB (nxM m)).2 9:=b2.ok (okM.mono o1 (by omega))
 have b3:=CL (okM.mono r2 (by omega):okM _ 1)
 have r3:okM (nxM (BB (nxM m)).2) 8:=b3.ok (okM.mono r2 (by omega))
 have l1:=HJ s (nxM m)
 have l2:=Wl (nxV 2 (pvT s (nxM m)).2).toNat
 have l3:=Dx (nxM m)
 have l4:=Wk (nxV 6 (BB (nxM m)).2).toNat
 have l5:=DW 1 (nxM (BB (nxM m)).2)
 have q2:=E7 (j:=2) o2 (by decide)
 have q6:=E7 (j:=6) r2 (by decide)
 cases e3:(nxV 10 m==3) with
 |true=>
  have hr:B4 d.toNat s m=((pvT s (nxM m)).1++eqT.getD (nxV 2 (pvT s (nxM m)).2).toNat [],nxM (pvT s (nxM m)).2):=by rw[hb];unfold HX;rw[if_pos e3]
  simp only[seval,go_sem,hd0,e0,e1,e2,e3]
  try exact zS
 |false=>
 have hr:B4 d.toNat s m=(((((BB (nxM m)).1++[32])++cmT.getD (nxV 6 (BB (nxM m)).2).toNat [])++[32])++(AY 1 (nxM (BB (nxM m)).2)).1,(AY 1 (nxM (BB (nxM m)).2)).2):=by rw[hb];unfold HX;rw[if_neg (by rw[e3];decide)]
 simp only[seval,go_sem,hd0,e0,e1,e2,e3]
 try exact zU
theorem dD:∀n:Nat,Qy n
 |0=>by
  rintro ⟨m,s,d,_u⟩ w M I lab fz xs hc hA hl hx
  exact AAp
 |n+1=>mw n (dD n)
end Go.Proofs.YtapedeoheilnnaaGreat
