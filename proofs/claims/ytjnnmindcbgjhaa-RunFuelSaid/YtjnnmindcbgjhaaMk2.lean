/- The maker's sums and conditions. No conditions but those in each statement. -/
import Derived.Test.YtjnnmindcbgjhaaMk1
set_option linter.unusedVariables false
set_option linter.unusedSimpArgs false
open List (length_append length_cons length_nil)
namespace Go.Proofs.Ytjnnmindcbgjhaa
open Go Go.Sy Go.RowKit
theorem aH {m:Mk} (h:okM m 1):Ax m (nuT m).2 1:=BX h
theorem Eo {m:Mk} (h:okM m 1):Ax m (An m).2 1:=BX h
theorem Ix {s:Int} {m:Mk} (h:okM m 1):Ax m (pvT s m).2 1:=by
 unfold pvT
 split
 ·split<;>exact BX h
 ·exact(Ax.refl m).mono (by decide)
theorem TD (m:Mk):(nuT m).1.length≤19:=fk _
theorem Cu (m:Mk):(An m).1.length≤1:=lv _
theorem G0 (s:Int) (m:Mk):(pvT s m).1.length≤1:=by
 unfold pvT
 split
 ·split<;>exact Nat.le_refl _
 ·exact Nat.le_refl _
def AW:Nat→Mk→T
 |0,m=>if decide (nxV 12 m<7)=true then nuT (nxM m) else An (nxM m)
 |k+1,m=>
  if decide (nxV 12 m<3)=true then nuT (nxM m)
  else if decide (nxV 12 m<6)=true then An (nxM m)
  else if (nxV 12 m==6)=true then ([45]++(An (nxM m)).1,(An (nxM m)).2)
  else if (nxV 12 m==11)=true then (([40]++(AW k (nxM m)).1)++[41,32,45,32]++(An (AW k (nxM m)).2).1,(An (AW k (nxM m)).2).2)
  else ((((((AW k (nxM m)).1++[32])++opT.getD (nxV 5 (AW k (nxM m)).2).toNat [])++[32])++(An (nxM (AW k (nxM m)).2)).1),(An (nxM (AW k (nxM m)).2)).2)
theorem DN:∀(k:Nat) {m:Mk},okM m (4*((k:Int)+1))→Ax m (AW k m).2 (4*((k:Int)+1))
 |0,m,h=>by
  have a1:=BX (h.mono (by decide))
  have o1:okM (nxM m) 1:=a1.ok (h.mono (by decide))
  simp only[AW]
  split
  ·exact(a1.trans (aH o1)).mono (by decide)
  ·exact(a1.trans (Eo o1)).mono (by decide)
 |k+1,m,h=>by
  have a1:=BX (h.mono (by omega))
  have o1:okM (nxM m) (4*((k:Int)+1)+2):=a1.ok (h.mono (by omega))
  have a2:=DN k (o1.mono (by omega))
  have o2:okM (AW k (nxM m)).2 2:=a2.ok (o1.mono (by omega))
  simp only[AW]
  split
  ·exact(a1.trans (aH (o1.mono (by omega)))).mono (by omega)
  split
  ·exact(a1.trans (Eo (o1.mono (by omega)))).mono (by omega)
  split
  ·exact(a1.trans (Eo (o1.mono (by omega)))).mono (by omega)
  split
  ·exact((a1.trans a2).trans (Eo (o2.mono (by omega)))).mono (by omega)
  ·have a3:=BX (o2.mono (by omega))
   exact(((a1.trans a2).trans a3).trans (Eo (a3.ok (o2.mono (by omega))))).mono (by omega)
theorem CU:∀(k:Nat) (m:Mk),(AW k m).1.length≤64*(k+1)
 |0,m=>by
  have h1:=TD (nxM m)
  have h2:=Cu (nxM m)
  simp only[AW]
  split<;>omega
 |k+1,m=>by
  have h1:=TD (nxM m)
  have h2:=Cu (nxM m)
  have h3:=CU k (nxM m)
  have h4:=Cu (AW k (nxM m)).2
  have h5:=Yn (nxV 5 (AW k (nxM m)).2).toNat
  have h6:=Cu (nxM (AW k (nxM m)).2)
  simp only[AW]
  repeat' split
  all_goals (try simp only[jL3])
  all_goals omega
abbrev Ob (n:Nat) (m:Mk) (d:Int):Prop:=okM m (4*(d+1))∧0≤d∧d<(n:Int)∧d≤4
abbrev Gb (n:Nat) (m:Mk) (d:Int):SV:=.one (.v (.string (bs (AW d.toNat m).1)))
abbrev FX (n:Nat) (m:Mk) (d:Int):List (Option MV):=[some (zMk,[(AW d.toNat m).2.c])]
noncomputable abbrev Kw:ArgM ((Mk)×(Int)×Unit):=(amP (mMk) (amD (cInt .i64) am0))
abbrev RM (n:Nat):Prop:=Bs Try.prog 80 ((Kw).args 0) (Kw).mem (fun p:(Mk)×(Int)×Unit=>Ob n p.1 p.2.1) (fun p:(Mk)×(Int)×Unit=>Gb n p.1 p.2.1) (fun p:(Mk)×(Int)×Unit=>FX n p.1 p.2.1)
theorem mK (n:Nat):∀p,(fun p:(Mk)×(Int)×Unit=>Ob n p.1 p.2.1) p→Cm ((Kw).mem p).length ((fun p:(Mk)×(Int)×Unit=>FX n p.1 p.2.1) p)=true:=by intro p _;rfl
theorem mL (n:Nat):∀p,(fun p:(Mk)×(Int)×Unit=>Ob n p.1 p.2.1) p→As ((fun p:(Mk)×(Int)×Unit=>FX n p.1 p.2.1) p).length ((fun p:(Mk)×(Int)×Unit=>Gb n p.1 p.2.1) p)=true:=by intro p _;first|rfl|exact AO _ _|exact AP _ _|(simp[As,Bz,AO,AP];done)
theorem mM (n:Nat):∀p,(fun p:(Mk)×(Int)×Unit=>Ob n p.1 p.2.1) p→∀q,some q∈(fun p:(Mk)×(Int)×Unit=>FX n p.1 p.2.1) p→∀r∈q.2,∀c∈r,c.names=[]:=by intro p _;exact KD _
noncomputable def Gc {X:Ctx} {w0:World} (n:Nat) (h:RM n):Sy.Spec Try.prog X w0:=CY 80 Try.call80 (Kw) (fun p:(Mk)×(Int)×Unit=>Ob n p.1 p.2.1) (fun p:(Mk)×(Int)×Unit=>Gb n p.1 p.2.1) (fun p:(Mk)×(Int)×Unit=>FX n p.1 p.2.1) (mK n) (mL n) (mM n) h
attribute [local go_sem] Mk.c Dz Dy E2 E3 Dw En Em El Dh E4 E0 DE Dx E1 Gc D3 Bk KE Hd zBy
set_option maxRecDepth 20000 in set_option maxHeartbeats 8000000 in
theorem mN (n:Nat) (hu:RM n):RM (n+1):=by
 rintro ⟨m,d,_u⟩ w M I lab fz xs hc hA hl hx
 refine Am Try.func80 rfl ((Kw).mem ⟨m,d,_u⟩) w M I lab fz [Bk,KE,D3,(Gc n hu)] [] ((Kw).args 0 ⟨m,d,_u⟩) ((fun p:(Mk)×(Int)×Unit=>FX (n+1) p.1 p.2.1) ⟨m,d,_u⟩) ((fun p:(Mk)×(Int)×Unit=>Gb (n+1) p.1 p.2.1) ⟨m,d,_u⟩) xs hA hl hx (fun v hv k hk=>by have:=(Kw).an 0 ⟨m,d,_u⟩ v hv k hk;omega) (jN rfl) (jN rfl) ?_
 clear hx hl hA xs
 simp only[Try.f80]
 obtain⟨o0,g0,g1,g2⟩:=hc
 dsimp only at o0 g0 g1 g2
 have a1:Ax m (nxM m) 1:=BX (okM.mono o0 (by omega))
 have o1:okM (nxM m) (4*(d+1)-1):=a1.ok (okM.mono o0 (by omega))
 cases hd0:decide (d≤0) with
 |true=>
  have hd1:d.toNat=0:=by have:=of_decide_eq_true hd0;omega
  cases v7:decide (nxV 12 m<7) with
  |true=>
   have hr:AW d.toNat m=nuT (nxM m):=by rw[hd1];simp only[AW];rw[if_pos v7]
   simp only[↓eB,seval,go_sem,hd0,v7]
   try simp only[A2,A3]
   repeat' first|exact ck|with_reducible apply And.intro|intro _
   all_goals first|exact okM.mono o0 (by omega)|exact okM.mono o1 (by omega)|(rename_i h;first|exact oI h|exact nah h)|(rename_i _ h _ g;exact sL h g)|decide|omega|(refine A0 [] ?_;simp only[↓eB,seval,go_sem,bne,Gb,FX,hr])
  |false=>
   have v3:decide (nxV 12 m<3)=false:=decide_eq_false (by have:=of_decide_eq_false v7;omega)
   have hr:AW d.toNat m=An (nxM m):=by rw[hd1];simp only[AW];rw[if_neg (by rw[v7];decide)]
   simp only[↓eB,seval,go_sem,hd0,v3,v7]
   try simp only[A2,A3]
   repeat' first|exact ck|with_reducible apply And.intro|intro _
   all_goals first|exact okM.mono o0 (by omega)|exact okM.mono o1 (by omega)|(rename_i h;first|exact oI h|exact nah h)|(rename_i _ h _ g;exact sL h g)|decide|omega|(refine A0 [] ?_;simp only[↓eB,seval,go_sem,bne,Gb,FX,hr])
 |false=>
  obtain⟨k,hk⟩:∃k:Nat,d.toNat=k+1:=⟨d.toNat-1,by have:=of_decide_eq_false hd0;omega⟩
  obtain⟨d',hd'⟩:∃d':Int,d'=d-1:=⟨_,rfl⟩
  have hk':d'.toNat=k:=by omega
  have hdw:IntKind.i64.wrap (d-1)=d':=by rw[hd'];exact wrap_i64 (by omega) (by omega)
  have hdk:(k:Int)=d':=by have:=of_decide_eq_false hd0;omega
  have p0:0≤d':=by omega
  have p1:d'<(n:Int):=by omega
  have p2:d'≤4:=by omega
  have e0:AW d.toNat m=AW (k+1) m:=by rw[hk]
  cases v3:decide (nxV 12 m<3) with
  |true=>
   have hr:AW d.toNat m=nuT (nxM m):=by rw[e0];simp only[AW];rw[if_pos v3]
   simp only[↓eB,seval,go_sem,hd0,v3]
   try simp only[A2,A3]
   repeat' first|exact ck|with_reducible apply And.intro|intro _
   all_goals first|exact okM.mono o0 (by omega)|exact okM.mono o1 (by omega)|(rename_i h;first|exact oI h|exact nah h)|(rename_i _ h _ g;exact sL h g)|decide|omega|(refine A0 [] ?_;simp only[↓eB,seval,go_sem,bne,Gb,FX,hr])
  |false=>
  cases v6:decide (nxV 12 m<6) with
  |true=>
   have hr:AW d.toNat m=An (nxM m):=by rw[e0];simp only[AW];rw[if_neg (by rw[v3];decide),if_pos v6]
   simp only[↓eB,seval,go_sem,hd0,v3,v6]
   try simp only[A2,A3]
   repeat' first|exact ck|with_reducible apply And.intro|intro _
   all_goals first|exact okM.mono o0 (by omega)|exact okM.mono o1 (by omega)|(rename_i h;first|exact oI h|exact nah h)|(rename_i _ h _ g;exact sL h g)|decide|omega|(refine A0 [] ?_;simp only[↓eB,seval,go_sem,bne,Gb,FX,hr])
  |false=>
  cases w6:(nxV 12 m==6) with
  |true=>
   have hr:AW d.toNat m=([45]++(An (nxM m)).1,(An (nxM m)).2):=by rw[e0];simp only[AW];rw[if_neg (by rw[v3];decide),if_neg (by rw[v6];decide),if_pos w6]
   have l1:=Cu (nxM m)
   simp only[↓eB,seval,go_sem,hd0,v3,v6,w6]
   try simp only[A2,A3]
   repeat' first|exact ck|with_reducible apply And.intro|intro _
   all_goals first|exact okM.mono o0 (by omega)|exact okM.mono o1 (by omega)|(simp only[jL3]at *;omega)|(rename_i h;first|exact oI h|exact nah h)|(rename_i _ h _ g;exact sL h g)|decide|omega|(refine A0 [] ?_;simp only[↓eB,seval,go_sem,bne,Gb,FX,hr])
  |false=>
  have a2:Ax (nxM m) (AW k (nxM m)).2 (4*(d'+1)):=by have h:=DN k (m:=nxM m) (by rw[hdk];exact okM.mono o1 (by omega));rw[hdk]at h;exact h
  have o2:okM (AW k (nxM m)).2 2:=a2.ok (okM.mono o1 (by omega))
  have a3:=BX (okM.mono o2 (by omega):okM _ 1)
  have o3:okM (nxM (AW k (nxM m)).2) 1:=a3.ok (okM.mono o2 (by omega))
  have l2:=CU k (nxM m)
  have hkb:k≤4:=by omega
  cases w11:(nxV 12 m==11) with
  |true=>
   have hr:AW d.toNat m=(([40]++(AW k (nxM m)).1)++[41,32,45,32]++(An (AW k (nxM m)).2).1,(An (AW k (nxM m)).2).2):=by rw[e0];simp only[AW];rw[if_neg (by rw[v3];decide),if_neg (by rw[v6];decide),if_neg (by rw[w6];decide),if_pos w11]
   have l3:=Cu (AW k (nxM m)).2
   simp only[↓eB,seval,go_sem,hd0,v3,v6,w6,w11,hdw,hk']
   try simp only[A2,A3]
   repeat' first|exact ck|with_reducible apply And.intro|intro _
   all_goals first|exact okM.mono o0 (by omega)|exact okM.mono o1 (by omega)|exact okM.mono o2 (by omega)|exact p0|exact p1|exact p2|(simp only[jL3]at *;omega)|(rename_i h;first|exact oI h|exact nah h)|(rename_i _ h _ g;exact sL h g)|decide|omega|(refine A0 [] ?_;simp only[↓eB,seval,go_sem,bne,Gb,FX,hr])
  |false=>
   have hr:AW d.toNat m=((((((AW k (nxM m)).1++[32])++opT.getD (nxV 5 (AW k (nxM m)).2).toNat [])++[32])++(An (nxM (AW k (nxM m)).2)).1),(An (nxM (AW k (nxM m)).2)).2):=by rw[e0];simp only[AW];rw[if_neg (by rw[v3];decide),if_neg (by rw[v6];decide),if_neg (by rw[w6];decide),if_neg (by rw[w11];decide)]
   have l3:=Yn (nxV 5 (AW k (nxM m)).2).toNat
   have l4:=Cu (nxM (AW k (nxM m)).2)
   have q5:=D2 (j:=5) o2 (by decide)
   simp only[↓eB,seval,go_sem,hd0,v3,v6,w6,w11,hdw,hk']
   try simp only[A2,A3]
   repeat' first|exact ck|with_reducible apply And.intro|intro _
   all_goals first|exact okM.mono o0 (by omega)|exact okM.mono o1 (by omega)|exact okM.mono o2 (by omega)|exact okM.mono o3 (by omega)|exact p0|exact p1|exact p2|(simp only[jL3]at *;omega)|(rename_i h;first|exact oI h|exact nah h)|(rename_i _ h _ g;exact sL h g)|decide|omega|(refine A0 [] ?_;simp only[↓eB,seval,go_sem,bne,Gb,FX,hr])
theorem TE:∀n:Nat,RM n
 |0=>by
  rintro ⟨m,d,_u⟩ w M I lab fz xs hc hA hl hx
  exact absurd hc.2.2.1 (by have:=hc.2.1;dsimp only at this ⊢;omega)
 |n+1=>mN n (TE n)
end Go.Proofs.Ytjnnmindcbgjhaa
