/- The maker's sums and conditions. No conditions but those in each statement. -/
import Derived.Test.YtjnnmindcbgjhaaMk1
set_option linter.unusedVariables false
set_option linter.unusedSimpArgs false
open List (length_append length_cons length_nil)
namespace Go.Proofs.Ytjnnmindcbgjhaa
open Go Go.Sy Go.RowKit
theorem ah {m:Mk} (h:okM m 1):Ax m (nuT m).2 1:=Ba h
theorem Em {m:Mk} (h:okM m 1):Ax m (Ao m).2 1:=Ba h
theorem JA {s:Int} {m:Mk} (h:okM m 1):Ax m (pvT s m).2 1:=by
 unfold pvT
 split
 ·split<;>exact Ba h
 ·exact(Ax.refl m).mono (by decide)
theorem TX (m:Mk):(nuT m).1.length≤19:=gK _
theorem Cu (m:Mk):(Ao m).1.length≤1:=mO _
theorem GB (s:Int) (m:Mk):(pvT s m).1.length≤1:=by
 unfold pvT
 split
 ·split<;>exact Nat.le_refl _
 ·exact Nat.le_refl _
def AX:Nat→Mk→T
 |0,m=>if decide (nxV 12 m<7)=true then nuT (nxM m) else Ao (nxM m)
 |k+1,m=>
  if decide (nxV 12 m<3)=true then nuT (nxM m)
  else if decide (nxV 12 m<6)=true then Ao (nxM m)
  else if (nxV 12 m==6)=true then ([45]++(Ao (nxM m)).1,(Ao (nxM m)).2)
  else if (nxV 12 m==11)=true then (([40]++(AX k (nxM m)).1)++[41,32,45,32]++(Ao (AX k (nxM m)).2).1,(Ao (AX k (nxM m)).2).2)
  else ((((((AX k (nxM m)).1++[32])++opT.getD (nxV 5 (AX k (nxM m)).2).toNat [])++[32])++(Ao (nxM (AX k (nxM m)).2)).1),(Ao (nxM (AX k (nxM m)).2)).2)
theorem DN:∀(k:Nat) {m:Mk},okM m (4*((k:Int)+1))→Ax m (AX k m).2 (4*((k:Int)+1))
 |0,m,h=>by
  have a1:=Ba (h.mono (by decide))
  have o1:okM (nxM m) 1:=a1.ok (h.mono (by decide))
  simp only[AX]
  split
  ·exact(a1.trans (ah o1)).mono (by decide)
  ·exact(a1.trans (Em o1)).mono (by decide)
 |k+1,m,h=>by
  have a1:=Ba (h.mono (by omega))
  have o1:okM (nxM m) (4*((k:Int)+1)+2):=a1.ok (h.mono (by omega))
  have a2:=DN k (o1.mono (by omega))
  have o2:okM (AX k (nxM m)).2 2:=a2.ok (o1.mono (by omega))
  simp only[AX]
  split
  ·exact(a1.trans (ah (o1.mono (by omega)))).mono (by omega)
  split
  ·exact(a1.trans (Em (o1.mono (by omega)))).mono (by omega)
  split
  ·exact(a1.trans (Em (o1.mono (by omega)))).mono (by omega)
  split
  ·exact((a1.trans a2).trans (Em (o2.mono (by omega)))).mono (by omega)
  ·have a3:=Ba (o2.mono (by omega))
   exact(((a1.trans a2).trans a3).trans (Em (a3.ok (o2.mono (by omega))))).mono (by omega)
theorem CV:∀(k:Nat) (m:Mk),(AX k m).1.length≤64*(k+1)
 |0,m=>by
  have h1:=TX (nxM m)
  have h2:=Cu (nxM m)
  simp only[AX]
  split<;>omega
 |k+1,m=>by
  have h1:=TX (nxM m)
  have h2:=Cu (nxM m)
  have h3:=CV k (nxM m)
  have h4:=Cu (AX k (nxM m)).2
  have h5:=Z1 (nxV 5 (AX k (nxM m)).2).toNat
  have h6:=Cu (nxM (AX k (nxM m)).2)
  simp only[AX]
  repeat' split
  all_goals (try simp only[jL3])
  all_goals omega
abbrev Ov (n:Nat) (m:Mk) (d:Int):Prop:=okM m (4*(d+1))∧0≤d∧d<(n:Int)∧d≤4
abbrev Gr (n:Nat) (m:Mk) (d:Int):SV:=.one (.v (.string (bs (AX d.toNat m).1)))
abbrev Fh (n:Nat) (m:Mk) (d:Int):List (Option MV):=[some (zMk,[(AX d.toNat m).2.c])]
noncomputable abbrev LC:ArgM ((Mk)×(Int)×Unit):=(amP (mMk) (amD (cInt .i64) am0))
abbrev Rg (n:Nat):Prop:=Bt Try.prog 80 ((LC).args 0) (LC).mem (fun p:(Mk)×(Int)×Unit=>Ov n p.1 p.2.1) (fun p:(Mk)×(Int)×Unit=>Gr n p.1 p.2.1) (fun p:(Mk)×(Int)×Unit=>Fh n p.1 p.2.1)
theorem mh (n:Nat):∀p,(fun p:(Mk)×(Int)×Unit=>Ov n p.1 p.2.1) p→Cn ((LC).mem p).length ((fun p:(Mk)×(Int)×Unit=>Fh n p.1 p.2.1) p)=true:=by intro p _;rfl
theorem mi (n:Nat):∀p,(fun p:(Mk)×(Int)×Unit=>Ov n p.1 p.2.1) p→Av ((fun p:(Mk)×(Int)×Unit=>Fh n p.1 p.2.1) p).length ((fun p:(Mk)×(Int)×Unit=>Gr n p.1 p.2.1) p)=true:=by intro p _;first|rfl|exact AO _ _|exact AP _ _|(simp[Av,C0,AO,AP];done)
theorem mj (n:Nat):∀p,(fun p:(Mk)×(Int)×Unit=>Ov n p.1 p.2.1) p→∀q,some q∈(fun p:(Mk)×(Int)×Unit=>Fh n p.1 p.2.1) p→∀r∈q.2,∀c∈r,c.names=[]:=by intro p _;exact KQ _
noncomputable def Gs {X:Ctx} {w0:World} (n:Nat) (h:Rg n):Sy.Spec Try.prog X w0:=Ca 80 Try.call80 (LC) (fun p:(Mk)×(Int)×Unit=>Ov n p.1 p.2.1) (fun p:(Mk)×(Int)×Unit=>Gr n p.1 p.2.1) (fun p:(Mk)×(Int)×Unit=>Fh n p.1 p.2.1) (mh n) (mi n) (mj n) h
attribute [local go_sem] Mk.c Dz Dy E2 E3 Dw El Ek Ej Dg E4 E0 DF Dx E1 Gs D5 Bl KR Hv zBy
set_option maxRecDepth 20000 in set_option maxHeartbeats 8000000 in
theorem ml (n:Nat) (hu:Rg n):Rg (n+1):=by
 rintro ⟨m,d,_u⟩ w M I lab fz xs hc hA hl hx
 refine An Try.func80 rfl ((LC).mem ⟨m,d,_u⟩) w M I lab fz [Bl,KR,D5,(Gs n hu)] [] ((LC).args 0 ⟨m,d,_u⟩) ((fun p:(Mk)×(Int)×Unit=>Fh (n+1) p.1 p.2.1) ⟨m,d,_u⟩) ((fun p:(Mk)×(Int)×Unit=>Gr (n+1) p.1 p.2.1) ⟨m,d,_u⟩) xs hA hl hx (fun v hv k hk=>by have:=(LC).an 0 ⟨m,d,_u⟩ v hv k hk;omega) (jN rfl) (jN rfl) ?_
 clear hx hl hA xs
 simp only[Try.f80]
 obtain⟨o0,g0,g1,g2⟩:=hc
 dsimp only at o0 g0 g1 g2
 have a1:Ax m (nxM m) 1:=Ba (okM.mono o0 (by omega))
 have o1:okM (nxM m) (4*(d+1)-1):=a1.ok (okM.mono o0 (by omega))
 cases hd0:decide (d≤0) with
 |true=>
  have hd1:d.toNat=0:=by have:=of_decide_eq_true hd0;omega
  cases v7:decide (nxV 12 m<7) with
  |true=>
   have hr:AX d.toNat m=nuT (nxM m):=by rw[hd1];simp only[AX];rw[if_pos v7]
   simp only[↓eB,seval,go_sem,hd0,v7]
   try simp only[A3,A4]
   repeat' first|exact ck|with_reducible apply And.intro|intro _
   all_goals first|exact okM.mono o0 (by omega)|exact okM.mono o1 (by omega)|(rename_i h;first|exact oI h|exact nah h)|(rename_i _ h _ g;exact sL h g)|decide|omega|(refine A0 [] ?_;simp only[↓eB,seval,go_sem,bne,Gr,Fh,hr])
  |false=>
   have v3:decide (nxV 12 m<3)=false:=decide_eq_false (by have:=of_decide_eq_false v7;omega)
   have hr:AX d.toNat m=Ao (nxM m):=by rw[hd1];simp only[AX];rw[if_neg (by rw[v7];decide)]
   simp only[↓eB,seval,go_sem,hd0,v3,v7]
   try simp only[A3,A4]
   repeat' first|exact ck|with_reducible apply And.intro|intro _
   all_goals first|exact okM.mono o0 (by omega)|exact okM.mono o1 (by omega)|(rename_i h;first|exact oI h|exact nah h)|(rename_i _ h _ g;exact sL h g)|decide|omega|(refine A0 [] ?_;simp only[↓eB,seval,go_sem,bne,Gr,Fh,hr])
 |false=>
  obtain⟨k,hk⟩:∃k:Nat,d.toNat=k+1:=⟨d.toNat-1,by have:=of_decide_eq_false hd0;omega⟩
  obtain⟨d',hd'⟩:∃d':Int,d'=d-1:=⟨_,rfl⟩
  have hk':d'.toNat=k:=by omega
  have hdw:IntKind.i64.wrap (d-1)=d':=by rw[hd'];exact wrap_i64 (by omega) (by omega)
  have hdk:(k:Int)=d':=by have:=of_decide_eq_false hd0;omega
  have p0:0≤d':=by omega
  have p1:d'<(n:Int):=by omega
  have p2:d'≤4:=by omega
  have e0:AX d.toNat m=AX (k+1) m:=by rw[hk]
  cases v3:decide (nxV 12 m<3) with
  |true=>
   have hr:AX d.toNat m=nuT (nxM m):=by rw[e0];simp only[AX];rw[if_pos v3]
   simp only[↓eB,seval,go_sem,hd0,v3]
   try simp only[A3,A4]
   repeat' first|exact ck|with_reducible apply And.intro|intro _
   all_goals first|exact okM.mono o0 (by omega)|exact okM.mono o1 (by omega)|(rename_i h;first|exact oI h|exact nah h)|(rename_i _ h _ g;exact sL h g)|decide|omega|(refine A0 [] ?_;simp only[↓eB,seval,go_sem,bne,Gr,Fh,hr])
  |false=>
  cases v6:decide (nxV 12 m<6) with
  |true=>
   have hr:AX d.toNat m=Ao (nxM m):=by rw[e0];simp only[AX];rw[if_neg (by rw[v3];decide),if_pos v6]
   simp only[↓eB,seval,go_sem,hd0,v3,v6]
   try simp only[A3,A4]
   repeat' first|exact ck|with_reducible apply And.intro|intro _
   all_goals first|exact okM.mono o0 (by omega)|exact okM.mono o1 (by omega)|(rename_i h;first|exact oI h|exact nah h)|(rename_i _ h _ g;exact sL h g)|decide|omega|(refine A0 [] ?_;simp only[↓eB,seval,go_sem,bne,Gr,Fh,hr])
  |false=>
  cases w6:(nxV 12 m==6) with
  |true=>
   have hr:AX d.toNat m=([45]++(Ao (nxM m)).1,(Ao (nxM m)).2):=by rw[e0];simp only[AX];rw[if_neg (by rw[v3];decide),if_neg (by rw[v6];decide),if_pos w6]
   have l1:=Cu (nxM m)
   simp only[↓eB,seval,go_sem,hd0,v3,v6,w6]
   try simp only[A3,A4]
   repeat' first|exact ck|with_reducible apply And.intro|intro _
   all_goals first|exact okM.mono o0 (by omega)|exact okM.mono o1 (by omega)|(simp only[jL3]at *;omega)|(rename_i h;first|exact oI h|exact nah h)|(rename_i _ h _ g;exact sL h g)|decide|omega|(refine A0 [] ?_;simp only[↓eB,seval,go_sem,bne,Gr,Fh,hr])
  |false=>
  have a2:Ax (nxM m) (AX k (nxM m)).2 (4*(d'+1)):=by have h:=DN k (m:=nxM m) (by rw[hdk];exact okM.mono o1 (by omega));rw[hdk]at h;exact h
  have o2:okM (AX k (nxM m)).2 2:=a2.ok (okM.mono o1 (by omega))
  have a3:=Ba (okM.mono o2 (by omega):okM _ 1)
  have o3:okM (nxM (AX k (nxM m)).2) 1:=a3.ok (okM.mono o2 (by omega))
  have l2:=CV k (nxM m)
  have hkb:k≤4:=by omega
  cases w11:(nxV 12 m==11) with
  |true=>
   have hr:AX d.toNat m=(([40]++(AX k (nxM m)).1)++[41,32,45,32]++(Ao (AX k (nxM m)).2).1,(Ao (AX k (nxM m)).2).2):=by rw[e0];simp only[AX];rw[if_neg (by rw[v3];decide),if_neg (by rw[v6];decide),if_neg (by rw[w6];decide),if_pos w11]
   have l3:=Cu (AX k (nxM m)).2
   simp only[↓eB,seval,go_sem,hd0,v3,v6,w6,w11,hdw,hk']
   try simp only[A3,A4]
   repeat' first|exact ck|with_reducible apply And.intro|intro _
   all_goals first|exact okM.mono o0 (by omega)|exact okM.mono o1 (by omega)|exact okM.mono o2 (by omega)|exact p0|exact p1|exact p2|(simp only[jL3]at *;omega)|(rename_i h;first|exact oI h|exact nah h)|(rename_i _ h _ g;exact sL h g)|decide|omega|(refine A0 [] ?_;simp only[↓eB,seval,go_sem,bne,Gr,Fh,hr])
  |false=>
   have hr:AX d.toNat m=((((((AX k (nxM m)).1++[32])++opT.getD (nxV 5 (AX k (nxM m)).2).toNat [])++[32])++(Ao (nxM (AX k (nxM m)).2)).1),(Ao (nxM (AX k (nxM m)).2)).2):=by rw[e0];simp only[AX];rw[if_neg (by rw[v3];decide),if_neg (by rw[v6];decide),if_neg (by rw[w6];decide),if_neg (by rw[w11];decide)]
   have l3:=Z1 (nxV 5 (AX k (nxM m)).2).toNat
   have l4:=Cu (nxM (AX k (nxM m)).2)
   have q5:=D2 (j:=5) o2 (by decide)
   simp only[↓eB,seval,go_sem,hd0,v3,v6,w6,w11,hdw,hk']
   try simp only[A3,A4]
   repeat' first|exact ck|with_reducible apply And.intro|intro _
   all_goals first|exact okM.mono o0 (by omega)|exact okM.mono o1 (by omega)|exact okM.mono o2 (by omega)|exact okM.mono o3 (by omega)|exact p0|exact p1|exact p2|(simp only[jL3]at *;omega)|(rename_i h;first|exact oI h|exact nah h)|(rename_i _ h _ g;exact sL h g)|decide|omega|(refine A0 [] ?_;simp only[↓eB,seval,go_sem,bne,Gr,Fh,hr])
theorem TY:∀n:Nat,Rg n
 |0=>by
  rintro ⟨m,d,_u⟩ w M I lab fz xs hc hA hl hx
  exact absurd hc.2.2.1 (by have:=hc.2.1;dsimp only at this ⊢;omega)
 |n+1=>ml n (TY n)
end Go.Proofs.Ytjnnmindcbgjhaa
