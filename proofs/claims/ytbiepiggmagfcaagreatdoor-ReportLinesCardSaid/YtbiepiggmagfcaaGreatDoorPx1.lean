/- print: the text of an expression. Conditions: the numbers are of 64 bits, the text shorter than 10^9 bytes; the table of powers of ten is laid. -/
import Derived.Test.YtbiepiggmagfcaaGreatDoorPb4
set_option linter.unusedVariables false
set_option linter.unusedSimpArgs false
open List (length_append length_cons length_nil)
namespace Go.Proofs.YtbiepiggmagfcaaGreatDoor
open Go Go.Sy Go.RowKit
def suB:Ex→Bool
 | .nil=>false
 | .mk k _ _ _ _=>k==2||k==3
def C3:Ex→Bool
 | .nil=>false
 | .mk k _ _ _ _=>k==4||k==5||k==6
def okN:Ex→Prop
 | .nil=>True
 | .mk _ n _ a b=>w64 n∧okN a∧okN b
def enT (p:Bool) (t:List UInt8):List UInt8:=if p=true then ([40]++t)++[41] else t
def exT:Ex→List UInt8
 | .nil=>[]
 | .mk k n s a b=>
  if (k==0)=true then itT n
  else if (k==1)=true then s
  else if (k==2)=true then (exT a++[32,43,32])++enT (suB b) (exT b)
  else if (k==3)=true then (exT a++[32,45,32])++enT (suB b) (exT b)
  else if (k==4)=true then (enT (suB a) (exT a)++[32,42,32])++enT (suB b||C3 b) (exT b)
  else if (k==5)=true then (enT (suB a) (exT a)++[32,47,32])++enT (suB b||C3 b) (exT b)
  else if (k==6)=true then (enT (suB a) (exT a)++[32,37,32])++enT (suB b||C3 b) (exT b)
  else if (k==7)=true then [45]++enT (suB a||C3 a) (exT a)
  else []
theorem L0 (p:Bool) (t:List UInt8):t.length≤(enT p t).length:=by
 unfold enT;split<;>simp<;>omega
abbrev XU (e:Ex):Prop:=True
abbrev Gy (e:Ex):SV:=.one (.v (.bool (suB e)))
noncomputable abbrev Rc:ArgC ((Ex)×Unit):=(acS (cEx) ac0)
abbrev kZ:Prop:=AP Tryz.prog 62 Rc (fun p:(Ex)×Unit=>XU p.1) (fun p:(Ex)×Unit=>Gy p.1)
theorem kb:∀p:(Ex)×Unit,((fun p:(Ex)×Unit=>Gy p.1) p).names=[]:=by intro p;first|rfl|exact B8 _|exact BN _
attribute [local go_sem] Hs Jr KT KU Hg B3 Dm Dl Ev Hr
theorem qz:kZ:=by
 rintro ⟨e,_u⟩ w fz xs hc hfz hl hx
 refine A9 Tryz.func62 rfl w fz [] [] Rc (fun p:(Ex)×Unit=>Gy p.1) _ xs hfz hl hx (jN rfl) ?_
 clear hx hl hfz xs
 simp only[Tryz.f62]
 cases e with
 |nil=>
  simp only[↓eB,seval,go_sem]
  try simp only[A1,A2]
  repeat' first|exact ck|with_reducible apply And.intro|intro _
  all_goals first|exact trivial|(rename_i h;first|exact oI h|exact nah h)|(rename_i _ h _ g;exact sL h g)|decide|omega|(refine A0 [] ?_;simp only[↓eB,seval,go_sem,bne,Gy,suB])
 |mk k n s a b=>
  cases h1:(k==2) with
  |true=>
   simp only[↓eB,seval,go_sem,h1]
   try simp only[A1,A2]
   repeat' first|exact ck|with_reducible apply And.intro|intro _
   all_goals first|exact trivial|(rename_i h;first|exact oI h|exact nah h)|(rename_i _ h _ g;exact sL h g)|decide|omega|(refine A0 [] ?_;simp only[↓eB,seval,go_sem,bne,Gy,suB,h1])
  |false=>
   simp only[↓eB,seval,go_sem,h1]
   try simp only[A1,A2]
   repeat' first|exact ck|with_reducible apply And.intro|intro _
   all_goals first|exact trivial|(rename_i h;first|exact oI h|exact nah h)|(rename_i _ h _ g;exact sL h g)|decide|omega|(refine A0 [] ?_;simp only[↓eB,seval,go_sem,bne,Gy,suB,h1])
noncomputable def Lm {X:Ctx} {w0:World}:Sy.Spec Tryz.prog X w0:=Am 62 Tryz.call62 Rc (fun p:(Ex)×Unit=>XU p.1) (fun p:(Ex)×Unit=>Gy p.1) kb qz
abbrev PZ (e:Ex):Prop:=True
abbrev DB (e:Ex):SV:=.one (.v (.bool (C3 e)))
noncomputable abbrev Lo:ArgC ((Ex)×Unit):=(acS (cEx) ac0)
abbrev XV:Prop:=AP Tryz.prog 64 Lo (fun p:(Ex)×Unit=>PZ p.1) (fun p:(Ex)×Unit=>DB p.1)
theorem XW:∀p:(Ex)×Unit,((fun p:(Ex)×Unit=>DB p.1) p).names=[]:=by intro p;first|rfl|exact B8 _|exact BN _
theorem Yh:XV:=by
 rintro ⟨e,_u⟩ w fz xs hc hfz hl hx
 refine A9 Tryz.func64 rfl w fz [] [] Lo (fun p:(Ex)×Unit=>DB p.1) _ xs hfz hl hx (jN rfl) ?_
 clear hx hl hfz xs
 simp only[Tryz.f64]
 cases e with
 |nil=>
  simp only[↓eB,seval,go_sem]
  try simp only[A1,A2]
  repeat' first|exact ck|with_reducible apply And.intro|intro _
  all_goals first|exact trivial|(rename_i h;first|exact oI h|exact nah h)|(rename_i _ h _ g;exact sL h g)|decide|omega|(refine A0 [] ?_;simp only[↓eB,seval,go_sem,bne,DB,C3])
 |mk k n s a b=>
  cases h1:(k==4) with
  |true=>
   simp only[↓eB,seval,go_sem,h1]
   try simp only[A1,A2]
   repeat' first|exact ck|with_reducible apply And.intro|intro _
   all_goals first|exact trivial|(rename_i h;first|exact oI h|exact nah h)|(rename_i _ h _ g;exact sL h g)|decide|omega|(refine A0 [] ?_;simp only[↓eB,seval,go_sem,bne,DB,C3,h1])
  |false=>
   cases h2:(k==5) with
   |true=>
    simp only[↓eB,seval,go_sem,h1,h2]
    try simp only[A1,A2]
    repeat' first|exact ck|with_reducible apply And.intro|intro _
    all_goals first|exact trivial|(rename_i h;first|exact oI h|exact nah h)|(rename_i _ h _ g;exact sL h g)|decide|omega|(refine A0 [] ?_;simp only[↓eB,seval,go_sem,bne,DB,C3,h1,h2])
   |false=>
    simp only[↓eB,seval,go_sem,h1,h2]
    try simp only[A1,A2]
    repeat' first|exact ck|with_reducible apply And.intro|intro _
    all_goals first|exact trivial|(rename_i h;first|exact oI h|exact nah h)|(rename_i _ h _ g;exact sL h g)|decide|omega|(refine A0 [] ?_;simp only[↓eB,seval,go_sem,bne,DB,C3,h1,h2])
noncomputable def Fh {X:Ctx} {w0:World}:Sy.Spec Tryz.prog X w0:=Am 64 Tryz.call64 Lo (fun p:(Ex)×Unit=>PZ p.1) (fun p:(Ex)×Unit=>DB p.1) XW Yh
abbrev Zq (m:Nat) (e:Ex):Prop:=e.dp<m∧okN e∧(exT e).length≤1000000000
abbrev Cz (m:Nat) (e:Ex):SV:=.one (.v (.string (bs (exT e))))
noncomputable abbrev UN:ArgC ((Ex)×Unit):=(acS (cEx) ac0)
abbrev L2 (m:Nat):Prop:=Cn Tryz.prog 27 AY UN (fun p:(Ex)×Unit=>Zq m p.1) (fun p:(Ex)×Unit=>Cz m p.1)
theorem rA (m:Nat):∀p:(Ex)×Unit,((fun p:(Ex)×Unit=>Cz m p.1) p).names=[]:=by intro p;first|rfl|exact B8 _|exact BN _
noncomputable def Dn {X:Ctx} {w0:World} (m:Nat) (h:L2 m) (hG:BB X w0 AY CX):Sy.Spec Tryz.prog X w0:=FK 27 Tryz.call27 AY UN (fun p:(Ex)×Unit=>Zq m p.1) (fun p:(Ex)×Unit=>Cz m p.1) (rA m) h hG.stays
abbrev Sv (m:Nat) (e:Ex) (p:Bool):Prop:=e.dp<m∧okN e∧(enT p (exT e)).length≤1000000000
abbrev GA (m:Nat) (e:Ex) (p:Bool):SV:=.one (.v (.string (bs (enT p (exT e)))))
noncomputable abbrev OI:ArgC ((Ex)×(Bool)×Unit):=(acS (cEx) (acS (Om) ac0))
abbrev Sw (m:Nat):Prop:=Cn Tryz.prog 61 AY OI (fun p:(Ex)×(Bool)×Unit=>Sv m p.1 p.2.1) (fun p:(Ex)×(Bool)×Unit=>GA m p.1 p.2.1)
theorem cB (m:Nat):∀p:(Ex)×(Bool)×Unit,((fun p:(Ex)×(Bool)×Unit=>GA m p.1 p.2.1) p).names=[]:=by intro p;first|rfl|exact B8 _|exact BN _
noncomputable def Hz {X:Ctx} {w0:World} (m:Nat) (h:Sw m) (hG:BB X w0 AY CX):Sy.Spec Tryz.prog X w0:=FK 61 Tryz.call61 AY OI (fun p:(Ex)×(Bool)×Unit=>Sv m p.1 p.2.1) (fun p:(Ex)×(Bool)×Unit=>GA m p.1 p.2.1) (cB m) h hG.stays
theorem VH (m:Nat) (hE:L2 m):Sw m:=by
 rintro ⟨e,p,_u⟩ w fz xs hT hc hfz hl hx
 have hG:=Cj Br DA (fz:=fz) hT
 refine A9 Tryz.func61 rfl w fz [(Dn m hE hG)] [] OI (fun p:(Ex)×(Bool)×Unit=>GA m p.1 p.2.1) _ xs hfz hl hx (jN rfl) ?_
 clear hx hl hfz xs
 simp only[Tryz.f61]
 obtain⟨h1,h2,h3⟩:=hc
 dsimp only at h1 h2 h3
 cases p with
 |true=>
  have h4:(exT e).length+2≤1000000000:=by simpa [enT] using h3
  simp only[↓eB,seval,go_sem,Dn]
  try simp only[A1,A2]
  repeat' first|exact ck|with_reducible apply And.intro|intro _
  all_goals first|exact h2|(rename_i h;first|exact oI h|exact nah h)|(rename_i _ h _ g;exact sL h g)|decide|omega|(refine A0 [] ?_;simp only[↓eB,seval,go_sem,bne,GA,enT])
 |false=>
  have h4:(exT e).length≤1000000000:=h3
  simp only[↓eB,seval,go_sem,Dn]
  try simp only[A1,A2]
  repeat' first|exact ck|with_reducible apply And.intro|intro _
  all_goals first|exact h2|(rename_i h;first|exact oI h|exact nah h)|(rename_i _ h _ g;exact sL h g)|decide|omega|(refine A0 [] ?_;simp only[↓eB,seval,go_sem,bne,GA,enT])
def faT (s:List UInt8) (a b:Ex):List UInt8:=(enT (suB a) (exT a)++s)++enT (suB b||C3 b) (exT b)
def fa2 (s:List UInt8):Ex→List UInt8
 | .nil=>[]
 | .mk _ _ _ a b=>faT s a b
def xV (m:Nat):Ex→Prop
 | .nil=>False
 | .mk _ _ _ a b=>a.dp<m∧b.dp<m∧okN a∧okN b
abbrev Sx (m:Nat) (e:Ex) (s:List UInt8):Prop:=xV m e∧(fa2 s e).length≤1000000000
abbrev GB (m:Nat) (e:Ex) (s:List UInt8):SV:=.one (.v (.string (bs (fa2 s e))))
noncomputable abbrev OJ:ArgC ((Ex)×(List UInt8)×Unit):=(acS (cEx) (acS (cStr) ac0))
abbrev Sz (m:Nat):Prop:=Cn Tryz.prog 63 AY OJ (fun p:(Ex)×(List UInt8)×Unit=>Sx m p.1 p.2.1) (fun p:(Ex)×(List UInt8)×Unit=>GB m p.1 p.2.1)
theorem cC (m:Nat):∀p:(Ex)×(List UInt8)×Unit,((fun p:(Ex)×(List UInt8)×Unit=>GB m p.1 p.2.1) p).names=[]:=by intro p;first|rfl|exact B8 _|exact BN _
noncomputable def T1 {X:Ctx} {w0:World} (m:Nat) (h:Sz m) (hG:BB X w0 AY CX):Sy.Spec Tryz.prog X w0:=FK 63 Tryz.call63 AY OJ (fun p:(Ex)×(List UInt8)×Unit=>Sx m p.1 p.2.1) (fun p:(Ex)×(List UInt8)×Unit=>GB m p.1 p.2.1) (cC m) h hG.stays
theorem gI (m:Nat) (hE:L2 m):Sz m:=by
 rintro ⟨e,s,_u⟩ w fz xs hT hc hfz hl hx
 have hG:=Cj Br DA (fz:=fz) hT
 refine A9 Tryz.func63 rfl w fz [Lm,Fh,(Hz m (VH m hE) hG)] [] OJ (fun p:(Ex)×(List UInt8)×Unit=>GB m p.1 p.2.1) _ xs hfz hl hx (jN rfl) ?_
 clear hx hl hfz xs
 simp only[Tryz.f63]
 obtain⟨h1,h2⟩:=hc
 dsimp only at h1 h2
 cases e with
 |nil=>exact h1.elim
 |mk k n s' a b=>
  obtain⟨g1,g2,g3,g4⟩:=h1
  have h3:(enT (suB a) (exT a)).length+s.length+(enT (suB b||C3 b) (exT b)).length≤1000000000:=by simpa [fa2,faT,Nat.add_assoc] using h2
  cases hb:suB b with
  |true=>
   rw[hb]at h3
   simp only[Bool.true_or]at h3
   simp only[↓eB,seval,go_sem,Lm,Fh,Hz,hb]
   try simp only[A1,A2]
   repeat' first|exact ck|with_reducible apply And.intro|intro _
   all_goals first|exact g3|exact g4|(simp only[jL3];omega)|(rename_i h;first|exact oI h|exact nah h)|(rename_i _ h _ g;exact sL h g)|decide|omega|(refine A0 [] ?_;simp only[↓eB,seval,go_sem,bne,GB,fa2,faT,hb,List.append_assoc])
  |false=>
   rw[hb]at h3
   simp only[Bool.false_or]at h3
   simp only[↓eB,seval,go_sem,Lm,Fh,Hz,hb]
   try simp only[A1,A2]
   repeat' first|exact ck|with_reducible apply And.intro|intro _
   all_goals first|exact g3|exact g4|(simp only[jL3];omega)|(rename_i h;first|exact oI h|exact nah h)|(rename_i _ h _ g;exact sL h g)|decide|omega|(refine A0 [] ?_;simp only[↓eB,seval,go_sem,bne,GB,fa2,faT,hb,List.append_assoc])
theorem kd8 (k:Int):k=0∨k=1∨k=2∨k=3∨k=4∨k=5∨k=6∨k=7∨((k==0)=false∧(k==1)=false∧(k==2)=false∧(k==3)=false∧(k==4)=false∧(k==5)=false∧(k==6)=false∧(k==7)=false):=by
 simp only[beq_eq_false_iff_ne];omega
theorem XX (t:List UInt8) (k n:Int) (s:List UInt8) (a b:Ex):fa2 t (.mk k n s a b)=faT t a b:=rfl
theorem ex0 (n:Int) (s:List UInt8) (a b:Ex):exT (.mk 0 n s a b)=itT n:=by simp only[exT,if_true,if_false,Int.reduceBEq,jB]
theorem ex1 (n:Int) (s:List UInt8) (a b:Ex):exT (.mk 1 n s a b)=s:=by simp only[exT,if_true,if_false,Int.reduceBEq,jB]
theorem ex2 (n:Int) (s:List UInt8) (a b:Ex):exT (.mk 2 n s a b)=(exT a++[32,43,32])++enT (suB b) (exT b):=by simp only[exT,if_true,if_false,Int.reduceBEq,jB]
theorem ex3 (n:Int) (s:List UInt8) (a b:Ex):exT (.mk 3 n s a b)=(exT a++[32,45,32])++enT (suB b) (exT b):=by simp only[exT,if_true,if_false,Int.reduceBEq,jB]
theorem ex4 (n:Int) (s:List UInt8) (a b:Ex):exT (.mk 4 n s a b)=faT [32,42,32] a b:=by simp only[exT,faT,if_true,if_false,Int.reduceBEq,jB]
theorem ex5 (n:Int) (s:List UInt8) (a b:Ex):exT (.mk 5 n s a b)=faT [32,47,32] a b:=by simp only[exT,faT,if_true,if_false,Int.reduceBEq,jB]
theorem ex6 (n:Int) (s:List UInt8) (a b:Ex):exT (.mk 6 n s a b)=faT [32,37,32] a b:=by simp only[exT,faT,if_true,if_false,Int.reduceBEq,jB]
theorem ex7 (n:Int) (s:List UInt8) (a b:Ex):exT (.mk 7 n s a b)=[45]++enT (suB a||C3 a) (exT a):=by simp only[exT,if_true,if_false,Int.reduceBEq,jB]
set_option maxRecDepth 20000 in set_option maxHeartbeats 8000000 in
attribute[local go_sem] Dn T1 Hz Fh Lm in
theorem rC (m:Nat) (hE:L2 m):L2 (m+1):=by
 rintro ⟨e,_u⟩ w fz xs hT hc hfz hl hx
 have hG:=Cj Br DA (fz:=fz) hT
 refine A9 Tryz.func27 rfl w fz [(Hr hG),Lm,Fh,(Dn m hE hG),(Hz m (VH m hE) hG),(T1 m (gI m hE) hG)] [] UN (fun p:(Ex)×Unit=>Cz (m+1) p.1) _ xs hfz hl hx (jN rfl) ?_
 clear hx hl hfz xs
 simp only[Tryz.f27]
 obtain⟨h1,h2,h3⟩:=hc
 dsimp only at h1 h2 h3
 cases e with
 |nil=>
  simp only[↓eB,seval,go_sem]
  try simp only[A1,A2]
  repeat' first|exact ck|with_reducible apply And.intro|intro _
  all_goals first|exact trivial|(rename_i h;first|exact oI h|exact nah h)|(rename_i _ h _ g;exact sL h g)|decide|omega|(refine A0 [] ?_;simp only[↓eB,seval,go_sem,bne,Cz,exT])
 |mk k n s a b=>
  obtain⟨g1,g2,g3⟩:=h2
  simp only[Ex.dp]at h1
  have f1:xV m (.mk k n s a b):=⟨by omega,by omega,g2,g3⟩
  rcases kd8 k with rfl|rfl|rfl|rfl|rfl|rfl|rfl|rfl|⟨e0,e1,e2,e3,e4,e5,e6,e7⟩
  ·simp only[↓eB,seval,go_sem]
   try simp only[A1,A2]
   repeat' first|exact ck|with_reducible apply And.intro|intro _
   all_goals first|exact g1|(rename_i h;first|exact oI h|exact nah h)|(rename_i _ h _ g;exact sL h g)|decide|omega|(refine A0 [] ?_;simp only[↓eB,seval,go_sem,bne,Cz,ex0])
  ·simp only[↓eB,seval,go_sem]
   try simp only[A1,A2]
   repeat' first|exact ck|with_reducible apply And.intro|intro _
   all_goals first|exact trivial|(rename_i h;first|exact oI h|exact nah h)|(rename_i _ h _ g;exact sL h g)|decide|omega|(refine A0 [] ?_;simp only[↓eB,seval,go_sem,bne,Cz,ex1])
  ·have l1:=L0 (suB b) (exT b)
   simp only[ex2,jL3]at h3
   simp only[↓eB,seval,go_sem]
   try simp only[A1,A2]
   repeat' first|exact ck|with_reducible apply And.intro|intro _
   all_goals first|exact g2|exact g3|(simp only[jL3];omega)|(rename_i h;first|exact oI h|exact nah h)|(rename_i _ h _ g;exact sL h g)|decide|omega|(refine A0 [] ?_;simp only[↓eB,seval,go_sem,bne,Cz,ex2])
  ·have l1:=L0 (suB b) (exT b)
   simp only[ex3,jL3]at h3
   simp only[↓eB,seval,go_sem]
   try simp only[A1,A2]
   repeat' first|exact ck|with_reducible apply And.intro|intro _
   all_goals first|exact g2|exact g3|(simp only[jL3];omega)|(rename_i h;first|exact oI h|exact nah h)|(rename_i _ h _ g;exact sL h g)|decide|omega|(refine A0 [] ?_;simp only[↓eB,seval,go_sem,bne,Cz,ex3])
  ·rw[ex4]at h3
   simp only[↓eB,seval,go_sem]
   try simp only[A1,A2]
   repeat' first|exact ck|with_reducible apply And.intro|intro _
   all_goals first|exact f1|exact h3|(rename_i h;first|exact oI h|exact nah h)|(rename_i _ h _ g;exact sL h g)|decide|omega|(refine A0 [] ?_;simp only[↓eB,seval,go_sem,bne,Cz,ex4,XX])
  ·rw[ex5]at h3
   simp only[↓eB,seval,go_sem]
   try simp only[A1,A2]
   repeat' first|exact ck|with_reducible apply And.intro|intro _
   all_goals first|exact f1|exact h3|(rename_i h;first|exact oI h|exact nah h)|(rename_i _ h _ g;exact sL h g)|decide|omega|(refine A0 [] ?_;simp only[↓eB,seval,go_sem,bne,Cz,ex5,XX])
  ·rw[ex6]at h3
   simp only[↓eB,seval,go_sem]
   try simp only[A1,A2]
   repeat' first|exact ck|with_reducible apply And.intro|intro _
   all_goals first|exact f1|exact h3|(rename_i h;first|exact oI h|exact nah h)|(rename_i _ h _ g;exact sL h g)|decide|omega|(refine A0 [] ?_;simp only[↓eB,seval,go_sem,bne,Cz,ex6,XX])
  ·simp only[ex7,jL3]at h3
   cases ha:suB a with
   |true=>
    rw[ha]at h3
    simp only[Bool.true_or]at h3
    simp only[↓eB,seval,go_sem,ha]
    try simp only[A1,A2]
    repeat' first|exact ck|with_reducible apply And.intro|intro _
    all_goals first|exact g2|(rename_i h;first|exact oI h|exact nah h)|(rename_i _ h _ g;exact sL h g)|decide|omega|(refine A0 [] ?_;simp only[↓eB,seval,go_sem,bne,Cz,ex7,ha])
   |false=>
    rw[ha]at h3
    simp only[Bool.false_or]at h3
    simp only[↓eB,seval,go_sem,ha]
    try simp only[A1,A2]
    repeat' first|exact ck|with_reducible apply And.intro|intro _
    all_goals first|exact g2|(rename_i h;first|exact oI h|exact nah h)|(rename_i _ h _ g;exact sL h g)|decide|omega|(refine A0 [] ?_;simp only[↓eB,seval,go_sem,bne,Cz,ex7,ha])
  ·simp only[↓eB,seval,go_sem,e0,e1,e2,e3,e4,e5,e6,e7]
   try simp only[A1,A2]
   repeat' first|exact ck|with_reducible apply And.intro|intro _
   all_goals first|exact trivial|(rename_i h;first|exact oI h|exact nah h)|(rename_i _ h _ g;exact sL h g)|decide|omega|(refine A0 [] ?_;simp only[↓eB,seval,go_sem,bne,Cz,exT,e0,e1,e2,e3,e4,e5,e6,e7])
theorem Pa:∀m:Nat,L2 m
 |0=>by
  rintro ⟨e,_u⟩ w fz xs hT hc hfz hl hx
  exact absurd hc.1 (Nat.not_lt_zero _)
 |m+1=>rC m (Pa m)
end Go.Proofs.YtbiepiggmagfcaaGreatDoor
