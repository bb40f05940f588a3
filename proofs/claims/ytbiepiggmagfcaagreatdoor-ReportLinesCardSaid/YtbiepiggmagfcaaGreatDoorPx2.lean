/- print: the text of a condition. Conditions: the numbers are of 64 bits, the text shorter than 10^9 bytes; the table of powers of ten is laid. -/
import Derived.Test.YtbiepiggmagfcaaGreatDoorPx1
import Derived.Shelf.Strings.Split
set_option linter.unusedVariables false
set_option linter.unusedSimpArgs false
open List (length_append length_cons length_nil getElem?_map length_map)
namespace Go.Proofs.YtbiepiggmagfcaaGreatDoor
open Go Go.Sy Go.RowKit
theorem T3 (k:Int) (a b:Ex) (p q:Cd) (s:List UInt8):cCd.d (.one (.d (.pt (some [.v (.int .i64 k),a.d,b.d,p.d,q.d,.v (.string (bs s))]))))=some (.mk k a b p q s):=MH (.mk k a b p q s)
theorem gJ (k:Int) (a b:Ex) (p q:Cd) (s:List UInt8):(Cd.mk k a b p q s).d= .pt (some [.v (.int .i64 k),a.d,b.d,p.d,q.d,.v (.string (bs s))]):=rfl
def isB (k:Int):Cd→Bool
 | .nil=>false
 | .mk k' _ _ _ _ _=>k'==k
def Cd.nm:Cd→List UInt8
 | .nil=>[]
 | .mk _ _ _ _ _ s=>s
def MZ:Cd→Prop
 | .nil=>True
 | .mk _ a b p q _=>okN a∧okN b∧MZ p∧MZ q
def Bf (t:List UInt8) (a b:Ex):List UInt8:=(exT a++t)++exT b
def coT:Cd→List UInt8
 | .nil=>[]
 | .mk k a b p q s=>
  if (k==0)=true then Bf [32,61,61,32] a b
  else if (k==1)=true then Bf [32,33,61,32] a b
  else if (k==2)=true then Bf [32,60,32] a b
  else if (k==3)=true then Bf [32,60,61,32] a b
  else if (k==4)=true then Bf [32,62,32] a b
  else if (k==5)=true then Bf [32,62,61,32] a b
  else if (k==6)=true then (enT (isB 7 p) (coT p)++[32,38,38,32])++enT (isB 7 q||isB 6 q) (coT q)
  else if (k==7)=true then (coT p++[32,124,124,32])++enT (isB 7 q) (coT q)
  else if (k==8)=true then (if isB 9 p=true then p.nm++[32,33,61,32,110,117,108,108] else [33]++enT (!isB 8 p) (coT p))
  else if (k==9)=true then s++[32,61,61,32,110,117,108,108]
  else []
abbrev gK (c:Cd) (k:Int):Prop:=True
abbrev NZ (c:Cd) (k:Int):SV:=.one (.v (.bool (isB k c)))
noncomputable abbrev XY:ArgC ((Cd)×(Int)×Unit):=(acS (cCd) (acS (cInt .i64) ac0))
abbrev xW:Prop:=AP Tryz.prog 66 XY (fun p:(Cd)×(Int)×Unit=>gK p.1 p.2.1) (fun p:(Cd)×(Int)×Unit=>NZ p.1 p.2.1)
theorem xX:∀p:(Cd)×(Int)×Unit,((fun p:(Cd)×(Int)×Unit=>NZ p.1 p.2.1) p).names=[]:=by intro p;first|rfl|exact B8 _|exact BN _
attribute [local go_sem] MH T3 QV QW Hs Jr KT KU gJ IW KM CG B3 Dm Dl Ev Dn
theorem A2x:xW:=by
 rintro ⟨c,k,_u⟩ w fz xs hc hfz hl hx
 refine A9 Tryz.func66 rfl w fz [] [] XY (fun p:(Cd)×(Int)×Unit=>NZ p.1 p.2.1) _ xs hfz hl hx (jN rfl) ?_
 clear hx hl hfz xs
 simp only[Tryz.f66]
 cases c with
 |nil=>
  simp only[↓eB,seval,go_sem]
  try simp only[A1,A2]
  repeat' first|exact ck|with_reducible apply And.intro|intro _
  all_goals first|exact trivial|(rename_i h;first|exact oI h|exact nah h)|(rename_i _ h _ g;exact sL h g)|decide|omega|(refine A0 [] ?_;simp only[↓eB,seval,go_sem,bne,NZ,isB])
 |mk k' a b p q s=>
  simp only[↓eB,seval,go_sem]
  try simp only[A1,A2]
  repeat' first|exact ck|with_reducible apply And.intro|intro _
  all_goals first|exact trivial|(rename_i h;first|exact oI h|exact nah h)|(rename_i _ h _ g;exact sL h g)|decide|omega|(refine A0 [] ?_;simp only[↓eB,seval,go_sem,bne,NZ,isB])
noncomputable def gL {X:Ctx} {w0:World}:Sy.Spec Tryz.prog X w0:=Am 66 Tryz.call66 XY (fun p:(Cd)×(Int)×Unit=>gK p.1 p.2.1) (fun p:(Cd)×(Int)×Unit=>NZ p.1 p.2.1) xX A2x
abbrev Zr (m:Nat) (c:Cd):Prop:=c.dp<m∧MZ c∧(coT c).length≤1000000000
abbrev CC (m:Nat) (c:Cd):SV:=.one (.v (.string (bs (coT c))))
noncomputable abbrev UO:ArgC ((Cd)×Unit):=(acS (cCd) ac0)
abbrev Na (m:Nat):Prop:=Cn Tryz.prog 28 AY UO (fun p:(Cd)×Unit=>Zr m p.1) (fun p:(Cd)×Unit=>CC m p.1)
theorem rD (m:Nat):∀p:(Cd)×Unit,((fun p:(Cd)×Unit=>CC m p.1) p).names=[]:=by intro p;first|rfl|exact B8 _|exact BN _
noncomputable def JA {X:Ctx} {w0:World} (m:Nat) (h:Na m) (hG:BB X w0 AY CX):Sy.Spec Tryz.prog X w0:=FK 28 Tryz.call28 AY UO (fun p:(Cd)×Unit=>Zr m p.1) (fun p:(Cd)×Unit=>CC m p.1) (rD m) h hG.stays
abbrev Zs (m:Nat) (c:Cd) (p:Bool):Prop:=c.dp<m∧MZ c∧(enT p (coT c)).length≤1000000000
abbrev L3 (m:Nat) (c:Cd) (p:Bool):SV:=.one (.v (.string (bs (enT p (coT c)))))
noncomputable abbrev UP:ArgC ((Cd)×(Bool)×Unit):=(acS (cCd) (acS (Om) ac0))
abbrev Zt (m:Nat):Prop:=Cn Tryz.prog 65 AY UP (fun p:(Cd)×(Bool)×Unit=>Zs m p.1 p.2.1) (fun p:(Cd)×(Bool)×Unit=>L3 m p.1 p.2.1)
theorem rE (m:Nat):∀p:(Cd)×(Bool)×Unit,((fun p:(Cd)×(Bool)×Unit=>L3 m p.1 p.2.1) p).names=[]:=by intro p;first|rfl|exact B8 _|exact BN _
noncomputable def Zu {X:Ctx} {w0:World} (m:Nat) (h:Zt m) (hG:BB X w0 AY CX):Sy.Spec Tryz.prog X w0:=FK 65 Tryz.call65 AY UP (fun p:(Cd)×(Bool)×Unit=>Zs m p.1 p.2.1) (fun p:(Cd)×(Bool)×Unit=>L3 m p.1 p.2.1) (rE m) h hG.stays
theorem xY (m:Nat) (hE:Na m):Zt m:=by
 rintro ⟨c,p,_u⟩ w fz xs hT hc hfz hl hx
 have hG:=Cj Br DA (fz:=fz) hT
 refine A9 Tryz.func65 rfl w fz [(JA m hE hG)] [] UP (fun p:(Cd)×(Bool)×Unit=>L3 m p.1 p.2.1) _ xs hfz hl hx (jN rfl) ?_
 clear hx hl hfz xs
 simp only[Tryz.f65]
 obtain⟨h1,h2,h3⟩:=hc
 dsimp only at h1 h2 h3
 cases p with
 |true=>
  have h4:(coT c).length+2≤1000000000:=by simpa [enT] using h3
  simp only[↓eB,seval,go_sem,JA]
  try simp only[A1,A2]
  repeat' first|exact ck|with_reducible apply And.intro|intro _
  all_goals first|exact h2|(rename_i h;first|exact oI h|exact nah h)|(rename_i _ h _ g;exact sL h g)|decide|omega|(refine A0 [] ?_;simp only[↓eB,seval,go_sem,bne,L3,enT])
 |false=>
  have h4:(coT c).length≤1000000000:=h3
  simp only[↓eB,seval,go_sem,JA]
  try simp only[A1,A2]
  repeat' first|exact ck|with_reducible apply And.intro|intro _
  all_goals first|exact h2|(rename_i h;first|exact oI h|exact nah h)|(rename_i _ h _ g;exact sL h g)|decide|omega|(refine A0 [] ?_;simp only[↓eB,seval,go_sem,bne,L3,enT])
theorem A7s (k:Int):k=0∨k=1∨k=2∨k=3∨k=4∨k=5∨k=6∨k=7∨k=8∨k=9∨((k==0)=false∧(k==1)=false∧(k==2)=false∧(k==3)=false∧(k==4)=false∧(k==5)=false∧(k==6)=false∧(k==7)=false∧(k==8)=false∧(k==9)=false):=by
 simp only[beq_eq_false_iff_ne];omega
theorem co0 (a b:Ex) (p q:Cd) (s:List UInt8):coT (.mk 0 a b p q s)=Bf [32,61,61,32] a b:=by simp only[coT,if_true,if_false,Int.reduceBEq,jB]
theorem co1 (a b:Ex) (p q:Cd) (s:List UInt8):coT (.mk 1 a b p q s)=Bf [32,33,61,32] a b:=by simp only[coT,if_true,if_false,Int.reduceBEq,jB]
theorem co2 (a b:Ex) (p q:Cd) (s:List UInt8):coT (.mk 2 a b p q s)=Bf [32,60,32] a b:=by simp only[coT,if_true,if_false,Int.reduceBEq,jB]
theorem co3 (a b:Ex) (p q:Cd) (s:List UInt8):coT (.mk 3 a b p q s)=Bf [32,60,61,32] a b:=by simp only[coT,if_true,if_false,Int.reduceBEq,jB]
theorem co4 (a b:Ex) (p q:Cd) (s:List UInt8):coT (.mk 4 a b p q s)=Bf [32,62,32] a b:=by simp only[coT,if_true,if_false,Int.reduceBEq,jB]
theorem co5 (a b:Ex) (p q:Cd) (s:List UInt8):coT (.mk 5 a b p q s)=Bf [32,62,61,32] a b:=by simp only[coT,if_true,if_false,Int.reduceBEq,jB]
theorem co6 (a b:Ex) (p q:Cd) (s:List UInt8):coT (.mk 6 a b p q s)=(enT (isB 7 p) (coT p)++[32,38,38,32])++enT (isB 7 q||isB 6 q) (coT q):=by simp only[coT,if_true,if_false,Int.reduceBEq,jB]
theorem co7 (a b:Ex) (p q:Cd) (s:List UInt8):coT (.mk 7 a b p q s)=(coT p++[32,124,124,32])++enT (isB 7 q) (coT q):=by simp only[coT,if_true,if_false,Int.reduceBEq,jB]
theorem co8 (a b:Ex) (p q:Cd) (s:List UInt8):coT (.mk 8 a b p q s)=(if isB 9 p=true then p.nm++[32,33,61,32,110,117,108,108] else [33]++enT (!isB 8 p) (coT p)):=by simp only[coT,if_true,if_false,Int.reduceBEq,jB]
theorem co9 (a b:Ex) (p q:Cd) (s:List UInt8):coT (.mk 9 a b p q s)=s++[32,61,61,32,110,117,108,108]:=by simp only[coT,if_true,if_false,Int.reduceBEq,jB]
set_option maxRecDepth 20000 in set_option maxHeartbeats 16000000 in
attribute[local go_sem] JA Zu gL in
theorem rF (m:Nat) (hE:Na m):Na (m+1):=by
 rintro ⟨c,_u⟩ w fz xs hT hc hfz hl hx
 have hG:=Cj Br DA (fz:=fz) hT
 refine A9 Tryz.func28 rfl w fz [gL,(Dn m (Pa m) hG),(JA m hE hG),(Zu m (xY m hE) hG)] [] UO (fun p:(Cd)×Unit=>CC (m+1) p.1) _ xs hfz hl hx (jN rfl) ?_
 clear hx hl hfz xs
 simp only[Tryz.f28]
 obtain⟨h1,h2,h3⟩:=hc
 dsimp only at h1 h2 h3
 cases c with
 |nil=>
  simp only[↓eB,seval,go_sem]
  try simp only[A1,A2]
  repeat' first|exact ck|with_reducible apply And.intro|intro _
  all_goals first|exact trivial|(rename_i h;first|exact oI h|exact nah h)|(rename_i _ h _ g;exact sL h g)|decide|omega|(refine A0 [] ?_;simp only[↓eB,seval,go_sem,bne,CC,coT])
 |mk k a b p q s=>
  obtain⟨g1,g2,g3,g4⟩:=h2
  simp only[Cd.dp]at h1
  have d1:a.dp<m:=by omega
  have d2:b.dp<m:=by omega
  have d3:p.dp<m:=by omega
  have d4:q.dp<m:=by omega
  clear h1
  rcases A7s k with rfl|rfl|rfl|rfl|rfl|rfl|rfl|rfl|rfl|rfl|⟨e0,e1,e2,e3,e4,e5,e6,e7,e8,e9⟩
  ·simp only[co0,Bf,jL3]at h3
   simp only[↓eB,seval,go_sem]
   try simp only[A1,A2]
   repeat' first|exact ck|with_reducible apply And.intro|intro _
   all_goals first|exact d1|exact d2|exact g1|exact g2|(simp only[jL3];omega)|(rename_i h;first|exact oI h|exact nah h)|(rename_i _ h _ g;exact sL h g)|decide|omega|(refine A0 [] ?_;simp only[↓eB,seval,go_sem,bne,CC,co0,Bf])
  ·simp only[co1,Bf,jL3]at h3
   simp only[↓eB,seval,go_sem]
   try simp only[A1,A2]
   repeat' first|exact ck|with_reducible apply And.intro|intro _
   all_goals first|exact d1|exact d2|exact g1|exact g2|(simp only[jL3];omega)|(rename_i h;first|exact oI h|exact nah h)|(rename_i _ h _ g;exact sL h g)|decide|omega|(refine A0 [] ?_;simp only[↓eB,seval,go_sem,bne,CC,co1,Bf])
  ·simp only[co2,Bf,jL3]at h3
   simp only[↓eB,seval,go_sem]
   try simp only[A1,A2]
   repeat' first|exact ck|with_reducible apply And.intro|intro _
   all_goals first|exact d1|exact d2|exact g1|exact g2|(simp only[jL3];omega)|(rename_i h;first|exact oI h|exact nah h)|(rename_i _ h _ g;exact sL h g)|decide|omega|(refine A0 [] ?_;simp only[↓eB,seval,go_sem,bne,CC,co2,Bf])
  ·simp only[co3,Bf,jL3]at h3
   simp only[↓eB,seval,go_sem]
   try simp only[A1,A2]
   repeat' first|exact ck|with_reducible apply And.intro|intro _
   all_goals first|exact d1|exact d2|exact g1|exact g2|(simp only[jL3];omega)|(rename_i h;first|exact oI h|exact nah h)|(rename_i _ h _ g;exact sL h g)|decide|omega|(refine A0 [] ?_;simp only[↓eB,seval,go_sem,bne,CC,co3,Bf])
  ·simp only[co4,Bf,jL3]at h3
   simp only[↓eB,seval,go_sem]
   try simp only[A1,A2]
   repeat' first|exact ck|with_reducible apply And.intro|intro _
   all_goals first|exact d1|exact d2|exact g1|exact g2|(simp only[jL3];omega)|(rename_i h;first|exact oI h|exact nah h)|(rename_i _ h _ g;exact sL h g)|decide|omega|(refine A0 [] ?_;simp only[↓eB,seval,go_sem,bne,CC,co4,Bf])
  ·simp only[co5,Bf,jL3]at h3
   simp only[↓eB,seval,go_sem]
   try simp only[A1,A2]
   repeat' first|exact ck|with_reducible apply And.intro|intro _
   all_goals first|exact d1|exact d2|exact g1|exact g2|(simp only[jL3];omega)|(rename_i h;first|exact oI h|exact nah h)|(rename_i _ h _ g;exact sL h g)|decide|omega|(refine A0 [] ?_;simp only[↓eB,seval,go_sem,bne,CC,co5,Bf])
  ·simp only[co6,jL3]at h3
   cases hq:isB 7 q with
   |true=>
    rw[hq]at h3
    simp only[Bool.true_or]at h3
    simp only[↓eB,seval,go_sem,hq]
    try simp only[A1,A2]
    repeat' first|exact ck|with_reducible apply And.intro|intro _
    all_goals first|exact d3|exact d4|exact g3|exact g4|(simp only[jL3];omega)|(rename_i h;first|exact oI h|exact nah h)|(rename_i _ h _ g;exact sL h g)|decide|omega|(refine A0 [] ?_;simp only[↓eB,seval,go_sem,bne,CC,co6,hq])
   |false=>
    rw[hq]at h3
    simp only[Bool.false_or]at h3
    simp only[↓eB,seval,go_sem,hq]
    try simp only[A1,A2]
    repeat' first|exact ck|with_reducible apply And.intro|intro _
    all_goals first|exact d3|exact d4|exact g3|exact g4|(simp only[jL3];omega)|(rename_i h;first|exact oI h|exact nah h)|(rename_i _ h _ g;exact sL h g)|decide|omega|(refine A0 [] ?_;simp only[↓eB,seval,go_sem,bne,CC,co6,hq])
  ·have l1:=L0 (isB 7 q) (coT q)
   simp only[co7,jL3]at h3
   simp only[↓eB,seval,go_sem]
   try simp only[A1,A2]
   repeat' first|exact ck|with_reducible apply And.intro|intro _
   all_goals first|exact d3|exact d4|exact g3|exact g4|(simp only[jL3];omega)|(rename_i h;first|exact oI h|exact nah h)|(rename_i _ h _ g;exact sL h g)|decide|omega|(refine A0 [] ?_;simp only[↓eB,seval,go_sem,bne,CC,co7])
  ·rw[co8]at h3
   cases p with
   |nil=>
    simp only[isB,if_true,if_false,Int.reduceBEq,jB,jL3,Bool.not_false]at h3
    simp only[↓eB,seval,go_sem,isB]
    try simp only[A1,A2]
    repeat' first|exact ck|with_reducible apply And.intro|intro _
    all_goals first|exact d3|exact g3|(simp only[jL3];omega)|(rename_i h;first|exact oI h|exact nah h)|(rename_i _ h _ g;exact sL h g)|decide|omega|(refine A0 [] ?_;simp only[↓eB,seval,go_sem,bne,CC,co8,isB])
   |mk k' a' b' p' q' s'=>
    cases h9:(k'==9) with
    |true=>
     simp only[isB,h9,if_true,Cd.nm,jL3]at h3
     simp only[↓eB,seval,go_sem,isB,h9]
     try simp only[A1,A2]
     repeat' first|exact ck|with_reducible apply And.intro|intro _
     all_goals first|(simp only[jL3];omega)|(rename_i h;first|exact oI h|exact nah h)|(rename_i _ h _ g;exact sL h g)|decide|omega|(refine A0 [] ?_;simp only[↓eB,seval,go_sem,bne,CC,co8,isB,h9,Cd.nm])
    |false=>
     simp only[isB,h9,if_true,if_false,Int.reduceBEq,jB,jL3]at h3
     simp only[↓eB,seval,go_sem,isB,h9]
     try simp only[A1,A2]
     repeat' first|exact ck|with_reducible apply And.intro|intro _
     all_goals first|exact d3|exact g3|(simp only[jL3];omega)|(rename_i h;first|exact oI h|exact nah h)|(rename_i _ h _ g;exact sL h g)|decide|omega|(refine A0 [] ?_;simp only[↓eB,seval,go_sem,bne,CC,co8,isB,h9])
  ·simp only[co9,jL3]at h3
   simp only[↓eB,seval,go_sem]
   try simp only[A1,A2]
   repeat' first|exact ck|with_reducible apply And.intro|intro _
   all_goals first|(simp only[jL3];omega)|(rename_i h;first|exact oI h|exact nah h)|(rename_i _ h _ g;exact sL h g)|decide|omega|(refine A0 [] ?_;simp only[↓eB,seval,go_sem,bne,CC,co9])
  ·simp only[↓eB,seval,go_sem,e0,e1,e2,e3,e4,e5,e6,e7,e8,e9]
   try simp only[A1,A2]
   repeat' first|exact ck|with_reducible apply And.intro|intro _
   all_goals first|exact trivial|(rename_i h;first|exact oI h|exact nah h)|(rename_i _ h _ g;exact sL h g)|decide|omega|(refine A0 [] ?_;simp only[↓eB,seval,go_sem,bne,CC,coT,e0,e1,e2,e3,e4,e5,e6,e7,e8,e9])
theorem gM:∀m:Nat,Na m
 |0=>by
  rintro ⟨e,_u⟩ w fz xs hT hc hfz hl hx
  exact absurd hc.1 (Nat.not_lt_zero _)
 |m+1=>rF m (gM m)
end Go.Proofs.YtbiepiggmagfcaaGreatDoor
namespace Go.Proofs.YtbiepiggmagfcaaGreatDoor
open Go Go.Sy Go.Shelf Go.RowKit
def sD1 (s:List UInt8):List D:=[dS s]
theorem rG (a b:List UInt8) (h:sD1 a=sD1 b):a=b:=by
 simp only[sD1,List.cons.injEq,D.v.injEq,Value.string.injEq,and_true]at h
 exact bs_inj h
def zSD:List D:=[dS []]
noncomputable def rSs:RowC (List UInt8):=rowOf zSD sD1 rG fun _=>rfl
theorem cD:rSs.z=zSD:=rfl
theorem cE:rSs.e=sD1:=rfl
theorem cF (s:List UInt8):rSs.d (sD1 s)=some s:=rSs.i s
theorem XZ:zSD.length=1:=rfl
theorem UQ (l:List (List UInt8)):Oo rSs.d (l.map sD1)=some l:=S2 rSs l
theorem Af:RowsD sR1 sD1 1:=by
 refine⟨fun a c hc=>?_,fun a c hc=>?_,fun a=>rfl,fun a=>rfl⟩
 ·simp only[sR1,List.mem_singleton]at hc;subst hc;rfl
 ·simp only[sR1,List.mem_singleton]at hc;subst hc;rfl
def jnT (l:List (List UInt8)):List UInt8:=Lib.join l [44,32]
theorem xZ (l:List (List UInt8)) (ad:Option Addr) (n c:Nat) (w:World) (fz:Nat→Prop) (hfz:∀b,fz b→b<w.heap.size) (hl:l.length≤1000000) (ht:(jnT l).length≤1000000000) {x:Value} (h:Rd (hp w) fz (.sl zSD (l.map sD1)) x) :
  Calls Tryz.prog 47 #[x,.string (bs [44,32])] w fun e w'=>e= .returned (.string (bs (jnT l)))∧Below w.heap.size w w':=by
 have hbs:∀s:List UInt8,(bs s).data.toList=s:=fun s=>by simp[bs]
 have h5:List.map (fun b:ByteArray=>b.data.toList) (l.map bs)=l:=by
  rw[List.map_map]
  have:((fun b:ByteArray=>b.data.toList)∘bs)=id:=by funext s;exact hbs s
  rw[this,List.map_id]
 generalize hD:l.map sD1=es at h
 cases h with
 |nil _ a cap h0=>
  obtain rfl:l=[]:=by simpa using hD
  exact(Any.strings_Join_none Tryz.lays156 x5 a cap (bs [44,32]) w).mono fun e w' ⟨he,hw⟩=>⟨he,hw▸Below.refl _ _⟩
 |sl _ _ b off cap arr T m val hz hb hcap hl' hc hr=>
  subst hD
  have hbw:w.heap[b]?=some (.cells arr T m):=hb
  have:=Any.strings_Join Tryz.lays156 x5 b off cap (l.map bs) (bs [44,32]) w (fun j x hj=>by
    simp only[getElem?_map,Option.map_eq_some_iff]at hj
    obtain⟨s,hs,rfl⟩:=hj
    have h1:(l.map sD1)[j]?=some (sD1 s):=by simp[hs]
    have h2:=hc j 0 _ (dS s) h1 rfl
    have h3:=hr j 0 _ (dS s) h1 rfl
    generalize val j 0=y at h2 h3
    cases h3
    simp only[World.cell?,hbw,Option.isSome_none,jB,if_false]
    rw[← h2];congr 1;simp[zSD])
   (hfz b hz) (by rw[length_map];omega) (by rw[length_map];rw[length_map]at hcap;exact hcap) (by
    rw[h5,hbs]
    show (jnT l).length≤_
    omega)
  rw[h5,hbs]at this
  rw[length_map]at this ⊢
  exact this
abbrev Zv (l:List (List UInt8)) (s:List UInt8):Prop:=s=[44,32]∧l.length≤1000000∧(jnT l).length≤1000000000
abbrev Nb (l:List (List UInt8)) (_:List UInt8):Value:=.string (bs (jnT l))
theorem xb:M9 Tryz.prog 47 (ahS (cSl rSs) (ahS cStr.H ah0)) (fun p=>Zv p.1 p.2.1) (fun p=>ofV (Nb p.1 p.2.1)):=by
 rintro ⟨l,s,_u⟩ w fz xs ⟨hs,hl1,hl2⟩ hfz hl hx
 dsimp only at hs hl1 hl2
 subst hs
 obtain⟨x,y,rfl⟩:∃x y,xs=[x,y]:=by
  match xs,hl with
  |[x,y],_=>exact⟨x,y,rfl⟩
 have hy:=hx 1 _ y rfl rfl
 have hxx:=hx 0 _ x rfl rfl
 obtain rfl:=CF hy rfl
 have hr:Rd (hp w) fz (.sl zSD (l.map sD1)) x:=by
  have:=hxx.2
  cases this
  assumption
 refine(xZ l none 0 0 w fz hfz hl1 hl2 hr).mono ?_
 rintro e w' ⟨rfl,hb⟩
 exact⟨_,_,fz,rfl,rfl,rfl,fun _ h=>h,fun _ h=>.inl h,fun b h=>Nat.lt_of_lt_of_le (hfz b h) hb.size,F1 (w:=w') rfl,hb⟩
theorem rH:∀p:(List (List UInt8))×(List UInt8)×Unit,okV ((fun p:(List (List UInt8))×(List UInt8)×Unit=>Nb p.1 p.2.1) p)=true:=by intro p;rfl
noncomputable def JB {X:Ctx} {w0:World}:Sy.Spec Tryz.prog X w0:=MT 47 Tryz.call47 (ahS (cSl rSs) (ahS cStr.H ah0)) (fun p=>Zv p.1 p.2.1) (fun p=>Nb p.1 p.2.1) rH xb
end Go.Proofs.YtbiepiggmagfcaaGreatDoor
namespace Go.Proofs
open Go.Shelf
 shelf_lay LaysM.n221 Nm 221 at Tryz as Tryz.laysM221
end Go.Proofs
namespace Go.Proofs.YtbiepiggmagfcaaGreatDoor
open Go Go.Sy Go.Shelf Go.RowKit
def Eh (l:List UInt8):List (List UInt8):=Lib.splitK [10] 0 (Lib.count l [10]) l
theorem L4 (l:List UInt8):(bs l).data.toList=l:=by simp[bs]
theorem cG (l:List UInt8) (w:World) (hs:l.length<4294967281) :
  Calls Tryz.prog 86 #[.string (bs l),.string (bs [10]),.int .i64 0,.int .i64 (-1)] w fun e w'=>∃(N:Nat) (arr:Array Value),e= .returned (.slice (some ⟨w.heap.size,0,none⟩) (Eh l).length N)∧w'=w.alloc (.cells arr 9)∧
   (Eh l).length≤N∧N≤arr.size∧∀(i:Nat) (x:List UInt8),(Eh l)[i]?=some x→arr[i]?=some (.string (bs x)):=by
 have L:=Tryz.laysM221
 have hsz:(bs l).size=l.length:=by rw[Lib.size_eq,L4]
 have hc:Lib.countB (bs l) (bs [10])=Lib.count l [10]:=by unfold Lib.countB;rw[L4,L4]
 have hle:Lib.count l [10]≤l.length:=by
  have:=Lib.countB_le (bs [10]) (Nat.le_refl _) (bs l).size (bs l) (Nat.le_refl _)
  rw[hc,hsz]at this;exact this
 have c:=Any.strings_genSplit_core { L with } L.i9 (bs l) (bs [10]) 0 (-1) (Lib.count l [10]+1) w (by rw[hsz];exact hs) (Nat.le_refl _) (Nat.zero_le _)
  (fun x cs hx=>(Any.strings_Index_one { L with } x 10 _).mono fun e w' h=>⟨by rw[h.1];show _=Ending.returned (.int .i64 (Lib.index x.data.toList [10]));rw[Lib.index_one],h.2⟩)
  ((Any.strings_Count_one { L with } (bs l) 10 w).mono fun e w' h=>⟨by rw[h.1,hc];show Ending.returned (.int .i64 ((Lib.countByte (bs l).data.toList 10:Nat):Int))=_;rw[L4,Lib.count_one];rfl,h.2⟩)
  (by decide) (by decide) (by rw[if_pos (by decide),hc,hsz];omega)
 rw[Nat.add_sub_cancel]at c
 have hd:=Lib.splitB_data (bs [10]) 0 (Lib.count l [10]) (bs l)
 rw[L4,L4]at hd
 have hlen:(Lib.splitB (bs [10]) 0 (Lib.count l [10]) (bs l)).length=(Eh l).length:=by
  have:=congrArg List.length hd
  rwa [length_map]at this
 have hle2:=Lib.splitB_length_le (bs [10]) 0 (Lib.count l [10]) (bs l)
 refine c.mono ?_
 rintro e w' ⟨rfl,rfl⟩
 refine⟨_,_,by rw[hlen],rfl,by omega,by rw[Lib.cellsOf_size hle2];exact Nat.le_refl _,fun i x hx=>?_⟩
 have h1:(Lib.splitB (bs [10]) 0 (Lib.count l [10]) (bs l))[i]?=some (bs x):=by
  have e1:((Lib.splitB (bs [10]) 0 (Lib.count l [10]) (bs l)).map (·.data.toList))[i]?=some x:=by rw[hd];exact hx
  rw[getElem?_map]at e1
  obtain⟨y,hy,e2⟩:=Option.map_eq_some_iff.1 e1
  rw[hy,← e2]
  simp[bs]
 unfold Lib.cellsOf
 rw[List.getElem?_toArray,List.getElem?_append_left (by rw[length_map];exact(List.getElem?_eq_some_iff.1 h1).1),getElem?_map,h1];rfl
def Xa (t:Nat):List SV→Res
 |[.one (.v (.string s)),.one (.v (.string p)),.one (.v (.int .i64 a)),.one (.v (.int .i64 b))]=>
  some (p=bs [10]∧s.toList.length<4294967281∧a=0∧b = -1,⟨.one (.s t),[(t,.vec 0 zSs ((Eh s.toList).map sR1))]⟩,[t])
 |_=>none
theorem VI {t:Nat} {args:List SV} {c:Prop} {e:Eff} {fp:List Nat} (h:Xa t args=some (c,e,fp)) (hc:c) :
  ∃l:List UInt8,args=[.one (.v (.string (bs l))),.one (.v (.string (bs [10]))),.one (.v (.int .i64 0)),.one (.v (.int .i64 (-1)))]∧l.length<4294967281∧e=⟨.one (.s t),[(t,.vec 0 zSs ((Eh l).map sR1))]⟩∧fp=[t]:=by
 unfold Xa at h
 split at h
 ·rename_i s p a b
  simp only[jS,jP]at h
  obtain⟨rfl,rfl,rfl⟩:=h
  obtain⟨rfl,h2,rfl,rfl⟩:=hc
  exact⟨s.toList,by rw[Oc],h2,rfl,rfl⟩
 ·cases h
def Ma {X:Ctx} {w0:World}:Sy.Spec Tryz.prog X w0 where
 f:=86
 call:=Tryz.call86
 fn t args _:=Xa t args
 ok w I lab fz H t args xs c e fp hA ht h hc hd hl hx:=by
  obtain⟨l,rfl,hl2,rfl,rfl⟩:=VI h hc
  obtain⟨x0,x1,x2,x3,rfl⟩:∃x0 x1 x2 x3,xs=[x0,x1,x2,x3]:=by
   match xs,hl with
   |[a,b,c,d],_=>exact⟨a,b,c,d,rfl⟩
  obtain rfl:=CF (hx 0 _ x0 rfl rfl) rfl
  obtain rfl:=CF (hx 1 _ x1 rfl rfl) rfl
  obtain rfl:=CF (hx 2 _ x2 rfl rfl) rfl
  obtain rfl:=CF (hx 3 _ x3 rfl rfl) rfl
  refine(cG l w hl2).mono ?_
  rintro en w' ⟨N,arr,rfl,rfl,h1,h2,h3⟩
  refine⟨_,rfl,KE hA w rfl rfl rfl rfl t ht zSs ((Eh l).map sR1) arr 9 N (by rw[length_map];exact h1) (by show N*1≤_;omega) (Fu rfl) ?_ _ _ (.inr ⟨rfl,?_⟩)⟩
  ·intro i cs hi
   rw[getElem?_map]at hi
   obtain⟨x,hx,rfl⟩:=Option.map_eq_some_iff.1 hi
   refine⟨rfl,fun j c hj=>?_⟩
   cases j with
   |zero=>
    obtain rfl:C.v (.string (bs x))=c:=Option.some.inj hj
    exact⟨rfl,(fun k hk=>by cases hk),_,by show arr[i*1+0]?=_;rw[Nat.mul_one,Nat.add_zero];exact h3 i x hx,.v _ _ rfl⟩
   |succ j=>cases hj
  ·simp[slV]
 dom t args H c e fp ht hc h hd:=by
  obtain⟨l,rfl,hl2,rfl,rfl⟩:=VI h hc
  exact⟨by intro k hk;simp only[SV.names,C.names,List.mem_singleton]at hk;subst hk;simp[updH,upd],by simp⟩
 loc t args H H' c e fp h _:=h
theorem A7t {X:Ctx} {w0:World}:(Ma (X:=X) (w0:=w0)).f=86:=rfl
theorem A2y {X:Ctx} {w0:World} (t:Nat) (args:List SV) (H:Hp):(Ma (X:=X) (w0:=w0)).fn t args H=Xa t args:=rfl
end Go.Proofs.YtbiepiggmagfcaaGreatDoor
