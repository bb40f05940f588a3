/- The document's text of an expression. Conditions: the numbers are of 64 bits, each node has its parts, the text is shorter than 10^9 bytes. -/
import Derived.Test.YtbiepiggmagfcaaGreatDoorPx2
import Derived.Test.YtbiepiggmagfcaaGreatDoorPs6
import Derived.Test.YtbiepiggmagfcaaGreatDoorPs4
set_option linter.unusedVariables false
set_option linter.unusedSimpArgs false
set_option maxRecDepth 20000
set_option maxHeartbeats 16000000
open List (length_append length_cons length_nil append_assoc)
namespace Go.Proofs.YtbiepiggmagfcaaGreatDoor
open Go Go.Sy Go.RowKit
theorem xJ (k n:Int) (s:List UInt8) (a b:Ex):(Ex.mk k n s a b).d= .pt (some [.v (.int .i64 k),.v (.int .i64 n),.v (.string (bs s)),a.d,b.d]):=rfl
def rgE:Ex→Prop
 | .nil=>False
 | .mk k _ _ a b=>k=0∨k=1∨(k=7∧rgE a)∨(2≤k∧k≤6∧rgE a∧rgE b)
theorem nI {e:Ex} (h:rgE e):e≠.nil:=by rintro rfl;exact h
theorem A2n (k n:Int) (s:List UInt8) (a b:Ex):(suB (.mk k n s a b)||C3 (.mk k n s a b))=(decide (2≤k)&&decide (k≤6)):=by
 rw[Bool.eq_iff_iff]
 simp only[suB,C3,Bool.or_eq_true,beq_iff_eq,Bool.and_eq_true,decide_eq_true_eq]
 omega
theorem A2o (k n:Int) (s:List UInt8) (a b:Ex):C3 (.mk k n s a b)=(decide (4≤k)&&decide (k≤6)):=by
 rw[Bool.eq_iff_iff]
 simp only[C3,Bool.or_eq_true,beq_iff_eq,Bool.and_eq_true,decide_eq_true_eq]
 omega
abbrev Za (e:Ex):Prop:=e≠.nil
abbrev Ky (e:Ex):SV:=.one (.v (.bool (suB e)))
noncomputable abbrev UI:ArgC ((Ex)×Unit):=(acS (cEx) ac0)
abbrev qk:Prop:=AP Tryz.prog 124 UI (fun p:(Ex)×Unit=>Za p.1) (fun p:(Ex)×Unit=>Ky p.1)
theorem ql:∀p:(Ex)×Unit,((fun p:(Ex)×Unit=>Ky p.1) p).names=[]:=by intro p;first|rfl|exact B8 _|exact BN _
attribute [local go_sem] Hs Jr KT KU xJ Hg B3 Dm Dl Ev OH
theorem xK:qk:=by
 rintro ⟨e,_u⟩ w fz xs hc hfz hl hx
 refine A9 Tryz.func124 rfl w fz [] [] UI (fun p:(Ex)×Unit=>Ky p.1) _ xs hfz hl hx (jN rfl) ?_
 clear hx hl hfz xs
 simp only[Tryz.f124]
 cases e with
 |nil=>exact absurd rfl hc
 |mk k n s a b=>
  cases h1:(k==2) with
  |true=>
   simp only[↓eB,seval,go_sem,h1]
   try simp only[A1,A2]
   repeat' first|exact ck|with_reducible apply And.intro|intro _
   all_goals first|exact trivial|(rename_i h;first|exact oI h|exact nah h)|(rename_i _ h _ g;exact sL h g)|decide|omega|(refine A0 [] ?_;simp only[↓eB,seval,go_sem,bne,Ky,suB,h1])
  |false=>
   simp only[↓eB,seval,go_sem,h1]
   try simp only[A1,A2]
   repeat' first|exact ck|with_reducible apply And.intro|intro _
   all_goals first|exact trivial|(rename_i h;first|exact oI h|exact nah h)|(rename_i _ h _ g;exact sL h g)|decide|omega|(refine A0 [] ?_;simp only[↓eB,seval,go_sem,bne,Ky,suB,h1])
noncomputable def Zb {X:Ctx} {w0:World}:Sy.Spec Tryz.prog X w0:=Am 124 Tryz.call124 UI (fun p:(Ex)×Unit=>Za p.1) (fun p:(Ex)×Unit=>Ky p.1) ql xK
abbrev X6 (e:Ex):Prop:=e≠.nil
abbrev J4 (e:Ex):SV:=.one (.v (.bool (C3 e)))
noncomputable abbrev RN:ArgC ((Ex)×Unit):=(acS (cEx) ac0)
abbrev kF:Prop:=AP Tryz.prog 125 RN (fun p:(Ex)×Unit=>X6 p.1) (fun p:(Ex)×Unit=>J4 p.1)
theorem kG:∀p:(Ex)×Unit,((fun p:(Ex)×Unit=>J4 p.1) p).names=[]:=by intro p;first|rfl|exact B8 _|exact BN _
theorem qm:kF:=by
 rintro ⟨e,_u⟩ w fz xs hc hfz hl hx
 refine A9 Tryz.func125 rfl w fz [] [] RN (fun p:(Ex)×Unit=>J4 p.1) _ xs hfz hl hx (jN rfl) ?_
 clear hx hl hfz xs
 simp only[Tryz.f125]
 cases e with
 |nil=>exact absurd rfl hc
 |mk k n s a b=>
  have hp:=A2o k n s a b
  cases h1:decide ((4:Int)≤k) with
  |true=>
   rw[h1]at hp
   simp only[↓eB,seval,go_sem,h1]
   try simp only[A1,A2]
   repeat' first|exact ck|with_reducible apply And.intro|intro _
   all_goals first|exact trivial|(rename_i h;first|exact oI h|exact nah h)|(rename_i _ h _ g;exact sL h g)|decide|omega|(refine A0 [] ?_;simp only[↓eB,seval,go_sem,bne,J4,hp])
  |false=>
   rw[h1]at hp
   simp only[↓eB,seval,go_sem,h1]
   try simp only[A1,A2]
   repeat' first|exact ck|with_reducible apply And.intro|intro _
   all_goals first|exact trivial|(rename_i h;first|exact oI h|exact nah h)|(rename_i _ h _ g;exact sL h g)|decide|omega|(refine A0 [] ?_;simp only[↓eB,seval,go_sem,bne,J4,hp])
noncomputable def X7 {X:Ctx} {w0:World}:Sy.Spec Tryz.prog X w0:=Am 125 Tryz.call125 RN (fun p:(Ex)×Unit=>X6 p.1) (fun p:(Ex)×Unit=>J4 p.1) kG qm
abbrev X8 (m:Nat) (e:Ex):Prop:=e.dp<m∧okN e∧rgE e∧(exT e).length≤1000000000
abbrev CH (m:Nat) (e:Ex):SV:=.one (.v (.string (bs (exT e))))
noncomputable abbrev RO:ArgC ((Ex)×Unit):=(acS (cEx) ac0)
abbrev Lc (m:Nat):Prop:=AP Tryz.prog 104 RO (fun p:(Ex)×Unit=>X8 m p.1) (fun p:(Ex)×Unit=>CH m p.1)
theorem kH (m:Nat):∀p:(Ex)×Unit,((fun p:(Ex)×Unit=>CH m p.1) p).names=[]:=by intro p;first|rfl|exact B8 _|exact BN _
noncomputable def Dd {X:Ctx} {w0:World} (m:Nat) (h:Lc m):Sy.Spec Tryz.prog X w0:=Am 104 Tryz.call104 RO (fun p:(Ex)×Unit=>X8 m p.1) (fun p:(Ex)×Unit=>CH m p.1) (kH m) h
abbrev X9 (m:Nat) (e:Ex) (p:Bool):Prop:=e.dp<m∧okN e∧rgE e∧(enT p (exT e)).length≤1000000000
abbrev J5 (m:Nat) (e:Ex) (p:Bool):SV:=.one (.v (.string (bs (enT p (exT e)))))
noncomputable abbrev RP:ArgC ((Ex)×(Bool)×Unit):=(acS (cEx) (acS (Om) ac0))
abbrev XA (m:Nat):Prop:=AP Tryz.prog 123 RP (fun p:(Ex)×(Bool)×Unit=>X9 m p.1 p.2.1) (fun p:(Ex)×(Bool)×Unit=>J5 m p.1 p.2.1)
theorem kI (m:Nat):∀p:(Ex)×(Bool)×Unit,((fun p:(Ex)×(Bool)×Unit=>J5 m p.1 p.2.1) p).names=[]:=by intro p;first|rfl|exact B8 _|exact BN _
noncomputable def XB {X:Ctx} {w0:World} (m:Nat) (h:XA m):Sy.Spec Tryz.prog X w0:=Am 123 Tryz.call123 RP (fun p:(Ex)×(Bool)×Unit=>X9 m p.1 p.2.1) (fun p:(Ex)×(Bool)×Unit=>J5 m p.1 p.2.1) (kI m) h
theorem qn (m:Nat) (hE:Lc m):XA m:=by
 rintro ⟨e,p,_u⟩ w fz xs hc hfz hl hx
 refine A9 Tryz.func123 rfl w fz [(Dd m hE)] [] RP (fun p:(Ex)×(Bool)×Unit=>J5 m p.1 p.2.1) _ xs hfz hl hx (jN rfl) ?_
 clear hx hl hfz xs
 simp only[Tryz.f123]
 obtain⟨h1,h2,h2',h3⟩:=hc
 dsimp only at h1 h2 h2' h3
 cases p with
 |true=>
  have h4:(exT e).length+2≤1000000000:=by simpa [enT] using h3
  simp only[↓eB,seval,go_sem,Dd]
  try simp only[A1,A2]
  repeat' first|exact ck|with_reducible apply And.intro|intro _
  all_goals first|exact h2|exact h2'|(rename_i h;first|exact oI h|exact nah h)|(rename_i _ h _ g;exact sL h g)|decide|omega|(refine A0 [] ?_;simp only[↓eB,seval,go_sem,bne,J5,enT])
 |false=>
  have h4:(exT e).length≤1000000000:=h3
  simp only[↓eB,seval,go_sem,Dd]
  try simp only[A1,A2]
  repeat' first|exact ck|with_reducible apply And.intro|intro _
  all_goals first|exact h2|exact h2'|(rename_i h;first|exact oI h|exact nah h)|(rename_i _ h _ g;exact sL h g)|decide|omega|(refine A0 [] ?_;simp only[↓eB,seval,go_sem,bne,J5,enT])
attribute[local go_sem] Dd XB X7 Zb in
theorem kJ (m:Nat) (hE:Lc m):Lc (m+1):=by
 rintro ⟨e,_u⟩ w fz xs hc hfz hl hx
 refine A9 Tryz.func104 rfl w fz [OH,Zb,X7,(Dd m hE),(XB m (qn m hE))] [] RO (fun p:(Ex)×Unit=>CH (m+1) p.1) _ xs hfz hl hx (jN rfl) ?_
 clear hx hl hfz xs
 simp only[Tryz.f104]
 obtain⟨h1,h2,hr,h3⟩:=hc
 dsimp only at h1 h2 hr h3
 cases e with
 |nil=>exact hr.elim
 |mk k n s a b=>
  obtain⟨g1,g2,g3⟩:=h2
  simp only[Ex.dp]at h1
  have d1:a.dp<m:=by omega
  have d2:b.dp<m:=by omega
  clear h1
  rcases hr with rfl|rfl|⟨rfl,r1⟩|⟨k1,k2,r1,r2⟩
  ·simp only[↓eB,seval,go_sem]
   try simp only[A1,A2]
   repeat' first|exact ck|with_reducible apply And.intro|intro _
   all_goals first|exact g1|(rename_i h;first|exact oI h|exact nah h)|(rename_i _ h _ g;exact sL h g)|decide|omega|(refine A0 [] ?_;simp only[↓eB,seval,go_sem,bne,CH,ex0])
  ·simp only[↓eB,seval,go_sem]
   try simp only[A1,A2]
   repeat' first|exact ck|with_reducible apply And.intro|intro _
   all_goals first|exact trivial|(rename_i h;first|exact oI h|exact nah h)|(rename_i _ h _ g;exact sL h g)|decide|omega|(refine A0 [] ?_;simp only[↓eB,seval,go_sem,bne,CH,ex1])
  ·simp only[ex7,jL3]at h3
   cases a with
   |nil=>exact r1.elim
   |mk ka na sa aa ab=>
    have hp:=A2n ka na sa aa ab
    rw[hp]at h3
    cases h4:decide ((2:Int)≤ka) with
    |true=>
     rw[h4,Bool.true_and]at hp h3
     simp only[↓eB,seval,go_sem,h4]
     try simp only[A1,A2]
     repeat' first|exact ck|with_reducible apply And.intro|intro _
     all_goals first|exact d1|exact g2|exact r1|(simp only[jL3];omega)|(rename_i h;first|exact oI h|exact nah h)|(rename_i _ h _ g;exact sL h g)|decide|omega|(refine A0 [] ?_;simp only[↓eB,seval,go_sem,bne,CH,ex7,hp])
    |false=>
     rw[h4,Bool.false_and]at hp h3
     simp only[↓eB,seval,go_sem,h4]
     try simp only[A1,A2]
     repeat' first|exact ck|with_reducible apply And.intro|intro _
     all_goals first|exact d1|exact g2|exact r1|(simp only[jL3];omega)|(rename_i h;first|exact oI h|exact nah h)|(rename_i _ h _ g;exact sL h g)|decide|omega|(refine A0 [] ?_;simp only[↓eB,seval,go_sem,bne,CH,ex7,hp])
  ·have k3:k=2∨k=3∨k=4∨k=5∨k=6:=by omega
   have n1:=nI r1
   have n2:=nI r2
   clear k1 k2
   rcases k3 with rfl|rfl|rfl|rfl|rfl
   ·have l1:=L0 (suB b) (exT b)
    simp only[ex2,jL3]at h3
    have e0:enT false (exT a)=exT a:=rfl
    have hs:suB (.mk 2 n s a b)=true:=rfl
    simp only[↓eB,seval,go_sem,hs,e0]
    try simp only[A1,A2]
    repeat' first|exact ck|with_reducible apply And.intro|intro _
    all_goals first|exact d1|exact d2|exact g2|exact g3|exact r1|exact r2|(rename_i h;exact n2 h)|(rw[e0];omega)|(simp only[jL3];omega)|(rename_i h;first|exact oI h|exact nah h)|(rename_i _ h _ g;exact sL h g)|decide|omega|(refine A0 [] ?_;simp only[↓eB,seval,go_sem,bne,CH,ex2,append_assoc])
   ·have l1:=L0 (suB b) (exT b)
    simp only[ex3,jL3]at h3
    have e0:enT false (exT a)=exT a:=rfl
    have hs:suB (.mk 3 n s a b)=true:=rfl
    simp only[↓eB,seval,go_sem,hs,e0]
    try simp only[A1,A2]
    repeat' first|exact ck|with_reducible apply And.intro|intro _
    all_goals first|exact d1|exact d2|exact g2|exact g3|exact r1|exact r2|(rename_i h;exact n2 h)|(rw[e0];omega)|(simp only[jL3];omega)|(rename_i h;first|exact oI h|exact nah h)|(rename_i _ h _ g;exact sL h g)|decide|omega|(refine A0 [] ?_;simp only[↓eB,seval,go_sem,bne,CH,ex3,append_assoc])
   ·simp only[ex4,faT,jL3]at h3
    have hs:suB (.mk 4 n s a b)=false:=rfl
    cases hb:suB b with
    |true=>
     rw[hb,Bool.true_or]at h3
     simp only[↓eB,seval,go_sem,hs,hb]
     try simp only[A1,A2]
     repeat' first|exact ck|with_reducible apply And.intro|intro _
     all_goals first|exact d1|exact d2|exact g2|exact g3|exact r1|exact r2|(rename_i h;exact n1 h)|(rename_i h;exact n2 h)|(simp only[jL3];omega)|(rename_i h;first|exact oI h|exact nah h)|(rename_i _ h _ g;exact sL h g)|decide|omega|(refine A0 [] ?_;simp only[↓eB,seval,go_sem,bne,CH,ex4,faT,hb,append_assoc])
    |false=>
     rw[hb,Bool.false_or]at h3
     simp only[↓eB,seval,go_sem,hs,hb]
     try simp only[A1,A2]
     repeat' first|exact ck|with_reducible apply And.intro|intro _
     all_goals first|exact d1|exact d2|exact g2|exact g3|exact r1|exact r2|(rename_i h;exact n1 h)|(rename_i h;exact n2 h)|(simp only[jL3];omega)|(rename_i h;first|exact oI h|exact nah h)|(rename_i _ h _ g;exact sL h g)|decide|omega|(refine A0 [] ?_;simp only[↓eB,seval,go_sem,bne,CH,ex4,faT,hb,append_assoc])
   ·simp only[ex5,faT,jL3]at h3
    have hs:suB (.mk 5 n s a b)=false:=rfl
    cases hb:suB b with
    |true=>
     rw[hb,Bool.true_or]at h3
     simp only[↓eB,seval,go_sem,hs,hb]
     try simp only[A1,A2]
     repeat' first|exact ck|with_reducible apply And.intro|intro _
     all_goals first|exact d1|exact d2|exact g2|exact g3|exact r1|exact r2|(rename_i h;exact n1 h)|(rename_i h;exact n2 h)|(simp only[jL3];omega)|(rename_i h;first|exact oI h|exact nah h)|(rename_i _ h _ g;exact sL h g)|decide|omega|(refine A0 [] ?_;simp only[↓eB,seval,go_sem,bne,CH,ex5,faT,hb,append_assoc])
    |false=>
     rw[hb,Bool.false_or]at h3
     simp only[↓eB,seval,go_sem,hs,hb]
     try simp only[A1,A2]
     repeat' first|exact ck|with_reducible apply And.intro|intro _
     all_goals first|exact d1|exact d2|exact g2|exact g3|exact r1|exact r2|(rename_i h;exact n1 h)|(rename_i h;exact n2 h)|(simp only[jL3];omega)|(rename_i h;first|exact oI h|exact nah h)|(rename_i _ h _ g;exact sL h g)|decide|omega|(refine A0 [] ?_;simp only[↓eB,seval,go_sem,bne,CH,ex5,faT,hb,append_assoc])
   ·simp only[ex6,faT,jL3]at h3
    have hs:suB (.mk 6 n s a b)=false:=rfl
    cases hb:suB b with
    |true=>
     rw[hb,Bool.true_or]at h3
     simp only[↓eB,seval,go_sem,hs,hb]
     try simp only[A1,A2]
     repeat' first|exact ck|with_reducible apply And.intro|intro _
     all_goals first|exact d1|exact d2|exact g2|exact g3|exact r1|exact r2|(rename_i h;exact n1 h)|(rename_i h;exact n2 h)|(simp only[jL3];omega)|(rename_i h;first|exact oI h|exact nah h)|(rename_i _ h _ g;exact sL h g)|decide|omega|(refine A0 [] ?_;simp only[↓eB,seval,go_sem,bne,CH,ex6,faT,hb,append_assoc])
    |false=>
     rw[hb,Bool.false_or]at h3
     simp only[↓eB,seval,go_sem,hs,hb]
     try simp only[A1,A2]
     repeat' first|exact ck|with_reducible apply And.intro|intro _
     all_goals first|exact d1|exact d2|exact g2|exact g3|exact r1|exact r2|(rename_i h;exact n1 h)|(rename_i h;exact n2 h)|(simp only[jL3];omega)|(rename_i h;first|exact oI h|exact nah h)|(rename_i _ h _ g;exact sL h g)|decide|omega|(refine A0 [] ?_;simp only[↓eB,seval,go_sem,bne,CH,ex6,faT,hb,append_assoc])
theorem y_rExpr:∀m:Nat,Lc m
 |0=>by
  rintro ⟨e,_u⟩ w fz xs hc hfz hl hx
  exact absurd hc.1 (Nat.not_lt_zero _)
 |m+1=>kJ m (y_rExpr m)
end Go.Proofs.YtbiepiggmagfcaaGreatDoor
namespace Go.Proofs.YtbiepiggmagfcaaGreatDoor
open Go Go.Sy Go.RowKit
def rgC:Cd→Prop
 | .nil=>False
 | .mk k a b p q _=>k=9∨(k=8∧rgC p)∨((k=6∨k=7)∧rgC p∧rgC q)∨(0≤k∧k≤5∧rgE a∧rgE b)
theorem Sk (j k:Int) (a b:Ex) (p q:Cd) (s:List UInt8):isB j (.mk k a b p q s)=(k==j):=rfl
abbrev XC (m:Nat) (c:Cd):Prop:=c.dp<m∧MZ c∧rgC c∧(coT c).length≤1000000000
abbrev CI (m:Nat) (c:Cd):SV:=.one (.v (.string (bs (coT c))))
noncomputable abbrev RQ:ArgC ((Cd)×Unit):=(acS (cCd) ac0)
abbrev Ld (m:Nat):Prop:=AP Tryz.prog 105 RQ (fun p:(Cd)×Unit=>XC m p.1) (fun p:(Cd)×Unit=>CI m p.1)
theorem kK (m:Nat):∀p:(Cd)×Unit,((fun p:(Cd)×Unit=>CI m p.1) p).names=[]:=by intro p;first|rfl|exact B8 _|exact BN _
noncomputable def Le {X:Ctx} {w0:World} (m:Nat) (h:Ld m):Sy.Spec Tryz.prog X w0:=Am 105 Tryz.call105 RQ (fun p:(Cd)×Unit=>XC m p.1) (fun p:(Cd)×Unit=>CI m p.1) (kK m) h
abbrev fe (m:Nat) (c:Cd) (p:Bool):Prop:=c.dp<m∧MZ c∧rgC c∧(enT p (coT c)).length≤1000000000
abbrev NT (m:Nat) (c:Cd) (p:Bool):SV:=.one (.v (.string (bs (enT p (coT c)))))
noncomputable abbrev XD:ArgC ((Cd)×(Bool)×Unit):=(acS (cCd) (acS (Om) ac0))
abbrev ff (m:Nat):Prop:=AP Tryz.prog 126 XD (fun p:(Cd)×(Bool)×Unit=>fe m p.1 p.2.1) (fun p:(Cd)×(Bool)×Unit=>NT m p.1 p.2.1)
theorem xL (m:Nat):∀p:(Cd)×(Bool)×Unit,((fun p:(Cd)×(Bool)×Unit=>NT m p.1 p.2.1) p).names=[]:=by intro p;first|rfl|exact B8 _|exact BN _
noncomputable def fg {X:Ctx} {w0:World} (m:Nat) (h:ff m):Sy.Spec Tryz.prog X w0:=Am 126 Tryz.call126 XD (fun p:(Cd)×(Bool)×Unit=>fe m p.1 p.2.1) (fun p:(Cd)×(Bool)×Unit=>NT m p.1 p.2.1) (xL m) h
attribute [local go_sem] MH T3 QV QW Hs Jr KT KU gJ IW KM CG B3 Dm Dl Ev Le Dd fg
theorem A2p (m:Nat) (hE:Ld m):ff m:=by
 rintro ⟨c,p,_u⟩ w fz xs hc hfz hl hx
 refine A9 Tryz.func126 rfl w fz [(Le m hE)] [] XD (fun p:(Cd)×(Bool)×Unit=>NT m p.1 p.2.1) _ xs hfz hl hx (jN rfl) ?_
 clear hx hl hfz xs
 simp only[Tryz.f126]
 obtain⟨h1,h2,h2',h3⟩:=hc
 dsimp only at h1 h2 h2' h3
 cases p with
 |true=>
  have h4:(coT c).length+2≤1000000000:=by simpa [enT] using h3
  simp only[↓eB,seval,go_sem]
  try simp only[A1,A2]
  repeat' first|exact ck|with_reducible apply And.intro|intro _
  all_goals first|exact h2|exact h2'|(rename_i h;first|exact oI h|exact nah h)|(rename_i _ h _ g;exact sL h g)|decide|omega|(refine A0 [] ?_;simp only[↓eB,seval,go_sem,bne,NT,enT])
 |false=>
  have h4:(coT c).length≤1000000000:=h3
  simp only[↓eB,seval,go_sem]
  try simp only[A1,A2]
  repeat' first|exact ck|with_reducible apply And.intro|intro _
  all_goals first|exact h2|exact h2'|(rename_i h;first|exact oI h|exact nah h)|(rename_i _ h _ g;exact sL h g)|decide|omega|(refine A0 [] ?_;simp only[↓eB,seval,go_sem,bne,NT,enT])
theorem kL (m:Nat) (hE:Ld m):Ld (m+1):=by
 rintro ⟨c,_u⟩ w fz xs hc hfz hl hx
 refine A9 Tryz.func105 rfl w fz [(Dd m (y_rExpr m)),(Le m hE),(fg m (A2p m hE))] [] RQ (fun p:(Cd)×Unit=>CI (m+1) p.1) _ xs hfz hl hx (jN rfl) ?_
 clear hx hl hfz xs
 simp only[Tryz.f105]
 obtain⟨h1,h2,hr,h3⟩:=hc
 dsimp only at h1 h2 hr h3
 cases c with
 |nil=>exact hr.elim
 |mk k a b p q s=>
  obtain⟨g1,g2,g3,g4⟩:=h2
  simp only[Cd.dp]at h1
  have d1:a.dp<m:=by omega
  have d2:b.dp<m:=by omega
  have d3:p.dp<m:=by omega
  have d4:q.dp<m:=by omega
  clear h1
  rcases hr with rfl|⟨rfl,r1⟩|⟨rfl|rfl,r1,r2⟩|⟨k1,k2,r1,r2⟩
  ·simp only[co9,jL3]at h3
   simp only[↓eB,seval,go_sem]
   try simp only[A1,A2]
   repeat' first|exact ck|with_reducible apply And.intro|intro _
   all_goals first|(simp only[jL3];omega)|(rename_i h;first|exact oI h|exact nah h)|(rename_i _ h _ g;exact sL h g)|decide|omega|(refine A0 [] ?_;simp only[↓eB,seval,go_sem,bne,CI,co9])
  ·rw[co8]at h3
   cases p with
   |nil=>exact r1.elim
   |mk k' a' b' p' q' s'=>
    cases h9:(k'==9) with
    |true=>
     simp only[isB,h9,if_true,Cd.nm,jL3]at h3
     simp only[↓eB,seval,go_sem,h9]
     try simp only[A1,A2]
     repeat' first|exact ck|with_reducible apply And.intro|intro _
     all_goals first|(simp only[jL3];omega)|(rename_i h;first|exact oI h|exact nah h)|(rename_i _ h _ g;exact sL h g)|decide|omega|(refine A0 [] ?_;simp only[↓eB,seval,go_sem,bne,CI,co8,isB,h9,Cd.nm])
    |false=>
     simp only[isB,h9,if_true,if_false,Int.reduceBEq,jB,jL3]at h3
     have hn:(k' != 8) = !(k'==8):=rfl
     simp only[↓eB,seval,go_sem,h9,hn]
     try simp only[A1,A2]
     repeat' first|exact ck|with_reducible apply And.intro|intro _
     all_goals first|exact d3|exact g3|exact r1|(simp only[jL3];omega)|(rename_i h;first|exact oI h|exact nah h)|(rename_i _ h _ g;exact sL h g)|decide|omega|(refine A0 [] ?_;simp only[↓eB,seval,go_sem,bne,CI,co8,isB,h9])
  ·cases p with
   |nil=>exact r1.elim
   |mk k' a' b' p' q' s'=>
    cases q with
    |nil=>exact r2.elim
    |mk k2 a2 b2 p2 q2 s2=>
     simp only[co6,Sk,jL3]at h3
     cases hq:(k2==7) with
     |true=>
      rw[hq,Bool.true_or]at h3
      simp only[↓eB,seval,go_sem,hq]
      try simp only[A1,A2]
      repeat' first|exact ck|with_reducible apply And.intro|intro _
      all_goals first|exact d3|exact d4|exact g3|exact g4|exact r1|exact r2|(simp only[jL3];omega)|(rename_i h;first|exact oI h|exact nah h)|(rename_i _ h _ g;exact sL h g)|decide|omega|(refine A0 [] ?_;simp only[↓eB,seval,go_sem,bne,CI,co6,Sk,hq,append_assoc])
     |false=>
      rw[hq,Bool.false_or]at h3
      simp only[↓eB,seval,go_sem,hq]
      try simp only[A1,A2]
      repeat' first|exact ck|with_reducible apply And.intro|intro _
      all_goals first|exact d3|exact d4|exact g3|exact g4|exact r1|exact r2|(simp only[jL3];omega)|(rename_i h;first|exact oI h|exact nah h)|(rename_i _ h _ g;exact sL h g)|decide|omega|(refine A0 [] ?_;simp only[↓eB,seval,go_sem,bne,CI,co6,Sk,hq,append_assoc])
  ·cases q with
   |nil=>exact r2.elim
   |mk k2 a2 b2 p2 q2 s2=>
    have l1:=L0 (k2==7) (coT (.mk k2 a2 b2 p2 q2 s2))
    simp only[co7,Sk,jL3]at h3
    have e0:enT false (coT p)=coT p:=rfl
    simp only[↓eB,seval,go_sem,e0]
    try simp only[A1,A2]
    repeat' first|exact ck|with_reducible apply And.intro|intro _
    all_goals first|exact d3|exact d4|exact g3|exact g4|exact r1|exact r2|(rw[e0];omega)|(simp only[jL3];omega)|(rename_i h;first|exact oI h|exact nah h)|(rename_i _ h _ g;exact sL h g)|decide|omega|(refine A0 [] ?_;simp only[↓eB,seval,go_sem,bne,CI,co7,Sk,append_assoc])
  ·have k3:k=0∨k=1∨k=2∨k=3∨k=4∨k=5:=by omega
   clear k1 k2
   rcases k3 with rfl|rfl|rfl|rfl|rfl|rfl
   ·simp only[co0,Bf,jL3]at h3
    simp only[↓eB,seval,go_sem]
    try simp only[A1,A2]
    repeat' first|exact ck|with_reducible apply And.intro|intro _
    all_goals first|exact d1|exact d2|exact g1|exact g2|exact r1|exact r2|(simp only[jL3];omega)|(rename_i h;first|exact oI h|exact nah h)|(rename_i _ h _ g;exact sL h g)|decide|omega|(refine A0 [] ?_;simp only[↓eB,seval,go_sem,bne,CI,co0,Bf,append_assoc])
   ·simp only[co1,Bf,jL3]at h3
    simp only[↓eB,seval,go_sem]
    try simp only[A1,A2]
    repeat' first|exact ck|with_reducible apply And.intro|intro _
    all_goals first|exact d1|exact d2|exact g1|exact g2|exact r1|exact r2|(simp only[jL3];omega)|(rename_i h;first|exact oI h|exact nah h)|(rename_i _ h _ g;exact sL h g)|decide|omega|(refine A0 [] ?_;simp only[↓eB,seval,go_sem,bne,CI,co1,Bf,append_assoc])
   ·simp only[co2,Bf,jL3]at h3
    simp only[↓eB,seval,go_sem]
    try simp only[A1,A2]
    repeat' first|exact ck|with_reducible apply And.intro|intro _
    all_goals first|exact d1|exact d2|exact g1|exact g2|exact r1|exact r2|(simp only[jL3];omega)|(rename_i h;first|exact oI h|exact nah h)|(rename_i _ h _ g;exact sL h g)|decide|omega|(refine A0 [] ?_;simp only[↓eB,seval,go_sem,bne,CI,co2,Bf,append_assoc])
   ·simp only[co3,Bf,jL3]at h3
    simp only[↓eB,seval,go_sem]
    try simp only[A1,A2]
    repeat' first|exact ck|with_reducible apply And.intro|intro _
    all_goals first|exact d1|exact d2|exact g1|exact g2|exact r1|exact r2|(simp only[jL3];omega)|(rename_i h;first|exact oI h|exact nah h)|(rename_i _ h _ g;exact sL h g)|decide|omega|(refine A0 [] ?_;simp only[↓eB,seval,go_sem,bne,CI,co3,Bf,append_assoc])
   ·simp only[co4,Bf,jL3]at h3
    simp only[↓eB,seval,go_sem]
    try simp only[A1,A2]
    repeat' first|exact ck|with_reducible apply And.intro|intro _
    all_goals first|exact d1|exact d2|exact g1|exact g2|exact r1|exact r2|(simp only[jL3];omega)|(rename_i h;first|exact oI h|exact nah h)|(rename_i _ h _ g;exact sL h g)|decide|omega|(refine A0 [] ?_;simp only[↓eB,seval,go_sem,bne,CI,co4,Bf,append_assoc])
   ·simp only[co5,Bf,jL3]at h3
    simp only[↓eB,seval,go_sem]
    try simp only[A1,A2]
    repeat' first|exact ck|with_reducible apply And.intro|intro _
    all_goals first|exact d1|exact d2|exact g1|exact g2|exact r1|exact r2|(simp only[jL3];omega)|(rename_i h;first|exact oI h|exact nah h)|(rename_i _ h _ g;exact sL h g)|decide|omega|(refine A0 [] ?_;simp only[↓eB,seval,go_sem,bne,CI,co5,Bf,append_assoc])
theorem Zc:∀m:Nat,Ld m
 |0=>by
  rintro ⟨e,_u⟩ w fz xs hc hfz hl hx
  exact absurd hc.1 (Nat.not_lt_zero _)
 |m+1=>kL m (Zc m)
end Go.Proofs.YtbiepiggmagfcaaGreatDoor
namespace Go.Proofs.YtbiepiggmagfcaaGreatDoor
open Go Go.Sy Go.RowKit
structure RgS (s:Sm):Prop where
 e:s.k=0∨s.k=5∨s.k=6∨s.k=7∨s.k=9→rgE s.e
 f:s.k=7→rgE s.f
 c:s.k=10∨s.k=11∨s.k=12→rgC s.cd
 a:s.k=8→∀a∈s.ar,a.p=false→rgE a.e
theorem A2q (i:Nat):tbs i++[9]=tbs (i+1):=by simp[tbs,List.replicate_succ']
theorem NU (i:Nat):(tbs i).length=i:=by simp[tbs]
theorem A2r:tbs 0=[]:=rfl
def ER:Nat→List Sm→Prop
 |0,_=>False
 |m+1,l=>∀s∈l,RgS s∧ER m s.th∧ER m s.el
theorem Lf (l:List Ln):l.length≤(lnX l).length:=by
 induction l with
 |nil=>exact Nat.le_refl _
 |cons a l ih=>rw[EA,length_append,length_append,length_cons];simp only[length_cons,length_nil];omega
end Go.Proofs.YtbiepiggmagfcaaGreatDoor
