/- print: the text of an expression. Conditions: the numbers are of 64 bits, the text shorter than 10^9 bytes; the table of powers of ten is laid. -/
import Derived.Test.YtbiepiggmagfcaaGreatDoorPi1
set_option linter.unusedVariables false
set_option linter.unusedSimpArgs false
namespace Go.Proofs.YtbiepiggmagfcaaGreatDoor
open Go Go.Sy Go.RowKit
def suB:Ex→Bool
 | .nil=>false
 | .mk k _ _ _ _=>k==2||k==3
def prdB:Ex→Bool
 | .nil=>false
 | .mk k _ _ _ _=>k==4||k==5||k==6
def okN:Ex→Prop
 | .nil=>True
 | .mk _ n _ a b=>w64 n∧okN a∧okN b
def enT (p:Bool) (t:List UInt8):List UInt8:=if p=true then ([40]++t)++[41] else t
def exT:Ex→List UInt8
 | .nil=>[]
 | .mk k n s a b=>
  if (k==0)=true then itT n
  else if (k==1)=true then s
  else if (k==2)=true then (exT a++[32,43,32])++enT (suB b) (exT b)
  else if (k==3)=true then (exT a++[32,45,32])++enT (suB b) (exT b)
  else if (k==4)=true then (enT (suB a) (exT a)++[32,42,32])++enT (suB b||prdB b) (exT b)
  else if (k==5)=true then (enT (suB a) (exT a)++[32,47,32])++enT (suB b||prdB b) (exT b)
  else if (k==6)=true then (enT (suB a) (exT a)++[32,37,32])++enT (suB b||prdB b) (exT b)
  else if (k==7)=true then [45]++enT (suB a||prdB a) (exT a)
  else []
theorem enT_len (p:Bool) (t:List UInt8):t.length≤(enT p t).length:=by
 unfold enT;split<;>simp<;>omega
abbrev yc_isSum (e:Ex):Prop:=True
abbrev yr_isSum (e:Ex):SV:=.one (.v (.bool (suB e)))
noncomputable abbrev ya_isSum:ArgC ((Ex)×Unit):=(acS (cEx) ac0)
abbrev yq_isSum:Prop:=CallsY Tryz.prog 62 ya_isSum (fun p:(Ex)×Unit=>yc_isSum p.1) (fun p:(Ex)×Unit=>yr_isSum p.1)
theorem yn_isSum:∀p:(Ex)×Unit,((fun p:(Ex)×Unit=>yr_isSum p.1) p).names=[]:=by intro p;first|rfl|exact ex_names _|exact cd_names _
attribute [local go_sem] cEx_d cEx_dp cEx_e cEx_n ex_mk ex_nil pairN_o pairO_n spFn_n
theorem y_isSum:yq_isSum:=by
 rintro ⟨e,_u⟩ w fz xs hc hfz hl hx
 refine calls_toL Tryz.func62 rfl w fz [] [] ya_isSum (fun p:(Ex)×Unit=>yr_isSum p.1) _ xs hfz hl hx (Nat.le_of_ble_eq_true rfl) ?_
 clear hx hl hfz xs
 simp only[Tryz.f62]
 cases e with
 |nil=>
  simp only[↓eB,seval,go_sem]
  try simp only[impB,impN]
  repeat' first|exact ck|with_reducible apply And.intro|intro _
  all_goals first|exact trivial|(rename_i h;first|exact oI h|exact nah h)|(rename_i _ h _ g;exact sL h g)|decide|omega|(refine ret_with [] ?_;simp only[↓eB,seval,go_sem,bne,yr_isSum,suB])
 |mk k n s a b=>
  cases h1:(k==2) with
  |true=>
   simp only[↓eB,seval,go_sem,h1]
   try simp only[impB,impN]
   repeat' first|exact ck|with_reducible apply And.intro|intro _
   all_goals first|exact trivial|(rename_i h;first|exact oI h|exact nah h)|(rename_i _ h _ g;exact sL h g)|decide|omega|(refine ret_with [] ?_;simp only[↓eB,seval,go_sem,bne,yr_isSum,suB,h1])
  |false=>
   simp only[↓eB,seval,go_sem,h1]
   try simp only[impB,impN]
   repeat' first|exact ck|with_reducible apply And.intro|intro _
   all_goals first|exact trivial|(rename_i h;first|exact oI h|exact nah h)|(rename_i _ h _ g;exact sL h g)|decide|omega|(refine ret_with [] ?_;simp only[↓eB,seval,go_sem,bne,yr_isSum,suB,h1])
noncomputable def yp_isSum {X:Ctx} {w0:World}:Sy.Spec Tryz.prog X w0:=specD 62 Tryz.call62 ya_isSum (fun p:(Ex)×Unit=>yc_isSum p.1) (fun p:(Ex)×Unit=>yr_isSum p.1) yn_isSum y_isSum
abbrev yc_isProduct (e:Ex):Prop:=True
abbrev yr_isProduct (e:Ex):SV:=.one (.v (.bool (prdB e)))
noncomputable abbrev ya_isProduct:ArgC ((Ex)×Unit):=(acS (cEx) ac0)
abbrev yq_isProduct:Prop:=CallsY Tryz.prog 64 ya_isProduct (fun p:(Ex)×Unit=>yc_isProduct p.1) (fun p:(Ex)×Unit=>yr_isProduct p.1)
theorem yn_isProduct:∀p:(Ex)×Unit,((fun p:(Ex)×Unit=>yr_isProduct p.1) p).names=[]:=by intro p;first|rfl|exact ex_names _|exact cd_names _
theorem y_isProduct:yq_isProduct:=by
 rintro ⟨e,_u⟩ w fz xs hc hfz hl hx
 refine calls_toL Tryz.func64 rfl w fz [] [] ya_isProduct (fun p:(Ex)×Unit=>yr_isProduct p.1) _ xs hfz hl hx (Nat.le_of_ble_eq_true rfl) ?_
 clear hx hl hfz xs
 simp only[Tryz.f64]
 cases e with
 |nil=>
  simp only[↓eB,seval,go_sem]
  try simp only[impB,impN]
  repeat' first|exact ck|with_reducible apply And.intro|intro _
  all_goals first|exact trivial|(rename_i h;first|exact oI h|exact nah h)|(rename_i _ h _ g;exact sL h g)|decide|omega|(refine ret_with [] ?_;simp only[↓eB,seval,go_sem,bne,yr_isProduct,prdB])
 |mk k n s a b=>
  cases h1:(k==4) with
  |true=>
   simp only[↓eB,seval,go_sem,h1]
   try simp only[impB,impN]
   repeat' first|exact ck|with_reducible apply And.intro|intro _
   all_goals first|exact trivial|(rename_i h;first|exact oI h|exact nah h)|(rename_i _ h _ g;exact sL h g)|decide|omega|(refine ret_with [] ?_;simp only[↓eB,seval,go_sem,bne,yr_isProduct,prdB,h1])
  |false=>
   cases h2:(k==5) with
   |true=>
    simp only[↓eB,seval,go_sem,h1,h2]
    try simp only[impB,impN]
    repeat' first|exact ck|with_reducible apply And.intro|intro _
    all_goals first|exact trivial|(rename_i h;first|exact oI h|exact nah h)|(rename_i _ h _ g;exact sL h g)|decide|omega|(refine ret_with [] ?_;simp only[↓eB,seval,go_sem,bne,yr_isProduct,prdB,h1,h2])
   |false=>
    simp only[↓eB,seval,go_sem,h1,h2]
    try simp only[impB,impN]
    repeat' first|exact ck|with_reducible apply And.intro|intro _
    all_goals first|exact trivial|(rename_i h;first|exact oI h|exact nah h)|(rename_i _ h _ g;exact sL h g)|decide|omega|(refine ret_with [] ?_;simp only[↓eB,seval,go_sem,bne,yr_isProduct,prdB,h1,h2])
noncomputable def yp_isProduct {X:Ctx} {w0:World}:Sy.Spec Tryz.prog X w0:=specD 64 Tryz.call64 ya_isProduct (fun p:(Ex)×Unit=>yc_isProduct p.1) (fun p:(Ex)×Unit=>yr_isProduct p.1) yn_isProduct y_isProduct
abbrev yc_Expr (m:Nat) (e:Ex):Prop:=e.dp<m∧okN e∧(exT e).length≤1000000000
abbrev yr_Expr (m:Nat) (e:Ex):SV:=.one (.v (.string (bs (exT e))))
noncomputable abbrev ya_Expr:ArgC ((Ex)×Unit):=(acS (cEx) ac0)
abbrev yq_Expr (m:Nat):Prop:=CallsG Tryz.prog 27 powT ya_Expr (fun p:(Ex)×Unit=>yc_Expr m p.1) (fun p:(Ex)×Unit=>yr_Expr m p.1)
theorem yn_Expr (m:Nat):∀p:(Ex)×Unit,((fun p:(Ex)×Unit=>yr_Expr m p.1) p).names=[]:=by intro p;first|rfl|exact ex_names _|exact cd_names _
noncomputable def yg_Expr {X:Ctx} {w0:World} (m:Nat) (h:yq_Expr m) (hG:StaysN X w0 powT powB):Sy.Spec Tryz.prog X w0:=specG 27 Tryz.call27 powT ya_Expr (fun p:(Ex)×Unit=>yc_Expr m p.1) (fun p:(Ex)×Unit=>yr_Expr m p.1) (yn_Expr m) h hG.stays
abbrev yc_operand (m:Nat) (e:Ex) (p:Bool):Prop:=e.dp<m∧okN e∧(enT p (exT e)).length≤1000000000
abbrev yr_operand (m:Nat) (e:Ex) (p:Bool):SV:=.one (.v (.string (bs (enT p (exT e)))))
noncomputable abbrev ya_operand:ArgC ((Ex)×(Bool)×Unit):=(acS (cEx) (acS (cBool) ac0))
abbrev yq_operand (m:Nat):Prop:=CallsG Tryz.prog 61 powT ya_operand (fun p:(Ex)×(Bool)×Unit=>yc_operand m p.1 p.2.1) (fun p:(Ex)×(Bool)×Unit=>yr_operand m p.1 p.2.1)
theorem yn_operand (m:Nat):∀p:(Ex)×(Bool)×Unit,((fun p:(Ex)×(Bool)×Unit=>yr_operand m p.1 p.2.1) p).names=[]:=by intro p;first|rfl|exact ex_names _|exact cd_names _
noncomputable def yg_operand {X:Ctx} {w0:World} (m:Nat) (h:yq_operand m) (hG:StaysN X w0 powT powB):Sy.Spec Tryz.prog X w0:=specG 61 Tryz.call61 powT ya_operand (fun p:(Ex)×(Bool)×Unit=>yc_operand m p.1 p.2.1) (fun p:(Ex)×(Bool)×Unit=>yr_operand m p.1 p.2.1) (yn_operand m) h hG.stays
theorem y_operand (m:Nat) (hE:yq_Expr m):yq_operand m:=by
 rintro ⟨e,p,_u⟩ w fz xs hT hc hfz hl hx
 have hG:=staysN_clX powT_keptB powT_size (fz:=fz) hT
 refine calls_toL Tryz.func61 rfl w fz [(yg_Expr m hE hG)] [] ya_operand (fun p:(Ex)×(Bool)×Unit=>yr_operand m p.1 p.2.1) _ xs hfz hl hx (Nat.le_of_ble_eq_true rfl) ?_
 clear hx hl hfz xs
 simp only[Tryz.f61]
 obtain⟨h1,h2,h3⟩:=hc
 dsimp only at h1 h2 h3
 cases p with
 |true=>
  have h4:(exT e).length+2≤1000000000:=by simpa [enT] using h3
  simp only[↓eB,seval,go_sem,yg_Expr]
  try simp only[impB,impN]
  repeat' first|exact ck|with_reducible apply And.intro|intro _
  all_goals first|exact h2|(rename_i h;first|exact oI h|exact nah h)|(rename_i _ h _ g;exact sL h g)|decide|omega|(refine ret_with [] ?_;simp only[↓eB,seval,go_sem,bne,yr_operand,enT])
 |false=>
  have h4:(exT e).length≤1000000000:=h3
  simp only[↓eB,seval,go_sem,yg_Expr]
  try simp only[impB,impN]
  repeat' first|exact ck|with_reducible apply And.intro|intro _
  all_goals first|exact h2|(rename_i h;first|exact oI h|exact nah h)|(rename_i _ h _ g;exact sL h g)|decide|omega|(refine ret_with [] ?_;simp only[↓eB,seval,go_sem,bne,yr_operand,enT])
def faT (s:List UInt8) (a b:Ex):List UInt8:=(enT (suB a) (exT a)++s)++enT (suB b||prdB b) (exT b)
def fa2 (s:List UInt8):Ex→List UInt8
 | .nil=>[]
 | .mk _ _ _ a b=>faT s a b
def okF2 (m:Nat):Ex→Prop
 | .nil=>False
 | .mk _ _ _ a b=>a.dp<m∧b.dp<m∧okN a∧okN b
abbrev yc_factors (m:Nat) (e:Ex) (s:List UInt8):Prop:=okF2 m e∧(fa2 s e).length≤1000000000
abbrev yr_factors (m:Nat) (e:Ex) (s:List UInt8):SV:=.one (.v (.string (bs (fa2 s e))))
noncomputable abbrev ya_factors:ArgC ((Ex)×(List UInt8)×Unit):=(acS (cEx) (acS (cStr) ac0))
abbrev yq_factors (m:Nat):Prop:=CallsG Tryz.prog 63 powT ya_factors (fun p:(Ex)×(List UInt8)×Unit=>yc_factors m p.1 p.2.1) (fun p:(Ex)×(List UInt8)×Unit=>yr_factors m p.1 p.2.1)
theorem yn_factors (m:Nat):∀p:(Ex)×(List UInt8)×Unit,((fun p:(Ex)×(List UInt8)×Unit=>yr_factors m p.1 p.2.1) p).names=[]:=by intro p;first|rfl|exact ex_names _|exact cd_names _
noncomputable def yg_factors {X:Ctx} {w0:World} (m:Nat) (h:yq_factors m) (hG:StaysN X w0 powT powB):Sy.Spec Tryz.prog X w0:=specG 63 Tryz.call63 powT ya_factors (fun p:(Ex)×(List UInt8)×Unit=>yc_factors m p.1 p.2.1) (fun p:(Ex)×(List UInt8)×Unit=>yr_factors m p.1 p.2.1) (yn_factors m) h hG.stays
theorem y_factors (m:Nat) (hE:yq_Expr m):yq_factors m:=by
 rintro ⟨e,s,_u⟩ w fz xs hT hc hfz hl hx
 have hG:=staysN_clX powT_keptB powT_size (fz:=fz) hT
 refine calls_toL Tryz.func63 rfl w fz [yp_isSum,yp_isProduct,(yg_operand m (y_operand m hE) hG)] [] ya_factors (fun p:(Ex)×(List UInt8)×Unit=>yr_factors m p.1 p.2.1) _ xs hfz hl hx (Nat.le_of_ble_eq_true rfl) ?_
 clear hx hl hfz xs
 simp only[Tryz.f63]
 obtain⟨h1,h2⟩:=hc
 dsimp only at h1 h2
 cases e with
 |nil=>exact h1.elim
 |mk k n s' a b=>
  obtain⟨g1,g2,g3,g4⟩:=h1
  have h3:(enT (suB a) (exT a)).length+s.length+(enT (suB b||prdB b) (exT b)).length≤1000000000:=by simpa [fa2,faT,Nat.add_assoc] using h2
  cases hb:suB b with
  |true=>
   rw[hb]at h3
   simp only[Bool.true_or]at h3
   simp only[↓eB,seval,go_sem,yp_isSum,yp_isProduct,yg_operand,hb]
   try simp only[impB,impN]
   repeat' first|exact ck|with_reducible apply And.intro|intro _
   all_goals first|exact g3|exact g4|(simp only[List.length_append,List.length_cons,List.length_nil];omega)|(rename_i h;first|exact oI h|exact nah h)|(rename_i _ h _ g;exact sL h g)|decide|omega|(refine ret_with [] ?_;simp only[↓eB,seval,go_sem,bne,yr_factors,fa2,faT,hb,List.append_assoc])
  |false=>
   rw[hb]at h3
   simp only[Bool.false_or]at h3
   simp only[↓eB,seval,go_sem,yp_isSum,yp_isProduct,yg_operand,hb]
   try simp only[impB,impN]
   repeat' first|exact ck|with_reducible apply And.intro|intro _
   all_goals first|exact g3|exact g4|(simp only[List.length_append,List.length_cons,List.length_nil];omega)|(rename_i h;first|exact oI h|exact nah h)|(rename_i _ h _ g;exact sL h g)|decide|omega|(refine ret_with [] ?_;simp only[↓eB,seval,go_sem,bne,yr_factors,fa2,faT,hb,List.append_assoc])
theorem kd8 (k:Int):k=0∨k=1∨k=2∨k=3∨k=4∨k=5∨k=6∨k=7∨((k==0)=false∧(k==1)=false∧(k==2)=false∧(k==3)=false∧(k==4)=false∧(k==5)=false∧(k==6)=false∧(k==7)=false):=by
 simp only[beq_eq_false_iff_ne];omega
theorem fa2_mk (t:List UInt8) (k n:Int) (s:List UInt8) (a b:Ex):fa2 t (.mk k n s a b)=faT t a b:=rfl
theorem ex0 (n:Int) (s:List UInt8) (a b:Ex):exT (.mk 0 n s a b)=itT n:=by simp only[exT,if_true,if_false,Int.reduceBEq,Bool.false_eq_true]
theorem ex1 (n:Int) (s:List UInt8) (a b:Ex):exT (.mk 1 n s a b)=s:=by simp only[exT,if_true,if_false,Int.reduceBEq,Bool.false_eq_true]
theorem ex2 (n:Int) (s:List UInt8) (a b:Ex):exT (.mk 2 n s a b)=(exT a++[32,43,32])++enT (suB b) (exT b):=by simp only[exT,if_true,if_false,Int.reduceBEq,Bool.false_eq_true]
theorem ex3 (n:Int) (s:List UInt8) (a b:Ex):exT (.mk 3 n s a b)=(exT a++[32,45,32])++enT (suB b) (exT b):=by simp only[exT,if_true,if_false,Int.reduceBEq,Bool.false_eq_true]
theorem ex4 (n:Int) (s:List UInt8) (a b:Ex):exT (.mk 4 n s a b)=faT [32,42,32] a b:=by simp only[exT,faT,if_true,if_false,Int.reduceBEq,Bool.false_eq_true]
theorem ex5 (n:Int) (s:List UInt8) (a b:Ex):exT (.mk 5 n s a b)=faT [32,47,32] a b:=by simp only[exT,faT,if_true,if_false,Int.reduceBEq,Bool.false_eq_true]
theorem ex6 (n:Int) (s:List UInt8) (a b:Ex):exT (.mk 6 n s a b)=faT [32,37,32] a b:=by simp only[exT,faT,if_true,if_false,Int.reduceBEq,Bool.false_eq_true]
theorem ex7 (n:Int) (s:List UInt8) (a b:Ex):exT (.mk 7 n s a b)=[45]++enT (suB a||prdB a) (exT a):=by simp only[exT,if_true,if_false,Int.reduceBEq,Bool.false_eq_true]
set_option maxRecDepth 20000 in set_option maxHeartbeats 8000000 in
theorem y_ExprS (m:Nat) (hE:yq_Expr m):yq_Expr (m+1):=by
 rintro ⟨e,_u⟩ w fz xs hT hc hfz hl hx
 have hG:=staysN_clX powT_keptB powT_size (fz:=fz) hT
 refine calls_toL Tryz.func27 rfl w fz [(yp_FormatInt hG),yp_isSum,yp_isProduct,(yg_Expr m hE hG),(yg_operand m (y_operand m hE) hG),(yg_factors m (y_factors m hE) hG)] [] ya_Expr (fun p:(Ex)×Unit=>yr_Expr (m+1) p.1) _ xs hfz hl hx (Nat.le_of_ble_eq_true rfl) ?_
 clear hx hl hfz xs
 simp only[Tryz.f27]
 obtain⟨h1,h2,h3⟩:=hc
 dsimp only at h1 h2 h3
 cases e with
 |nil=>
  simp only[↓eB,seval,go_sem,yp_FormatInt,yp_isSum,yp_isProduct,yg_Expr,yg_operand,yg_factors]
  try simp only[impB,impN]
  repeat' first|exact ck|with_reducible apply And.intro|intro _
  all_goals first|exact trivial|(rename_i h;first|exact oI h|exact nah h)|(rename_i _ h _ g;exact sL h g)|decide|omega|(refine ret_with [] ?_;simp only[↓eB,seval,go_sem,bne,yr_Expr,exT])
 |mk k n s a b=>
  obtain⟨g1,g2,g3⟩:=h2
  simp only[Ex.dp]at h1
  have f1:okF2 m (.mk k n s a b):=⟨by omega,by omega,g2,g3⟩
  rcases kd8 k with rfl|rfl|rfl|rfl|rfl|rfl|rfl|rfl|⟨e0,e1,e2,e3,e4,e5,e6,e7⟩
  ·simp only[↓eB,seval,go_sem,yp_FormatInt,yp_isSum,yp_isProduct,yg_Expr,yg_operand,yg_factors]
   try simp only[impB,impN]
   repeat' first|exact ck|with_reducible apply And.intro|intro _
   all_goals first|exact g1|(rename_i h;first|exact oI h|exact nah h)|(rename_i _ h _ g;exact sL h g)|decide|omega|(refine ret_with [] ?_;simp only[↓eB,seval,go_sem,bne,yr_Expr,ex0])
  ·simp only[↓eB,seval,go_sem,yp_FormatInt,yp_isSum,yp_isProduct,yg_Expr,yg_operand,yg_factors]
   try simp only[impB,impN]
   repeat' first|exact ck|with_reducible apply And.intro|intro _
   all_goals first|exact trivial|(rename_i h;first|exact oI h|exact nah h)|(rename_i _ h _ g;exact sL h g)|decide|omega|(refine ret_with [] ?_;simp only[↓eB,seval,go_sem,bne,yr_Expr,ex1])
  ·have l1:=enT_len (suB b) (exT b)
   simp only[ex2,List.length_append,List.length_cons,List.length_nil]at h3
   simp only[↓eB,seval,go_sem,yp_FormatInt,yp_isSum,yp_isProduct,yg_Expr,yg_operand,yg_factors]
   try simp only[impB,impN]
   repeat' first|exact ck|with_reducible apply And.intro|intro _
   all_goals first|exact g2|exact g3|(simp only[List.length_append,List.length_cons,List.length_nil];omega)|(rename_i h;first|exact oI h|exact nah h)|(rename_i _ h _ g;exact sL h g)|decide|omega|(refine ret_with [] ?_;simp only[↓eB,seval,go_sem,bne,yr_Expr,ex2])
  ·have l1:=enT_len (suB b) (exT b)
   simp only[ex3,List.length_append,List.length_cons,List.length_nil]at h3
   simp only[↓eB,seval,go_sem,yp_FormatInt,yp_isSum,yp_isProduct,yg_Expr,yg_operand,yg_factors]
   try simp only[impB,impN]
   repeat' first|exact ck|with_reducible apply And.intro|intro _
   all_goals first|exact g2|exact g3|(simp only[List.length_append,List.length_cons,List.length_nil];omega)|(rename_i h;first|exact oI h|exact nah h)|(rename_i _ h _ g;exact sL h g)|decide|omega|(refine ret_with [] ?_;simp only[↓eB,seval,go_sem,bne,yr_Expr,ex3])
  ·rw[ex4]at h3
   simp only[↓eB,seval,go_sem,yp_FormatInt,yp_isSum,yp_isProduct,yg_Expr,yg_operand,yg_factors]
   try simp only[impB,impN]
   repeat' first|exact ck|with_reducible apply And.intro|intro _
   all_goals first|exact f1|exact h3|(rename_i h;first|exact oI h|exact nah h)|(rename_i _ h _ g;exact sL h g)|decide|omega|(refine ret_with [] ?_;simp only[↓eB,seval,go_sem,bne,yr_Expr,ex4,fa2_mk])
  ·rw[ex5]at h3
   simp only[↓eB,seval,go_sem,yp_FormatInt,yp_isSum,yp_isProduct,yg_Expr,yg_operand,yg_factors]
   try simp only[impB,impN]
   repeat' first|exact ck|with_reducible apply And.intro|intro _
   all_goals first|exact f1|exact h3|(rename_i h;first|exact oI h|exact nah h)|(rename_i _ h _ g;exact sL h g)|decide|omega|(refine ret_with [] ?_;simp only[↓eB,seval,go_sem,bne,yr_Expr,ex5,fa2_mk])
  ·rw[ex6]at h3
   simp only[↓eB,seval,go_sem,yp_FormatInt,yp_isSum,yp_isProduct,yg_Expr,yg_operand,yg_factors]
   try simp only[impB,impN]
   repeat' first|exact ck|with_reducible apply And.intro|intro _
   all_goals first|exact f1|exact h3|(rename_i h;first|exact oI h|exact nah h)|(rename_i _ h _ g;exact sL h g)|decide|omega|(refine ret_with [] ?_;simp only[↓eB,seval,go_sem,bne,yr_Expr,ex6,fa2_mk])
  ·simp only[ex7,List.length_append,List.length_cons,List.length_nil]at h3
   cases ha:suB a with
   |true=>
    rw[ha]at h3
    simp only[Bool.true_or]at h3
    simp only[↓eB,seval,go_sem,yp_FormatInt,yp_isSum,yp_isProduct,yg_Expr,yg_operand,yg_factors,ha]
    try simp only[impB,impN]
    repeat' first|exact ck|with_reducible apply And.intro|intro _
    all_goals first|exact g2|(rename_i h;first|exact oI h|exact nah h)|(rename_i _ h _ g;exact sL h g)|decide|omega|(refine ret_with [] ?_;simp only[↓eB,seval,go_sem,bne,yr_Expr,ex7,ha])
   |false=>
    rw[ha]at h3
    simp only[Bool.false_or]at h3
    simp only[↓eB,seval,go_sem,yp_FormatInt,yp_isSum,yp_isProduct,yg_Expr,yg_operand,yg_factors,ha]
    try simp only[impB,impN]
    repeat' first|exact ck|with_reducible apply And.intro|intro _
    all_goals first|exact g2|(rename_i h;first|exact oI h|exact nah h)|(rename_i _ h _ g;exact sL h g)|decide|omega|(refine ret_with [] ?_;simp only[↓eB,seval,go_sem,bne,yr_Expr,ex7,ha])
  ·simp only[↓eB,seval,go_sem,yp_FormatInt,yp_isSum,yp_isProduct,yg_Expr,yg_operand,yg_factors,e0,e1,e2,e3,e4,e5,e6,e7]
   try simp only[impB,impN]
   repeat' first|exact ck|with_reducible apply And.intro|intro _
   all_goals first|exact trivial|(rename_i h;first|exact oI h|exact nah h)|(rename_i _ h _ g;exact sL h g)|decide|omega|(refine ret_with [] ?_;simp only[↓eB,seval,go_sem,bne,yr_Expr,exT,e0,e1,e2,e3,e4,e5,e6,e7])
theorem y_Expr:∀m:Nat,yq_Expr m
 |0=>by
  rintro ⟨e,_u⟩ w fz xs hT hc hfz hl hx
  exact absurd hc.1 (Nat.not_lt_zero _)
 |m+1=>y_ExprS m (y_Expr m)
end Go.Proofs.YtbiepiggmagfcaaGreatDoor
