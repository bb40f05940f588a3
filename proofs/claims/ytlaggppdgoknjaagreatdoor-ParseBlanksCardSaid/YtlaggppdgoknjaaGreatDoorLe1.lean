/- The program's lexer: the small functions. No conditions but those in each statement. -/
import Derived.Test.YtlaggppdgoknjaaGreatDoorCm1
import Derived.Test.YtlaggppdgoknjaaGreatDoorMc4
set_option linter.unusedVariables false
set_option linter.unusedSimpArgs false
namespace Go.Proofs.YtlaggppdgoknjaaGreatDoor
open Go Go.Sy Go.RowKit
abbrev yc_letter (b:Int):Prop:=True
abbrev yr_letter (b:Int):SV:=SV.one (.v (.bool (letB b)))
theorem y_letter:CallsY Tryz.prog 76 (acS (cInt .u8) ac0) (fun p:(Int×Unit)=>yc_letter p.1) (fun p:(Int×Unit)=>yr_letter p.1):=by
 rintro ⟨b,_u⟩ w fz xs hc hfz hl hx
 refine calls_toL Tryz.func76 rfl w fz [] [] (acS (cInt .u8) ac0) (fun p:(Int×Unit)=>yr_letter p.1) _ xs hfz hl hx (Nat.le_of_ble_eq_true rfl) ?_
 clear hx hl hfz xs
 simp only[Tryz.f76]
 simp only[↓eB,seval,go_sem]
 try simp only[impB,impN]
 repeat' first|exact ck|with_reducible apply And.intro|intro _
 all_goals try simp only[bne,Bool.not_eq_true',Bool.not_eq_false',Bool.not_not] at*
 all_goals first
  |(refine ret_with [] ?_;simp only[↓eB,seval,go_sem,bne,yr_letter,letB];first|done|(simp only[*,if_true,if_false,Bool.false_eq_true,Bool.true_or,Bool.or_true,Bool.false_or,Bool.or_false,Bool.and_false,Bool.false_and,Bool.true_and,Bool.and_true,Bool.not_true,Bool.not_false,Bool.or_self,Bool.and_self,Int.reduceEq,Int.reduceNeg,Nat.reduceEqDiff,reduceCtorEq,dec_T,dec_F,leC_same,leC_nil,and_self,↓reduceIte];done)|(simp_all;done))
  |omega
  |(simp only[decide_eq_true_eq,decide_eq_false_iff_not]at *;omega)
  |(simp_all;done)
  |(simp_all;omega)
  |trace_state
theorem yn_letter:∀p:(Int×Unit),((fun p:(Int×Unit)=>yr_letter p.1) p).names=[]:=by intro p;first|rfl|simp[SV.names,C.names]
noncomputable def yp_letter {X:Ctx} {w0:World}:Sy.Spec Tryz.prog X w0:=specD 76 Tryz.call76 (acS (cInt .u8) ac0) (fun p:(Int×Unit)=>yc_letter p.1) (fun p:(Int×Unit)=>yr_letter p.1) yn_letter y_letter
abbrev yc_digit (b:Int):Prop:=True
abbrev yr_digit (b:Int):SV:=SV.one (.v (.bool (digB b)))
theorem y_digit:CallsY Tryz.prog 77 (acS (cInt .u8) ac0) (fun p:(Int×Unit)=>yc_digit p.1) (fun p:(Int×Unit)=>yr_digit p.1):=by
 rintro ⟨b,_u⟩ w fz xs hc hfz hl hx
 refine calls_toL Tryz.func77 rfl w fz [] [] (acS (cInt .u8) ac0) (fun p:(Int×Unit)=>yr_digit p.1) _ xs hfz hl hx (Nat.le_of_ble_eq_true rfl) ?_
 clear hx hl hfz xs
 simp only[Tryz.f77]
 simp only[↓eB,seval,go_sem]
 try simp only[impB,impN]
 repeat' first|exact ck|with_reducible apply And.intro|intro _
 all_goals try simp only[bne,Bool.not_eq_true',Bool.not_eq_false',Bool.not_not] at*
 all_goals first
  |(refine ret_with [] ?_;simp only[↓eB,seval,go_sem,bne,yr_digit,digB];first|done|(simp only[*,if_true,if_false,Bool.false_eq_true,Bool.true_or,Bool.or_true,Bool.false_or,Bool.or_false,Bool.and_false,Bool.false_and,Bool.true_and,Bool.and_true,Bool.not_true,Bool.not_false,Bool.or_self,Bool.and_self,Int.reduceEq,Int.reduceNeg,Nat.reduceEqDiff,reduceCtorEq,dec_T,dec_F,leC_same,leC_nil,and_self,↓reduceIte];done)|(simp_all;done))
  |omega
  |(simp only[decide_eq_true_eq,decide_eq_false_iff_not]at *;omega)
  |(simp_all;done)
  |(simp_all;omega)
  |trace_state
theorem yn_digit:∀p:(Int×Unit),((fun p:(Int×Unit)=>yr_digit p.1) p).names=[]:=by intro p;first|rfl|simp[SV.names,C.names]
noncomputable def yp_digit {X:Ctx} {w0:World}:Sy.Spec Tryz.prog X w0:=specD 77 Tryz.call77 (acS (cInt .u8) ac0) (fun p:(Int×Unit)=>yc_digit p.1) (fun p:(Int×Unit)=>yr_digit p.1) yn_digit y_digit
abbrev yc_liteIndexByte (s:List UInt8) (c:Int):Prop:=True
abbrev yr_liteIndexByte (s:List UInt8) (c:Int):SV:=SV.one (.v (.int .i64 (Lib.indexByte s c.toNat.toUInt8)))
theorem y_liteIndexByte:CallsY Tryz.prog 89 (acS (cStr) (acS (cInt .u8) ac0)) (fun p:(List UInt8×(Int×Unit))=>yc_liteIndexByte p.1 p.2.1) (fun p:(List UInt8×(Int×Unit))=>yr_liteIndexByte p.1 p.2.1):=of_plain _ _ _ (fun p=>[.string (bs p.1),.int .u8 p.2.1]) (fun p=>.int .i64 (Lib.indexByte p.1 p.2.1.toNat.toUInt8)) (fun _=>rfl) (fun _=>rfl) (fun _=>rfl) fun p w _=>(c_liteIndexByte p.1 p.2.1 w).mono fun e w' h=>below_same h
theorem yn_liteIndexByte:∀p:(List UInt8×(Int×Unit)),((fun p:(List UInt8×(Int×Unit))=>yr_liteIndexByte p.1 p.2.1) p).names=[]:=by intro p;first|rfl|simp[SV.names,C.names]
noncomputable def yp_liteIndexByte {X:Ctx} {w0:World}:Sy.Spec Tryz.prog X w0:=specD 89 Tryz.call89 (acS (cStr) (acS (cInt .u8) ac0)) (fun p:(List UInt8×(Int×Unit))=>yc_liteIndexByte p.1 p.2.1) (fun p:(List UInt8×(Int×Unit))=>yr_liteIndexByte p.1 p.2.1) yn_liteIndexByte y_liteIndexByte
abbrev yc_IndexByte (s:List UInt8) (c:Int):Prop:=True
abbrev yr_IndexByte (s:List UInt8) (c:Int):SV:=SV.one (.v (.int .i64 (Lib.indexByte s c.toNat.toUInt8)))
theorem y_IndexByte:CallsY Tryz.prog 75 (acS (cStr) (acS (cInt .u8) ac0)) (fun p:(List UInt8×(Int×Unit))=>yc_IndexByte p.1 p.2.1) (fun p:(List UInt8×(Int×Unit))=>yr_IndexByte p.1 p.2.1):=by
 rintro ⟨s,c,_u⟩ w fz xs hc hfz hl hx
 refine calls_toL Tryz.func75 rfl w fz [yp_liteIndexByte] [] (acS (cStr) (acS (cInt .u8) ac0)) (fun p:(List UInt8×(Int×Unit))=>yr_IndexByte p.1 p.2.1) _ xs hfz hl hx (Nat.le_of_ble_eq_true rfl) ?_
 clear hx hl hfz xs
 simp only[Tryz.f75]
 simp only[↓eB,seval,go_sem,yp_liteIndexByte]
 refine ret_with [] ?_;simp only[↓eB,seval,go_sem,bne,yr_IndexByte]
theorem yn_IndexByte:∀p:(List UInt8×(Int×Unit)),((fun p:(List UInt8×(Int×Unit))=>yr_IndexByte p.1 p.2.1) p).names=[]:=by intro p;first|rfl|simp[SV.names,C.names]
noncomputable def yp_IndexByte {X:Ctx} {w0:World}:Sy.Spec Tryz.prog X w0:=specD 75 Tryz.call75 (acS (cStr) (acS (cInt .u8) ac0)) (fun p:(List UInt8×(Int×Unit))=>yc_IndexByte p.1 p.2.1) (fun p:(List UInt8×(Int×Unit))=>yr_IndexByte p.1 p.2.1) yn_IndexByte y_IndexByte
abbrev isC (c:Int) (b:Int):Bool:=b==c
def trimB (c:Int) (l:List UInt8):List UInt8:=l.drop (spanN (isC c) l)
abbrev yc_trimLeftByte (s:List UInt8) (c:Int):Prop:=smallB s
abbrev yr_trimLeftByte (s:List UInt8) (c:Int):SV:=SV.one (.v (.string (bs (trimB c s))))
theorem y_trimLeftByte:CallsY Tryz.prog 104 (acS (cStr) (acS (cInt .u8) ac0)) (fun p:(List UInt8×(Int×Unit))=>yc_trimLeftByte p.1 p.2.1) (fun p:(List UInt8×(Int×Unit))=>yr_trimLeftByte p.1 p.2.1):=by
 rintro ⟨s,c,_u⟩ w fz xs hc hfz hl hx
 refine calls_toL Tryz.func104 rfl w fz [] [] (acS (cStr) (acS (cInt .u8) ac0)) (fun p:(List UInt8×(Int×Unit))=>yr_trimLeftByte p.1 p.2.1) _ xs hfz hl hx (Nat.le_of_ble_eq_true rfl) ?_
 clear hx hl hfz xs
 simp only[Tryz.f104]
 simp only[↓eB,seval,go_sem]
 refine loop_ok (Y:=Nat) (fun i=>i≤s.length∧i+spanN (isC c) (s.drop i)=spanN (isC c) s)
  (fun i=>⟨[(0,true,.one (.v (.string (bs (s.drop i))))),(1,true,.one (.v (.int .u8 c)))],[]⟩)
  (fun i=>s.length-i) 0 ⟨Nat.zero_le _,by simp⟩ ?_ ?_
 ·refine to_with [] ?_;simp only[↓eB,seval,go_sem]
 ·rintro i ⟨hi,hJ⟩
  refine vc_ok [] [] _ _ _ ?_
  by_cases hlt:i<s.length
  ·have h1:decide ((0:Int)<((s.drop i).length:Int))=true:=by simp;omega
   rw[spanN_at _ hlt]at hJ
   have h2:(s.drop i).getD 0 0=s.getD i 0:=by simp[List.getD,List.getElem?_drop]
   have h3:((1:Int)≤((s.drop i).length:Int))=True:=by simp;omega
   have h5:((0:Int)<((s.drop i).length:Int))=True:=by simp;omega
   simp only[↓eB,seval,go_sem,h1,h2,h3,h5]
   simp only[impB,impN]
   refine⟨fun hb=>⟨Int.le_refl _,i+1,⟨hlt,?_⟩,by omega,?_⟩,fun hb=>?_⟩
   ·rw[if_pos hb]at hJ;omega
   ·rw[List.drop_drop]
    refine to_with [] ?_;simp only[↓eB,seval,go_sem]
   ·rw[if_neg (by show ¬(_==c)=true;rw[hb];decide)]at hJ
    have hJ':trimB c s=s.drop i:=by unfold trimB;congr 1;omega
    refine ret_with [] ?_;simp only[↓eB,seval,go_sem,bne,yr_trimLeftByte,hJ']
  ·have h1:decide ((0:Int)<((s.drop i).length:Int))=false:=by simp;omega
   rw[spanN_nil _ (by omega)]at hJ
   have hJ':trimB c s=s.drop i:=by unfold trimB;congr 1;omega
   simp only[↓eB,seval,go_sem,h1]
   refine ret_with [] ?_;simp only[↓eB,seval,go_sem,bne,yr_trimLeftByte,hJ']
theorem yn_trimLeftByte:∀p:(List UInt8×(Int×Unit)),((fun p:(List UInt8×(Int×Unit))=>yr_trimLeftByte p.1 p.2.1) p).names=[]:=by intro p;first|rfl|simp[SV.names,C.names]
noncomputable def yp_trimLeftByte {X:Ctx} {w0:World}:Sy.Spec Tryz.prog X w0:=specD 104 Tryz.call104 (acS (cStr) (acS (cInt .u8) ac0)) (fun p:(List UInt8×(Int×Unit))=>yc_trimLeftByte p.1 p.2.1) (fun p:(List UInt8×(Int×Unit))=>yr_trimLeftByte p.1 p.2.1) yn_trimLeftByte y_trimLeftByte
theorem trim_nil:trimB 48 []=[]:=rfl
abbrev yc_TrimLeft (s:List UInt8) (t:List UInt8):Prop:=smallB s∧t=[48]
abbrev yr_TrimLeft (s:List UInt8) (t:List UInt8):SV:=SV.one (.v (.string (bs (trimB 48 s))))
theorem y_TrimLeft:CallsY Tryz.prog 90 (acS (cStr) (acS (cStr) ac0)) (fun p:(List UInt8×(List UInt8×Unit))=>yc_TrimLeft p.1 p.2.1) (fun p:(List UInt8×(List UInt8×Unit))=>yr_TrimLeft p.1 p.2.1):=by
 rintro ⟨s,t,_u⟩ w fz xs hc hfz hl hx
 refine calls_toL Tryz.func90 rfl w fz [yp_trimLeftByte] [] (acS (cStr) (acS (cStr) ac0)) (fun p:(List UInt8×(List UInt8×Unit))=>yr_TrimLeft p.1 p.2.1) _ xs hfz hl hx (Nat.le_of_ble_eq_true rfl) ?_
 clear hx hl hfz xs
 simp only[Tryz.f90]
 obtain⟨hs,rfl⟩:=hc;cases he:(s==[])
 all_goals simp only[↓eB,seval,go_sem,yp_trimLeftByte,yc_trimLeftByte,yr_trimLeftByte,he]
 ·try simp only[impB,impN]
  repeat' first|exact ck|with_reducible apply And.intro|intro _
  all_goals first|exact hs|(rename_i h;first|exact oI h|exact nah h)|(rename_i _ h _ g;exact sL h g)|decide|omega|(refine ret_with [] ?_;simp only[↓eB,seval,go_sem,bne,yr_TrimLeft])
 ·have hn:s=[]:=by simpa using he
  subst hn
  try simp only[impB,impN]
  repeat' first|exact ck|with_reducible apply And.intro|intro _
  all_goals first|exact hs|(rename_i h;first|exact oI h|exact nah h)|(rename_i _ h _ g;exact sL h g)|decide|omega|(refine ret_with [] ?_;simp only[↓eB,seval,go_sem,bne,yr_TrimLeft,trim_nil])
theorem yn_TrimLeft:∀p:(List UInt8×(List UInt8×Unit)),((fun p:(List UInt8×(List UInt8×Unit))=>yr_TrimLeft p.1 p.2.1) p).names=[]:=by intro p;first|rfl|simp[SV.names,C.names]
noncomputable def yp_TrimLeft {X:Ctx} {w0:World}:Sy.Spec Tryz.prog X w0:=specD 90 Tryz.call90 (acS (cStr) (acS (cStr) ac0)) (fun p:(List UInt8×(List UInt8×Unit))=>yc_TrimLeft p.1 p.2.1) (fun p:(List UInt8×(List UInt8×Unit))=>yr_TrimLeft p.1 p.2.1) yn_TrimLeft y_TrimLeft
def blkI (l:List UInt8):Int:=if (chI l 0==32||chI l 0==9||chI l 0==13||chI l 0==10)=true then 1 else if (chI l 0==35)=true then (if decide (0≤Lib.indexByte l (Nat.toUInt8 10))=true then Lib.indexByte l (Nat.toUInt8 10) else (l.length:Int)) else 0
abbrev yc_blank (s:List UInt8):Prop:=0<s.length
abbrev yr_blank (s:List UInt8):SV:=SV.one (.v (.int .i64 (blkI s)))
theorem y_blank:CallsY Tryz.prog 59 (acS (cStr) ac0) (fun p:(List UInt8×Unit)=>yc_blank p.1) (fun p:(List UInt8×Unit)=>yr_blank p.1):=by
 rintro ⟨s,_u⟩ w fz xs hc hfz hl hx
 refine calls_toL Tryz.func59 rfl w fz [yp_IndexByte] [] (acS (cStr) ac0) (fun p:(List UInt8×Unit)=>yr_blank p.1) _ xs hfz hl hx (Nat.le_of_ble_eq_true rfl) ?_
 clear hx hl hfz xs
 simp only[Tryz.f59]
 simp only[↓eB,seval,go_sem,yp_IndexByte,yr_IndexByte]
 try simp only[impB,impN]
 repeat' first|exact ck|with_reducible apply And.intro|intro _
 all_goals try simp only[bne,Bool.not_eq_true',Bool.not_eq_false',Bool.not_not] at*
 all_goals first
  |(refine ret_with [] ?_;simp only[↓eB,seval,go_sem,bne,yr_blank,blkI,chI];first|done|(simp only[*,if_true,if_false,Bool.false_eq_true,Bool.true_or,Bool.or_true,Bool.false_or,Bool.or_false,Bool.and_false,Bool.false_and,Bool.true_and,Bool.and_true,Bool.not_true,Bool.not_false,Bool.or_self,Bool.and_self,Int.reduceEq,Int.reduceNeg,Nat.reduceEqDiff,reduceCtorEq,dec_T,dec_F,leC_same,leC_nil,and_self,↓reduceIte];done)|(simp_all;done))
  |omega
  |(simp only[decide_eq_true_eq,decide_eq_false_iff_not]at *;omega)
  |(simp_all;done)
  |(simp_all;omega)
  |trace_state
theorem yn_blank:∀p:(List UInt8×Unit),((fun p:(List UInt8×Unit)=>yr_blank p.1) p).names=[]:=by intro p;first|rfl|simp[SV.names,C.names]
noncomputable def yp_blank {X:Ctx} {w0:World}:Sy.Spec Tryz.prog X w0:=specD 59 Tryz.call59 (acS (cStr) ac0) (fun p:(List UInt8×Unit)=>yc_blank p.1) (fun p:(List UInt8×Unit)=>yr_blank p.1) yn_blank y_blank
def opI (l:List UInt8):Int:=
 if (decide (2≤(l.length:Int))&&(l.take 2==[61,61]||l.take 2==[33,61]||l.take 2==[60,61]||l.take 2==[62,61]||l.take 2==[38,38]||l.take 2==[124,124]))=true then 2
 else if decide (0≤Lib.indexByte [61,60,62,43,45,42,47,37,38,33,40,41,123,125,91,93,44,59] (chI l 0).toNat.toUInt8)=true then 1 else 0
abbrev yc_operator (s:List UInt8):Prop:=0<s.length
abbrev yr_operator (s:List UInt8):SV:=SV.one (.v (.int .i64 (opI s)))
set_option maxRecDepth 20000 in
theorem y_operator:CallsY Tryz.prog 79 (acS (cStr) ac0) (fun p:(List UInt8×Unit)=>yc_operator p.1) (fun p:(List UInt8×Unit)=>yr_operator p.1):=by
 rintro ⟨s,_u⟩ w fz xs hc hfz hl hx
 refine calls_toL Tryz.func79 rfl w fz [yp_IndexByte] [] (acS (cStr) ac0) (fun p:(List UInt8×Unit)=>yr_operator p.1) _ xs hfz hl hx (Nat.le_of_ble_eq_true rfl) ?_
 clear hx hl hfz xs
 simp only[Tryz.f79]
 simp only[↓eB,seval,go_sem,yp_IndexByte,yr_IndexByte]
 try simp only[impB,impN]
 repeat' first|exact ck|with_reducible apply And.intro|intro _
 all_goals try simp only[bne,Bool.not_eq_true',Bool.not_eq_false',Bool.not_not] at*
 all_goals first
  |(refine ret_with [] ?_;simp only[↓eB,seval,go_sem,bne,yr_operator,opI,chI];first|done|(simp only[*,if_true,if_false,Bool.false_eq_true,Bool.true_or,Bool.or_true,Bool.false_or,Bool.or_false,Bool.and_false,Bool.false_and,Bool.true_and,Bool.and_true,Bool.not_true,Bool.not_false,Bool.or_self,Bool.and_self,Int.reduceEq,Int.reduceNeg,Nat.reduceEqDiff,reduceCtorEq,dec_T,dec_F,leC_same,leC_nil,and_self,↓reduceIte];done)|(simp_all;done))
  |omega
  |(simp only[decide_eq_true_eq,decide_eq_false_iff_not]at *;omega)
  |(simp_all;done)
  |(simp_all;omega)
  |trace_state
theorem yn_operator:∀p:(List UInt8×Unit),((fun p:(List UInt8×Unit)=>yr_operator p.1) p).names=[]:=by intro p;first|rfl|simp[SV.names,C.names]
noncomputable def yp_operator {X:Ctx} {w0:World}:Sy.Spec Tryz.prog X w0:=specD 79 Tryz.call79 (acS (cStr) ac0) (fun p:(List UInt8×Unit)=>yc_operator p.1) (fun p:(List UInt8×Unit)=>yr_operator p.1) yn_operator y_operator
end Go.Proofs.YtlaggppdgoknjaaGreatDoor
