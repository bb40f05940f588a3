/- print: the text of a condition. Conditions: the numbers are of 64 bits, the text shorter than 10^9 bytes; the table of powers of ten is laid. -/
import Derived.Test.YtbiepiggmagfcaaGreatDoorPx1
set_option linter.unusedVariables false
set_option linter.unusedSimpArgs false
namespace Go.Proofs.YtbiepiggmagfcaaGreatDoor
open Go Go.Sy Go.RowKit
theorem cCd_dp (k:Int) (a b:Ex) (p q:Cd) (s:List UInt8):cCd.d (.one (.d (.pt (some [.v (.int .i64 k),a.d,b.d,p.d,q.d,.v (.string (bs s))]))))=some (.mk k a b p q s):=cCd_d (.mk k a b p q s)
theorem cd_dmk (k:Int) (a b:Ex) (p q:Cd) (s:List UInt8):(Cd.mk k a b p q s).d= .pt (some [.v (.int .i64 k),a.d,b.d,p.d,q.d,.v (.string (bs s))]):=rfl
def isB (k:Int):Cd→Bool
 | .nil=>false
 | .mk k' _ _ _ _ _=>k'==k
def Cd.nm:Cd→List UInt8
 | .nil=>[]
 | .mk _ _ _ _ _ s=>s
def okCn:Cd→Prop
 | .nil=>True
 | .mk _ a b p q _=>okN a∧okN b∧okCn p∧okCn q
def cmpT (t:List UInt8) (a b:Ex):List UInt8:=(exT a++t)++exT b
def coT:Cd→List UInt8
 | .nil=>[]
 | .mk k a b p q s=>
  if (k==0)=true then cmpT [32,61,61,32] a b
  else if (k==1)=true then cmpT [32,33,61,32] a b
  else if (k==2)=true then cmpT [32,60,32] a b
  else if (k==3)=true then cmpT [32,60,61,32] a b
  else if (k==4)=true then cmpT [32,62,32] a b
  else if (k==5)=true then cmpT [32,62,61,32] a b
  else if (k==6)=true then (enT (isB 7 p) (coT p)++[32,38,38,32])++enT (isB 7 q||isB 6 q) (coT q)
  else if (k==7)=true then (coT p++[32,124,124,32])++enT (isB 7 q) (coT q)
  else if (k==8)=true then (if isB 9 p=true then p.nm++[32,33,61,32,110,117,108,108] else [33]++enT (!isB 8 p) (coT p))
  else if (k==9)=true then s++[32,61,61,32,110,117,108,108]
  else []
abbrev yc_pis (c:Cd) (k:Int):Prop:=True
abbrev yr_pis (c:Cd) (k:Int):SV:=.one (.v (.bool (isB k c)))
noncomputable abbrev ya_pis:ArgC ((Cd)×(Int)×Unit):=(acS (cCd) (acS (cInt .i64) ac0))
abbrev yq_pis:Prop:=CallsY Tryz.prog 66 ya_pis (fun p:(Cd)×(Int)×Unit=>yc_pis p.1 p.2.1) (fun p:(Cd)×(Int)×Unit=>yr_pis p.1 p.2.1)
theorem yn_pis:∀p:(Cd)×(Int)×Unit,((fun p:(Cd)×(Int)×Unit=>yr_pis p.1 p.2.1) p).names=[]:=by intro p;first|rfl|exact ex_names _|exact cd_names _
attribute [local go_sem] cCd_d cCd_dp cCd_e cCd_n cEx_d cEx_dp cEx_e cEx_n cd_dmk cd_dnil cd_mk cd_nil ex_nil pairN_o pairO_n spFn_n
theorem y_pis:yq_pis:=by
 rintro ⟨c,k,_u⟩ w fz xs hc hfz hl hx
 refine calls_toL Tryz.func66 rfl w fz [] [] ya_pis (fun p:(Cd)×(Int)×Unit=>yr_pis p.1 p.2.1) _ xs hfz hl hx (Nat.le_of_ble_eq_true rfl) ?_
 clear hx hl hfz xs
 simp only[Tryz.f66]
 cases c with
 |nil=>
  simp only[↓eB,seval,go_sem]
  try simp only[impB,impN]
  repeat' first|exact ck|with_reducible apply And.intro|intro _
  all_goals first|exact trivial|(rename_i h;first|exact oI h|exact nah h)|(rename_i _ h _ g;exact sL h g)|decide|omega|(refine ret_with [] ?_;simp only[↓eB,seval,go_sem,bne,yr_pis,isB])
 |mk k' a b p q s=>
  simp only[↓eB,seval,go_sem]
  try simp only[impB,impN]
  repeat' first|exact ck|with_reducible apply And.intro|intro _
  all_goals first|exact trivial|(rename_i h;first|exact oI h|exact nah h)|(rename_i _ h _ g;exact sL h g)|decide|omega|(refine ret_with [] ?_;simp only[↓eB,seval,go_sem,bne,yr_pis,isB])
noncomputable def yp_pis {X:Ctx} {w0:World}:Sy.Spec Tryz.prog X w0:=specD 66 Tryz.call66 ya_pis (fun p:(Cd)×(Int)×Unit=>yc_pis p.1 p.2.1) (fun p:(Cd)×(Int)×Unit=>yr_pis p.1 p.2.1) yn_pis y_pis
abbrev yc_Cond (m:Nat) (c:Cd):Prop:=c.dp<m∧okCn c∧(coT c).length≤1000000000
abbrev yr_Cond (m:Nat) (c:Cd):SV:=.one (.v (.string (bs (coT c))))
noncomputable abbrev ya_Cond:ArgC ((Cd)×Unit):=(acS (cCd) ac0)
abbrev yq_Cond (m:Nat):Prop:=CallsG Tryz.prog 28 powT ya_Cond (fun p:(Cd)×Unit=>yc_Cond m p.1) (fun p:(Cd)×Unit=>yr_Cond m p.1)
theorem yn_Cond (m:Nat):∀p:(Cd)×Unit,((fun p:(Cd)×Unit=>yr_Cond m p.1) p).names=[]:=by intro p;first|rfl|exact ex_names _|exact cd_names _
noncomputable def yg_Cond {X:Ctx} {w0:World} (m:Nat) (h:yq_Cond m) (hG:StaysN X w0 powT powB):Sy.Spec Tryz.prog X w0:=specG 28 Tryz.call28 powT ya_Cond (fun p:(Cd)×Unit=>yc_Cond m p.1) (fun p:(Cd)×Unit=>yr_Cond m p.1) (yn_Cond m) h hG.stays
abbrev yc_part (m:Nat) (c:Cd) (p:Bool):Prop:=c.dp<m∧okCn c∧(enT p (coT c)).length≤1000000000
abbrev yr_part (m:Nat) (c:Cd) (p:Bool):SV:=.one (.v (.string (bs (enT p (coT c)))))
noncomputable abbrev ya_part:ArgC ((Cd)×(Bool)×Unit):=(acS (cCd) (acS (cBool) ac0))
abbrev yq_part (m:Nat):Prop:=CallsG Tryz.prog 65 powT ya_part (fun p:(Cd)×(Bool)×Unit=>yc_part m p.1 p.2.1) (fun p:(Cd)×(Bool)×Unit=>yr_part m p.1 p.2.1)
theorem yn_part (m:Nat):∀p:(Cd)×(Bool)×Unit,((fun p:(Cd)×(Bool)×Unit=>yr_part m p.1 p.2.1) p).names=[]:=by intro p;first|rfl|exact ex_names _|exact cd_names _
noncomputable def yg_part {X:Ctx} {w0:World} (m:Nat) (h:yq_part m) (hG:StaysN X w0 powT powB):Sy.Spec Tryz.prog X w0:=specG 65 Tryz.call65 powT ya_part (fun p:(Cd)×(Bool)×Unit=>yc_part m p.1 p.2.1) (fun p:(Cd)×(Bool)×Unit=>yr_part m p.1 p.2.1) (yn_part m) h hG.stays
theorem y_part (m:Nat) (hE:yq_Cond m):yq_part m:=by
 rintro ⟨c,p,_u⟩ w fz xs hT hc hfz hl hx
 have hG:=staysN_clX powT_keptB powT_size (fz:=fz) hT
 refine calls_toL Tryz.func65 rfl w fz [(yg_Cond m hE hG)] [] ya_part (fun p:(Cd)×(Bool)×Unit=>yr_part m p.1 p.2.1) _ xs hfz hl hx (Nat.le_of_ble_eq_true rfl) ?_
 clear hx hl hfz xs
 simp only[Tryz.f65]
 obtain⟨h1,h2,h3⟩:=hc
 dsimp only at h1 h2 h3
 cases p with
 |true=>
  have h4:(coT c).length+2≤1000000000:=by simpa [enT] using h3
  simp only[↓eB,seval,go_sem,yg_Cond]
  try simp only[impB,impN]
  repeat' first|exact ck|with_reducible apply And.intro|intro _
  all_goals first|exact h2|(rename_i h;first|exact oI h|exact nah h)|(rename_i _ h _ g;exact sL h g)|decide|omega|(refine ret_with [] ?_;simp only[↓eB,seval,go_sem,bne,yr_part,enT])
 |false=>
  have h4:(coT c).length≤1000000000:=h3
  simp only[↓eB,seval,go_sem,yg_Cond]
  try simp only[impB,impN]
  repeat' first|exact ck|with_reducible apply And.intro|intro _
  all_goals first|exact h2|(rename_i h;first|exact oI h|exact nah h)|(rename_i _ h _ g;exact sL h g)|decide|omega|(refine ret_with [] ?_;simp only[↓eB,seval,go_sem,bne,yr_part,enT])
theorem kd10 (k:Int):k=0∨k=1∨k=2∨k=3∨k=4∨k=5∨k=6∨k=7∨k=8∨k=9∨((k==0)=false∧(k==1)=false∧(k==2)=false∧(k==3)=false∧(k==4)=false∧(k==5)=false∧(k==6)=false∧(k==7)=false∧(k==8)=false∧(k==9)=false):=by
 simp only[beq_eq_false_iff_ne];omega
theorem co0 (a b:Ex) (p q:Cd) (s:List UInt8):coT (.mk 0 a b p q s)=cmpT [32,61,61,32] a b:=by simp only[coT,if_true,if_false,Int.reduceBEq,Bool.false_eq_true]
theorem co1 (a b:Ex) (p q:Cd) (s:List UInt8):coT (.mk 1 a b p q s)=cmpT [32,33,61,32] a b:=by simp only[coT,if_true,if_false,Int.reduceBEq,Bool.false_eq_true]
theorem co2 (a b:Ex) (p q:Cd) (s:List UInt8):coT (.mk 2 a b p q s)=cmpT [32,60,32] a b:=by simp only[coT,if_true,if_false,Int.reduceBEq,Bool.false_eq_true]
theorem co3 (a b:Ex) (p q:Cd) (s:List UInt8):coT (.mk 3 a b p q s)=cmpT [32,60,61,32] a b:=by simp only[coT,if_true,if_false,Int.reduceBEq,Bool.false_eq_true]
theorem co4 (a b:Ex) (p q:Cd) (s:List UInt8):coT (.mk 4 a b p q s)=cmpT [32,62,32] a b:=by simp only[coT,if_true,if_false,Int.reduceBEq,Bool.false_eq_true]
theorem co5 (a b:Ex) (p q:Cd) (s:List UInt8):coT (.mk 5 a b p q s)=cmpT [32,62,61,32] a b:=by simp only[coT,if_true,if_false,Int.reduceBEq,Bool.false_eq_true]
theorem co6 (a b:Ex) (p q:Cd) (s:List UInt8):coT (.mk 6 a b p q s)=(enT (isB 7 p) (coT p)++[32,38,38,32])++enT (isB 7 q||isB 6 q) (coT q):=by simp only[coT,if_true,if_false,Int.reduceBEq,Bool.false_eq_true]
theorem co7 (a b:Ex) (p q:Cd) (s:List UInt8):coT (.mk 7 a b p q s)=(coT p++[32,124,124,32])++enT (isB 7 q) (coT q):=by simp only[coT,if_true,if_false,Int.reduceBEq,Bool.false_eq_true]
theorem co8 (a b:Ex) (p q:Cd) (s:List UInt8):coT (.mk 8 a b p q s)=(if isB 9 p=true then p.nm++[32,33,61,32,110,117,108,108] else [33]++enT (!isB 8 p) (coT p)):=by simp only[coT,if_true,if_false,Int.reduceBEq,Bool.false_eq_true]
theorem co9 (a b:Ex) (p q:Cd) (s:List UInt8):coT (.mk 9 a b p q s)=s++[32,61,61,32,110,117,108,108]:=by simp only[coT,if_true,if_false,Int.reduceBEq,Bool.false_eq_true]
set_option maxRecDepth 20000 in set_option maxHeartbeats 16000000 in
theorem y_CondS (m:Nat) (hE:yq_Cond m):yq_Cond (m+1):=by
 rintro ⟨c,_u⟩ w fz xs hT hc hfz hl hx
 have hG:=staysN_clX powT_keptB powT_size (fz:=fz) hT
 refine calls_toL Tryz.func28 rfl w fz [yp_pis,(yg_Expr m (y_Expr m) hG),(yg_Cond m hE hG),(yg_part m (y_part m hE) hG)] [] ya_Cond (fun p:(Cd)×Unit=>yr_Cond (m+1) p.1) _ xs hfz hl hx (Nat.le_of_ble_eq_true rfl) ?_
 clear hx hl hfz xs
 simp only[Tryz.f28]
 obtain⟨h1,h2,h3⟩:=hc
 dsimp only at h1 h2 h3
 cases c with
 |nil=>
  simp only[↓eB,seval,go_sem]
  try simp only[impB,impN]
  repeat' first|exact ck|with_reducible apply And.intro|intro _
  all_goals first|exact trivial|(rename_i h;first|exact oI h|exact nah h)|(rename_i _ h _ g;exact sL h g)|decide|omega|(refine ret_with [] ?_;simp only[↓eB,seval,go_sem,bne,yr_Cond,coT])
 |mk k a b p q s=>
  obtain⟨g1,g2,g3,g4⟩:=h2
  simp only[Cd.dp]at h1
  have d1:a.dp<m:=by omega
  have d2:b.dp<m:=by omega
  have d3:p.dp<m:=by omega
  have d4:q.dp<m:=by omega
  clear h1
  rcases kd10 k with rfl|rfl|rfl|rfl|rfl|rfl|rfl|rfl|rfl|rfl|⟨e0,e1,e2,e3,e4,e5,e6,e7,e8,e9⟩
  ·simp only[co0,cmpT,List.length_append,List.length_cons,List.length_nil]at h3
   simp only[↓eB,seval,go_sem,yp_pis,yg_Expr,yg_Cond,yg_part]
   try simp only[impB,impN]
   repeat' first|exact ck|with_reducible apply And.intro|intro _
   all_goals first|exact d1|exact d2|exact g1|exact g2|(simp only[List.length_append,List.length_cons,List.length_nil];omega)|(rename_i h;first|exact oI h|exact nah h)|(rename_i _ h _ g;exact sL h g)|decide|omega|(refine ret_with [] ?_;simp only[↓eB,seval,go_sem,bne,yr_Cond,co0,cmpT])
  ·simp only[co1,cmpT,List.length_append,List.length_cons,List.length_nil]at h3
   simp only[↓eB,seval,go_sem,yp_pis,yg_Expr,yg_Cond,yg_part]
   try simp only[impB,impN]
   repeat' first|exact ck|with_reducible apply And.intro|intro _
   all_goals first|exact d1|exact d2|exact g1|exact g2|(simp only[List.length_append,List.length_cons,List.length_nil];omega)|(rename_i h;first|exact oI h|exact nah h)|(rename_i _ h _ g;exact sL h g)|decide|omega|(refine ret_with [] ?_;simp only[↓eB,seval,go_sem,bne,yr_Cond,co1,cmpT])
  ·simp only[co2,cmpT,List.length_append,List.length_cons,List.length_nil]at h3
   simp only[↓eB,seval,go_sem,yp_pis,yg_Expr,yg_Cond,yg_part]
   try simp only[impB,impN]
   repeat' first|exact ck|with_reducible apply And.intro|intro _
   all_goals first|exact d1|exact d2|exact g1|exact g2|(simp only[List.length_append,List.length_cons,List.length_nil];omega)|(rename_i h;first|exact oI h|exact nah h)|(rename_i _ h _ g;exact sL h g)|decide|omega|(refine ret_with [] ?_;simp only[↓eB,seval,go_sem,bne,yr_Cond,co2,cmpT])
  ·simp only[co3,cmpT,List.length_append,List.length_cons,List.length_nil]at h3
   simp only[↓eB,seval,go_sem,yp_pis,yg_Expr,yg_Cond,yg_part]
   try simp only[impB,impN]
   repeat' first|exact ck|with_reducible apply And.intro|intro _
   all_goals first|exact d1|exact d2|exact g1|exact g2|(simp only[List.length_append,List.length_cons,List.length_nil];omega)|(rename_i h;first|exact oI h|exact nah h)|(rename_i _ h _ g;exact sL h g)|decide|omega|(refine ret_with [] ?_;simp only[↓eB,seval,go_sem,bne,yr_Cond,co3,cmpT])
  ·simp only[co4,cmpT,List.length_append,List.length_cons,List.length_nil]at h3
   simp only[↓eB,seval,go_sem,yp_pis,yg_Expr,yg_Cond,yg_part]
   try simp only[impB,impN]
   repeat' first|exact ck|with_reducible apply And.intro|intro _
   all_goals first|exact d1|exact d2|exact g1|exact g2|(simp only[List.length_append,List.length_cons,List.length_nil];omega)|(rename_i h;first|exact oI h|exact nah h)|(rename_i _ h _ g;exact sL h g)|decide|omega|(refine ret_with [] ?_;simp only[↓eB,seval,go_sem,bne,yr_Cond,co4,cmpT])
  ·simp only[co5,cmpT,List.length_append,List.length_cons,List.length_nil]at h3
   simp only[↓eB,seval,go_sem,yp_pis,yg_Expr,yg_Cond,yg_part]
   try simp only[impB,impN]
   repeat' first|exact ck|with_reducible apply And.intro|intro _
   all_goals first|exact d1|exact d2|exact g1|exact g2|(simp only[List.length_append,List.length_cons,List.length_nil];omega)|(rename_i h;first|exact oI h|exact nah h)|(rename_i _ h _ g;exact sL h g)|decide|omega|(refine ret_with [] ?_;simp only[↓eB,seval,go_sem,bne,yr_Cond,co5,cmpT])
  ·simp only[co6,List.length_append,List.length_cons,List.length_nil]at h3
   cases hq:isB 7 q with
   |true=>
    rw[hq]at h3
    simp only[Bool.true_or]at h3
    simp only[↓eB,seval,go_sem,yp_pis,yg_Expr,yg_Cond,yg_part,hq]
    try simp only[impB,impN]
    repeat' first|exact ck|with_reducible apply And.intro|intro _
    all_goals first|exact d3|exact d4|exact g3|exact g4|(simp only[List.length_append,List.length_cons,List.length_nil];omega)|(rename_i h;first|exact oI h|exact nah h)|(rename_i _ h _ g;exact sL h g)|decide|omega|(refine ret_with [] ?_;simp only[↓eB,seval,go_sem,bne,yr_Cond,co6,hq])
   |false=>
    rw[hq]at h3
    simp only[Bool.false_or]at h3
    simp only[↓eB,seval,go_sem,yp_pis,yg_Expr,yg_Cond,yg_part,hq]
    try simp only[impB,impN]
    repeat' first|exact ck|with_reducible apply And.intro|intro _
    all_goals first|exact d3|exact d4|exact g3|exact g4|(simp only[List.length_append,List.length_cons,List.length_nil];omega)|(rename_i h;first|exact oI h|exact nah h)|(rename_i _ h _ g;exact sL h g)|decide|omega|(refine ret_with [] ?_;simp only[↓eB,seval,go_sem,bne,yr_Cond,co6,hq])
  ·have l1:=enT_len (isB 7 q) (coT q)
   simp only[co7,List.length_append,List.length_cons,List.length_nil]at h3
   simp only[↓eB,seval,go_sem,yp_pis,yg_Expr,yg_Cond,yg_part]
   try simp only[impB,impN]
   repeat' first|exact ck|with_reducible apply And.intro|intro _
   all_goals first|exact d3|exact d4|exact g3|exact g4|(simp only[List.length_append,List.length_cons,List.length_nil];omega)|(rename_i h;first|exact oI h|exact nah h)|(rename_i _ h _ g;exact sL h g)|decide|omega|(refine ret_with [] ?_;simp only[↓eB,seval,go_sem,bne,yr_Cond,co7])
  ·rw[co8]at h3
   cases p with
   |nil=>
    simp only[isB,if_true,if_false,Int.reduceBEq,Bool.false_eq_true,List.length_append,List.length_cons,List.length_nil,Bool.not_false]at h3
    simp only[↓eB,seval,go_sem,yp_pis,yg_Expr,yg_Cond,yg_part,isB]
    try simp only[impB,impN]
    repeat' first|exact ck|with_reducible apply And.intro|intro _
    all_goals first|exact d3|exact g3|(simp only[List.length_append,List.length_cons,List.length_nil];omega)|(rename_i h;first|exact oI h|exact nah h)|(rename_i _ h _ g;exact sL h g)|decide|omega|(refine ret_with [] ?_;simp only[↓eB,seval,go_sem,bne,yr_Cond,co8,isB])
   |mk k' a' b' p' q' s'=>
    cases h9:(k'==9) with
    |true=>
     simp only[isB,h9,if_true,Cd.nm,List.length_append,List.length_cons,List.length_nil]at h3
     simp only[↓eB,seval,go_sem,yp_pis,yg_Expr,yg_Cond,yg_part,isB,h9]
     try simp only[impB,impN]
     repeat' first|exact ck|with_reducible apply And.intro|intro _
     all_goals first|(simp only[List.length_append,List.length_cons,List.length_nil];omega)|(rename_i h;first|exact oI h|exact nah h)|(rename_i _ h _ g;exact sL h g)|decide|omega|(refine ret_with [] ?_;simp only[↓eB,seval,go_sem,bne,yr_Cond,co8,isB,h9,Cd.nm])
    |false=>
     simp only[isB,h9,if_true,if_false,Int.reduceBEq,Bool.false_eq_true,List.length_append,List.length_cons,List.length_nil]at h3
     simp only[↓eB,seval,go_sem,yp_pis,yg_Expr,yg_Cond,yg_part,isB,h9]
     try simp only[impB,impN]
     repeat' first|exact ck|with_reducible apply And.intro|intro _
     all_goals first|exact d3|exact g3|(simp only[List.length_append,List.length_cons,List.length_nil];omega)|(rename_i h;first|exact oI h|exact nah h)|(rename_i _ h _ g;exact sL h g)|decide|omega|(refine ret_with [] ?_;simp only[↓eB,seval,go_sem,bne,yr_Cond,co8,isB,h9])
  ·simp only[co9,List.length_append,List.length_cons,List.length_nil]at h3
   simp only[↓eB,seval,go_sem,yp_pis,yg_Expr,yg_Cond,yg_part]
   try simp only[impB,impN]
   repeat' first|exact ck|with_reducible apply And.intro|intro _
   all_goals first|(simp only[List.length_append,List.length_cons,List.length_nil];omega)|(rename_i h;first|exact oI h|exact nah h)|(rename_i _ h _ g;exact sL h g)|decide|omega|(refine ret_with [] ?_;simp only[↓eB,seval,go_sem,bne,yr_Cond,co9])
  ·simp only[↓eB,seval,go_sem,yp_pis,yg_Expr,yg_Cond,yg_part,e0,e1,e2,e3,e4,e5,e6,e7,e8,e9]
   try simp only[impB,impN]
   repeat' first|exact ck|with_reducible apply And.intro|intro _
   all_goals first|exact trivial|(rename_i h;first|exact oI h|exact nah h)|(rename_i _ h _ g;exact sL h g)|decide|omega|(refine ret_with [] ?_;simp only[↓eB,seval,go_sem,bne,yr_Cond,coT,e0,e1,e2,e3,e4,e5,e6,e7,e8,e9])
theorem y_Cond:∀m:Nat,yq_Cond m
 |0=>by
  rintro ⟨e,_u⟩ w fz xs hT hc hfz hl hx
  exact absurd hc.1 (Nat.not_lt_zero _)
 |m+1=>y_CondS m (y_Cond m)
end Go.Proofs.YtbiepiggmagfcaaGreatDoor
