/- The document's text of a condition. Conditions: the numbers are of 64 bits, each node has its parts, the text is shorter than 10^9 bytes. -/
import Derived.Test.YtbiepiggmagfcaaDoorPr1
set_option linter.unusedVariables false
set_option linter.unusedSimpArgs false
namespace Go.Proofs.YtbiepiggmagfcaaDoor
open Go Go.Sy Go.RowKit
def rgC:Cd→Prop
 | .nil=>False
 | .mk k a b p q _=>k=9∨(k=8∧rgC p)∨((k=6∨k=7)∧rgC p∧rgC q)∨(0≤k∧k≤5∧rgE a∧rgE b)
theorem is_mk (j k:Int) (a b:Ex) (p q:Cd) (s:List UInt8):isB j (.mk k a b p q s)=(k==j):=rfl
abbrev yc_rCond (m:Nat) (c:Cd):Prop:=c.dp<m∧okCn c∧rgC c∧(coT c).length≤1000000000
abbrev yr_rCond (m:Nat) (c:Cd):SV:=.one (.v (.string (bs (coT c))))
noncomputable abbrev ya_rCond:ArgC ((Cd)×Unit):=(acS (cCd) ac0)
abbrev yq_rCond (m:Nat):Prop:=CallsY Tryd.prog 19 ya_rCond (fun p:(Cd)×Unit=>yc_rCond m p.1) (fun p:(Cd)×Unit=>yr_rCond m p.1)
theorem yn_rCond (m:Nat):∀p:(Cd)×Unit,((fun p:(Cd)×Unit=>yr_rCond m p.1) p).names=[]:=by intro p;first|rfl|exact ex_names _|exact cd_names _
noncomputable def yg_rCond {X:Ctx} {w0:World} (m:Nat) (h:yq_rCond m):Sy.Spec Tryd.prog X w0:=specD 19 Tryd.call19 ya_rCond (fun p:(Cd)×Unit=>yc_rCond m p.1) (fun p:(Cd)×Unit=>yr_rCond m p.1) (yn_rCond m) h
abbrev yc_rbr (m:Nat) (c:Cd) (p:Bool):Prop:=c.dp<m∧okCn c∧rgC c∧(enT p (coT c)).length≤1000000000
abbrev yr_rbr (m:Nat) (c:Cd) (p:Bool):SV:=.one (.v (.string (bs (enT p (coT c)))))
noncomputable abbrev ya_rbr:ArgC ((Cd)×(Bool)×Unit):=(acS (cCd) (acS (cBool) ac0))
abbrev yq_rbr (m:Nat):Prop:=CallsY Tryd.prog 54 ya_rbr (fun p:(Cd)×(Bool)×Unit=>yc_rbr m p.1 p.2.1) (fun p:(Cd)×(Bool)×Unit=>yr_rbr m p.1 p.2.1)
theorem yn_rbr (m:Nat):∀p:(Cd)×(Bool)×Unit,((fun p:(Cd)×(Bool)×Unit=>yr_rbr m p.1 p.2.1) p).names=[]:=by intro p;first|rfl|exact ex_names _|exact cd_names _
noncomputable def yg_rbr {X:Ctx} {w0:World} (m:Nat) (h:yq_rbr m):Sy.Spec Tryd.prog X w0:=specD 54 Tryd.call54 ya_rbr (fun p:(Cd)×(Bool)×Unit=>yc_rbr m p.1 p.2.1) (fun p:(Cd)×(Bool)×Unit=>yr_rbr m p.1 p.2.1) (yn_rbr m) h
attribute [local go_sem] cCd_d cCd_dp cCd_e cCd_n cEx_d cEx_dp cEx_e cEx_n cd_dmk cd_dnil cd_mk cd_nil ex_nil pairN_o pairO_n spFn_n yg_rCond
theorem y_rbr (m:Nat) (hE:yq_rCond m):yq_rbr m:=by
 rintro ⟨c,p,_u⟩ w fz xs hc hfz hl hx
 refine calls_toL Tryd.func54 rfl w fz [(yg_rCond m hE)] [] ya_rbr (fun p:(Cd)×(Bool)×Unit=>yr_rbr m p.1 p.2.1) _ xs hfz hl hx (Nat.le_of_ble_eq_true rfl) ?_
 clear hx hl hfz xs
 simp only[Tryd.f54]
 obtain⟨h1,h2,h2',h3⟩:=hc
 dsimp only at h1 h2 h2' h3
 cases p with
 |true=>
  have h4:(coT c).length+2≤1000000000:=by simpa [enT] using h3
  simp only[↓eB,seval,go_sem]
  try simp only[impB,impN]
  repeat' first|exact ck|with_reducible apply And.intro|intro _
  all_goals first|exact h2|exact h2'|(rename_i h;first|exact oI h|exact nah h)|(rename_i _ h _ g;exact sL h g)|decide|omega|(refine ret_with [] ?_;simp only[↓eB,seval,go_sem,bne,yr_rbr,enT])
 |false=>
  have h4:(coT c).length≤1000000000:=h3
  simp only[↓eB,seval,go_sem]
  try simp only[impB,impN]
  repeat' first|exact ck|with_reducible apply And.intro|intro _
  all_goals first|exact h2|exact h2'|(rename_i h;first|exact oI h|exact nah h)|(rename_i _ h _ g;exact sL h g)|decide|omega|(refine ret_with [] ?_;simp only[↓eB,seval,go_sem,bne,yr_rbr,enT])
set_option maxRecDepth 20000 in set_option maxHeartbeats 16000000 in
theorem y_rCondS (m:Nat) (hE:yq_rCond m):yq_rCond (m+1):=by
 rintro ⟨c,_u⟩ w fz xs hc hfz hl hx
 refine calls_toL Tryd.func19 rfl w fz [(yg_rExpr m (y_rExpr m)),(yg_rCond m hE),(yg_rbr m (y_rbr m hE))] [] ya_rCond (fun p:(Cd)×Unit=>yr_rCond (m+1) p.1) _ xs hfz hl hx (Nat.le_of_ble_eq_true rfl) ?_
 clear hx hl hfz xs
 simp only[Tryd.f19]
 obtain⟨h1,h2,hr,h3⟩:=hc
 dsimp only at h1 h2 hr h3
 cases c with
 |nil=>exact hr.elim
 |mk k a b p q s=>
  obtain⟨g1,g2,g3,g4⟩:=h2
  simp only[Cd.dp]at h1
  have d1:a.dp<m:=by omega
  have d2:b.dp<m:=by omega
  have d3:p.dp<m:=by omega
  have d4:q.dp<m:=by omega
  clear h1
  rcases hr with rfl|⟨rfl,r1⟩|⟨rfl|rfl,r1,r2⟩|⟨k1,k2,r1,r2⟩
  ·simp only[co9,List.length_append,List.length_cons,List.length_nil]at h3
   simp only[↓eB,seval,go_sem,yg_rExpr,yg_rbr]
   try simp only[impB,impN]
   repeat' first|exact ck|with_reducible apply And.intro|intro _
   all_goals first|(simp only[List.length_append,List.length_cons,List.length_nil];omega)|(rename_i h;first|exact oI h|exact nah h)|(rename_i _ h _ g;exact sL h g)|decide|omega|(refine ret_with [] ?_;simp only[↓eB,seval,go_sem,bne,yr_rCond,co9])
  ·rw[co8]at h3
   cases p with
   |nil=>exact r1.elim
   |mk k' a' b' p' q' s'=>
    cases h9:(k'==9) with
    |true=>
     simp only[isB,h9,if_true,Cd.nm,List.length_append,List.length_cons,List.length_nil]at h3
     simp only[↓eB,seval,go_sem,yg_rExpr,yg_rbr,h9]
     try simp only[impB,impN]
     repeat' first|exact ck|with_reducible apply And.intro|intro _
     all_goals first|(simp only[List.length_append,List.length_cons,List.length_nil];omega)|(rename_i h;first|exact oI h|exact nah h)|(rename_i _ h _ g;exact sL h g)|decide|omega|(refine ret_with [] ?_;simp only[↓eB,seval,go_sem,bne,yr_rCond,co8,isB,h9,Cd.nm])
    |false=>
     simp only[isB,h9,if_true,if_false,Int.reduceBEq,Bool.false_eq_true,List.length_append,List.length_cons,List.length_nil]at h3
     have hn:(k' != 8) = !(k'==8):=rfl
     simp only[↓eB,seval,go_sem,yg_rExpr,yg_rbr,h9,hn]
     try simp only[impB,impN]
     repeat' first|exact ck|with_reducible apply And.intro|intro _
     all_goals first|exact d3|exact g3|exact r1|(simp only[List.length_append,List.length_cons,List.length_nil];omega)|(rename_i h;first|exact oI h|exact nah h)|(rename_i _ h _ g;exact sL h g)|decide|omega|(refine ret_with [] ?_;simp only[↓eB,seval,go_sem,bne,yr_rCond,co8,isB,h9])
  ·cases p with
   |nil=>exact r1.elim
   |mk k' a' b' p' q' s'=>
    cases q with
    |nil=>exact r2.elim
    |mk k2 a2 b2 p2 q2 s2=>
     simp only[co6,is_mk,List.length_append,List.length_cons,List.length_nil]at h3
     cases hq:(k2==7) with
     |true=>
      rw[hq,Bool.true_or]at h3
      simp only[↓eB,seval,go_sem,yg_rExpr,yg_rbr,hq]
      try simp only[impB,impN]
      repeat' first|exact ck|with_reducible apply And.intro|intro _
      all_goals first|exact d3|exact d4|exact g3|exact g4|exact r1|exact r2|(simp only[List.length_append,List.length_cons,List.length_nil];omega)|(rename_i h;first|exact oI h|exact nah h)|(rename_i _ h _ g;exact sL h g)|decide|omega|(refine ret_with [] ?_;simp only[↓eB,seval,go_sem,bne,yr_rCond,co6,is_mk,hq,List.append_assoc])
     |false=>
      rw[hq,Bool.false_or]at h3
      simp only[↓eB,seval,go_sem,yg_rExpr,yg_rbr,hq]
      try simp only[impB,impN]
      repeat' first|exact ck|with_reducible apply And.intro|intro _
      all_goals first|exact d3|exact d4|exact g3|exact g4|exact r1|exact r2|(simp only[List.length_append,List.length_cons,List.length_nil];omega)|(rename_i h;first|exact oI h|exact nah h)|(rename_i _ h _ g;exact sL h g)|decide|omega|(refine ret_with [] ?_;simp only[↓eB,seval,go_sem,bne,yr_rCond,co6,is_mk,hq,List.append_assoc])
  ·cases q with
   |nil=>exact r2.elim
   |mk k2 a2 b2 p2 q2 s2=>
    have l1:=enT_len (k2==7) (coT (.mk k2 a2 b2 p2 q2 s2))
    simp only[co7,is_mk,List.length_append,List.length_cons,List.length_nil]at h3
    have e0:enT false (coT p)=coT p:=rfl
    simp only[↓eB,seval,go_sem,yg_rExpr,yg_rbr,e0]
    try simp only[impB,impN]
    repeat' first|exact ck|with_reducible apply And.intro|intro _
    all_goals first|exact d3|exact d4|exact g3|exact g4|exact r1|exact r2|(rw[e0];omega)|(simp only[List.length_append,List.length_cons,List.length_nil];omega)|(rename_i h;first|exact oI h|exact nah h)|(rename_i _ h _ g;exact sL h g)|decide|omega|(refine ret_with [] ?_;simp only[↓eB,seval,go_sem,bne,yr_rCond,co7,is_mk,List.append_assoc])
  ·have k3:k=0∨k=1∨k=2∨k=3∨k=4∨k=5:=by omega
   clear k1 k2
   rcases k3 with rfl|rfl|rfl|rfl|rfl|rfl
   ·simp only[co0,cmpT,List.length_append,List.length_cons,List.length_nil]at h3
    simp only[↓eB,seval,go_sem,yg_rExpr,yg_rbr]
    try simp only[impB,impN]
    repeat' first|exact ck|with_reducible apply And.intro|intro _
    all_goals first|exact d1|exact d2|exact g1|exact g2|exact r1|exact r2|(simp only[List.length_append,List.length_cons,List.length_nil];omega)|(rename_i h;first|exact oI h|exact nah h)|(rename_i _ h _ g;exact sL h g)|decide|omega|(refine ret_with [] ?_;simp only[↓eB,seval,go_sem,bne,yr_rCond,co0,cmpT,List.append_assoc])
   ·simp only[co1,cmpT,List.length_append,List.length_cons,List.length_nil]at h3
    simp only[↓eB,seval,go_sem,yg_rExpr,yg_rbr]
    try simp only[impB,impN]
    repeat' first|exact ck|with_reducible apply And.intro|intro _
    all_goals first|exact d1|exact d2|exact g1|exact g2|exact r1|exact r2|(simp only[List.length_append,List.length_cons,List.length_nil];omega)|(rename_i h;first|exact oI h|exact nah h)|(rename_i _ h _ g;exact sL h g)|decide|omega|(refine ret_with [] ?_;simp only[↓eB,seval,go_sem,bne,yr_rCond,co1,cmpT,List.append_assoc])
   ·simp only[co2,cmpT,List.length_append,List.length_cons,List.length_nil]at h3
    simp only[↓eB,seval,go_sem,yg_rExpr,yg_rbr]
    try simp only[impB,impN]
    repeat' first|exact ck|with_reducible apply And.intro|intro _
    all_goals first|exact d1|exact d2|exact g1|exact g2|exact r1|exact r2|(simp only[List.length_append,List.length_cons,List.length_nil];omega)|(rename_i h;first|exact oI h|exact nah h)|(rename_i _ h _ g;exact sL h g)|decide|omega|(refine ret_with [] ?_;simp only[↓eB,seval,go_sem,bne,yr_rCond,co2,cmpT,List.append_assoc])
   ·simp only[co3,cmpT,List.length_append,List.length_cons,List.length_nil]at h3
    simp only[↓eB,seval,go_sem,yg_rExpr,yg_rbr]
    try simp only[impB,impN]
    repeat' first|exact ck|with_reducible apply And.intro|intro _
    all_goals first|exact d1|exact d2|exact g1|exact g2|exact r1|exact r2|(simp only[List.length_append,List.length_cons,List.length_nil];omega)|(rename_i h;first|exact oI h|exact nah h)|(rename_i _ h _ g;exact sL h g)|decide|omega|(refine ret_with [] ?_;simp only[↓eB,seval,go_sem,bne,yr_rCond,co3,cmpT,List.append_assoc])
   ·simp only[co4,cmpT,List.length_append,List.length_cons,List.length_nil]at h3
    simp only[↓eB,seval,go_sem,yg_rExpr,yg_rbr]
    try simp only[impB,impN]
    repeat' first|exact ck|with_reducible apply And.intro|intro _
    all_goals first|exact d1|exact d2|exact g1|exact g2|exact r1|exact r2|(simp only[List.length_append,List.length_cons,List.length_nil];omega)|(rename_i h;first|exact oI h|exact nah h)|(rename_i _ h _ g;exact sL h g)|decide|omega|(refine ret_with [] ?_;simp only[↓eB,seval,go_sem,bne,yr_rCond,co4,cmpT,List.append_assoc])
   ·simp only[co5,cmpT,List.length_append,List.length_cons,List.length_nil]at h3
    simp only[↓eB,seval,go_sem,yg_rExpr,yg_rbr]
    try simp only[impB,impN]
    repeat' first|exact ck|with_reducible apply And.intro|intro _
    all_goals first|exact d1|exact d2|exact g1|exact g2|exact r1|exact r2|(simp only[List.length_append,List.length_cons,List.length_nil];omega)|(rename_i h;first|exact oI h|exact nah h)|(rename_i _ h _ g;exact sL h g)|decide|omega|(refine ret_with [] ?_;simp only[↓eB,seval,go_sem,bne,yr_rCond,co5,cmpT,List.append_assoc])
theorem y_rCond:∀m:Nat,yq_rCond m
 |0=>by
  rintro ⟨e,_u⟩ w fz xs hc hfz hl hx
  exact absurd hc.1 (Nat.not_lt_zero _)
 |m+1=>y_rCondS m (y_rCond m)
end Go.Proofs.YtbiepiggmagfcaaDoor
