/- The document's text of an expression. Conditions: the numbers are of 64 bits, each node has its parts, the text is shorter than 10^9 bytes. -/
import Derived.Test.YtbiepiggmagfcaaDoorPx2
import Derived.Test.YtbiepiggmagfcaaDoorDc
set_option linter.unusedVariables false
set_option linter.unusedSimpArgs false
namespace Go.Proofs.YtbiepiggmagfcaaDoor
open Go Go.Sy Go.RowKit
theorem ex_dmk (k n:Int) (s:List UInt8) (a b:Ex):(Ex.mk k n s a b).d= .pt (some [.v (.int .i64 k),.v (.int .i64 n),.v (.string (bs s)),a.d,b.d]):=rfl
def rgE:Ex→Prop
 | .nil=>False
 | .mk k _ _ a b=>k=0∨k=1∨(k=7∧rgE a)∨(2≤k∧k≤6∧rgE a∧rgE b)
theorem rg_nn {e:Ex} (h:rgE e):e≠.nil:=by rintro rfl;exact h
theorem sp_eq (k n:Int) (s:List UInt8) (a b:Ex):(suB (.mk k n s a b)||prdB (.mk k n s a b))=(decide (2≤k)&&decide (k≤6)):=by
 rw[Bool.eq_iff_iff]
 simp only[suB,prdB,Bool.or_eq_true,beq_iff_eq,Bool.and_eq_true,decide_eq_true_eq]
 omega
theorem pr_eq (k n:Int) (s:List UInt8) (a b:Ex):prdB (.mk k n s a b)=(decide (4≤k)&&decide (k≤6)):=by
 rw[Bool.eq_iff_iff]
 simp only[prdB,Bool.or_eq_true,beq_iff_eq,Bool.and_eq_true,decide_eq_true_eq]
 omega
abbrev yc_rlow (e:Ex):Prop:=e≠.nil
abbrev yr_rlow (e:Ex):SV:=.one (.v (.bool (suB e)))
noncomputable abbrev ya_rlow:ArgC ((Ex)×Unit):=(acS (cEx) ac0)
abbrev yq_rlow:Prop:=CallsY Tryd.prog 31 ya_rlow (fun p:(Ex)×Unit=>yc_rlow p.1) (fun p:(Ex)×Unit=>yr_rlow p.1)
theorem yn_rlow:∀p:(Ex)×Unit,((fun p:(Ex)×Unit=>yr_rlow p.1) p).names=[]:=by intro p;first|rfl|exact ex_names _|exact cd_names _
attribute [local go_sem] cEx_d cEx_dp cEx_e cEx_n ex_dmk ex_mk ex_nil pairN_o pairO_n spFn_n
theorem y_rlow:yq_rlow:=by
 rintro ⟨e,_u⟩ w fz xs hc hfz hl hx
 refine calls_toL Tryd.func31 rfl w fz [] [] ya_rlow (fun p:(Ex)×Unit=>yr_rlow p.1) _ xs hfz hl hx (Nat.le_of_ble_eq_true rfl) ?_
 clear hx hl hfz xs
 simp only[Tryd.f31]
 cases e with
 |nil=>exact absurd rfl hc
 |mk k n s a b=>
  cases h1:(k==2) with
  |true=>
   simp only[↓eB,seval,go_sem,h1]
   try simp only[impB,impN]
   repeat' first|exact ck|with_reducible apply And.intro|intro _
   all_goals first|exact trivial|(rename_i h;first|exact oI h|exact nah h)|(rename_i _ h _ g;exact sL h g)|decide|omega|(refine ret_with [] ?_;simp only[↓eB,seval,go_sem,bne,yr_rlow,suB,h1])
  |false=>
   simp only[↓eB,seval,go_sem,h1]
   try simp only[impB,impN]
   repeat' first|exact ck|with_reducible apply And.intro|intro _
   all_goals first|exact trivial|(rename_i h;first|exact oI h|exact nah h)|(rename_i _ h _ g;exact sL h g)|decide|omega|(refine ret_with [] ?_;simp only[↓eB,seval,go_sem,bne,yr_rlow,suB,h1])
noncomputable def yp_rlow {X:Ctx} {w0:World}:Sy.Spec Tryd.prog X w0:=specD 31 Tryd.call31 ya_rlow (fun p:(Ex)×Unit=>yc_rlow p.1) (fun p:(Ex)×Unit=>yr_rlow p.1) yn_rlow y_rlow
abbrev yc_rhigh (e:Ex):Prop:=e≠.nil
abbrev yr_rhigh (e:Ex):SV:=.one (.v (.bool (prdB e)))
noncomputable abbrev ya_rhigh:ArgC ((Ex)×Unit):=(acS (cEx) ac0)
abbrev yq_rhigh:Prop:=CallsY Tryd.prog 32 ya_rhigh (fun p:(Ex)×Unit=>yc_rhigh p.1) (fun p:(Ex)×Unit=>yr_rhigh p.1)
theorem yn_rhigh:∀p:(Ex)×Unit,((fun p:(Ex)×Unit=>yr_rhigh p.1) p).names=[]:=by intro p;first|rfl|exact ex_names _|exact cd_names _
theorem y_rhigh:yq_rhigh:=by
 rintro ⟨e,_u⟩ w fz xs hc hfz hl hx
 refine calls_toL Tryd.func32 rfl w fz [] [] ya_rhigh (fun p:(Ex)×Unit=>yr_rhigh p.1) _ xs hfz hl hx (Nat.le_of_ble_eq_true rfl) ?_
 clear hx hl hfz xs
 simp only[Tryd.f32]
 cases e with
 |nil=>exact absurd rfl hc
 |mk k n s a b=>
  have hp:=pr_eq k n s a b
  cases h1:decide ((4:Int)≤k) with
  |true=>
   rw[h1]at hp
   simp only[↓eB,seval,go_sem,h1]
   try simp only[impB,impN]
   repeat' first|exact ck|with_reducible apply And.intro|intro _
   all_goals first|exact trivial|(rename_i h;first|exact oI h|exact nah h)|(rename_i _ h _ g;exact sL h g)|decide|omega|(refine ret_with [] ?_;simp only[↓eB,seval,go_sem,bne,yr_rhigh,hp])
  |false=>
   rw[h1]at hp
   simp only[↓eB,seval,go_sem,h1]
   try simp only[impB,impN]
   repeat' first|exact ck|with_reducible apply And.intro|intro _
   all_goals first|exact trivial|(rename_i h;first|exact oI h|exact nah h)|(rename_i _ h _ g;exact sL h g)|decide|omega|(refine ret_with [] ?_;simp only[↓eB,seval,go_sem,bne,yr_rhigh,hp])
noncomputable def yp_rhigh {X:Ctx} {w0:World}:Sy.Spec Tryd.prog X w0:=specD 32 Tryd.call32 ya_rhigh (fun p:(Ex)×Unit=>yc_rhigh p.1) (fun p:(Ex)×Unit=>yr_rhigh p.1) yn_rhigh y_rhigh
abbrev yc_rExpr (m:Nat) (e:Ex):Prop:=e.dp<m∧okN e∧rgE e∧(exT e).length≤1000000000
abbrev yr_rExpr (m:Nat) (e:Ex):SV:=.one (.v (.string (bs (exT e))))
noncomputable abbrev ya_rExpr:ArgC ((Ex)×Unit):=(acS (cEx) ac0)
abbrev yq_rExpr (m:Nat):Prop:=CallsY Tryd.prog 11 ya_rExpr (fun p:(Ex)×Unit=>yc_rExpr m p.1) (fun p:(Ex)×Unit=>yr_rExpr m p.1)
theorem yn_rExpr (m:Nat):∀p:(Ex)×Unit,((fun p:(Ex)×Unit=>yr_rExpr m p.1) p).names=[]:=by intro p;first|rfl|exact ex_names _|exact cd_names _
noncomputable def yg_rExpr {X:Ctx} {w0:World} (m:Nat) (h:yq_rExpr m):Sy.Spec Tryd.prog X w0:=specD 11 Tryd.call11 ya_rExpr (fun p:(Ex)×Unit=>yc_rExpr m p.1) (fun p:(Ex)×Unit=>yr_rExpr m p.1) (yn_rExpr m) h
abbrev yc_rpart (m:Nat) (e:Ex) (p:Bool):Prop:=e.dp<m∧okN e∧rgE e∧(enT p (exT e)).length≤1000000000
abbrev yr_rpart (m:Nat) (e:Ex) (p:Bool):SV:=.one (.v (.string (bs (enT p (exT e)))))
noncomputable abbrev ya_rpart:ArgC ((Ex)×(Bool)×Unit):=(acS (cEx) (acS (cBool) ac0))
abbrev yq_rpart (m:Nat):Prop:=CallsY Tryd.prog 30 ya_rpart (fun p:(Ex)×(Bool)×Unit=>yc_rpart m p.1 p.2.1) (fun p:(Ex)×(Bool)×Unit=>yr_rpart m p.1 p.2.1)
theorem yn_rpart (m:Nat):∀p:(Ex)×(Bool)×Unit,((fun p:(Ex)×(Bool)×Unit=>yr_rpart m p.1 p.2.1) p).names=[]:=by intro p;first|rfl|exact ex_names _|exact cd_names _
noncomputable def yg_rpart {X:Ctx} {w0:World} (m:Nat) (h:yq_rpart m):Sy.Spec Tryd.prog X w0:=specD 30 Tryd.call30 ya_rpart (fun p:(Ex)×(Bool)×Unit=>yc_rpart m p.1 p.2.1) (fun p:(Ex)×(Bool)×Unit=>yr_rpart m p.1 p.2.1) (yn_rpart m) h
theorem y_rpart (m:Nat) (hE:yq_rExpr m):yq_rpart m:=by
 rintro ⟨e,p,_u⟩ w fz xs hc hfz hl hx
 refine calls_toL Tryd.func30 rfl w fz [(yg_rExpr m hE)] [] ya_rpart (fun p:(Ex)×(Bool)×Unit=>yr_rpart m p.1 p.2.1) _ xs hfz hl hx (Nat.le_of_ble_eq_true rfl) ?_
 clear hx hl hfz xs
 simp only[Tryd.f30]
 obtain⟨h1,h2,h2',h3⟩:=hc
 dsimp only at h1 h2 h2' h3
 cases p with
 |true=>
  have h4:(exT e).length+2≤1000000000:=by simpa [enT] using h3
  simp only[↓eB,seval,go_sem,yg_rExpr]
  try simp only[impB,impN]
  repeat' first|exact ck|with_reducible apply And.intro|intro _
  all_goals first|exact h2|exact h2'|(rename_i h;first|exact oI h|exact nah h)|(rename_i _ h _ g;exact sL h g)|decide|omega|(refine ret_with [] ?_;simp only[↓eB,seval,go_sem,bne,yr_rpart,enT])
 |false=>
  have h4:(exT e).length≤1000000000:=h3
  simp only[↓eB,seval,go_sem,yg_rExpr]
  try simp only[impB,impN]
  repeat' first|exact ck|with_reducible apply And.intro|intro _
  all_goals first|exact h2|exact h2'|(rename_i h;first|exact oI h|exact nah h)|(rename_i _ h _ g;exact sL h g)|decide|omega|(refine ret_with [] ?_;simp only[↓eB,seval,go_sem,bne,yr_rpart,enT])
set_option maxRecDepth 20000 in set_option maxHeartbeats 16000000 in
theorem y_rExprS (m:Nat) (hE:yq_rExpr m):yq_rExpr (m+1):=by
 rintro ⟨e,_u⟩ w fz xs hc hfz hl hx
 refine calls_toL Tryd.func11 rfl w fz [yp_Dc,yp_rlow,yp_rhigh,(yg_rExpr m hE),(yg_rpart m (y_rpart m hE))] [] ya_rExpr (fun p:(Ex)×Unit=>yr_rExpr (m+1) p.1) _ xs hfz hl hx (Nat.le_of_ble_eq_true rfl) ?_
 clear hx hl hfz xs
 simp only[Tryd.f11]
 obtain⟨h1,h2,hr,h3⟩:=hc
 dsimp only at h1 h2 hr h3
 cases e with
 |nil=>exact hr.elim
 |mk k n s a b=>
  obtain⟨g1,g2,g3⟩:=h2
  simp only[Ex.dp]at h1
  have d1:a.dp<m:=by omega
  have d2:b.dp<m:=by omega
  clear h1
  rcases hr with rfl|rfl|⟨rfl,r1⟩|⟨k1,k2,r1,r2⟩
  ·simp only[↓eB,seval,go_sem,yp_Dc,yp_rlow,yp_rhigh,yg_rExpr,yg_rpart]
   try simp only[impB,impN]
   repeat' first|exact ck|with_reducible apply And.intro|intro _
   all_goals first|exact g1|(rename_i h;first|exact oI h|exact nah h)|(rename_i _ h _ g;exact sL h g)|decide|omega|(refine ret_with [] ?_;simp only[↓eB,seval,go_sem,bne,yr_rExpr,ex0])
  ·simp only[↓eB,seval,go_sem,yp_Dc,yp_rlow,yp_rhigh,yg_rExpr,yg_rpart]
   try simp only[impB,impN]
   repeat' first|exact ck|with_reducible apply And.intro|intro _
   all_goals first|exact trivial|(rename_i h;first|exact oI h|exact nah h)|(rename_i _ h _ g;exact sL h g)|decide|omega|(refine ret_with [] ?_;simp only[↓eB,seval,go_sem,bne,yr_rExpr,ex1])
  ·simp only[ex7,List.length_append,List.length_cons,List.length_nil]at h3
   cases a with
   |nil=>exact r1.elim
   |mk ka na sa aa ab=>
    have hp:=sp_eq ka na sa aa ab
    rw[hp]at h3
    cases h4:decide ((2:Int)≤ka) with
    |true=>
     rw[h4,Bool.true_and]at hp h3
     simp only[↓eB,seval,go_sem,yp_Dc,yp_rlow,yp_rhigh,yg_rExpr,yg_rpart,h4]
     try simp only[impB,impN]
     repeat' first|exact ck|with_reducible apply And.intro|intro _
     all_goals first|exact d1|exact g2|exact r1|(simp only[List.length_append,List.length_cons,List.length_nil];omega)|(rename_i h;first|exact oI h|exact nah h)|(rename_i _ h _ g;exact sL h g)|decide|omega|(refine ret_with [] ?_;simp only[↓eB,seval,go_sem,bne,yr_rExpr,ex7,hp])
    |false=>
     rw[h4,Bool.false_and]at hp h3
     simp only[↓eB,seval,go_sem,yp_Dc,yp_rlow,yp_rhigh,yg_rExpr,yg_rpart,h4]
     try simp only[impB,impN]
     repeat' first|exact ck|with_reducible apply And.intro|intro _
     all_goals first|exact d1|exact g2|exact r1|(simp only[List.length_append,List.length_cons,List.length_nil];omega)|(rename_i h;first|exact oI h|exact nah h)|(rename_i _ h _ g;exact sL h g)|decide|omega|(refine ret_with [] ?_;simp only[↓eB,seval,go_sem,bne,yr_rExpr,ex7,hp])
  ·have k3:k=2∨k=3∨k=4∨k=5∨k=6:=by omega
   have n1:=rg_nn r1
   have n2:=rg_nn r2
   clear k1 k2
   rcases k3 with rfl|rfl|rfl|rfl|rfl
   ·have l1:=enT_len (suB b) (exT b)
    simp only[ex2,List.length_append,List.length_cons,List.length_nil]at h3
    have e0:enT false (exT a)=exT a:=rfl
    have hs:suB (.mk 2 n s a b)=true:=rfl
    simp only[↓eB,seval,go_sem,yp_Dc,yp_rlow,yp_rhigh,yg_rExpr,yg_rpart,hs,e0]
    try simp only[impB,impN]
    repeat' first|exact ck|with_reducible apply And.intro|intro _
    all_goals first|exact d1|exact d2|exact g2|exact g3|exact r1|exact r2|(rename_i h;exact n2 h)|(rw[e0];omega)|(simp only[List.length_append,List.length_cons,List.length_nil];omega)|(rename_i h;first|exact oI h|exact nah h)|(rename_i _ h _ g;exact sL h g)|decide|omega|(refine ret_with [] ?_;simp only[↓eB,seval,go_sem,bne,yr_rExpr,ex2,List.append_assoc])
   ·have l1:=enT_len (suB b) (exT b)
    simp only[ex3,List.length_append,List.length_cons,List.length_nil]at h3
    have e0:enT false (exT a)=exT a:=rfl
    have hs:suB (.mk 3 n s a b)=true:=rfl
    simp only[↓eB,seval,go_sem,yp_Dc,yp_rlow,yp_rhigh,yg_rExpr,yg_rpart,hs,e0]
    try simp only[impB,impN]
    repeat' first|exact ck|with_reducible apply And.intro|intro _
    all_goals first|exact d1|exact d2|exact g2|exact g3|exact r1|exact r2|(rename_i h;exact n2 h)|(rw[e0];omega)|(simp only[List.length_append,List.length_cons,List.length_nil];omega)|(rename_i h;first|exact oI h|exact nah h)|(rename_i _ h _ g;exact sL h g)|decide|omega|(refine ret_with [] ?_;simp only[↓eB,seval,go_sem,bne,yr_rExpr,ex3,List.append_assoc])
   ·simp only[ex4,faT,List.length_append,List.length_cons,List.length_nil]at h3
    have hs:suB (.mk 4 n s a b)=false:=rfl
    cases hb:suB b with
    |true=>
     rw[hb,Bool.true_or]at h3
     simp only[↓eB,seval,go_sem,yp_Dc,yp_rlow,yp_rhigh,yg_rExpr,yg_rpart,hs,hb]
     try simp only[impB,impN]
     repeat' first|exact ck|with_reducible apply And.intro|intro _
     all_goals first|exact d1|exact d2|exact g2|exact g3|exact r1|exact r2|(rename_i h;exact n1 h)|(rename_i h;exact n2 h)|(simp only[List.length_append,List.length_cons,List.length_nil];omega)|(rename_i h;first|exact oI h|exact nah h)|(rename_i _ h _ g;exact sL h g)|decide|omega|(refine ret_with [] ?_;simp only[↓eB,seval,go_sem,bne,yr_rExpr,ex4,faT,hb,List.append_assoc])
    |false=>
     rw[hb,Bool.false_or]at h3
     simp only[↓eB,seval,go_sem,yp_Dc,yp_rlow,yp_rhigh,yg_rExpr,yg_rpart,hs,hb]
     try simp only[impB,impN]
     repeat' first|exact ck|with_reducible apply And.intro|intro _
     all_goals first|exact d1|exact d2|exact g2|exact g3|exact r1|exact r2|(rename_i h;exact n1 h)|(rename_i h;exact n2 h)|(simp only[List.length_append,List.length_cons,List.length_nil];omega)|(rename_i h;first|exact oI h|exact nah h)|(rename_i _ h _ g;exact sL h g)|decide|omega|(refine ret_with [] ?_;simp only[↓eB,seval,go_sem,bne,yr_rExpr,ex4,faT,hb,List.append_assoc])
   ·simp only[ex5,faT,List.length_append,List.length_cons,List.length_nil]at h3
    have hs:suB (.mk 5 n s a b)=false:=rfl
    cases hb:suB b with
    |true=>
     rw[hb,Bool.true_or]at h3
     simp only[↓eB,seval,go_sem,yp_Dc,yp_rlow,yp_rhigh,yg_rExpr,yg_rpart,hs,hb]
     try simp only[impB,impN]
     repeat' first|exact ck|with_reducible apply And.intro|intro _
     all_goals first|exact d1|exact d2|exact g2|exact g3|exact r1|exact r2|(rename_i h;exact n1 h)|(rename_i h;exact n2 h)|(simp only[List.length_append,List.length_cons,List.length_nil];omega)|(rename_i h;first|exact oI h|exact nah h)|(rename_i _ h _ g;exact sL h g)|decide|omega|(refine ret_with [] ?_;simp only[↓eB,seval,go_sem,bne,yr_rExpr,ex5,faT,hb,List.append_assoc])
    |false=>
     rw[hb,Bool.false_or]at h3
     simp only[↓eB,seval,go_sem,yp_Dc,yp_rlow,yp_rhigh,yg_rExpr,yg_rpart,hs,hb]
     try simp only[impB,impN]
     repeat' first|exact ck|with_reducible apply And.intro|intro _
     all_goals first|exact d1|exact d2|exact g2|exact g3|exact r1|exact r2|(rename_i h;exact n1 h)|(rename_i h;exact n2 h)|(simp only[List.length_append,List.length_cons,List.length_nil];omega)|(rename_i h;first|exact oI h|exact nah h)|(rename_i _ h _ g;exact sL h g)|decide|omega|(refine ret_with [] ?_;simp only[↓eB,seval,go_sem,bne,yr_rExpr,ex5,faT,hb,List.append_assoc])
   ·simp only[ex6,faT,List.length_append,List.length_cons,List.length_nil]at h3
    have hs:suB (.mk 6 n s a b)=false:=rfl
    cases hb:suB b with
    |true=>
     rw[hb,Bool.true_or]at h3
     simp only[↓eB,seval,go_sem,yp_Dc,yp_rlow,yp_rhigh,yg_rExpr,yg_rpart,hs,hb]
     try simp only[impB,impN]
     repeat' first|exact ck|with_reducible apply And.intro|intro _
     all_goals first|exact d1|exact d2|exact g2|exact g3|exact r1|exact r2|(rename_i h;exact n1 h)|(rename_i h;exact n2 h)|(simp only[List.length_append,List.length_cons,List.length_nil];omega)|(rename_i h;first|exact oI h|exact nah h)|(rename_i _ h _ g;exact sL h g)|decide|omega|(refine ret_with [] ?_;simp only[↓eB,seval,go_sem,bne,yr_rExpr,ex6,faT,hb,List.append_assoc])
    |false=>
     rw[hb,Bool.false_or]at h3
     simp only[↓eB,seval,go_sem,yp_Dc,yp_rlow,yp_rhigh,yg_rExpr,yg_rpart,hs,hb]
     try simp only[impB,impN]
     repeat' first|exact ck|with_reducible apply And.intro|intro _
     all_goals first|exact d1|exact d2|exact g2|exact g3|exact r1|exact r2|(rename_i h;exact n1 h)|(rename_i h;exact n2 h)|(simp only[List.length_append,List.length_cons,List.length_nil];omega)|(rename_i h;first|exact oI h|exact nah h)|(rename_i _ h _ g;exact sL h g)|decide|omega|(refine ret_with [] ?_;simp only[↓eB,seval,go_sem,bne,yr_rExpr,ex6,faT,hb,List.append_assoc])
theorem y_rExpr:∀m:Nat,yq_rExpr m
 |0=>by
  rintro ⟨e,_u⟩ w fz xs hc hfz hl hx
  exact absurd hc.1 (Nat.not_lt_zero _)
 |m+1=>y_rExprS m (y_rExpr m)
end Go.Proofs.YtbiepiggmagfcaaDoor
