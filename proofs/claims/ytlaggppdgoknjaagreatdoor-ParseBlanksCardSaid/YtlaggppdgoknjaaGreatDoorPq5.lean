/- The program's parser: one token more, names, opening and closing. No conditions but those in each statement. -/
import Derived.Test.YtlaggppdgoknjaaGreatDoorPq4
set_option linter.unusedVariables false
set_option linter.unusedSimpArgs false
namespace Go.Proofs.YtlaggppdgoknjaaGreatDoor
open Go Go.Sy Go.RowKit
abbrev yc_qexpect (p:Pr) (t:List UInt8):Prop:=okQ p∧sgT t=true
abbrev yb_qexpect (p:Pr) (t:List UInt8):Bool:=(wanP t p).b
abbrev yr_qexpect (p:Pr) (t:List UInt8):SV:=.tup []
abbrev yv_qexpect (p:Pr) (t:List UInt8):MV:=(wanP t p).w
noncomputable abbrev ya_qexpect:ArgM ((Pr)×(List UInt8)×Unit):=(amP (mPq) (amD (cStr) am0))
abbrev yq_qexpect:Prop:=CallsMP Tryz.prog 45 ((ya_qexpect).args 0) (ya_qexpect).mem (fun p:(Pr)×(List UInt8)×Unit=>yc_qexpect p.1 p.2.1) (fun p:(Pr)×(List UInt8)×Unit=>yb_qexpect p.1 p.2.1) (fun p:(Pr)×(List UInt8)×Unit=>yr_qexpect p.1 p.2.1) (fun p:(Pr)×(List UInt8)×Unit=>[some (yv_qexpect p.1 p.2.1)])
theorem yl_qexpect:∀p,(fun p:(Pr)×(List UInt8)×Unit=>yc_qexpect p.1 p.2.1) p→((fun p:(Pr)×(List UInt8)×Unit=>[some (yv_qexpect p.1 p.2.1)]) p).length=((ya_qexpect).mem p).length:=by intro p _;rfl
theorem yo_qexpect:∀p,(fun p:(Pr)×(List UInt8)×Unit=>yc_qexpect p.1 p.2.1) p→outV ((fun p:(Pr)×(List UInt8)×Unit=>[some (yv_qexpect p.1 p.2.1)]) p).length ((fun p:(Pr)×(List UInt8)×Unit=>yr_qexpect p.1 p.2.1) p)=true:=by intro p _;first|rfl|exact ex_out _ _|exact cd_out _ _|(simp[outV,outC,ex_out,cd_out];done)
theorem yn_qexpect:∀p,(fun p:(Pr)×(List UInt8)×Unit=>yc_qexpect p.1 p.2.1) p→∀q,some q∈(fun p:(Pr)×(List UInt8)×Unit=>[some (yv_qexpect p.1 p.2.1)]) p→∀r∈q.2,∀c∈r,c.names=[]:=by intro p _;exact memw_nm _
attribute [local go_sem] Pr.q Pr.s Tok.r cPt_d cPt_e mPq_d mPq_d' mPq_e mPq_z ned_f ned_t pnOf_f pnOf_t pr_eta ptR rPq_d rPq_d' rPq_e rPq_z tkq_at yb_qfail yb_qneed yp_qahead yp_qfail yp_qis yp_qisName yp_qneed yr_qahead yr_qis yr_qisName yv_qfail yv_qneed zTk
theorem y_qexpect:yq_qexpect:=by
 rintro ⟨p,t,_u⟩ w M I lab fz xs hc hA hl hx
 refine calls_toMP Tryz.func45 rfl _ w M I lab fz (yb_qexpect p t) (yv_qexpect p t) [yp_qis,yp_qneed] [] ((ya_qexpect).args 0 ⟨p,t,_u⟩) (yr_qexpect p t) xs hA hl hx (fun v hv k hk=>Nat.lt_of_lt_of_eq ((ya_qexpect).an 0 ⟨p,t,_u⟩ v hv k hk).2 (Nat.zero_add _)) (Nat.le_of_ble_eq_true rfl) (yn_qexpect ⟨p,t,_u⟩ hc _ (List.mem_singleton.2 rfl)) ?_
 clear hx hl hA xs
 simp only[Tryz.f45]
 obtain⟨hq,ht⟩:=hc
 have hI:=hq.i
 cases it:isT t p with
 |false=>
  have hr:=wan_f it
  obtain⟨f1,f2⟩:=failP_w (c:=51) hq (by decide)
  simp only[↓eB,seval,go_sem,it,f1,f2,yb_qexpect,yv_qexpect,hr]
  try simp only[impB,impN]
  repeat' first|exact ck|with_reducible apply And.intro|intro _
  all_goals first|exact hq|exact ht|(rename_i h;first|exact oI h|exact nah h)|(rename_i _ h _ g;exact sL h g)|decide|omega|(refine ret_with [] ?_;simp only[↓eB,seval,go_sem,bne,yr_qexpect,yb_qexpect,yv_qexpect,e_RESMP,hr,f1,f2])
 |true=>
  have hr:=wan_t it
  obtain⟨f1,f2⟩:=go_w hq.e'
  obtain⟨f3,f4⟩:=go_w (adv_e hq)
  simp only[↓eB,seval,go_sem,it,f1,f2,f3,f4,yb_qexpect,yv_qexpect,hr]
  try simp only[impB,impN]
  repeat' first|exact ck|with_reducible apply And.intro|intro _
  all_goals first|exact hq|exact ht|(rename_i h;first|exact oI h|exact nah h)|(rename_i _ h _ g;exact sL h g)|decide|omega|(refine ret_with [] ?_;simp only[↓eB,seval,go_sem,bne,yr_qexpect,yb_qexpect,yv_qexpect,e_RESMP,hr,f3,f4,Pr.x,adv,w64i])
noncomputable def yp_qexpect {X:Ctx} {w0:World}:Sy.Spec Tryz.prog X w0:=specMP 45 Tryz.call45 (ya_qexpect) (fun p:(Pr)×(List UInt8)×Unit=>yc_qexpect p.1 p.2.1) (fun p:(Pr)×(List UInt8)×Unit=>yb_qexpect p.1 p.2.1) (fun p:(Pr)×(List UInt8)×Unit=>yr_qexpect p.1 p.2.1) (fun p:(Pr)×(List UInt8)×Unit=>[some (yv_qexpect p.1 p.2.1)]) yl_qexpect yo_qexpect yn_qexpect y_qexpect
abbrev yc_qaccept (p:Pr) (t:List UInt8):Prop:=okQ p∧sgT t=true
abbrev yr_qaccept (p:Pr) (t:List UInt8):SV:=.one (.v (.bool (isT t p)))
abbrev ym_qaccept (p:Pr) (t:List UInt8):List (Option MV):=[some (zPq,[(takP t p).q])]
noncomputable abbrev ya_qaccept:ArgM ((Pr)×(List UInt8)×Unit):=(amP (mPq) (amD (cStr) am0))
abbrev yq_qaccept:Prop:=CallsM Tryz.prog 49 ((ya_qaccept).args 0) (ya_qaccept).mem (fun p:(Pr)×(List UInt8)×Unit=>yc_qaccept p.1 p.2.1) (fun p:(Pr)×(List UInt8)×Unit=>yr_qaccept p.1 p.2.1) (fun p:(Pr)×(List UInt8)×Unit=>ym_qaccept p.1 p.2.1)
theorem yl_qaccept:∀p,(fun p:(Pr)×(List UInt8)×Unit=>yc_qaccept p.1 p.2.1) p→lenM ((ya_qaccept).mem p).length ((fun p:(Pr)×(List UInt8)×Unit=>ym_qaccept p.1 p.2.1) p)=true:=by intro p _;rfl
theorem yo_qaccept:∀p,(fun p:(Pr)×(List UInt8)×Unit=>yc_qaccept p.1 p.2.1) p→outV ((fun p:(Pr)×(List UInt8)×Unit=>ym_qaccept p.1 p.2.1) p).length ((fun p:(Pr)×(List UInt8)×Unit=>yr_qaccept p.1 p.2.1) p)=true:=by intro p _;first|rfl|exact ex_out _ _|exact cd_out _ _|(simp[outV,outC,ex_out,cd_out];done)
theorem yn_qaccept:∀p,(fun p:(Pr)×(List UInt8)×Unit=>yc_qaccept p.1 p.2.1) p→∀q,some q∈(fun p:(Pr)×(List UInt8)×Unit=>ym_qaccept p.1 p.2.1) p→∀r∈q.2,∀c∈r,c.names=[]:=by intro p _;exact memq_nm _
theorem y_qaccept:yq_qaccept:=by
 rintro ⟨p,t,_u⟩ w M I lab fz xs hc hA hl hx
 refine calls_toML Tryz.func49 rfl ((ya_qaccept).mem ⟨p,t,_u⟩) w M I lab fz [yp_qis] [] ((ya_qaccept).args 0 ⟨p,t,_u⟩) ((fun p:(Pr)×(List UInt8)×Unit=>ym_qaccept p.1 p.2.1) ⟨p,t,_u⟩) ((fun p:(Pr)×(List UInt8)×Unit=>yr_qaccept p.1 p.2.1) ⟨p,t,_u⟩) xs hA hl hx (fun v hv k hk=>by have:=(ya_qaccept).an 0 ⟨p,t,_u⟩ v hv k hk;omega) (Nat.le_of_ble_eq_true rfl) (Nat.le_of_ble_eq_true rfl) ?_
 clear hx hl hA xs
 simp only[Tryz.f49]
 obtain⟨hq,ht⟩:=hc
 cases it:isT t p with
 |false=>
  simp only[↓eB,seval,go_sem,it]
  try simp only[impB,impN]
  repeat' first|exact ck|with_reducible apply And.intro|intro _
  all_goals first|exact hq|exact ht|(rename_i h;first|exact oI h|exact nah h)|(rename_i _ h _ g;exact sL h g)|decide|omega|(refine ret_with [] ?_;simp only[↓eB,seval,go_sem,bne,yr_qaccept,ym_qaccept,it,takP_f it,Pr.x])
 |true=>
  simp only[↓eB,seval,go_sem,it]
  try simp only[impB,impN]
  repeat' first|exact ck|with_reducible apply And.intro|intro _
  all_goals first|exact hq|exact ht|(rename_i h;first|exact oI h|exact nah h)|(rename_i _ h _ g;exact sL h g)|decide|omega|(refine ret_with [] ?_;simp only[↓eB,seval,go_sem,bne,yr_qaccept,ym_qaccept,it,takP_t it,Pr.x,adv,w64i])
noncomputable def yp_qaccept {X:Ctx} {w0:World}:Sy.Spec Tryz.prog X w0:=specM 49 Tryz.call49 (ya_qaccept) (fun p:(Pr)×(List UInt8)×Unit=>yc_qaccept p.1 p.2.1) (fun p:(Pr)×(List UInt8)×Unit=>yr_qaccept p.1 p.2.1) (fun p:(Pr)×(List UInt8)×Unit=>ym_qaccept p.1 p.2.1) yl_qaccept yo_qaccept yn_qaccept y_qaccept
abbrev yc_qopen (p:Pr):Prop:=okQ p∧p.i<(p.l.length:Int)
abbrev yb_qopen (p:Pr):Bool:=(opP p).b
abbrev yr_qopen (p:Pr):SV:=.tup []
abbrev yv_qopen (p:Pr):MV:=(opP p).w
noncomputable abbrev ya_qopen:ArgM ((Pr)×Unit):=(amP (mPq) am0)
abbrev yq_qopen:Prop:=CallsMP Tryz.prog 50 ((ya_qopen).args 0) (ya_qopen).mem (fun p:(Pr)×Unit=>yc_qopen p.1) (fun p:(Pr)×Unit=>yb_qopen p.1) (fun p:(Pr)×Unit=>yr_qopen p.1) (fun p:(Pr)×Unit=>[some (yv_qopen p.1)])
theorem yl_qopen:∀p,(fun p:(Pr)×Unit=>yc_qopen p.1) p→((fun p:(Pr)×Unit=>[some (yv_qopen p.1)]) p).length=((ya_qopen).mem p).length:=by intro p _;rfl
theorem yo_qopen:∀p,(fun p:(Pr)×Unit=>yc_qopen p.1) p→outV ((fun p:(Pr)×Unit=>[some (yv_qopen p.1)]) p).length ((fun p:(Pr)×Unit=>yr_qopen p.1) p)=true:=by intro p _;first|rfl|exact ex_out _ _|exact cd_out _ _|(simp[outV,outC,ex_out,cd_out];done)
theorem yn_qopen:∀p,(fun p:(Pr)×Unit=>yc_qopen p.1) p→∀q,some q∈(fun p:(Pr)×Unit=>[some (yv_qopen p.1)]) p→∀r∈q.2,∀c∈r,c.names=[]:=by intro p _;exact memw_nm _
theorem y_qopen:yq_qopen:=by
 rintro ⟨p,_u⟩ w M I lab fz xs hc hA hl hx
 refine calls_toMP Tryz.func50 rfl _ w M I lab fz (yb_qopen p) (yv_qopen p) [yp_qfail] [] ((ya_qopen).args 0 ⟨p,_u⟩) (yr_qopen p) xs hA hl hx (fun v hv k hk=>Nat.lt_of_lt_of_eq ((ya_qopen).an 0 ⟨p,_u⟩ v hv k hk).2 (Nat.zero_add _)) (Nat.le_of_ble_eq_true rfl) (yn_qopen ⟨p,_u⟩ hc _ (List.mem_singleton.2 rfl)) ?_
 clear hx hl hA xs
 simp only[Tryz.f50]
 obtain⟨hq,hi⟩:=hc
 cases ob:opnB p with
 |false=>
  obtain⟨hr,hd⟩:=opn_52 hq ob
  obtain⟨f1,f2⟩:=failP_w (c:=52) hq (by decide)
  simp only[↓eB,seval,go_sem,f1,f2,yb_qopen,yv_qopen,hr,hd]
  try simp only[impB,impN]
  repeat' first|exact ck|with_reducible apply And.intro|intro _
  all_goals first|exact hq|(rename_i h;first|exact oI h|exact nah h)|(rename_i _ h _ g;exact sL h g)|decide|omega|(refine ret_with [] ?_;simp only[↓eB,seval,go_sem,bne,yr_qopen,yb_qopen,yv_qopen,e_RESMP,hr,f1,f2])
 |true=>
  obtain⟨hd,hd1,hr⟩:=opn_40 hq ob
  have hq2:=opP_okQ hq hi ob
  obtain⟨f1,f2⟩:=go_w hq2.e'
  rw[hr]at f1 f2
  simp only[↓eB,seval,go_sem,f1,f2,yb_qopen,yv_qopen,hr,hd,hd1]
  try simp only[impB,impN]
  repeat' first|exact ck|with_reducible apply And.intro|intro _
  all_goals first|exact hq|(rename_i h;first|exact oI h|exact nah h)|(rename_i _ h _ g;exact sL h g)|decide|omega|(refine ret_with [] ?_;simp only[↓eB,seval,go_sem,bne,yr_qopen,yb_qopen,yv_qopen,e_RESMP,hr,f1,f2,Pr.x,adv,w64i,hd1])
noncomputable def yp_qopen {X:Ctx} {w0:World}:Sy.Spec Tryz.prog X w0:=specMP 50 Tryz.call50 (ya_qopen) (fun p:(Pr)×Unit=>yc_qopen p.1) (fun p:(Pr)×Unit=>yb_qopen p.1) (fun p:(Pr)×Unit=>yr_qopen p.1) (fun p:(Pr)×Unit=>[some (yv_qopen p.1)]) yl_qopen yo_qopen yn_qopen y_qopen
abbrev yc_qclose (p:Pr):Prop:=okQ p
abbrev yr_qclose (p:Pr):SV:=.tup []
abbrev ym_qclose (p:Pr):List (Option MV):=[some (zPq,[(shut p).q])]
noncomputable abbrev ya_qclose:ArgM ((Pr)×Unit):=(amP (mPq) am0)
abbrev yq_qclose:Prop:=CallsM Tryz.prog 64 ((ya_qclose).args 0) (ya_qclose).mem (fun p:(Pr)×Unit=>yc_qclose p.1) (fun p:(Pr)×Unit=>yr_qclose p.1) (fun p:(Pr)×Unit=>ym_qclose p.1)
theorem yl_qclose:∀p,(fun p:(Pr)×Unit=>yc_qclose p.1) p→lenM ((ya_qclose).mem p).length ((fun p:(Pr)×Unit=>ym_qclose p.1) p)=true:=by intro p _;rfl
theorem yo_qclose:∀p,(fun p:(Pr)×Unit=>yc_qclose p.1) p→outV ((fun p:(Pr)×Unit=>ym_qclose p.1) p).length ((fun p:(Pr)×Unit=>yr_qclose p.1) p)=true:=by intro p _;first|rfl|exact ex_out _ _|exact cd_out _ _|(simp[outV,outC,ex_out,cd_out];done)
theorem yn_qclose:∀p,(fun p:(Pr)×Unit=>yc_qclose p.1) p→∀q,some q∈(fun p:(Pr)×Unit=>ym_qclose p.1) p→∀r∈q.2,∀c∈r,c.names=[]:=by intro p _;exact memq_nm _
theorem y_qclose:yq_qclose:=by
 rintro ⟨p,_u⟩ w M I lab fz xs hc hA hl hx
 refine calls_toML Tryz.func64 rfl ((ya_qclose).mem ⟨p,_u⟩) w M I lab fz [] [] ((ya_qclose).args 0 ⟨p,_u⟩) ((fun p:(Pr)×Unit=>ym_qclose p.1) ⟨p,_u⟩) ((fun p:(Pr)×Unit=>yr_qclose p.1) ⟨p,_u⟩) xs hA hl hx (fun v hv k hk=>by have:=(ya_qclose).an 0 ⟨p,_u⟩ v hv k hk;omega) (Nat.le_of_ble_eq_true rfl) (Nat.le_of_ble_eq_true rfl) ?_
 clear hx hl hA xs
 simp only[Tryz.f64]
 simp only[↓eB,seval,go_sem]
 try simp only[impB,impN]
 repeat' first|exact ck|with_reducible apply And.intro|intro _
 all_goals first|exact hc|(rename_i h;first|exact oI h|exact nah h)|(rename_i _ h _ g;exact sL h g)|decide|omega|(refine ret_with [] ?_;simp only[↓eB,seval,go_sem,bne,yr_qclose,ym_qclose,Pr.x,shut,w64i])
noncomputable def yp_qclose {X:Ctx} {w0:World}:Sy.Spec Tryz.prog X w0:=specM 64 Tryz.call64 (ya_qclose) (fun p:(Pr)×Unit=>yc_qclose p.1) (fun p:(Pr)×Unit=>yr_qclose p.1) (fun p:(Pr)×Unit=>ym_qclose p.1) yl_qclose yo_qclose yn_qclose y_qclose
abbrev yc_qname (p:Pr):Prop:=okQ p
abbrev yb_qname (p:Pr):Bool:=(namP p).b
abbrev yr_qname (p:Pr):SV:=.one (.v (.string (bs (namS p))))
abbrev yv_qname (p:Pr):MV:=(namP p).w
noncomputable abbrev ya_qname:ArgM ((Pr)×Unit):=(amP (mPq) am0)
abbrev yq_qname:Prop:=CallsMP Tryz.prog 46 ((ya_qname).args 0) (ya_qname).mem (fun p:(Pr)×Unit=>yc_qname p.1) (fun p:(Pr)×Unit=>yb_qname p.1) (fun p:(Pr)×Unit=>yr_qname p.1) (fun p:(Pr)×Unit=>[some (yv_qname p.1)])
theorem yl_qname:∀p,(fun p:(Pr)×Unit=>yc_qname p.1) p→((fun p:(Pr)×Unit=>[some (yv_qname p.1)]) p).length=((ya_qname).mem p).length:=by intro p _;rfl
theorem yo_qname:∀p,(fun p:(Pr)×Unit=>yc_qname p.1) p→outV ((fun p:(Pr)×Unit=>[some (yv_qname p.1)]) p).length ((fun p:(Pr)×Unit=>yr_qname p.1) p)=true:=by intro p _;first|rfl|exact ex_out _ _|exact cd_out _ _|(simp[outV,outC,ex_out,cd_out];done)
theorem yn_qname:∀p,(fun p:(Pr)×Unit=>yc_qname p.1) p→∀q,some q∈(fun p:(Pr)×Unit=>[some (yv_qname p.1)]) p→∀r∈q.2,∀c∈r,c.names=[]:=by intro p _;exact memw_nm _
theorem y_qname:yq_qname:=by
 rintro ⟨p,_u⟩ w M I lab fz xs hc hA hl hx
 refine calls_toMP Tryz.func46 rfl _ w M I lab fz (yb_qname p) (yv_qname p) [yp_qisName,yp_qneed] [] ((ya_qname).args 0 ⟨p,_u⟩) (yr_qname p) xs hA hl hx (fun v hv k hk=>Nat.lt_of_lt_of_eq ((ya_qname).an 0 ⟨p,_u⟩ v hv k hk).2 (Nat.zero_add _)) (Nat.le_of_ble_eq_true rfl) (yn_qname ⟨p,_u⟩ hc _ (List.mem_singleton.2 rfl)) ?_
 clear hx hl hA xs
 simp only[Tryz.f46]
 have hq:okQ p:=hc
 cases it:nameB p with
 |false=>
  have hr:=nam_f it
  obtain⟨f1,f2⟩:=failP_w (c:=51) hq (by decide)
  simp only[↓eB,seval,go_sem,it,f1,f2,yb_qname,yv_qname,hr]
  try simp only[impB,impN]
  repeat' first|exact ck|with_reducible apply And.intro|intro _
  all_goals first|exact hq|(rename_i h;first|exact oI h|exact nah h)|(rename_i _ h _ g;exact sL h g)|decide|omega|(refine ret_with [] ?_;simp only[↓eB,seval,go_sem,bne,yr_qname,yb_qname,yv_qname,e_RESMP,hr,f1,f2])
 |true=>
  have hr:=nam_t it
  have hlt:=(nameB_e it).2
  have hlt':(p.i<(p.l.length:Int))=True:=by simp[hlt]
  have h0':(0≤p.i)=True:=by simp[hq.hn]
  have e1:=tk_back hq.ok hlt
  simp only[w64i]at e1
  have hs:namS p=(tk p).t:=by unfold namS;rw[if_pos it]
  obtain⟨f1,f2⟩:=go_w hq.e'
  obtain⟨f3,f4⟩:=go_w (adv_e hq)
  simp only[↓eB,seval,go_sem,it,f1,f2,f3,f4,yb_qname,yv_qname,hr,e1,hlt',h0']
  try simp only[impB,impN]
  repeat' first|exact ck|with_reducible apply And.intro|intro _
  all_goals first|exact hq|(rename_i h;first|exact oI h|exact nah h)|(rename_i _ h _ g;exact sL h g)|decide|omega|(refine ret_with [] ?_;simp only[↓eB,seval,go_sem,bne,yr_qname,yb_qname,yv_qname,e_RESMP,hr,f3,f4,Pr.x,adv,w64i,hs,tk])
noncomputable def yp_qname {X:Ctx} {w0:World}:Sy.Spec Tryz.prog X w0:=specMP 46 Tryz.call46 (ya_qname) (fun p:(Pr)×Unit=>yc_qname p.1) (fun p:(Pr)×Unit=>yb_qname p.1) (fun p:(Pr)×Unit=>yr_qname p.1) (fun p:(Pr)×Unit=>[some (yv_qname p.1)]) yl_qname yo_qname yn_qname y_qname
abbrev yc_qdeclared (p:Pr) (n:Int) (most:Int):Prop:=okQ p
abbrev yb_qdeclared (p:Pr) (n:Int) (most:Int):Bool:=(decP n most p).b
abbrev yr_qdeclared (p:Pr) (n:Int) (most:Int):SV:=.one (.v (.string (bs (namS p))))
abbrev yv_qdeclared (p:Pr) (n:Int) (most:Int):MV:=(decP n most p).w
noncomputable abbrev ya_qdeclared:ArgM ((Pr)×(Int)×(Int)×Unit):=(amP (mPq) (amD (cInt .i64) (amD (cInt .i64) am0)))
abbrev yq_qdeclared:Prop:=CallsMP Tryz.prog 51 ((ya_qdeclared).args 0) (ya_qdeclared).mem (fun p:(Pr)×(Int)×(Int)×Unit=>yc_qdeclared p.1 p.2.1 p.2.2.1) (fun p:(Pr)×(Int)×(Int)×Unit=>yb_qdeclared p.1 p.2.1 p.2.2.1) (fun p:(Pr)×(Int)×(Int)×Unit=>yr_qdeclared p.1 p.2.1 p.2.2.1) (fun p:(Pr)×(Int)×(Int)×Unit=>[some (yv_qdeclared p.1 p.2.1 p.2.2.1)])
theorem yl_qdeclared:∀p,(fun p:(Pr)×(Int)×(Int)×Unit=>yc_qdeclared p.1 p.2.1 p.2.2.1) p→((fun p:(Pr)×(Int)×(Int)×Unit=>[some (yv_qdeclared p.1 p.2.1 p.2.2.1)]) p).length=((ya_qdeclared).mem p).length:=by intro p _;rfl
theorem yo_qdeclared:∀p,(fun p:(Pr)×(Int)×(Int)×Unit=>yc_qdeclared p.1 p.2.1 p.2.2.1) p→outV ((fun p:(Pr)×(Int)×(Int)×Unit=>[some (yv_qdeclared p.1 p.2.1 p.2.2.1)]) p).length ((fun p:(Pr)×(Int)×(Int)×Unit=>yr_qdeclared p.1 p.2.1 p.2.2.1) p)=true:=by intro p _;first|rfl|exact ex_out _ _|exact cd_out _ _|(simp[outV,outC,ex_out,cd_out];done)
theorem yn_qdeclared:∀p,(fun p:(Pr)×(Int)×(Int)×Unit=>yc_qdeclared p.1 p.2.1 p.2.2.1) p→∀q,some q∈(fun p:(Pr)×(Int)×(Int)×Unit=>[some (yv_qdeclared p.1 p.2.1 p.2.2.1)]) p→∀r∈q.2,∀c∈r,c.names=[]:=by intro p _;exact memw_nm _
theorem y_qdeclared:yq_qdeclared:=by
 rintro ⟨p,n,most,_u⟩ w M I lab fz xs hc hA hl hx
 refine calls_toMP Tryz.func51 rfl _ w M I lab fz (yb_qdeclared p n most) (yv_qdeclared p n most) [yp_qisName,yp_qneed,yp_qfail,yp_qname] [] ((ya_qdeclared).args 0 ⟨p,n,most,_u⟩) (yr_qdeclared p n most) xs hA hl hx (fun v hv k hk=>Nat.lt_of_lt_of_eq ((ya_qdeclared).an 0 ⟨p,n,most,_u⟩ v hv k hk).2 (Nat.zero_add _)) (Nat.le_of_ble_eq_true rfl) (yn_qdeclared ⟨p,n,most,_u⟩ hc _ (List.mem_singleton.2 rfl)) ?_
 clear hx hl hA xs
 simp only[Tryz.f51]
 have hq:okQ p:=hc
 cases it:nameB p with
 |false=>
  have hr:decP n most p=failP 51 p:=by unfold decP;rw[it,Bool.false_and,if_neg (by decide),nam_f it]
  obtain⟨f1,f2⟩:=failP_w (c:=51) hq (by decide)
  simp only[↓eB,seval,go_sem,yp_qname,yr_qname,yb_qname,yv_qname,yp_qaccept,it,f1,f2,yb_qdeclared,yv_qdeclared,hr]
  try simp only[impB,impN]
  repeat' first|exact ck|with_reducible apply And.intro|intro _
  all_goals first|exact hq|(rename_i h;first|exact oI h|exact nah h)|(rename_i _ h _ g;exact sL h g)|decide|omega|(refine ret_with [] ?_;simp only[↓eB,seval,go_sem,bne,yr_qdeclared,yb_qdeclared,yv_qdeclared,e_RESMP,hr,f1,f2])
 |true=>
 obtain⟨g1,g2⟩:=go_w hq.e'
 cases im:decide (most≤n) with
 |true=>
  have hr:decP n most p=failP 53 p:=by unfold decP;rw[it,im];rfl
  obtain⟨f1,f2⟩:=failP_w (c:=53) hq (by decide)
  simp only[↓eB,seval,go_sem,yp_qname,yr_qname,yb_qname,yv_qname,yp_qaccept,it,im,g1,g2,f1,f2,yb_qdeclared,yv_qdeclared,hr]
  try simp only[impB,impN]
  repeat' first|exact ck|with_reducible apply And.intro|intro _
  all_goals first|exact hq|(rename_i h;first|exact oI h|exact nah h)|(rename_i _ h _ g;exact sL h g)|decide|omega|(refine ret_with [] ?_;simp only[↓eB,seval,go_sem,bne,yr_qdeclared,yb_qdeclared,yv_qdeclared,e_RESMP,hr,f1,f2])
 |false=>
  have hr:decP n most p=adv p:=by unfold decP;rw[it,im,nam_t it];rfl
  have hr2:=nam_t it
  obtain⟨f3,f4⟩:=go_w (adv_e hq)
  simp only[↓eB,seval,go_sem,yp_qname,yr_qname,yb_qname,yv_qname,yp_qaccept,it,im,g1,g2,f3,f4,yb_qdeclared,yv_qdeclared,hr,hr2]
  try simp only[impB,impN]
  repeat' first|exact ck|with_reducible apply And.intro|intro _
  all_goals first|exact hq|(rename_i h;first|exact oI h|exact nah h)|(rename_i _ h _ g;exact sL h g)|decide|omega|(refine ret_with [] ?_;simp only[↓eB,seval,go_sem,bne,yr_qdeclared,yb_qdeclared,yv_qdeclared,e_RESMP,hr,f3,f4,Pr.x,adv,w64i])
noncomputable def yp_qdeclared {X:Ctx} {w0:World}:Sy.Spec Tryz.prog X w0:=specMP 51 Tryz.call51 (ya_qdeclared) (fun p:(Pr)×(Int)×(Int)×Unit=>yc_qdeclared p.1 p.2.1 p.2.2.1) (fun p:(Pr)×(Int)×(Int)×Unit=>yb_qdeclared p.1 p.2.1 p.2.2.1) (fun p:(Pr)×(Int)×(Int)×Unit=>yr_qdeclared p.1 p.2.1 p.2.2.1) (fun p:(Pr)×(Int)×(Int)×Unit=>[some (yv_qdeclared p.1 p.2.1 p.2.2.1)]) yl_qdeclared yo_qdeclared yn_qdeclared y_qdeclared
end Go.Proofs.YtlaggppdgoknjaaGreatDoor
