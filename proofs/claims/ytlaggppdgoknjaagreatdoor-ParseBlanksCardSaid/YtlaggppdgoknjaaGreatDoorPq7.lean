/- The program's parser: conditions, walked. No conditions but those in each statement. -/
import Derived.Test.YtlaggppdgoknjaaGreatDoorPq6
set_option linter.unusedVariables false
set_option linter.unusedSimpArgs false
namespace Go.Proofs.YtlaggppdgoknjaaGreatDoor
open Go Go.Sy Go.RowKit
abbrev yc_qnot (f:Nat) (p:Pr):Prop:=okQ p∧dpU f p
abbrev yb_qnot (f:Nat) (p:Pr):Bool:=(notF f p).2.b
abbrev yr_qnot (f:Nat) (p:Pr):SV:=.one (cdC (notF f p).1)
abbrev yv_qnot (f:Nat) (p:Pr):MV:=(notF f p).2.w
noncomputable abbrev ya_qnot:ArgM ((Pr)×Unit):=(amP (mPq) am0)
abbrev yq_qnot (f:Nat):Prop:=CallsMP Tryz.prog 119 ((ya_qnot).args 0) (ya_qnot).mem (fun p:(Pr)×Unit=>yc_qnot f p.1) (fun p:(Pr)×Unit=>yb_qnot f p.1) (fun p:(Pr)×Unit=>yr_qnot f p.1) (fun p:(Pr)×Unit=>[some (yv_qnot f p.1)])
theorem yl_qnot (f:Nat):∀p,(fun p:(Pr)×Unit=>yc_qnot f p.1) p→((fun p:(Pr)×Unit=>[some (yv_qnot f p.1)]) p).length=((ya_qnot).mem p).length:=by intro p _;rfl
theorem yo_qnot (f:Nat):∀p,(fun p:(Pr)×Unit=>yc_qnot f p.1) p→outV ((fun p:(Pr)×Unit=>[some (yv_qnot f p.1)]) p).length ((fun p:(Pr)×Unit=>yr_qnot f p.1) p)=true:=by intro p _;first|rfl|exact ex_out _ _|exact cd_out _ _|(simp[outV,outC,ex_out,cd_out];done)
theorem yn_qnot (f:Nat):∀p,(fun p:(Pr)×Unit=>yc_qnot f p.1) p→∀q,some q∈(fun p:(Pr)×Unit=>[some (yv_qnot f p.1)]) p→∀r∈q.2,∀c∈r,c.names=[]:=by intro p _;exact memw_nm _
noncomputable def yg_qnot {X:Ctx} {w0:World} (f:Nat) (h:yq_qnot f):Sy.Spec Tryz.prog X w0:=specMP 119 Tryz.call119 (ya_qnot) (fun p:(Pr)×Unit=>yc_qnot f p.1) (fun p:(Pr)×Unit=>yb_qnot f p.1) (fun p:(Pr)×Unit=>yr_qnot f p.1) (fun p:(Pr)×Unit=>[some (yv_qnot f p.1)]) (yl_qnot f) (yo_qnot f) (yn_qnot f) h
abbrev yc_qand (f:Nat) (p:Pr):Prop:=okQ p∧dpU f p
abbrev yb_qand (f:Nat) (p:Pr):Bool:=(andW (notF f) p).2.b
abbrev yr_qand (f:Nat) (p:Pr):SV:=.one (cdC (andW (notF f) p).1)
abbrev yv_qand (f:Nat) (p:Pr):MV:=(andW (notF f) p).2.w
noncomputable abbrev ya_qand:ArgM ((Pr)×Unit):=(amP (mPq) am0)
abbrev yq_qand (f:Nat):Prop:=CallsMP Tryz.prog 108 ((ya_qand).args 0) (ya_qand).mem (fun p:(Pr)×Unit=>yc_qand f p.1) (fun p:(Pr)×Unit=>yb_qand f p.1) (fun p:(Pr)×Unit=>yr_qand f p.1) (fun p:(Pr)×Unit=>[some (yv_qand f p.1)])
theorem yl_qand (f:Nat):∀p,(fun p:(Pr)×Unit=>yc_qand f p.1) p→((fun p:(Pr)×Unit=>[some (yv_qand f p.1)]) p).length=((ya_qand).mem p).length:=by intro p _;rfl
theorem yo_qand (f:Nat):∀p,(fun p:(Pr)×Unit=>yc_qand f p.1) p→outV ((fun p:(Pr)×Unit=>[some (yv_qand f p.1)]) p).length ((fun p:(Pr)×Unit=>yr_qand f p.1) p)=true:=by intro p _;first|rfl|exact ex_out _ _|exact cd_out _ _|(simp[outV,outC,ex_out,cd_out];done)
theorem yn_qand (f:Nat):∀p,(fun p:(Pr)×Unit=>yc_qand f p.1) p→∀q,some q∈(fun p:(Pr)×Unit=>[some (yv_qand f p.1)]) p→∀r∈q.2,∀c∈r,c.names=[]:=by intro p _;exact memw_nm _
noncomputable def yg_qand {X:Ctx} {w0:World} (f:Nat) (h:yq_qand f):Sy.Spec Tryz.prog X w0:=specMP 108 Tryz.call108 (ya_qand) (fun p:(Pr)×Unit=>yc_qand f p.1) (fun p:(Pr)×Unit=>yb_qand f p.1) (fun p:(Pr)×Unit=>yr_qand f p.1) (fun p:(Pr)×Unit=>[some (yv_qand f p.1)]) (yl_qand f) (yo_qand f) (yn_qand f) h
attribute [local go_sem] Pr.q Pr.s Tok.r cPt_d cPt_e mPq_d mPq_d' mPq_e mPq_z pnOf_f pnOf_t pr_eta ptR rPq_d rPq_d' rPq_e rPq_z tkq_at wkR_self yb_qand yb_qexpect yb_qfail yb_qname yb_qneed yb_qnot yb_qopen yb_qsum yg_qnot yg_qsum yp_qaccept yp_qahead yp_qclose yp_qexpect yp_qfail yp_qis yp_qisKind yp_qisName yp_qname yp_qneed yp_qopen yp_qvalue yr_qahead yr_qis yr_qisKind yr_qisName yr_qname yr_qnot yr_qsum yr_qvalue yv_qand yv_qexpect yv_qfail yv_qname yv_qneed yv_qnot yv_qopen yv_qsum zTk
set_option maxRecDepth 20000 in set_option maxHeartbeats 8000000 in
theorem y_qand (f:Nat) (hu:yq_qnot f):yq_qand f:=by
 rintro ⟨p,_u⟩ w M I lab fz xs hc hA hl hx
 refine calls_toMP Tryz.func108 rfl _ w M I lab fz (yb_qand f p) (yv_qand f p) [yp_qaccept,(yg_qnot f hu)] [] ((ya_qand).args 0 ⟨p,_u⟩) (yr_qand f p) xs hA hl hx (fun v hv k hk=>Nat.lt_of_lt_of_eq ((ya_qand).an 0 ⟨p,_u⟩ v hv k hk).2 (Nat.zero_add _)) (Nat.le_of_ble_eq_true rfl) (yn_qand f ⟨p,_u⟩ hc _ (List.mem_singleton.2 rfl)) ?_
 clear hx hl hA xs
 simp only[Tryz.f108]
 obtain⟨hq,hd⟩:=hc
 dsimp only at hq hd
 have hsg:sgT [38,38]=true:=rfl
 have hn0:=not_nx f p hq.ok
 have hk0:Nx (notF f p).2 (andW (notF f) p).2:=andL_nx (not_nx f) _ _ _ hn0.ok
 cases he:((notF f p).2.e==0) with
 |false=>
  obtain⟨o1,o2,g1,g2⟩:=ps_w hk0.ps he
  simp only[↓eB,seval,go_sem,adv_fold,o1,o2,g1,g2]
  try simp only[impB,impN]
  repeat' first|exact ck|with_reducible apply And.intro|intro _
  all_goals first|exact hq|exact hd|(rename_i h;first|exact oI h|exact nah h)|(rename_i _ h _ g;exact sL h g)|decide|omega|(refine ret_with [] ?_;simp only[↓eB,seval,go_sem,bne,yr_qand,e_RESMP,o1,o2,g1,g2])
 |true=>
 obtain⟨g1,g2⟩:=go_w he
 have hq0:=hq.nx hn0 he
 have hd0:=dp_nx hn0 hd
 simp only[↓eB,seval,go_sem,adv_fold,g1,g2]
 try simp only[impB,impN]
 repeat' (first|exact ck|with_reducible apply And.intro)
 all_goals try first|exact hq|exact hd|decide|omega
 refine loop_ok (Y:=Nat×Cd×Pr) (fun y=>okQ y.2.2∧dpU f y.2.2∧(y.2.2.l.length:Int)≤y.2.2.i+(y.1:Int)∧andL (notF f) y.1 y.2.1 y.2.2=(andW (notF f) p))
  (fun y=>⟨[(0,true,.one (.p 0 0 0)),(3,true,.one (cdC y.2.1))],[(0,.vec 0 zPq [y.2.2.q])]⟩)
  (fun y=>y.1) (p.l.length,(notF f p).1,(notF f p).2) ⟨hq0,hd0,by have:=hq0.hn;simp only[hn0.l];omega,by show andL _ _ _ _=andW _ _;rfl⟩ ?_ ?_
 ·refine to_with [] ?_;simp only[↓eB,seval,go_sem,Pr.x]
 ·rintro ⟨k,a,q⟩ ⟨h1,h2,h3,h4⟩
  refine vc_ok [yp_qaccept,(yg_qnot f hu)] [] _ _ _ ?_
  dsimp only at h1 h2 h3 h4
  have he0:=h1.e'
  cases i0:isT [38,38] q with
  |true=>
   obtain⟨k',rfl⟩:∃k',k=k'+1:=⟨k-1,by have:=(isT_e i0).2;omega⟩
   simp only[andL,i0,if_true]at h4
   have ha:=isT_okQ h1 i0
   have hda:=dp_nx (isT_adv h1.ok i0) h2
   have hu1:=not_nx f _ ha.ok
   have hai:=adv_i h1.ok (isT_e i0).2
   have tt:=takP_t i0
   cases e1:((notF f (adv q)).2.e==0) with
   |false=>
    have hk1:Nx (notF f (adv q)).2 (andW (notF f) p).2:=by rw[← h4];exact andL_nx (not_nx f) _ _ _ hu1.ok
    obtain⟨o1,o2,g1,g2⟩:=ps_w hk1.ps e1
    simp only[↓eB,seval,go_sem,adv_fold,i0,tt,o1,o2,g1,g2]
    try simp only[impB,impN]
    repeat' first|exact ck|with_reducible apply And.intro|intro _
    all_goals first|exact h1|exact hsg|exact ha|exact hda|(rename_i h;first|exact oI h|exact nah h)|(rename_i _ h _ g;exact sL h g)|decide|omega|(refine ret_with [] ?_;simp only[↓eB,seval,go_sem,bne,yr_qand,e_RESMP,o1,o2,g1,g2])
   |true=>
    obtain⟨g1,g2⟩:=go_w e1
    have hq1:=ha.nx hu1 e1
    simp only[↓eB,seval,go_sem,adv_fold,i0,tt,g1,g2]
    try simp only[impB,impN]
    repeat' (first|exact ck|with_reducible apply And.intro)
    all_goals try first|exact h1|exact hsg|exact ha|exact hda|decide|omega
    refine⟨(k',Cd.mk 6 .nil .nil a (notF f (adv q)).1 [],(notF f (adv q)).2),⟨hq1,dp_nx hu1 hda,?_,h4⟩,Nat.lt_succ_self _,to_with [.fz 12] ?_⟩
    ·dsimp only;have hi1:=hu1.i;rw[hai]at hi1;rw[hu1.l];show (q.l.length:Int)≤_;omega
    ·simp only[↓eB,seval,go_sem,Pr.x,cd_mk,cd_nil,cd_dnil,ex_dnil]
  |false=>
   have f0:=takP_f i0
   have hr:(a,q)=(andW (notF f) p):=by
    rw[← h4];cases k<;>simp[andL,i0]
   have hr1:(andW (notF f) p).1=a:=by rw[← hr]
   have hr2:(andW (notF f) p).2=q:=by rw[← hr]
   obtain⟨g1,g2⟩:=go_w he0
   simp only[↓eB,seval,go_sem,adv_fold,i0,f0,hr2,g1,g2]
   try simp only[impB,impN]
   repeat' first|exact ck|with_reducible apply And.intro|intro _
   all_goals first|exact h1|exact hsg|(rename_i h;first|exact oI h|exact nah h)|(rename_i _ h _ g;exact sL h g)|decide|omega|(refine ret_with [] ?_;simp only[↓eB,seval,go_sem,bne,yr_qand,e_RESMP,hr1,hr2,g1,g2,Pr.x])
abbrev yc_qcond (f:Nat) (p:Pr):Prop:=okQ p∧dpU f p
abbrev yb_qcond (f:Nat) (p:Pr):Bool:=(conW (notF f) p).2.b
abbrev yr_qcond (f:Nat) (p:Pr):SV:=.one (cdC (conW (notF f) p).1)
abbrev yv_qcond (f:Nat) (p:Pr):MV:=(conW (notF f) p).2.w
noncomputable abbrev ya_qcond:ArgM ((Pr)×Unit):=(amP (mPq) am0)
abbrev yq_qcond (f:Nat):Prop:=CallsMP Tryz.prog 91 ((ya_qcond).args 0) (ya_qcond).mem (fun p:(Pr)×Unit=>yc_qcond f p.1) (fun p:(Pr)×Unit=>yb_qcond f p.1) (fun p:(Pr)×Unit=>yr_qcond f p.1) (fun p:(Pr)×Unit=>[some (yv_qcond f p.1)])
theorem yl_qcond (f:Nat):∀p,(fun p:(Pr)×Unit=>yc_qcond f p.1) p→((fun p:(Pr)×Unit=>[some (yv_qcond f p.1)]) p).length=((ya_qcond).mem p).length:=by intro p _;rfl
theorem yo_qcond (f:Nat):∀p,(fun p:(Pr)×Unit=>yc_qcond f p.1) p→outV ((fun p:(Pr)×Unit=>[some (yv_qcond f p.1)]) p).length ((fun p:(Pr)×Unit=>yr_qcond f p.1) p)=true:=by intro p _;first|rfl|exact ex_out _ _|exact cd_out _ _|(simp[outV,outC,ex_out,cd_out];done)
theorem yn_qcond (f:Nat):∀p,(fun p:(Pr)×Unit=>yc_qcond f p.1) p→∀q,some q∈(fun p:(Pr)×Unit=>[some (yv_qcond f p.1)]) p→∀r∈q.2,∀c∈r,c.names=[]:=by intro p _;exact memw_nm _
noncomputable def yg_qcond {X:Ctx} {w0:World} (f:Nat) (h:yq_qcond f):Sy.Spec Tryz.prog X w0:=specMP 91 Tryz.call91 (ya_qcond) (fun p:(Pr)×Unit=>yc_qcond f p.1) (fun p:(Pr)×Unit=>yb_qcond f p.1) (fun p:(Pr)×Unit=>yr_qcond f p.1) (fun p:(Pr)×Unit=>[some (yv_qcond f p.1)]) (yl_qcond f) (yo_qcond f) (yn_qcond f) h
set_option maxRecDepth 20000 in set_option maxHeartbeats 8000000 in
theorem y_qcond (f:Nat) (hu:yq_qnot f):yq_qcond f:=by
 rintro ⟨p,_u⟩ w M I lab fz xs hc hA hl hx
 refine calls_toMP Tryz.func91 rfl _ w M I lab fz (yb_qcond f p) (yv_qcond f p) [yp_qaccept,(yg_qand f (y_qand f hu))] [] ((ya_qcond).args 0 ⟨p,_u⟩) (yr_qcond f p) xs hA hl hx (fun v hv k hk=>Nat.lt_of_lt_of_eq ((ya_qcond).an 0 ⟨p,_u⟩ v hv k hk).2 (Nat.zero_add _)) (Nat.le_of_ble_eq_true rfl) (yn_qcond f ⟨p,_u⟩ hc _ (List.mem_singleton.2 rfl)) ?_
 clear hx hl hA xs
 simp only[Tryz.f91]
 obtain⟨hq,hd⟩:=hc
 dsimp only at hq hd
 have hsg:sgT [124,124]=true:=rfl
 have hn0:=andW_nx (not_nx f) p hq.ok
 have hk0:Nx (andW (notF f) p).2 (conW (notF f) p).2:=conL_nx (not_nx f) _ _ _ hn0.ok
 cases he:((andW (notF f) p).2.e==0) with
 |false=>
  obtain⟨o1,o2,g1,g2⟩:=ps_w hk0.ps he
  simp only[↓eB,seval,go_sem,yg_qand,yr_qand,adv_fold,yb_qcond,yv_qcond,o1,o2,g1,g2]
  try simp only[impB,impN]
  repeat' first|exact ck|with_reducible apply And.intro|intro _
  all_goals first|exact hq|exact hd|(rename_i h;first|exact oI h|exact nah h)|(rename_i _ h _ g;exact sL h g)|decide|omega|(refine ret_with [] ?_;simp only[↓eB,seval,go_sem,bne,yr_qcond,yb_qcond,yv_qcond,e_RESMP,o1,o2,g1,g2])
 |true=>
 obtain⟨g1,g2⟩:=go_w he
 have hq0:=hq.nx hn0 he
 have hd0:=dp_nx hn0 hd
 simp only[↓eB,seval,go_sem,yg_qand,yr_qand,adv_fold,yb_qcond,yv_qcond,g1,g2]
 try simp only[impB,impN]
 repeat' (first|exact ck|with_reducible apply And.intro)
 all_goals try first|exact hq|exact hd|decide|omega
 refine loop_ok (Y:=Nat×Cd×Pr) (fun y=>okQ y.2.2∧dpU f y.2.2∧(y.2.2.l.length:Int)≤y.2.2.i+(y.1:Int)∧conL (notF f) y.1 y.2.1 y.2.2=(conW (notF f) p))
  (fun y=>⟨[(0,true,.one (.p 0 0 0)),(3,true,.one (cdC y.2.1))],[(0,.vec 0 zPq [y.2.2.q])]⟩)
  (fun y=>y.1) (p.l.length,(andW (notF f) p).1,(andW (notF f) p).2) ⟨hq0,hd0,by have:=hq0.hn;simp only[hn0.l];omega,by show conL _ _ _ _=conW _ _;rfl⟩ ?_ ?_
 ·refine to_with [] ?_;simp only[↓eB,seval,go_sem,Pr.x]
 ·rintro ⟨k,a,q⟩ ⟨h1,h2,h3,h4⟩
  refine vc_ok [yp_qaccept,(yg_qand f (y_qand f hu))] [] _ _ _ ?_
  dsimp only at h1 h2 h3 h4
  have he0:=h1.e'
  cases i0:isT [124,124] q with
  |true=>
   obtain⟨k',rfl⟩:∃k',k=k'+1:=⟨k-1,by have:=(isT_e i0).2;omega⟩
   simp only[conL,i0,if_true]at h4
   have ha:=isT_okQ h1 i0
   have hda:=dp_nx (isT_adv h1.ok i0) h2
   have hu1:=andW_nx (not_nx f) _ ha.ok
   have hai:=adv_i h1.ok (isT_e i0).2
   have tt:=takP_t i0
   cases e1:((andW (notF f) (adv q)).2.e==0) with
   |false=>
    have hk1:Nx (andW (notF f) (adv q)).2 (conW (notF f) p).2:=by rw[← h4];exact conL_nx (not_nx f) _ _ _ hu1.ok
    obtain⟨o1,o2,g1,g2⟩:=ps_w hk1.ps e1
    simp only[↓eB,seval,go_sem,yg_qand,yr_qand,adv_fold,yb_qcond,yv_qcond,i0,tt,o1,o2,g1,g2]
    try simp only[impB,impN]
    repeat' first|exact ck|with_reducible apply And.intro|intro _
    all_goals first|exact h1|exact hsg|exact ha|exact hda|(rename_i h;first|exact oI h|exact nah h)|(rename_i _ h _ g;exact sL h g)|decide|omega|(refine ret_with [] ?_;simp only[↓eB,seval,go_sem,bne,yr_qcond,yb_qcond,yv_qcond,e_RESMP,o1,o2,g1,g2])
   |true=>
    obtain⟨g1,g2⟩:=go_w e1
    have hq1:=ha.nx hu1 e1
    simp only[↓eB,seval,go_sem,yg_qand,yr_qand,adv_fold,yb_qcond,yv_qcond,i0,tt,g1,g2]
    try simp only[impB,impN]
    repeat' (first|exact ck|with_reducible apply And.intro)
    all_goals try first|exact h1|exact hsg|exact ha|exact hda|decide|omega
    refine⟨(k',Cd.mk 7 .nil .nil a (andW (notF f) (adv q)).1 [],(andW (notF f) (adv q)).2),⟨hq1,dp_nx hu1 hda,?_,h4⟩,Nat.lt_succ_self _,to_with [.fz 12] ?_⟩
    ·dsimp only;have hi1:=hu1.i;rw[hai]at hi1;rw[hu1.l];show (q.l.length:Int)≤_;omega
    ·simp only[↓eB,seval,go_sem,Pr.x,cd_mk,cd_nil,cd_dnil,ex_dnil]
  |false=>
   have f0:=takP_f i0
   have hr:(a,q)=(conW (notF f) p):=by
    rw[← h4];cases k<;>simp[conL,i0]
   have hr1:(conW (notF f) p).1=a:=by rw[← hr]
   have hr2:(conW (notF f) p).2=q:=by rw[← hr]
   obtain⟨g1,g2⟩:=go_w he0
   simp only[↓eB,seval,go_sem,yg_qand,yr_qand,adv_fold,yb_qcond,yv_qcond,i0,f0,hr2,g1,g2]
   try simp only[impB,impN]
   repeat' first|exact ck|with_reducible apply And.intro|intro _
   all_goals first|exact h1|exact hsg|(rename_i h;first|exact oI h|exact nah h)|(rename_i _ h _ g;exact sL h g)|decide|omega|(refine ret_with [] ?_;simp only[↓eB,seval,go_sem,bne,yr_qcond,yb_qcond,yv_qcond,e_RESMP,hr1,hr2,g1,g2,Pr.x])
abbrev cpF (p:Pr):R Cd:=cmpF (exS p).2 (exS p).1 cmpO 0
theorem cp_nx {p:Pr} (h:okP p):Nx (exS p).2 (cpF p).2:=cmpF_nx _ _ _ _ (exS_nx h).ok
abbrev yc_qcomparison (p:Pr):Prop:=okQ p
abbrev yb_qcomparison (p:Pr):Bool:=(cpF p).2.b
abbrev yr_qcomparison (p:Pr):SV:=.one (cdC (cpF p).1)
abbrev yv_qcomparison (p:Pr):MV:=(cpF p).2.w
noncomputable abbrev ya_qcomparison:ArgM ((Pr)×Unit):=(amP (mPq) am0)
abbrev yq_qcomparison:Prop:=CallsMP Tryz.prog 123 ((ya_qcomparison).args 0) (ya_qcomparison).mem (fun p:(Pr)×Unit=>yc_qcomparison p.1) (fun p:(Pr)×Unit=>yb_qcomparison p.1) (fun p:(Pr)×Unit=>yr_qcomparison p.1) (fun p:(Pr)×Unit=>[some (yv_qcomparison p.1)])
theorem yl_qcomparison:∀p,(fun p:(Pr)×Unit=>yc_qcomparison p.1) p→((fun p:(Pr)×Unit=>[some (yv_qcomparison p.1)]) p).length=((ya_qcomparison).mem p).length:=by intro p _;rfl
theorem yo_qcomparison:∀p,(fun p:(Pr)×Unit=>yc_qcomparison p.1) p→outV ((fun p:(Pr)×Unit=>[some (yv_qcomparison p.1)]) p).length ((fun p:(Pr)×Unit=>yr_qcomparison p.1) p)=true:=by intro p _;first|rfl|exact ex_out _ _|exact cd_out _ _|(simp[outV,outC,ex_out,cd_out];done)
theorem yn_qcomparison:∀p,(fun p:(Pr)×Unit=>yc_qcomparison p.1) p→∀q,some q∈(fun p:(Pr)×Unit=>[some (yv_qcomparison p.1)]) p→∀r∈q.2,∀c∈r,c.names=[]:=by intro p _;exact memw_nm _
set_option maxRecDepth 20000 in set_option maxHeartbeats 16000000 in
theorem y_qcomparison:yq_qcomparison:=by
 rintro ⟨p,_u⟩ w M I lab fz xs hc hA hl hx
 refine calls_toMP Tryz.func123 rfl _ w M I lab fz (yb_qcomparison p) (yv_qcomparison p) [yp_qahead,yp_qfail,sqSum] [] ((ya_qcomparison).args 0 ⟨p,_u⟩) (yr_qcomparison p) xs hA hl hx (fun v hv k hk=>Nat.lt_of_lt_of_eq ((ya_qcomparison).an 0 ⟨p,_u⟩ v hv k hk).2 (Nat.zero_add _)) (Nat.le_of_ble_eq_true rfl) (yn_qcomparison ⟨p,_u⟩ hc _ (List.mem_singleton.2 rfl)) ?_
 clear hx hl hA xs
 simp only[Tryz.f123]
 have hq:okQ p:=hc
 have hd:=dp41 hq.ok
 have hn0:=exS_nx hq.ok
 have hk0:=cp_nx hq.ok
 generalize hQ:(exS p).2=q at hn0 hk0
 generalize hA:(exS p).1=a
 have hQ':(sumW (unF 41) p).2=q:=hQ
 have hA':(sumW (unF 41) p).1=a:=hA
 have hW:cpF p=cmpF q a cmpO 0:=by show cmpF (exS p).2 (exS p).1 cmpO 0=_;rw[hQ,hA]
 cases he:(q.e==0) with
 |false=>
  obtain⟨o1,o2,g1,g2⟩:=ps_w hk0.ps he
  rw[hW]at o1 o2
  simp only[↓eB,seval,go_sem,adv_fold,yb_qcomparison,yv_qcomparison,hQ',hA',hW,o1,o2,g1,g2]
  try simp only[impB,impN]
  repeat' first|exact ck|with_reducible apply And.intro|intro _
  all_goals first|exact hq|exact hd|(rename_i h;first|exact oI h|exact nah h)|(rename_i _ h _ g;exact sL h g)|decide|omega|(refine ret_with [] ?_;simp only[↓eB,seval,go_sem,bne,yr_qcomparison,yb_qcomparison,yv_qcomparison,e_RESMP,hW,o1,o2,g1,g2])
 |true=>
 obtain⟨g1,g2⟩:=go_w he
 have hq1:=hq.nx hn0 he
 have hI:=hq1.i
 have hlt:∀{t},isT t q=true→q.i<(q.l.length:Int):=fun h=>(isT_e h).2
 have z0:=ah_0 hq1 (t:=[61,61]) rfl
 have z1:=ah_0 hq1 (t:=[33,61]) rfl
 have z2:=ah_0 hq1 (t:=[60]) rfl
 have z3:=ah_0 hq1 (t:=[60,61]) rfl
 have z4:=ah_0 hq1 (t:=[62]) rfl
 have z5:=ah_0 hq1 (t:=[62,61]) rfl
 cases i0:isT [61,61] q with
 |true=>
  have hr:cmpF q a cmpO 0=(.mk 0 a (exS (adv q)).1 .nil .nil [],(exS (adv q)).2):=by simp[cmpF,cmpO,i0]
  have ha:=isT_okQ hq1 i0
  have hda:=dp41 ha.ok
  have hs:=exS_nx ha.ok
  rw[hr]at hW
  cases e1:((exS (adv q)).2.e==0) with
  |false=>
   obtain⟨o1,o2,g3,g4⟩:=ps_w (Ps.refl _) e1
   simp only[↓eB,seval,go_sem,adv_fold,yb_qcomparison,yv_qcomparison,hQ',hA',hW,z0,z1,z2,z3,z4,z5,i0,g1,g2,g3,g4]
   try simp only[impB,impN]
   repeat' first|exact ck|with_reducible apply And.intro|intro _
   all_goals first|exact hq|exact hd|exact hI|exact hq1|exact ha|exact hda|(rename_i h;first|exact oI h|exact nah h)|(rename_i _ h _ g;exact sL h g)|decide|omega|(refine ret_with [] ?_;simp only[↓eB,seval,go_sem,bne,yr_qcomparison,yb_qcomparison,yv_qcomparison,e_RESMP,hW,g3,g4])
  |true=>
   have hq2:=ha.nx hs e1
   obtain⟨g3,g4⟩:=go_w e1
   simp only[↓eB,seval,go_sem,adv_fold,yb_qcomparison,yv_qcomparison,hQ',hA',hW,z0,z1,z2,z3,z4,z5,i0,g1,g2,g3,g4]
   try simp only[impB,impN]
   repeat' first|exact ck|with_reducible apply And.intro|intro _
   all_goals first|exact hq|exact hd|exact hI|exact hq1|exact ha|exact hda|(rename_i h;first|exact oI h|exact nah h)|(rename_i _ h _ g;exact sL h g)|decide|omega|(refine ret_with [.fz 7] ?_;simp only[↓eB,seval,go_sem,bne,yr_qcomparison,yb_qcomparison,yv_qcomparison,e_RESMP,hW,g3,g4,Pr.x,cd_mk,cd_nil,cd_dnil])
 |false=>
 cases i1:isT [33,61] q with
 |true=>
  have hr:cmpF q a cmpO 0=(.mk 1 a (exS (adv q)).1 .nil .nil [],(exS (adv q)).2):=by simp[cmpF,cmpO,i0,i1]
  have ha:=isT_okQ hq1 i1
  have hda:=dp41 ha.ok
  have hs:=exS_nx ha.ok
  rw[hr]at hW
  cases e1:((exS (adv q)).2.e==0) with
  |false=>
   obtain⟨o1,o2,g3,g4⟩:=ps_w (Ps.refl _) e1
   simp only[↓eB,seval,go_sem,adv_fold,yb_qcomparison,yv_qcomparison,hQ',hA',hW,z0,z1,z2,z3,z4,z5,i0,i1,g1,g2,g3,g4]
   try simp only[impB,impN]
   repeat' first|exact ck|with_reducible apply And.intro|intro _
   all_goals first|exact hq|exact hd|exact hI|exact hq1|exact ha|exact hda|(rename_i h;first|exact oI h|exact nah h)|(rename_i _ h _ g;exact sL h g)|decide|omega|(refine ret_with [] ?_;simp only[↓eB,seval,go_sem,bne,yr_qcomparison,yb_qcomparison,yv_qcomparison,e_RESMP,hW,g3,g4])
  |true=>
   have hq2:=ha.nx hs e1
   obtain⟨g3,g4⟩:=go_w e1
   simp only[↓eB,seval,go_sem,adv_fold,yb_qcomparison,yv_qcomparison,hQ',hA',hW,z0,z1,z2,z3,z4,z5,i0,i1,g1,g2,g3,g4]
   try simp only[impB,impN]
   repeat' first|exact ck|with_reducible apply And.intro|intro _
   all_goals first|exact hq|exact hd|exact hI|exact hq1|exact ha|exact hda|(rename_i h;first|exact oI h|exact nah h)|(rename_i _ h _ g;exact sL h g)|decide|omega|(refine ret_with [.fz 7] ?_;simp only[↓eB,seval,go_sem,bne,yr_qcomparison,yb_qcomparison,yv_qcomparison,e_RESMP,hW,g3,g4,Pr.x,cd_mk,cd_nil,cd_dnil])
 |false=>
 cases i2:isT [60] q with
 |true=>
  have hr:cmpF q a cmpO 0=(.mk 2 a (exS (adv q)).1 .nil .nil [],(exS (adv q)).2):=by simp[cmpF,cmpO,i0,i1,i2]
  have ha:=isT_okQ hq1 i2
  have hda:=dp41 ha.ok
  have hs:=exS_nx ha.ok
  rw[hr]at hW
  cases e1:((exS (adv q)).2.e==0) with
  |false=>
   obtain⟨o1,o2,g3,g4⟩:=ps_w (Ps.refl _) e1
   simp only[↓eB,seval,go_sem,adv_fold,yb_qcomparison,yv_qcomparison,hQ',hA',hW,z0,z1,z2,z3,z4,z5,i0,i1,i2,g1,g2,g3,g4]
   try simp only[impB,impN]
   repeat' first|exact ck|with_reducible apply And.intro|intro _
   all_goals first|exact hq|exact hd|exact hI|exact hq1|exact ha|exact hda|(rename_i h;first|exact oI h|exact nah h)|(rename_i _ h _ g;exact sL h g)|decide|omega|(refine ret_with [] ?_;simp only[↓eB,seval,go_sem,bne,yr_qcomparison,yb_qcomparison,yv_qcomparison,e_RESMP,hW,g3,g4])
  |true=>
   have hq2:=ha.nx hs e1
   obtain⟨g3,g4⟩:=go_w e1
   simp only[↓eB,seval,go_sem,adv_fold,yb_qcomparison,yv_qcomparison,hQ',hA',hW,z0,z1,z2,z3,z4,z5,i0,i1,i2,g1,g2,g3,g4]
   try simp only[impB,impN]
   repeat' first|exact ck|with_reducible apply And.intro|intro _
   all_goals first|exact hq|exact hd|exact hI|exact hq1|exact ha|exact hda|(rename_i h;first|exact oI h|exact nah h)|(rename_i _ h _ g;exact sL h g)|decide|omega|(refine ret_with [.fz 7] ?_;simp only[↓eB,seval,go_sem,bne,yr_qcomparison,yb_qcomparison,yv_qcomparison,e_RESMP,hW,g3,g4,Pr.x,cd_mk,cd_nil,cd_dnil])
 |false=>
 cases i3:isT [60,61] q with
 |true=>
  have hr:cmpF q a cmpO 0=(.mk 3 a (exS (adv q)).1 .nil .nil [],(exS (adv q)).2):=by simp[cmpF,cmpO,i0,i1,i2,i3]
  have ha:=isT_okQ hq1 i3
  have hda:=dp41 ha.ok
  have hs:=exS_nx ha.ok
  rw[hr]at hW
  cases e1:((exS (adv q)).2.e==0) with
  |false=>
   obtain⟨o1,o2,g3,g4⟩:=ps_w (Ps.refl _) e1
   simp only[↓eB,seval,go_sem,adv_fold,yb_qcomparison,yv_qcomparison,hQ',hA',hW,z0,z1,z2,z3,z4,z5,i0,i1,i2,i3,g1,g2,g3,g4]
   try simp only[impB,impN]
   repeat' first|exact ck|with_reducible apply And.intro|intro _
   all_goals first|exact hq|exact hd|exact hI|exact hq1|exact ha|exact hda|(rename_i h;first|exact oI h|exact nah h)|(rename_i _ h _ g;exact sL h g)|decide|omega|(refine ret_with [] ?_;simp only[↓eB,seval,go_sem,bne,yr_qcomparison,yb_qcomparison,yv_qcomparison,e_RESMP,hW,g3,g4])
  |true=>
   have hq2:=ha.nx hs e1
   obtain⟨g3,g4⟩:=go_w e1
   simp only[↓eB,seval,go_sem,adv_fold,yb_qcomparison,yv_qcomparison,hQ',hA',hW,z0,z1,z2,z3,z4,z5,i0,i1,i2,i3,g1,g2,g3,g4]
   try simp only[impB,impN]
   repeat' first|exact ck|with_reducible apply And.intro|intro _
   all_goals first|exact hq|exact hd|exact hI|exact hq1|exact ha|exact hda|(rename_i h;first|exact oI h|exact nah h)|(rename_i _ h _ g;exact sL h g)|decide|omega|(refine ret_with [.fz 7] ?_;simp only[↓eB,seval,go_sem,bne,yr_qcomparison,yb_qcomparison,yv_qcomparison,e_RESMP,hW,g3,g4,Pr.x,cd_mk,cd_nil,cd_dnil])
 |false=>
 cases i4:isT [62] q with
 |true=>
  have hr:cmpF q a cmpO 0=(.mk 4 a (exS (adv q)).1 .nil .nil [],(exS (adv q)).2):=by simp[cmpF,cmpO,i0,i1,i2,i3,i4]
  have ha:=isT_okQ hq1 i4
  have hda:=dp41 ha.ok
  have hs:=exS_nx ha.ok
  rw[hr]at hW
  cases e1:((exS (adv q)).2.e==0) with
  |false=>
   obtain⟨o1,o2,g3,g4⟩:=ps_w (Ps.refl _) e1
   simp only[↓eB,seval,go_sem,adv_fold,yb_qcomparison,yv_qcomparison,hQ',hA',hW,z0,z1,z2,z3,z4,z5,i0,i1,i2,i3,i4,g1,g2,g3,g4]
   try simp only[impB,impN]
   repeat' first|exact ck|with_reducible apply And.intro|intro _
   all_goals first|exact hq|exact hd|exact hI|exact hq1|exact ha|exact hda|(rename_i h;first|exact oI h|exact nah h)|(rename_i _ h _ g;exact sL h g)|decide|omega|(refine ret_with [] ?_;simp only[↓eB,seval,go_sem,bne,yr_qcomparison,yb_qcomparison,yv_qcomparison,e_RESMP,hW,g3,g4])
  |true=>
   have hq2:=ha.nx hs e1
   obtain⟨g3,g4⟩:=go_w e1
   simp only[↓eB,seval,go_sem,adv_fold,yb_qcomparison,yv_qcomparison,hQ',hA',hW,z0,z1,z2,z3,z4,z5,i0,i1,i2,i3,i4,g1,g2,g3,g4]
   try simp only[impB,impN]
   repeat' first|exact ck|with_reducible apply And.intro|intro _
   all_goals first|exact hq|exact hd|exact hI|exact hq1|exact ha|exact hda|(rename_i h;first|exact oI h|exact nah h)|(rename_i _ h _ g;exact sL h g)|decide|omega|(refine ret_with [.fz 7] ?_;simp only[↓eB,seval,go_sem,bne,yr_qcomparison,yb_qcomparison,yv_qcomparison,e_RESMP,hW,g3,g4,Pr.x,cd_mk,cd_nil,cd_dnil])
 |false=>
 cases i5:isT [62,61] q with
 |true=>
  have hr:cmpF q a cmpO 0=(.mk 5 a (exS (adv q)).1 .nil .nil [],(exS (adv q)).2):=by simp[cmpF,cmpO,i0,i1,i2,i3,i4,i5]
  have ha:=isT_okQ hq1 i5
  have hda:=dp41 ha.ok
  have hs:=exS_nx ha.ok
  rw[hr]at hW
  cases e1:((exS (adv q)).2.e==0) with
  |false=>
   obtain⟨o1,o2,g3,g4⟩:=ps_w (Ps.refl _) e1
   simp only[↓eB,seval,go_sem,adv_fold,yb_qcomparison,yv_qcomparison,hQ',hA',hW,z0,z1,z2,z3,z4,z5,i0,i1,i2,i3,i4,i5,g1,g2,g3,g4]
   try simp only[impB,impN]
   repeat' first|exact ck|with_reducible apply And.intro|intro _
   all_goals first|exact hq|exact hd|exact hI|exact hq1|exact ha|exact hda|(rename_i h;first|exact oI h|exact nah h)|(rename_i _ h _ g;exact sL h g)|decide|omega|(refine ret_with [] ?_;simp only[↓eB,seval,go_sem,bne,yr_qcomparison,yb_qcomparison,yv_qcomparison,e_RESMP,hW,g3,g4])
  |true=>
   have hq2:=ha.nx hs e1
   obtain⟨g3,g4⟩:=go_w e1
   simp only[↓eB,seval,go_sem,adv_fold,yb_qcomparison,yv_qcomparison,hQ',hA',hW,z0,z1,z2,z3,z4,z5,i0,i1,i2,i3,i4,i5,g1,g2,g3,g4]
   try simp only[impB,impN]
   repeat' first|exact ck|with_reducible apply And.intro|intro _
   all_goals first|exact hq|exact hd|exact hI|exact hq1|exact ha|exact hda|(rename_i h;first|exact oI h|exact nah h)|(rename_i _ h _ g;exact sL h g)|decide|omega|(refine ret_with [.fz 7] ?_;simp only[↓eB,seval,go_sem,bne,yr_qcomparison,yb_qcomparison,yv_qcomparison,e_RESMP,hW,g3,g4,Pr.x,cd_mk,cd_nil,cd_dnil])
 |false=>
 have hr:cmpF q a cmpO 0=(.nil,failP 51 q):=by simp[cmpF,cmpO,i0,i1,i2,i3,i4,i5]
 rw[hr]at hW
 obtain⟨f1,f2⟩:=failP_w (c:=51) hq1 (by decide)
 simp only[↓eB,seval,go_sem,adv_fold,yb_qcomparison,yv_qcomparison,hQ',hA',hW,z0,z1,z2,z3,z4,z5,i0,i1,i2,i3,i4,i5,g1,g2,f1,f2]
 try simp only[impB,impN]
 repeat' first|exact ck|with_reducible apply And.intro|intro _
 all_goals first|exact hq|exact hd|exact hI|exact hq1|(rename_i h;first|exact oI h|exact nah h)|(rename_i _ h _ g;exact sL h g)|decide|omega|(refine ret_with [] ?_;simp only[↓eB,seval,go_sem,bne,yr_qcomparison,yb_qcomparison,yv_qcomparison,e_RESMP,hW,f1,f2])
noncomputable def yp_qcomparison {X:Ctx} {w0:World}:Sy.Spec Tryz.prog X w0:=specMP 123 Tryz.call123 (ya_qcomparison) (fun p:(Pr)×Unit=>yc_qcomparison p.1) (fun p:(Pr)×Unit=>yb_qcomparison p.1) (fun p:(Pr)×Unit=>yr_qcomparison p.1) (fun p:(Pr)×Unit=>[some (yv_qcomparison p.1)]) yl_qcomparison yo_qcomparison yn_qcomparison y_qcomparison
set_option maxRecDepth 20000 in set_option maxHeartbeats 16000000 in
theorem y_qnotS (f:Nat) (hu:yq_qnot f) (hs:yq_qcond f):yq_qnot (f+1):=by
 rintro ⟨p,_u⟩ w M I lab fz xs hc hA hl hx
 refine calls_toMP Tryz.func119 rfl _ w M I lab fz (yb_qnot (f+1) p) (yv_qnot (f+1) p) [yp_qis,yp_qisName,yp_qahead,yp_qopen,yp_qclose,yp_qexpect,yp_qname,yp_qcomparison,(yg_qnot f hu),(yg_qcond f hs)] [] ((ya_qnot).args 0 ⟨p,_u⟩) (yr_qnot (f+1) p) xs hA hl hx (fun v hv k hk=>Nat.lt_of_lt_of_eq ((ya_qnot).an 0 ⟨p,_u⟩ v hv k hk).2 (Nat.zero_add _)) (Nat.le_of_ble_eq_true rfl) (yn_qnot (f+1) ⟨p,_u⟩ hc _ (List.mem_singleton.2 rfl)) ?_
 clear hx hl hA xs
 simp only[Tryz.f119]
 obtain⟨hq,hd⟩:=hc
 dsimp only at hq hd
 have hI:=hq.i
 have hx:=notQ (p:=p) f
 cases i0:isT [33] p with
 |true=>
  have hi:=(isT_e i0).2
  cases ob:opnB p with
  |false=>
   have hr:notF (f+1) p=(.nil,opP p):=by rw[hx];simp[i0,ob]
   obtain⟨o1,o2,g1,g2⟩:=ps_w (Ps.refl _) (opn_ps hq ob)
   simp only[↓eB,seval,go_sem,yg_qcond,yr_qcond,yb_qcond,yv_qcond,yp_qcomparison,yr_qcomparison,yb_qcomparison,yv_qcomparison,adv_fold,i0,hr,g1,g2]
   try simp only[impB,impN]
   repeat' first|exact ck|with_reducible apply And.intro|intro _
   all_goals first|exact hq|exact hi|(rename_i h;first|exact oI h|exact nah h)|(rename_i _ h _ g;exact sL h g)|decide|omega|(refine ret_with [] ?_;simp only[↓eB,seval,go_sem,bne,e_RESMP,hr,g1,g2])
  |true=>
   have hr:notF (f+1) p=(.mk 8 .nil .nil (notF f (opP p)).1 .nil [],shut (notF f (opP p)).2):=by rw[hx];simp[i0,ob]
   have hq1:=opP_okQ hq hi ob
   have hd1:dpU f (opP p):=by rw[opP_t ob];exact opn_dp hq.ok ob hd
   have hn1:=not_nx f _ hq1.ok
   obtain⟨a1,a2⟩:=go_w hq1.e'
   cases e1:((notF f (opP p)).2.e==0) with
   |false=>
    obtain⟨o1,o2,g1,g2⟩:=ps_w (Ps.refl (notF f (opP p)).2).shut e1
    simp only[↓eB,seval,go_sem,yg_qcond,yr_qcond,yb_qcond,yv_qcond,yp_qcomparison,yr_qcomparison,yb_qcomparison,yv_qcomparison,adv_fold,i0,hr,a1,a2,o1,o2,g1,g2]
    try simp only[impB,impN]
    repeat' first|exact ck|with_reducible apply And.intro|intro _
    all_goals first|exact hq|exact hi|exact hq1|exact hd1|(rename_i h;first|exact oI h|exact nah h)|(rename_i _ h _ g;exact sL h g)|decide|omega|(refine ret_with [] ?_;simp only[↓eB,seval,go_sem,bne,e_RESMP,hr,o1,o2,g1,g2])
   |true=>
    have hq2:=hq1.nx hn1 e1
    obtain⟨g1,g2⟩:=go_w e1
    obtain⟨c1,c2⟩:=go_w (show ((shut (notF f (opP p)).2).e==0)=true from e1)
    simp only[↓eB,seval,go_sem,yg_qcond,yr_qcond,yb_qcond,yv_qcond,yp_qcomparison,yr_qcomparison,yb_qcomparison,yv_qcomparison,adv_fold,i0,hr,a1,a2,c1,c2,g1,g2]
    try simp only[impB,impN]
    repeat' first|exact ck|with_reducible apply And.intro|intro _
    all_goals first|exact hq|exact hi|exact hq1|exact hd1|exact hq2|(rename_i h;first|exact oI h|exact nah h)|(rename_i _ h _ g;exact sL h g)|decide|omega|(refine ret_with [.fz 16] ?_;simp only[↓eB,seval,go_sem,bne,e_RESMP,hr,c1,c2,Pr.x,cd_nil,cd_mk,cd_dnil,ex_dnil])
 |false=>
 cases i1:isT [40] p with
 |true=>
  have hi:=(isT_e i1).2
  cases ob:opnB p with
  |false=>
   have hr:notF (f+1) p=(.nil,opP p):=by rw[hx];simp[i0,i1,ob]
   obtain⟨o1,o2,g1,g2⟩:=ps_w (Ps.refl _) (opn_ps hq ob)
   simp only[↓eB,seval,go_sem,yg_qcond,yr_qcond,yb_qcond,yv_qcond,yp_qcomparison,yr_qcomparison,yb_qcomparison,yv_qcomparison,adv_fold,i0,i1,hr,g1,g2]
   try simp only[impB,impN]
   repeat' first|exact ck|with_reducible apply And.intro|intro _
   all_goals first|exact hq|exact hi|(rename_i h;first|exact oI h|exact nah h)|(rename_i _ h _ g;exact sL h g)|decide|omega|(refine ret_with [] ?_;simp only[↓eB,seval,go_sem,bne,e_RESMP,hr,g1,g2])
  |true=>
   have hr:notF (f+1) p=((conW (notF f) (opP p)).1,shut (wanP [41] (conW (notF f) (opP p)).2)):=by rw[hx];simp[i0,i1,ob]
   have hq1:=opP_okQ hq hi ob
   have hd1:dpU f (opP p):=by rw[opP_t ob];exact opn_dp hq.ok ob hd
   have hn1:=conW_nx (not_nx f) _ hq1.ok
   have hn2:=wan_nx (t:=[41]) hn1.ok
   have hsg:sgT [41]=true:=rfl
   obtain⟨a1,a2⟩:=go_w hq1.e'
   cases e1:((conW (notF f) (opP p)).2.e==0) with
   |false=>
    obtain⟨o1,o2,g1,g2⟩:=ps_w hn2.ps.shut e1
    simp only[↓eB,seval,go_sem,yg_qcond,yr_qcond,yb_qcond,yv_qcond,yp_qcomparison,yr_qcomparison,yb_qcomparison,yv_qcomparison,adv_fold,i0,i1,hr,a1,a2,o1,o2,g1,g2]
    try simp only[impB,impN]
    repeat' first|exact ck|with_reducible apply And.intro|intro _
    all_goals first|exact hq|exact hi|exact hq1|exact hd1|(rename_i h;first|exact oI h|exact nah h)|(rename_i _ h _ g;exact sL h g)|decide|omega|(refine ret_with [] ?_;simp only[↓eB,seval,go_sem,bne,e_RESMP,hr,o1,o2,g1,g2])
   |true=>
   have hq2:=hq1.nx hn1 e1
   obtain⟨b1,b2⟩:=go_w e1
   cases e2:((wanP [41] (conW (notF f) (opP p)).2).e==0) with
   |false=>
    obtain⟨o1,o2,g1,g2⟩:=ps_w (Ps.refl (wanP [41] (conW (notF f) (opP p)).2)).shut e2
    simp only[↓eB,seval,go_sem,yg_qcond,yr_qcond,yb_qcond,yv_qcond,yp_qcomparison,yr_qcomparison,yb_qcomparison,yv_qcomparison,adv_fold,i0,i1,hr,a1,a2,b1,b2,o1,o2,g1,g2]
    try simp only[impB,impN]
    repeat' first|exact ck|with_reducible apply And.intro|intro _
    all_goals first|exact hq|exact hi|exact hq1|exact hd1|exact hq2|exact hsg|(rename_i h;first|exact oI h|exact nah h)|(rename_i _ h _ g;exact sL h g)|decide|omega|(refine ret_with [] ?_;simp only[↓eB,seval,go_sem,bne,e_RESMP,hr,o1,o2,g1,g2])
   |true=>
    have hq3:=hq2.nx hn2 e2
    obtain⟨g1,g2⟩:=go_w e2
    obtain⟨c1,c2⟩:=go_w (show ((shut (wanP [41] (conW (notF f) (opP p)).2)).e==0)=true from e2)
    simp only[↓eB,seval,go_sem,yg_qcond,yr_qcond,yb_qcond,yv_qcond,yp_qcomparison,yr_qcomparison,yb_qcomparison,yv_qcomparison,adv_fold,i0,i1,hr,a1,a2,b1,b2,c1,c2,g1,g2]
    try simp only[impB,impN]
    repeat' first|exact ck|with_reducible apply And.intro|intro _
    all_goals first|exact hq|exact hi|exact hq1|exact hd1|exact hq2|exact hq3|exact hsg|(rename_i h;first|exact oI h|exact nah h)|(rename_i _ h _ g;exact sL h g)|decide|omega|(refine ret_with [] ?_;simp only[↓eB,seval,go_sem,bne,e_RESMP,hr,c1,c2,Pr.x])
 |false=>
 have hnq:=nul_q hq
 cases hn:nullB p with
 |true=>
  have hr:notF (f+1) p=(nulC p,adv3 p):=by rw[hx];simp[i0,i1,hn]
  obtain⟨n1,n2,n3,n4,n5⟩:=null_e hq.ok hn
  have hc':=nulC_q hq hn
  rw[hn]at hnq
  have hna:nameB p=true:=by cases h:nameB p with
   |true=>rfl
   |false=>rw[h]at hnq;simp at hnq
  have hn2:(ahT 2 p==[110,117,108,108])=true:=by cases h:(ahT 2 p==[110,117,108,108]) with
   |true=>rfl
   |false=>rw[h]at hnq;simp at hnq
  have hns:namS p=(tk p).t:=by unfold namS;rw[if_pos hna]
  have hnt:=nam_t hna
  have ha:=adv_okQ hq (nameB_e hna).2
  obtain⟨b1,b2⟩:=go_w ha.e'
  have hq3:=hq.nx (adv3_nx hq.ok hn) (show ((adv3 p).e==0)=true from hq.e')
  obtain⟨c1,c2⟩:=go_w hq3.e'
  have n6:IntKind.i64.wrap ((adv p).i+2)=w64i (p.i+3):=by
   rw[adv_i hq.ok (nameB_e hna).2];show w64i (p.i+1+2)=_;rw[show p.i+1+2=p.i+3 by omega]
  cases z5:(ahT 1 p==[61,61]) with
  |true=>
   have z4:(ahT 1 p==[33,61])=false:=by
    have:ahT 1 p=[61,61]:=by simpa using z5
    rw[this];rfl
   rw[z5,if_pos rfl]at hc'
   rw[hc']at hr
   simp only[↓eB,seval,go_sem,yg_qcond,yr_qcond,yb_qcond,yv_qcond,yp_qcomparison,yr_qcomparison,yb_qcomparison,yv_qcomparison,adv_fold,i0,i1,hna,hn2,z5,z4,hr,hnt,hns,b1,b2,c1,c2,n6]
   try simp only[impB,impN]
   repeat' first|exact ck|with_reducible apply And.intro|intro _
   all_goals first|exact hq|exact hI|(rename_i h;first|exact oI h|exact nah h)|(rename_i _ h _ g;exact sL h g)|decide|omega|(refine ret_with [.fz 62] ?_;simp only[↓eB,seval,go_sem,bne,e_RESMP,hr,c1,c2,Pr.x,cd_mk,cd_nil,cd_dnil,ex_dnil,adv3,adv,n6,tk,hns])
  |false=>
   have z4:(ahT 1 p==[33,61])=true:=by rw[z5]at hnq;cases h:(ahT 1 p==[33,61]) with
    |true=>rfl
    |false=>rw[h]at hnq;simp at hnq
   rw[z5,if_neg (by decide)]at hc'
   rw[hc']at hr
   simp only[↓eB,seval,go_sem,yg_qcond,yr_qcond,yb_qcond,yv_qcond,yp_qcomparison,yr_qcomparison,yb_qcomparison,yv_qcomparison,adv_fold,i0,i1,hna,hn2,z5,z4,hr,hnt,hns,b1,b2,c1,c2,n6]
   try simp only[impB,impN]
   repeat' first|exact ck|with_reducible apply And.intro|intro _
   all_goals first|exact hq|exact hI|(rename_i h;first|exact oI h|exact nah h)|(rename_i _ h _ g;exact sL h g)|decide|omega|(refine ret_with [.fz 62,.fz 76] ?_;simp only[↓eB,seval,go_sem,bne,e_RESMP,hr,c1,c2,Pr.x,cd_mk,cd_nil,Cd.d,Ex.d,adv3,adv,n6,tk,hns])
 |false=>
 have hr:notF (f+1) p=cpF p:=by rw[hx];simp[i0,i1,hn]
 rw[hn]at hnq
 have hnq1:=hnq.symm
 have hn1:=(exS_nx hq.ok).trans (cp_nx hq.ok)
 cases hna:nameB p with
 |false=>
  cases e1:((cpF p).2.e==0) with
  |false=>
   obtain⟨o1,o2,g1,g2⟩:=ps_w (Ps.refl (cpF p).2) e1
   simp only[↓eB,seval,go_sem,yg_qcond,yr_qcond,yb_qcond,yv_qcond,yp_qcomparison,yr_qcomparison,yb_qcomparison,yv_qcomparison,adv_fold,i0,i1,hna,hr,g1,g2]
   try simp only[impB,impN]
   repeat' first|exact ck|with_reducible apply And.intro|intro _
   all_goals first|exact hq|exact hI|(rename_i h;first|exact oI h|exact nah h)|(rename_i _ h _ g;exact sL h g)|decide|omega|(refine ret_with [] ?_;simp only[↓eB,seval,go_sem,bne,e_RESMP,hr,g1,g2])
  |true=>
   obtain⟨c1,c2⟩:=go_w e1
   simp only[↓eB,seval,go_sem,yg_qcond,yr_qcond,yb_qcond,yv_qcond,yp_qcomparison,yr_qcomparison,yb_qcomparison,yv_qcomparison,adv_fold,i0,i1,hna,hr,c1,c2]
   try simp only[impB,impN]
   repeat' first|exact ck|with_reducible apply And.intro|intro _
   all_goals first|exact hq|exact hI|(rename_i h;first|exact oI h|exact nah h)|(rename_i _ h _ g;exact sL h g)|decide|omega|(refine ret_with [] ?_;simp only[↓eB,seval,go_sem,bne,e_RESMP,hr,c1,c2,Pr.x])
 |true=>
 cases z5:(ahT 1 p==[61,61]) with
 |true=>
  have z6:(ahT 2 p==[110,117,108,108])=false:=by rw[hna,z5]at hnq1;simpa using hnq1
  cases e1:((cpF p).2.e==0) with
  |false=>
   obtain⟨o1,o2,g1,g2⟩:=ps_w (Ps.refl (cpF p).2) e1
   simp only[↓eB,seval,go_sem,yg_qcond,yr_qcond,yb_qcond,yv_qcond,yp_qcomparison,yr_qcomparison,yb_qcomparison,yv_qcomparison,adv_fold,i0,i1,hna,z5,z6,hr,g1,g2]
   try simp only[impB,impN]
   repeat' first|exact ck|with_reducible apply And.intro|intro _
   all_goals first|exact hq|exact hI|(rename_i h;first|exact oI h|exact nah h)|(rename_i _ h _ g;exact sL h g)|decide|omega|(refine ret_with [] ?_;simp only[↓eB,seval,go_sem,bne,e_RESMP,hr,g1,g2])
  |true=>
   obtain⟨c1,c2⟩:=go_w e1
   simp only[↓eB,seval,go_sem,yg_qcond,yr_qcond,yb_qcond,yv_qcond,yp_qcomparison,yr_qcomparison,yb_qcomparison,yv_qcomparison,adv_fold,i0,i1,hna,z5,z6,hr,c1,c2]
   try simp only[impB,impN]
   repeat' first|exact ck|with_reducible apply And.intro|intro _
   all_goals first|exact hq|exact hI|(rename_i h;first|exact oI h|exact nah h)|(rename_i _ h _ g;exact sL h g)|decide|omega|(refine ret_with [] ?_;simp only[↓eB,seval,go_sem,bne,e_RESMP,hr,c1,c2,Pr.x])
 |false=>
 cases z4:(ahT 1 p==[33,61]) with
 |true=>
  have z6:(ahT 2 p==[110,117,108,108])=false:=by rw[hna,z5,z4]at hnq1;simpa using hnq1
  cases e1:((cpF p).2.e==0) with
  |false=>
   obtain⟨o1,o2,g1,g2⟩:=ps_w (Ps.refl (cpF p).2) e1
   simp only[↓eB,seval,go_sem,yg_qcond,yr_qcond,yb_qcond,yv_qcond,yp_qcomparison,yr_qcomparison,yb_qcomparison,yv_qcomparison,adv_fold,i0,i1,hna,z5,z4,z6,hr,g1,g2]
   try simp only[impB,impN]
   repeat' first|exact ck|with_reducible apply And.intro|intro _
   all_goals first|exact hq|exact hI|(rename_i h;first|exact oI h|exact nah h)|(rename_i _ h _ g;exact sL h g)|decide|omega|(refine ret_with [] ?_;simp only[↓eB,seval,go_sem,bne,e_RESMP,hr,g1,g2])
  |true=>
   obtain⟨c1,c2⟩:=go_w e1
   simp only[↓eB,seval,go_sem,yg_qcond,yr_qcond,yb_qcond,yv_qcond,yp_qcomparison,yr_qcomparison,yb_qcomparison,yv_qcomparison,adv_fold,i0,i1,hna,z5,z4,z6,hr,c1,c2]
   try simp only[impB,impN]
   repeat' first|exact ck|with_reducible apply And.intro|intro _
   all_goals first|exact hq|exact hI|(rename_i h;first|exact oI h|exact nah h)|(rename_i _ h _ g;exact sL h g)|decide|omega|(refine ret_with [] ?_;simp only[↓eB,seval,go_sem,bne,e_RESMP,hr,c1,c2,Pr.x])
 |false=>
  cases e1:((cpF p).2.e==0) with
  |false=>
   obtain⟨o1,o2,g1,g2⟩:=ps_w (Ps.refl (cpF p).2) e1
   simp only[↓eB,seval,go_sem,yg_qcond,yr_qcond,yb_qcond,yv_qcond,yp_qcomparison,yr_qcomparison,yb_qcomparison,yv_qcomparison,adv_fold,i0,i1,hna,z5,z4,hr,g1,g2]
   try simp only[impB,impN]
   repeat' first|exact ck|with_reducible apply And.intro|intro _
   all_goals first|exact hq|exact hI|(rename_i h;first|exact oI h|exact nah h)|(rename_i _ h _ g;exact sL h g)|decide|omega|(refine ret_with [] ?_;simp only[↓eB,seval,go_sem,bne,e_RESMP,hr,g1,g2])
  |true=>
   obtain⟨c1,c2⟩:=go_w e1
   simp only[↓eB,seval,go_sem,yg_qcond,yr_qcond,yb_qcond,yv_qcond,yp_qcomparison,yr_qcomparison,yb_qcomparison,yv_qcomparison,adv_fold,i0,i1,hna,z5,z4,hr,c1,c2]
   try simp only[impB,impN]
   repeat' first|exact ck|with_reducible apply And.intro|intro _
   all_goals first|exact hq|exact hI|(rename_i h;first|exact oI h|exact nah h)|(rename_i _ h _ g;exact sL h g)|decide|omega|(refine ret_with [] ?_;simp only[↓eB,seval,go_sem,bne,e_RESMP,hr,c1,c2,Pr.x])
theorem y_qnot:∀f:Nat,yq_qnot f
 |0=>by
  rintro ⟨p,_u⟩ w M I lab fz xs hc hA hl hx
  obtain⟨h1,h2⟩:=hc
  have h3:p.deep≤40:=h1.ok.2.2.2.2.1
  have h4:41≤p.deep+((0:Nat):Int):=h2
  exact absurd h4 (by simp;omega)
 |f+1=>y_qnotS f (y_qnot f) (y_qcond f (y_qnot f))
noncomputable abbrev sqCond {X:Ctx} {w0:World}:Sy.Spec Tryz.prog X w0:=yg_qcond 41 (y_qcond 41 (y_qnot 41))
end Go.Proofs.YtlaggppdgoknjaaGreatDoor
