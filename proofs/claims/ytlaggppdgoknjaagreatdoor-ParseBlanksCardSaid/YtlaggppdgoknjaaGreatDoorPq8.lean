/- The program's parser: arguments, what a statement assigns, walked. No conditions but those in each statement. -/
import Derived.Test.YtlaggppdgoknjaaGreatDoorPq7
import Derived.Test.YtlaggppdgoknjaaGreatDoorSo
import Derived.Test.YtlaggppdgoknjaaGreatDoorSy36
set_option linter.unusedVariables false
set_option linter.unusedSimpArgs false
namespace Go.Proofs.YtlaggppdgoknjaaGreatDoor
open Go Go.Sy Go.RowKit
abbrev yc_qtest (p:Pr):Prop:=okQ p
abbrev yb_qtest (p:Pr):Bool:=(wanP [41] (cdS (wanP [40] p)).2).b
abbrev yr_qtest (p:Pr):SV:=.one (cdC (cdS (wanP [40] p)).1)
abbrev yv_qtest (p:Pr):MV:=(wanP [41] (cdS (wanP [40] p)).2).w
noncomputable abbrev ya_qtest:ArgM ((Pr)×Unit):=(amP (mPq) am0)
abbrev yq_qtest:Prop:=CallsMP Tryz.prog 81 ((ya_qtest).args 0) (ya_qtest).mem (fun p:(Pr)×Unit=>yc_qtest p.1) (fun p:(Pr)×Unit=>yb_qtest p.1) (fun p:(Pr)×Unit=>yr_qtest p.1) (fun p:(Pr)×Unit=>[some (yv_qtest p.1)])
theorem yl_qtest:∀p,(fun p:(Pr)×Unit=>yc_qtest p.1) p→((fun p:(Pr)×Unit=>[some (yv_qtest p.1)]) p).length=((ya_qtest).mem p).length:=by intro p _;rfl
theorem yo_qtest:∀p,(fun p:(Pr)×Unit=>yc_qtest p.1) p→outV ((fun p:(Pr)×Unit=>[some (yv_qtest p.1)]) p).length ((fun p:(Pr)×Unit=>yr_qtest p.1) p)=true:=by intro p _;first|rfl|exact ex_out _ _|exact cd_out _ _|(simp[outV,outC,ex_out,cd_out];done)
theorem yn_qtest:∀p,(fun p:(Pr)×Unit=>yc_qtest p.1) p→∀q,some q∈(fun p:(Pr)×Unit=>[some (yv_qtest p.1)]) p→∀r∈q.2,∀c∈r,c.names=[]:=by intro p _;exact memw_nm _
attribute [local go_sem] Pr.q Pr.s Sf.c Tok.r cPt_d cPt_e mPq_d mPq_d' mPq_e mPq_z mSf_d mSf_e mSf_z pnOf_f pnOf_t pr_eta ptR rPq_d rPq_d' rPq_e rPq_z tkq_at valC wkR_self yb_qcond yb_qexpect yb_qfail yb_qname yb_qneed yb_qopen yb_qsum yg_qcond yg_qsum yp_qaccept yp_qahead yp_qclose yp_qexpect yp_qfail yp_qis yp_qisKind yp_qisName yp_qname yp_qneed yp_qopen yp_qvalue yr_qahead yr_qcond yr_qis yr_qisKind yr_qisName yr_qname yr_qsum yr_qvalue yv_qcond yv_qexpect yv_qfail yv_qname yv_qneed yv_qopen yv_qsum zTk
set_option maxRecDepth 20000 in set_option maxHeartbeats 16000000 in
theorem y_qtest:yq_qtest:=by
 rintro ⟨p,_u⟩ w M I lab fz xs hc hA hl hx
 refine calls_toMP Tryz.func81 rfl _ w M I lab fz (yb_qtest p) (yv_qtest p) [yp_qexpect,sqCond] [] ((ya_qtest).args 0 ⟨p,_u⟩) (yr_qtest p) xs hA hl hx (fun v hv k hk=>Nat.lt_of_lt_of_eq ((ya_qtest).an 0 ⟨p,_u⟩ v hv k hk).2 (Nat.zero_add _)) (Nat.le_of_ble_eq_true rfl) (yn_qtest ⟨p,_u⟩ hc _ (List.mem_singleton.2 rfl)) ?_
 clear hx hl hA xs
 simp only[Tryz.f81]
 have hq:okQ p:=hc
 have s1:sgT [40]=true:=rfl
 have s2:sgT [41]=true:=rfl
 have n1:=wan_nx (t:=[40]) hq.ok
 have n2:=cdS_nx n1.ok
 have n3:=wan_nx (t:=[41]) n2.ok
 cases e1:((wanP [40] p).e==0) with
 |false=>
  obtain⟨o1,o2,g1,g2⟩:=ps_w (n2.trans n3).ps e1
  simp only[↓eB,seval,go_sem,adv_fold,↓arO_names,↓arO_stor,↓arO_noVw,↓arO_ldc,yb_qtest,yv_qtest,o1,o2,g1,g2]
  try simp only[impB,impN]
  repeat' first|exact ck|with_reducible apply And.intro|intro _
  all_goals first|exact hq|exact s1|(rename_i h;first|exact oI h|exact nah h)|(rename_i _ h _ g;exact sL h g)|decide|omega|(refine ret_with [] ?_;simp only[↓eB,seval,go_sem,bne,yr_qtest,yb_qtest,yv_qtest,e_RESMP,o1,o2,g1,g2])
 |true=>
 have q1:=hq.nx n1 e1
 have d1:=dp41 q1.ok
 obtain⟨a1,a2⟩:=go_w e1
 cases e2:((cdS (wanP [40] p)).2.e==0) with
 |false=>
  obtain⟨o1,o2,g1,g2⟩:=ps_w n3.ps e2
  simp only[↓eB,seval,go_sem,adv_fold,↓arO_names,↓arO_stor,↓arO_noVw,↓arO_ldc,yb_qtest,yv_qtest,a1,a2,o1,o2,g1,g2]
  try simp only[impB,impN]
  repeat' first|exact ck|with_reducible apply And.intro|intro _
  all_goals first|exact hq|exact s1|exact q1|exact d1|(rename_i h;first|exact oI h|exact nah h)|(rename_i _ h _ g;exact sL h g)|decide|omega|(refine ret_with [] ?_;simp only[↓eB,seval,go_sem,bne,yr_qtest,yb_qtest,yv_qtest,e_RESMP,o1,o2,g1,g2])
 |true=>
 have q2:=q1.nx n2 e2
 obtain⟨b1,b2⟩:=go_w e2
 cases e3:((wanP [41] (cdS (wanP [40] p)).2).e==0) with
 |false=>
  obtain⟨o1,o2,g1,g2⟩:=ps_w (Ps.refl (wanP [41] (cdS (wanP [40] p)).2)) e3
  simp only[↓eB,seval,go_sem,adv_fold,↓arO_names,↓arO_stor,↓arO_noVw,↓arO_ldc,yb_qtest,yv_qtest,a1,a2,b1,b2,o1,o2]
  try simp only[impB,impN]
  repeat' first|exact ck|with_reducible apply And.intro|intro _
  all_goals first|exact hq|exact s1|exact q1|exact d1|exact q2|exact s2|(rename_i h;first|exact oI h|exact nah h)|(rename_i _ h _ g;exact sL h g)|decide|omega|(refine ret_with [] ?_;simp only[↓eB,seval,go_sem,bne,yr_qtest,yb_qtest,yv_qtest,e_RESMP,o1,o2])
 |true=>
  obtain⟨g1,g2⟩:=go_w e3
  simp only[↓eB,seval,go_sem,adv_fold,↓arO_names,↓arO_stor,↓arO_noVw,↓arO_ldc,yb_qtest,yv_qtest,a1,a2,b1,b2,g1,g2]
  try simp only[impB,impN]
  repeat' first|exact ck|with_reducible apply And.intro|intro _
  all_goals first|exact hq|exact s1|exact q1|exact d1|exact q2|exact s2|(rename_i h;first|exact oI h|exact nah h)|(rename_i _ h _ g;exact sL h g)|decide|omega|(refine ret_with [] ?_;simp only[↓eB,seval,go_sem,bne,yr_qtest,yb_qtest,yv_qtest,e_RESMP,g1,g2,Pr.x,arS,↓arO_names,↓arO_stor,↓arO_noVw,↓arO_ldc])
noncomputable def yp_qtest {X:Ctx} {w0:World}:Sy.Spec Tryz.prog X w0:=specMP 81 Tryz.call81 (ya_qtest) (fun p:(Pr)×Unit=>yc_qtest p.1) (fun p:(Pr)×Unit=>yb_qtest p.1) (fun p:(Pr)×Unit=>yr_qtest p.1) (fun p:(Pr)×Unit=>[some (yv_qtest p.1)]) yl_qtest yo_qtest yn_qtest y_qtest
abbrev yc_qindex (p:Pr):Prop:=okQ p∧isT [91] p=true
abbrev yb_qindex (p:Pr):Bool:=(wanP [93] (exS (adv p)).2).b
abbrev yr_qindex (p:Pr):SV:=.one (exC (exS (adv p)).1)
abbrev yv_qindex (p:Pr):MV:=(wanP [93] (exS (adv p)).2).w
noncomputable abbrev ya_qindex:ArgM ((Pr)×Unit):=(amP (mPq) am0)
abbrev yq_qindex:Prop:=CallsMP Tryz.prog 93 ((ya_qindex).args 0) (ya_qindex).mem (fun p:(Pr)×Unit=>yc_qindex p.1) (fun p:(Pr)×Unit=>yb_qindex p.1) (fun p:(Pr)×Unit=>yr_qindex p.1) (fun p:(Pr)×Unit=>[some (yv_qindex p.1)])
theorem yl_qindex:∀p,(fun p:(Pr)×Unit=>yc_qindex p.1) p→((fun p:(Pr)×Unit=>[some (yv_qindex p.1)]) p).length=((ya_qindex).mem p).length:=by intro p _;rfl
theorem yo_qindex:∀p,(fun p:(Pr)×Unit=>yc_qindex p.1) p→outV ((fun p:(Pr)×Unit=>[some (yv_qindex p.1)]) p).length ((fun p:(Pr)×Unit=>yr_qindex p.1) p)=true:=by intro p _;first|rfl|exact ex_out _ _|exact cd_out _ _|(simp[outV,outC,ex_out,cd_out];done)
theorem yn_qindex:∀p,(fun p:(Pr)×Unit=>yc_qindex p.1) p→∀q,some q∈(fun p:(Pr)×Unit=>[some (yv_qindex p.1)]) p→∀r∈q.2,∀c∈r,c.names=[]:=by intro p _;exact memw_nm _
set_option maxRecDepth 20000 in set_option maxHeartbeats 16000000 in
theorem y_qindex:yq_qindex:=by
 rintro ⟨p,_u⟩ w M I lab fz xs hc hA hl hx
 refine calls_toMP Tryz.func93 rfl _ w M I lab fz (yb_qindex p) (yv_qindex p) [yp_qexpect,sqSum] [] ((ya_qindex).args 0 ⟨p,_u⟩) (yr_qindex p) xs hA hl hx (fun v hv k hk=>Nat.lt_of_lt_of_eq ((ya_qindex).an 0 ⟨p,_u⟩ v hv k hk).2 (Nat.zero_add _)) (Nat.le_of_ble_eq_true rfl) (yn_qindex ⟨p,_u⟩ hc _ (List.mem_singleton.2 rfl)) ?_
 clear hx hl hA xs
 simp only[Tryz.f93]
 obtain⟨hq,hi⟩:=hc
 dsimp only at hq hi
 have s1:sgT [91]=true:=rfl
 have s2:sgT [93]=true:=rfl
 have ht:=wan_t hi
 have q1:=isT_okQ hq hi
 have d1:=dp41 q1.ok
 have n2:=exS_nx q1.ok
 have n3:=wan_nx (t:=[93]) n2.ok
 obtain⟨a1,a2⟩:=go_w q1.e'
 cases e2:((exS (adv p)).2.e==0) with
 |false=>
  obtain⟨o1,o2,g1,g2⟩:=ps_w n3.ps e2
  simp only[↓eB,seval,go_sem,adv_fold,↓arO_names,↓arO_stor,↓arO_noVw,↓arO_ldc,yb_qindex,yv_qindex,ht,a1,a2,o1,o2,g1,g2]
  try simp only[impB,impN]
  repeat' first|exact ck|with_reducible apply And.intro|intro _
  all_goals first|exact hq|exact s1|exact q1|exact d1|(rename_i h;first|exact oI h|exact nah h)|(rename_i _ h _ g;exact sL h g)|decide|omega|(refine ret_with [] ?_;simp only[↓eB,seval,go_sem,bne,yr_qindex,yb_qindex,yv_qindex,e_RESMP,o1,o2,g1,g2])
 |true=>
 have q2:=q1.nx n2 e2
 obtain⟨b1,b2⟩:=go_w e2
 cases e3:((wanP [93] (exS (adv p)).2).e==0) with
 |false=>
  obtain⟨o1,o2,g1,g2⟩:=ps_w (Ps.refl (wanP [93] (exS (adv p)).2)) e3
  simp only[↓eB,seval,go_sem,adv_fold,↓arO_names,↓arO_stor,↓arO_noVw,↓arO_ldc,yb_qindex,yv_qindex,ht,a1,a2,b1,b2,o1,o2]
  try simp only[impB,impN]
  repeat' first|exact ck|with_reducible apply And.intro|intro _
  all_goals first|exact hq|exact s1|exact q1|exact d1|exact q2|exact s2|(rename_i h;first|exact oI h|exact nah h)|(rename_i _ h _ g;exact sL h g)|decide|omega|(refine ret_with [] ?_;simp only[↓eB,seval,go_sem,bne,yr_qindex,yb_qindex,yv_qindex,e_RESMP,o1,o2])
 |true=>
  obtain⟨g1,g2⟩:=go_w e3
  simp only[↓eB,seval,go_sem,adv_fold,↓arO_names,↓arO_stor,↓arO_noVw,↓arO_ldc,yb_qindex,yv_qindex,ht,a1,a2,b1,b2,g1,g2]
  try simp only[impB,impN]
  repeat' first|exact ck|with_reducible apply And.intro|intro _
  all_goals first|exact hq|exact s1|exact q1|exact d1|exact q2|exact s2|(rename_i h;first|exact oI h|exact nah h)|(rename_i _ h _ g;exact sL h g)|decide|omega|(refine ret_with [] ?_;simp only[↓eB,seval,go_sem,bne,yr_qindex,yb_qindex,yv_qindex,e_RESMP,g1,g2,Pr.x,arS,↓arO_names,↓arO_stor,↓arO_noVw,↓arO_ldc])
noncomputable def yp_qindex {X:Ctx} {w0:World}:Sy.Spec Tryz.prog X w0:=specMP 93 Tryz.call93 (ya_qindex) (fun p:(Pr)×Unit=>yc_qindex p.1) (fun p:(Pr)×Unit=>yb_qindex p.1) (fun p:(Pr)×Unit=>yr_qindex p.1) (fun p:(Pr)×Unit=>[some (yv_qindex p.1)]) yl_qindex yo_qindex yn_qindex y_qindex
abbrev yc_qargs (p:Pr):Prop:=okQ p∧isT [40] p=true
abbrev yb_qargs (p:Pr):Bool:=(argW (adv p)).2.b
abbrev yr_qargs (p:Pr):SV:=.one (arS (argW (adv p)).1)
abbrev yv_qargs (p:Pr):MV:=(argW (adv p)).2.w
noncomputable abbrev ya_qargs:ArgM ((Pr)×Unit):=(amP (mPq) am0)
abbrev yq_qargs:Prop:=CallsMP Tryz.prog 94 ((ya_qargs).args 0) (ya_qargs).mem (fun p:(Pr)×Unit=>yc_qargs p.1) (fun p:(Pr)×Unit=>yb_qargs p.1) (fun p:(Pr)×Unit=>yr_qargs p.1) (fun p:(Pr)×Unit=>[some (yv_qargs p.1)])
theorem yl_qargs:∀p,(fun p:(Pr)×Unit=>yc_qargs p.1) p→((fun p:(Pr)×Unit=>[some (yv_qargs p.1)]) p).length=((ya_qargs).mem p).length:=by intro p _;rfl
theorem yo_qargs:∀p,(fun p:(Pr)×Unit=>yc_qargs p.1) p→outV ((fun p:(Pr)×Unit=>[some (yv_qargs p.1)]) p).length ((fun p:(Pr)×Unit=>yr_qargs p.1) p)=true:=by intro p _;first|rfl|exact ex_out _ _|exact cd_out _ _|(simp[outV,outC,ex_out,cd_out];done)
theorem yn_qargs:∀p,(fun p:(Pr)×Unit=>yc_qargs p.1) p→∀q,some q∈(fun p:(Pr)×Unit=>[some (yv_qargs p.1)]) p→∀r∈q.2,∀c∈r,c.names=[]:=by intro p _;exact memw_nm _
set_option maxRecDepth 20000 in set_option maxHeartbeats 16000000 in
theorem y_qargs:yq_qargs:=by
 rintro ⟨p,_u⟩ w M I lab fz xs hc hA hl hx
 refine calls_toMP Tryz.func94 rfl _ w M I lab fz (yb_qargs p) (yv_qargs p) [yp_qexpect,yp_qaccept,sqSum] [] ((ya_qargs).args 0 ⟨p,_u⟩) (yr_qargs p) xs hA hl hx (fun v hv k hk=>Nat.lt_of_lt_of_eq ((ya_qargs).an 0 ⟨p,_u⟩ v hv k hk).2 (Nat.zero_add _)) (Nat.le_of_ble_eq_true rfl) (yn_qargs ⟨p,_u⟩ hc _ (List.mem_singleton.2 rfl)) ?_
 clear hx hl hA xs
 simp only[Tryz.f94]
 obtain⟨hq,hi⟩:=hc
 dsimp only at hq hi
 have s1:sgT [40]=true:=rfl
 have s2:sgT [41]=true:=rfl
 have s3:sgT [44]=true:=rfl
 have ht:=wan_t hi
 have q1:=isT_okQ hq hi
 have d1:=dp41 q1.ok
 obtain⟨a1,a2⟩:=go_w q1.e'
 cases i0:isT [41] (adv p) with
 |true=>
  have hr:argW (adv p)=([],adv (adv p)):=by simp[argW,i0]
  have t0:=takP_t i0
  have q2:=isT_okQ q1 i0
  obtain⟨b1,b2⟩:=go_w q2.e'
  simp only[↓eB,seval,go_sem,adv_fold,↓arO_names,↓arO_stor,↓arO_noVw,↓arO_ldc,yb_qargs,yv_qargs,ht,a1,a2,i0,t0,hr,b1,b2]
  try simp only[impB,impN]
  repeat' first|exact ck|with_reducible apply And.intro|intro _
  all_goals first|exact hq|exact s1|exact s2|exact q1|(rename_i h;first|exact oI h|exact nah h)|(rename_i _ h _ g;exact sL h g)|decide|omega|(refine ret_with [] ?_;simp only[↓eB,seval,go_sem,bne,yr_qargs,yb_qargs,yv_qargs,e_RESMP,hr,b1,b2,Pr.x,arS,↓arO_names,↓arO_stor,↓arO_noVw,↓arO_ldc])
 |false=>
 have t0:=takP_f i0
 have hk:0<(adv p).l.length+1:=Nat.succ_pos _
 have hr:argW (adv p)=argM (adv p).l.length ([]++[⟨false,[],(exS (adv p)).1⟩]) (exS (adv p)).2:=by
  have:argW (adv p)=argL ((adv p).l.length+1) [] (adv p):=by simp[argW,i0]
  rw[this,argM_S q1.e]
 have n1:=exS_nx q1.ok
 cases e1:((exS (adv p)).2.e==0) with
 |false=>
  have k1:Nx (exS (adv p)).2 (argW (adv p)).2:=by rw[hr];exact argM_nx n1.ok
  obtain⟨o1,o2,g1,g2⟩:=ps_w k1.ps e1
  simp only[↓eB,seval,go_sem,adv_fold,↓arO_names,↓arO_stor,↓arO_noVw,↓arO_ldc,yb_qargs,yv_qargs,ht,a1,a2,i0,t0,o1,o2,g1,g2]
  try simp only[impB,impN]
  repeat' first|exact ck|with_reducible apply And.intro|intro _
  all_goals first|exact hq|exact s1|exact s2|exact q1|exact d1|(rename_i h;first|exact oI h|exact nah h)|(rename_i _ h _ g;exact sL h g)|decide|omega|(refine ret_with [] ?_;simp only[↓eB,seval,go_sem,bne,yr_qargs,yb_qargs,yv_qargs,e_RESMP,o1,o2,g1,g2])
 |true=>
 have q2:=q1.nx n1 e1
 obtain⟨g1,g2⟩:=go_w e1
 have hi1:=adv_i hq.ok (isT_e hi).2
 have h0:=hq.hn
 simp only[↓eB,seval,go_sem,adv_fold,↓arO_names,↓arO_stor,↓arO_noVw,↓arO_ldc,yb_qargs,yv_qargs,ht,a1,a2,i0,t0,g1,g2]
 try simp only[impB,impN]
 repeat' (first|exact ck|with_reducible apply And.intro)
 all_goals try first|exact hq|exact s1|exact s2|exact q1|exact d1|decide|omega
 refine loop_ok (Y:=Nat×List Ar×Pr) (fun y=>okQ y.2.2∧(y.2.2.l.length:Int)≤y.2.2.i+(y.1:Int)∧(y.2.1.length:Int)≤y.2.2.i∧argM y.1 y.2.1 y.2.2=argW (adv p))
  (fun y=>⟨[(0,true,.one (.p 0 0 0)),(3,true,.one (.s 1000))],[(0,.vec 0 zPq [y.2.2.q]),(1000,.vec 0 zAc (y.2.1.map Ar.c))]⟩)
  (fun y=>y.1) ((adv p).l.length,[⟨false,[],(exS (adv p)).1⟩],(exS (adv p)).2) ⟨q2,by have:=n1.i;rw[hi1]at this;dsimp only;rw[n1.l];omega,by have:=n1.i;rw[hi1]at this;simp only[List.length_cons,List.length_nil];omega,hr.symm⟩ ?_ ?_
 ·refine to_with [.mv 11 1000] ?_;simp only[↓eB,seval,go_sem,Pr.x,arS,↓arO_names,↓arO_stor,↓arO_noVw,↓arO_ldc,zAc,Ar.c]
 ·rintro ⟨k,l,q⟩ ⟨h1,h2,h3,h4⟩
  refine vc_ok [yp_qexpect,yp_qaccept,sqSum] [] _ _ _ ?_
  dsimp only at h1 h2 h3 h4
  have hle:l.length≤4096:=by have:=h1.ok.2.1;have:=h1.ok.2.2.1;omega
  cases it:isT [44] q with
  |true=>
   obtain⟨k',rfl⟩:∃k',k=k'+1:=⟨k-1,by have:=(isT_e it).2;omega⟩
   have ha:=isT_okQ h1 it
   have hd:=dp41 ha.ok
   have hai:=adv_i h1.ok (isT_e it).2
   have n2:=exS_nx ha.ok
   have tt:=takP_t it
   have h5:argM k' (l++[⟨false,[],(exS (adv q)).1⟩]) (exS (adv q)).2=argW (adv p):=by
    rw[← h4]
    have i2:=isT_ex it (t:=[41]) rfl
    unfold argM
    rw[i2,wan_t it]
    simp only[Bool.false_eq_true,if_false]
    rw[argM_S ha.e];rfl
   cases e2:((exS (adv q)).2.e==0) with
   |false=>
    have k2:Nx (exS (adv q)).2 (argW (adv p)).2:=by rw[← h5];exact argM_nx n2.ok
    obtain⟨o1,o2,g1,g2⟩:=ps_w k2.ps e2
    simp only[↓eB,seval,go_sem,adv_fold,↓arO_names,↓arO_stor,↓arO_noVw,↓arO_ldc,yb_qargs,yv_qargs,it,tt,o1,o2,g1,g2,zAc,rowsA.fn]
    try simp only[impB,impN]
    repeat' first|exact ck|with_reducible apply And.intro|intro _
    all_goals first|exact h1|exact s3|exact ha|exact hd|(rename_i h;first|exact oI h|exact nah h)|(rename_i _ h _ g;exact sL h g)|decide|omega|(refine ret_with [] ?_;simp only[↓eB,seval,go_sem,bne,yr_qargs,yb_qargs,yv_qargs,e_RESMP,o1,o2,g1,g2])
   |true=>
    have q3:=ha.nx n2 e2
    obtain⟨g1,g2⟩:=go_w e2
    simp only[↓eB,seval,go_sem,adv_fold,↓arO_names,↓arO_stor,↓arO_noVw,↓arO_ldc,yb_qargs,yv_qargs,it,tt,g1,g2,zAc,rowsA.fn]
    try simp only[impB,impN]
    repeat' first|exact ck|with_reducible apply And.intro|intro _
    all_goals try first|exact h1|exact s3|exact ha|exact hd|(rename_i h;first|exact oI h|exact nah h)|(rename_i _ h _ g;exact sL h g)|decide|omega
    refine⟨(k',l++[⟨false,[],(exS (adv q)).1⟩],(exS (adv q)).2),⟨q3,?_,?_,h5⟩,Nat.lt_succ_self _,
     to_trans (t:=⟨[(0,true,.one (.p 0 0 0)),(3,true,.one (.s 19))],[(0,.vec 0 zPq [(exS (adv q)).2.q]),(19,.vec 0 zAc ((l++[(⟨false,[],(exS (adv q)).1⟩:Ar)]).map Ar.c))]⟩) (to_with [] ?_) (to_with [.mv 19 1000] ?_)⟩
    ·have:=n2.i;rw[hai]at this;dsimp only;rw[n2.l];show (q.l.length:Int)≤_;omega
    ·have:=n2.i;rw[hai]at this;simp only[List.length_append,List.length_cons,List.length_nil];omega
    ·simp only[↓eB,seval,go_sem,Pr.x,arS,↓arO_names,↓arO_stor,↓arO_noVw,↓arO_ldc,zAc,rowsA.fn,List.flatMap_append,List.map_append,Ar.c]
    ·simp only[↓eB,seval,go_sem,Pr.x,arS,↓arO_names,↓arO_stor,↓arO_noVw,↓arO_ldc,zAc,rowsA.fn,rowsA.mv]
  |false=>
   have tf:=takP_f it
   have n2:=wan_nx (t:=[41]) h1.ok
   cases i3:isT [41] q with
   |true=>
    have hr2:argW (adv p)=(l,adv q):=by rw[← h4];unfold argM;rw[i3];rfl
    have w3:=wan_t i3
    have q4:=isT_okQ h1 i3
    obtain⟨g1,g2⟩:=go_w q4.e'
    simp only[↓eB,seval,go_sem,adv_fold,↓arO_names,↓arO_stor,↓arO_noVw,↓arO_ldc,yb_qargs,yv_qargs,it,tf,w3,g1,g2,hr2,zAc,rowsA.fn]
    try simp only[impB,impN]
    repeat' first|exact ck|with_reducible apply And.intro|intro _
    all_goals first|exact h1|exact s3|exact s2|(rename_i h;first|exact oI h|exact nah h)|(rename_i _ h _ g;exact sL h g)|decide|omega|(refine ret_with [.fz 1000] ?_;simp only[↓eB,seval,go_sem,bne,yr_qargs,yb_qargs,yv_qargs,e_RESMP,hr2,g1,g2,Pr.x,arS,↓arO_names,↓arO_stor,↓arO_noVw,↓arO_ldc,zAr,zAc,rowsA.ds1,rowsA.ds,rowsA.fz,List.map_append,Ar.r])
   |false=>
    have w3:=wan_f i3
    have hr2:argW (adv p)=([],failP 51 q):=by
     rw[← h4];unfold argM;rw[i3]
     simp only[Bool.false_eq_true,if_false]
     rw[wan_f it,argL_f _ _ (failP_ne (by decide) q)]
    obtain⟨f1,f2⟩:=failP_w (c:=51) h1 (by decide)
    simp only[↓eB,seval,go_sem,adv_fold,↓arO_names,↓arO_stor,↓arO_noVw,↓arO_ldc,yb_qargs,yv_qargs,it,tf,w3,f1,f2,hr2,zAc,rowsA.fn]
    try simp only[impB,impN]
    repeat' first|exact ck|with_reducible apply And.intro|intro _
    all_goals first|exact h1|exact s3|exact s2|(rename_i h;first|exact oI h|exact nah h)|(rename_i _ h _ g;exact sL h g)|decide|omega|(refine ret_with [] ?_;simp only[↓eB,seval,go_sem,bne,yr_qargs,yb_qargs,yv_qargs,e_RESMP,hr2,f1,f2])
noncomputable def yp_qargs {X:Ctx} {w0:World}:Sy.Spec Tryz.prog X w0:=specMP 94 Tryz.call94 (ya_qargs) (fun p:(Pr)×Unit=>yc_qargs p.1) (fun p:(Pr)×Unit=>yb_qargs p.1) (fun p:(Pr)×Unit=>yr_qargs p.1) (fun p:(Pr)×Unit=>[some (yv_qargs p.1)]) yl_qargs yo_qargs yn_qargs y_qargs
theorem nm_q2 (p:Pr) (b:Bool) (r:List C) (hr:∀c∈r,c.names=[]):∀q,some q∈(some p.w::offM b [((zSc,[r]):MV)])→∀r∈q.2,∀c∈r,c.names=[]:=by
 intro q hq r' hr' c hc
 cases b with
 |true=>
  simp only[offM_t,offM_n,List.mem_cons,List.not_mem_nil,or_false,Option.some.injEq,reduceCtorEq]at hq
  subst hq;exact memw_nm p _ (List.mem_singleton.2 rfl) r' hr' c hc
 |false=>
  simp only[offM_f,offM_n,List.mem_cons,List.not_mem_nil,or_false,Option.some.injEq]at hq
  rcases hq with rfl|rfl
  ·exact memw_nm p _ (List.mem_singleton.2 rfl) r' hr' c hc
  ·simp only[List.mem_singleton]at hr';subst hr';exact hr c hc
theorem val_nm (s:Sf) (v:VR):∀c∈valC s v,c.names=[]:=by
 intro c hc
 simp only[valC,List.mem_cons,List.not_mem_nil,or_false]at hc
 rcases hc with rfl|rfl|rfl|rfl|rfl|rfl|rfl|rfl|rfl|rfl<;>first|rfl|exact ex_names _|exact arO_names _
abbrev yc_qassigned (p:Pr) (s:Sf):Prop:=okQ p
abbrev yb_qassigned (p:Pr) (s:Sf):Bool:=(valF p).2.b
abbrev yr_qassigned (p:Pr) (s:Sf):SV:=.tup []
abbrev yv_qassigned (p:Pr) (s:Sf):MV:=(valF p).2.w
abbrev ys_qassigned (p:Pr) (s:Sf):List MV:=[(zSc,[valC s (valF p).1])]
noncomputable abbrev ya_qassigned:ArgM ((Pr)×(Sf)×Unit):=(amP (mPq) (amP (mSf) am0))
abbrev yq_qassigned:Prop:=CallsMP Tryz.prog 95 ((ya_qassigned).args 0) (ya_qassigned).mem (fun p:(Pr)×(Sf)×Unit=>yc_qassigned p.1 p.2.1) (fun p:(Pr)×(Sf)×Unit=>yb_qassigned p.1 p.2.1) (fun p:(Pr)×(Sf)×Unit=>yr_qassigned p.1 p.2.1) (fun p:(Pr)×(Sf)×Unit=>some (yv_qassigned p.1 p.2.1)::offM (yb_qassigned p.1 p.2.1) (ys_qassigned p.1 p.2.1))
theorem yl_qassigned:∀p,(fun p:(Pr)×(Sf)×Unit=>yc_qassigned p.1 p.2.1) p→((fun p:(Pr)×(Sf)×Unit=>some (yv_qassigned p.1 p.2.1)::offM (yb_qassigned p.1 p.2.1) (ys_qassigned p.1 p.2.1)) p).length=((ya_qassigned).mem p).length:=by intro p _;rfl
theorem yo_qassigned:∀p,(fun p:(Pr)×(Sf)×Unit=>yc_qassigned p.1 p.2.1) p→outV ((fun p:(Pr)×(Sf)×Unit=>some (yv_qassigned p.1 p.2.1)::offM (yb_qassigned p.1 p.2.1) (ys_qassigned p.1 p.2.1)) p).length ((fun p:(Pr)×(Sf)×Unit=>yr_qassigned p.1 p.2.1) p)=true:=by intro p _;first|rfl|exact ex_out _ _|exact cd_out _ _|(simp[outV,outC,ex_out,cd_out];done)
theorem yn_qassigned:∀p,(fun p:(Pr)×(Sf)×Unit=>yc_qassigned p.1 p.2.1) p→∀q,some q∈(fun p:(Pr)×(Sf)×Unit=>some (yv_qassigned p.1 p.2.1)::offM (yb_qassigned p.1 p.2.1) (ys_qassigned p.1 p.2.1)) p→∀r∈q.2,∀c∈r,c.names=[]:=by intro p _;exact nm_q2 _ _ _ (val_nm _ _)
set_option maxRecDepth 20000 in set_option maxHeartbeats 16000000 in
theorem y_qassigned:yq_qassigned:=by
 rintro ⟨p,s,_u⟩ w M I lab fz xs hc hA hl hx
 refine calls_toMN Tryz.func95 rfl ((ya_qassigned).mem ⟨p,s,_u⟩) w M I lab fz (yb_qassigned p s) (yv_qassigned p s) (some (yv_qassigned p s)::offM (yb_qassigned p s) (ys_qassigned p s)) [yp_qaccept,yp_qisName,yp_qahead,yp_qname,yp_qindex,yp_qargs,sqSum] [] ((ya_qassigned).args 0 ⟨p,s,_u⟩) (yr_qassigned p s) xs hA hl hx (fun v hv k hk=>by have:=(ya_qassigned).an 0 ⟨p,s,_u⟩ v hv k hk;omega) (Nat.le_of_ble_eq_true rfl) rfl rfl (offM_bad _ _ _) (yn_qassigned ⟨p,s,_u⟩ hc _ (List.mem_cons_self ..)) ?_
 clear hx hl hA xs
 simp only[Tryz.f95]
 have hq:okQ p:=hc
 have hI:=hq.i
 have hd:=dp41 hq.ok
 have sN:sgT tNull=true:=rfl
 have s38:sgT [38]=true:=rfl
 have s42:sgT [42]=true:=rfl
 have b3:=ahB_q hq (t:=[91]) rfl
 have b4:=ahB_q hq (t:=[40]) rfl
 cases i0:isT tNull p with
 |true=>
  have hr:valF p=(⟨3,[],.nil,none⟩,adv p):=by simp[valF,i0]
  have t0:=takP_t i0
  obtain⟨g1,g2⟩:=go_w (isT_okQ hq i0).e'
  simp only[↓eB,seval,go_sem,yp_qargs,yr_qargs,yb_qargs,yv_qargs,yp_qindex,yr_qindex,yb_qindex,yv_qindex,adv_fold,↓arO_names,↓arO_stor,↓arO_noVw,↓arO_ldc,yb_qassigned,yv_qassigned,ys_qassigned,i0,t0,hr,g1,g2]
  try simp only[impB,impN]
  repeat' first|exact ck|with_reducible apply And.intro|intro _
  all_goals first|exact hq|exact sN|(rename_i h;first|exact oI h|exact nah h)|(rename_i _ h _ g;exact sL h g)|decide|omega|(refine ret_with [] ?_;simp only[↓eB,seval,go_sem,bne,yr_qassigned,yb_qassigned,yv_qassigned,e_RESMP,hr,g1,g2,Pr.x,arS,↓arO_names,↓arO_stor,↓arO_noVw,↓arO_ldc,arO_none,arO_some,ex_nil,zSc])
 |false=>
 have f0:=takP_f i0
 cases i1:isT [38] p with
 |true=>
  have hr:valF p=(⟨1,namS (adv p),.nil,none⟩,namP (adv p)):=by simp[valF,i0,i1]
  have t1:=takP_t i1
  have qa:=isT_okQ hq i1
  have n1:=nam_nx qa.ok
  cases e1:((namP (adv p)).e==0) with
  |false=>
   obtain⟨o1,o2,g1,g2⟩:=ps_w (Ps.refl (namP (adv p))) e1
   simp only[↓eB,seval,go_sem,yp_qargs,yr_qargs,yb_qargs,yv_qargs,yp_qindex,yr_qindex,yb_qindex,yv_qindex,adv_fold,↓arO_names,↓arO_stor,↓arO_noVw,↓arO_ldc,yb_qassigned,yv_qassigned,ys_qassigned,i0,i1,f0,t1,hr,o1,o2]
   try simp only[impB,impN]
   repeat' first|exact ck|with_reducible apply And.intro|intro _
   all_goals first|exact hq|exact sN|exact s38|exact s42|exact qa|(rename_i h;first|exact oI h|exact nah h)|(rename_i _ h _ g;exact sL h g)|decide|omega|(refine ret_with [] ?_;simp only[↓eB,seval,go_sem,bne,yr_qassigned,yb_qassigned,yv_qassigned,e_RESMP,hr,o1,o2])
  |true=>
   obtain⟨g1,g2⟩:=go_w e1
   simp only[↓eB,seval,go_sem,yp_qargs,yr_qargs,yb_qargs,yv_qargs,yp_qindex,yr_qindex,yb_qindex,yv_qindex,adv_fold,↓arO_names,↓arO_stor,↓arO_noVw,↓arO_ldc,yb_qassigned,yv_qassigned,ys_qassigned,i0,i1,f0,t1,hr,g1,g2]
   try simp only[impB,impN]
   repeat' first|exact ck|with_reducible apply And.intro|intro _
   all_goals first|exact hq|exact sN|exact s38|exact s42|exact qa|(rename_i h;first|exact oI h|exact nah h)|(rename_i _ h _ g;exact sL h g)|decide|omega|(refine ret_with [] ?_;simp only[↓eB,seval,go_sem,bne,yr_qassigned,yb_qassigned,yv_qassigned,e_RESMP,hr,g1,g2,Pr.x,arS,↓arO_names,↓arO_stor,↓arO_noVw,↓arO_ldc,arO_none,arO_some,ex_nil,zSc])
 |false=>
 have f1:=takP_f i1
 cases i2:isT [42] p with
 |true=>
  have hr:valF p=(⟨4,namS (adv p),.nil,none⟩,namP (adv p)):=by simp[valF,i0,i1,i2]
  have t2:=takP_t i2
  have qa:=isT_okQ hq i2
  have n1:=nam_nx qa.ok
  cases e1:((namP (adv p)).e==0) with
  |false=>
   obtain⟨o1,o2,g1,g2⟩:=ps_w (Ps.refl (namP (adv p))) e1
   simp only[↓eB,seval,go_sem,yp_qargs,yr_qargs,yb_qargs,yv_qargs,yp_qindex,yr_qindex,yb_qindex,yv_qindex,adv_fold,↓arO_names,↓arO_stor,↓arO_noVw,↓arO_ldc,yb_qassigned,yv_qassigned,ys_qassigned,i0,i1,i2,f0,f1,t2,hr,o1,o2]
   try simp only[impB,impN]
   repeat' first|exact ck|with_reducible apply And.intro|intro _
   all_goals first|exact hq|exact sN|exact s38|exact s42|exact qa|(rename_i h;first|exact oI h|exact nah h)|(rename_i _ h _ g;exact sL h g)|decide|omega|(refine ret_with [] ?_;simp only[↓eB,seval,go_sem,bne,yr_qassigned,yb_qassigned,yv_qassigned,e_RESMP,hr,o1,o2])
  |true=>
   obtain⟨g1,g2⟩:=go_w e1
   simp only[↓eB,seval,go_sem,yp_qargs,yr_qargs,yb_qargs,yv_qargs,yp_qindex,yr_qindex,yb_qindex,yv_qindex,adv_fold,↓arO_names,↓arO_stor,↓arO_noVw,↓arO_ldc,yb_qassigned,yv_qassigned,ys_qassigned,i0,i1,i2,f0,f1,t2,hr,g1,g2]
   try simp only[impB,impN]
   repeat' first|exact ck|with_reducible apply And.intro|intro _
   all_goals first|exact hq|exact sN|exact s38|exact s42|exact qa|(rename_i h;first|exact oI h|exact nah h)|(rename_i _ h _ g;exact sL h g)|decide|omega|(refine ret_with [] ?_;simp only[↓eB,seval,go_sem,bne,yr_qassigned,yb_qassigned,yv_qassigned,e_RESMP,hr,g1,g2,Pr.x,arS,↓arO_names,↓arO_stor,↓arO_noVw,↓arO_ldc,arO_none,arO_some,ex_nil,zSc])
 |false=>
 have f2:=takP_f i2
 cases i3:ahB [91] p with
 |true=>
  have hr:valF p=(⟨6,namS p,(exS (adv (namP p))).1,none⟩,wanP [93] (exS (adv (namP p))).2):=by simp[valF,i0,i1,i2,i3]
  obtain⟨z1,z2⟩:=ahB_is hq rfl i3
  rw[i3,z2,Bool.true_and]at b3
  have hnt:=nam_t z2
  rw[hnt]at hr
  have qa:=adv_okQ hq (nameB_e z2).2
  obtain⟨a1,a2⟩:=go_w qa.e'
  cases e1:((wanP [93] (exS (adv (adv p))).2).e==0) with
  |false=>
   obtain⟨o1,o2,g1,g2⟩:=ps_w (Ps.refl (wanP [93] (exS (adv (adv p))).2)) e1
   simp only[↓eB,seval,go_sem,yp_qargs,yr_qargs,yb_qargs,yv_qargs,yp_qindex,yr_qindex,yb_qindex,yv_qindex,adv_fold,↓arO_names,↓arO_stor,↓arO_noVw,↓arO_ldc,yb_qassigned,yv_qassigned,ys_qassigned,i0,i1,i2,f0,f1,f2,z2,← b3,hnt,a1,a2,hr,o1,o2]
   try simp only[impB,impN]
   repeat' first|exact ck|with_reducible apply And.intro|intro _
   all_goals first|exact hq|exact hI|exact sN|exact s38|exact s42|exact qa|exact z1|(rename_i h;first|exact oI h|exact nah h)|(rename_i _ h _ g;exact sL h g)|decide|omega|(refine ret_with [] ?_;simp only[↓eB,seval,go_sem,bne,yr_qassigned,yb_qassigned,yv_qassigned,e_RESMP,hr,o1,o2])
  |true=>
   obtain⟨g1,g2⟩:=go_w e1
   simp only[↓eB,seval,go_sem,yp_qargs,yr_qargs,yb_qargs,yv_qargs,yp_qindex,yr_qindex,yb_qindex,yv_qindex,adv_fold,↓arO_names,↓arO_stor,↓arO_noVw,↓arO_ldc,yb_qassigned,yv_qassigned,ys_qassigned,i0,i1,i2,f0,f1,f2,z2,← b3,hnt,a1,a2,hr,g1,g2]
   try simp only[impB,impN]
   repeat' first|exact ck|with_reducible apply And.intro|intro _
   all_goals first|exact hq|exact hI|exact sN|exact s38|exact s42|exact qa|exact z1|(rename_i h;first|exact oI h|exact nah h)|(rename_i _ h _ g;exact sL h g)|decide|omega|(refine ret_with [] ?_;simp only[↓eB,seval,go_sem,bne,yr_qassigned,yb_qassigned,yv_qassigned,e_RESMP,hr,g1,g2,Pr.x,arS,↓arO_names,↓arO_stor,↓arO_noVw,↓arO_ldc,arO_none,arO_some,ex_nil,zSc])
 |false=>
 cases i4:ahB [40] p with
 |true=>
  have hr:valF p=(⟨8,namS p,.nil,some (argW (adv (namP p))).1⟩,(argW (adv (namP p))).2):=by simp[valF,i0,i1,i2,i3,i4]
  obtain⟨z1,z2⟩:=ahB_is hq rfl i4
  rw[i3,z2,Bool.true_and]at b3
  rw[i4,z2,Bool.true_and]at b4
  have hnt:=nam_t z2
  rw[hnt]at hr
  have qa:=adv_okQ hq (nameB_e z2).2
  obtain⟨a1,a2⟩:=go_w qa.e'
  cases e1:((argW (adv (adv p))).2.e==0) with
  |false=>
   obtain⟨o1,o2,g1,g2⟩:=ps_w (Ps.refl (argW (adv (adv p))).2) e1
   simp only[↓eB,seval,go_sem,yp_qargs,yr_qargs,yb_qargs,yv_qargs,yp_qindex,yr_qindex,yb_qindex,yv_qindex,adv_fold,↓arO_names,↓arO_stor,↓arO_noVw,↓arO_ldc,yb_qassigned,yv_qassigned,ys_qassigned,i0,i1,i2,f0,f1,f2,z2,← b3,← b4,hnt,a1,a2,hr,o1,o2]
   try simp only[impB,impN]
   repeat' first|exact ck|with_reducible apply And.intro|intro _
   all_goals first|exact hq|exact hI|exact sN|exact s38|exact s42|exact qa|exact z1|(rename_i h;first|exact oI h|exact nah h)|(rename_i _ h _ g;exact sL h g)|decide|omega|(refine ret_with [] ?_;simp only[↓eB,seval,go_sem,bne,yr_qassigned,yb_qassigned,yv_qassigned,e_RESMP,hr,o1,o2])
  |true=>
   obtain⟨g1,g2⟩:=go_w e1
   simp only[↓eB,seval,go_sem,yp_qargs,yr_qargs,yb_qargs,yv_qargs,yp_qindex,yr_qindex,yb_qindex,yv_qindex,adv_fold,↓arO_names,↓arO_stor,↓arO_noVw,↓arO_ldc,yb_qassigned,yv_qassigned,ys_qassigned,i0,i1,i2,f0,f1,f2,z2,← b3,← b4,hnt,a1,a2,hr,g1,g2]
   try simp only[impB,impN]
   repeat' first|exact ck|with_reducible apply And.intro|intro _
   all_goals first|exact hq|exact hI|exact sN|exact s38|exact s42|exact qa|exact z1|(rename_i h;first|exact oI h|exact nah h)|(rename_i _ h _ g;exact sL h g)|decide|omega|(refine ret_with [] ?_;simp only[↓eB,seval,go_sem,bne,yr_qassigned,yb_qassigned,yv_qassigned,e_RESMP,hr,g1,g2,Pr.x,arS,↓arO_names,↓arO_stor,↓arO_noVw,↓arO_ldc,arO_none,arO_some,ex_nil,zSc])
 |false=>
 have hr:valF p=(⟨0,[],(exS p).1,none⟩,(exS p).2):=by simp[valF,i0,i1,i2,i3,i4]
 rw[i3]at b3
 rw[i4]at b4
 have b3':=b3.symm
 have b4':=b4.symm
 cases e1:((exS p).2.e==0) with
 |false=>
  obtain⟨o1,o2,g1,g2⟩:=ps_w (Ps.refl (exS p).2) e1
  simp only[↓eB,seval,go_sem,yp_qargs,yr_qargs,yb_qargs,yv_qargs,yp_qindex,yr_qindex,yb_qindex,yv_qindex,adv_fold,↓arO_names,↓arO_stor,↓arO_noVw,↓arO_ldc,yb_qassigned,yv_qassigned,ys_qassigned,i0,i1,i2,f0,f1,f2,b3',b4',hr,o1,o2]
  try simp only[impB,impN]
  repeat' first|exact ck|with_reducible apply And.intro|intro _
  all_goals first|exact hq|exact hI|exact hd|exact sN|exact s38|exact s42|(rename_i h;first|exact oI h|exact nah h)|(rename_i _ h _ g;exact sL h g)|decide|omega|(refine ret_with [] ?_;simp only[↓eB,seval,go_sem,bne,yr_qassigned,yb_qassigned,yv_qassigned,e_RESMP,hr,o1,o2])
 |true=>
  obtain⟨g1,g2⟩:=go_w e1
  simp only[↓eB,seval,go_sem,yp_qargs,yr_qargs,yb_qargs,yv_qargs,yp_qindex,yr_qindex,yb_qindex,yv_qindex,adv_fold,↓arO_names,↓arO_stor,↓arO_noVw,↓arO_ldc,yb_qassigned,yv_qassigned,ys_qassigned,i0,i1,i2,f0,f1,f2,b3',b4',hr,g1,g2]
  try simp only[impB,impN]
  repeat' first|exact ck|with_reducible apply And.intro|intro _
  all_goals first|exact hq|exact hI|exact hd|exact sN|exact s38|exact s42|(rename_i h;first|exact oI h|exact nah h)|(rename_i _ h _ g;exact sL h g)|decide|omega|(refine ret_with [] ?_;simp only[↓eB,seval,go_sem,bne,yr_qassigned,yb_qassigned,yv_qassigned,e_RESMP,hr,g1,g2,Pr.x,arS,↓arO_names,↓arO_stor,↓arO_noVw,↓arO_ldc,arO_none,arO_some,ex_nil,zSc])
noncomputable def yp_qassigned {X:Ctx} {w0:World}:Sy.Spec Tryz.prog X w0:=specMP 95 Tryz.call95 (ya_qassigned) (fun p:(Pr)×(Sf)×Unit=>yc_qassigned p.1 p.2.1) (fun p:(Pr)×(Sf)×Unit=>yb_qassigned p.1 p.2.1) (fun p:(Pr)×(Sf)×Unit=>yr_qassigned p.1 p.2.1) (fun p:(Pr)×(Sf)×Unit=>some (yv_qassigned p.1 p.2.1)::offM (yb_qassigned p.1 p.2.1) (ys_qassigned p.1 p.2.1)) yl_qassigned yo_qassigned yn_qassigned y_qassigned
def nmdC (no:Int) (v:NR):List C:=[.v (.int .i64 v.k),.v (.string (bs v.x)),.v (.string (bs v.y)),exC v.e,exC v.f,.v (.pointer none),arO v.a,.v (.slice none 0 0),.v (.slice none 0 0),.v (.int .i64 no)]
theorem nmd_nm (no:Int) (v:NR):∀c∈nmdC no v,c.names=[]:=by
 intro c hc
 simp only[nmdC,List.mem_cons,List.not_mem_nil,or_false]at hc
 rcases hc with rfl|rfl|rfl|rfl|rfl|rfl|rfl|rfl|rfl|rfl<;>first|rfl|exact ex_names _|exact arO_names _
abbrev yc_qnamed (p:Pr) (s:Sf):Prop:=okQ p∧s.x=[]
abbrev yb_qnamed (p:Pr) (s:Sf):Bool:=(nmdF p).2.b
abbrev yr_qnamed (p:Pr) (s:Sf):SV:=.tup []
abbrev yv_qnamed (p:Pr) (s:Sf):MV:=(nmdF p).2.w
abbrev ys_qnamed (p:Pr) (s:Sf):List MV:=[(zSc,[nmdC s.no (nmdF p).1])]
noncomputable abbrev ya_qnamed:ArgM ((Pr)×(Sf)×Unit):=(amP (mPq) (amP (mSf) am0))
abbrev yq_qnamed:Prop:=CallsMP Tryz.prog 84 ((ya_qnamed).args 0) (ya_qnamed).mem (fun p:(Pr)×(Sf)×Unit=>yc_qnamed p.1 p.2.1) (fun p:(Pr)×(Sf)×Unit=>yb_qnamed p.1 p.2.1) (fun p:(Pr)×(Sf)×Unit=>yr_qnamed p.1 p.2.1) (fun p:(Pr)×(Sf)×Unit=>some (yv_qnamed p.1 p.2.1)::offM (yb_qnamed p.1 p.2.1) (ys_qnamed p.1 p.2.1))
theorem yl_qnamed:∀p,(fun p:(Pr)×(Sf)×Unit=>yc_qnamed p.1 p.2.1) p→((fun p:(Pr)×(Sf)×Unit=>some (yv_qnamed p.1 p.2.1)::offM (yb_qnamed p.1 p.2.1) (ys_qnamed p.1 p.2.1)) p).length=((ya_qnamed).mem p).length:=by intro p _;rfl
theorem yo_qnamed:∀p,(fun p:(Pr)×(Sf)×Unit=>yc_qnamed p.1 p.2.1) p→outV ((fun p:(Pr)×(Sf)×Unit=>some (yv_qnamed p.1 p.2.1)::offM (yb_qnamed p.1 p.2.1) (ys_qnamed p.1 p.2.1)) p).length ((fun p:(Pr)×(Sf)×Unit=>yr_qnamed p.1 p.2.1) p)=true:=by intro p _;first|rfl|exact ex_out _ _|exact cd_out _ _|(simp[outV,outC,ex_out,cd_out];done)
theorem yn_qnamed:∀p,(fun p:(Pr)×(Sf)×Unit=>yc_qnamed p.1 p.2.1) p→∀q,some q∈(fun p:(Pr)×(Sf)×Unit=>some (yv_qnamed p.1 p.2.1)::offM (yb_qnamed p.1 p.2.1) (ys_qnamed p.1 p.2.1)) p→∀r∈q.2,∀c∈r,c.names=[]:=by intro p _;exact nm_q2 _ _ _ (nmd_nm _ _)
set_option maxRecDepth 20000 in set_option maxHeartbeats 16000000 in
theorem y_qnamed:yq_qnamed:=by
 rintro ⟨p,s,_u⟩ w M I lab fz xs hc hA hl hx
 refine calls_toMN Tryz.func84 rfl ((ya_qnamed).mem ⟨p,s,_u⟩) w M I lab fz (yb_qnamed p s) (yv_qnamed p s) (some (yv_qnamed p s)::offM (yb_qnamed p s) (ys_qnamed p s)) [yp_qis,yp_qexpect,yp_qname,yp_qindex,yp_qargs,yp_qassigned,sqSum] [] ((ya_qnamed).args 0 ⟨p,s,_u⟩) (yr_qnamed p s) xs hA hl hx (fun v hv k hk=>by have:=(ya_qnamed).an 0 ⟨p,s,_u⟩ v hv k hk;omega) (Nat.le_of_ble_eq_true rfl) rfl rfl (offM_bad _ _ _) (yn_qnamed ⟨p,s,_u⟩ hc _ (List.mem_cons_self ..)) ?_
 clear hx hl hA xs
 simp only[Tryz.f84]
 obtain⟨hq,hx⟩:=hc
 dsimp only at hq hx
 have s40:sgT [40]=true:=rfl
 have s61:sgT [61]=true:=rfl
 have s91:sgT [91]=true:=rfl
 have n1:=nam_nx hq.ok
 have k0:Ps (namP p) (nmdF p).2:=by
  unfold nmdF
  split
  ·rename_i h;intro h0;exact absurd (isT_e h).1 h0
  split
  ·rename_i h;intro h0;exact absurd (isT_e h).1 h0
  ·exact((wan_nx n1.ok).trans (val_nx (wan_nx n1.ok).ok)).ps
 cases e0:((namP p).e==0) with
 |false=>
  obtain⟨o1,o2,g1,g2⟩:=ps_w k0 e0
  simp only[↓eB,seval,go_sem,yp_qargs,yr_qargs,yb_qargs,yv_qargs,yp_qindex,yr_qindex,yb_qindex,yv_qindex,yp_qassigned,yb_qassigned,yv_qassigned,ys_qassigned,adv_fold,↓arO_names,↓arO_stor,↓arO_noVw,↓arO_ldc,yb_qnamed,yv_qnamed,ys_qnamed,hx,o1,o2,g1,g2]
  try simp only[impB,impN]
  repeat' first|exact ck|with_reducible apply And.intro|intro _
  all_goals first|exact hq|(rename_i h;first|exact oI h|exact nah h)|(rename_i _ h _ g;exact sL h g)|decide|omega|(refine ret_with [] ?_;simp only[↓eB,seval,go_sem,bne,yr_qnamed,yb_qnamed,yv_qnamed,e_RESMP,o1,o2,g1,g2])
 |true=>
 have q1:=hq.nx n1 e0
 have hI:=q1.i
 obtain⟨a1,a2⟩:=go_w e0
 cases i1:isT [91] (namP p) with
 |true=>
  have hr:nmdF p=(⟨7,[],namS p,(exS (adv (namP p))).1,(exS (wanP [61] (wanP [93] (exS (adv (namP p))).2))).1,none⟩,(exS (wanP [61] (wanP [93] (exS (adv (namP p))).2))).2):=by unfold nmdF;rw[i1,if_pos rfl]
  have qa:=isT_okQ q1 i1
  have m1:=exS_nx qa.ok
  have m2:=wan_nx (t:=[93]) m1.ok
  have m3:=wan_nx (t:=[61]) m2.ok
  have m4:=exS_nx m3.ok
  generalize hV:(exS (adv (namP p))).1=v at hr
  generalize hW:wanP [93] (exS (adv (namP p))).2=q at hr m2 m3 m4
  have hV':(sumW (unF 41) (adv (namP p))).1=v:=hV
  have hW':wanP [93] (sumW (unF 41) (adv (namP p))).2=q:=hW
  cases e2:(q.e==0) with
  |false=>
   obtain⟨o1,o2,g1,g2⟩:=ps_w (m3.trans m4).ps e2
   simp only[↓eB,seval,go_sem,yp_qargs,yr_qargs,yb_qargs,yv_qargs,yp_qindex,yr_qindex,yb_qindex,yv_qindex,yp_qassigned,yb_qassigned,yv_qassigned,ys_qassigned,adv_fold,↓arO_names,↓arO_stor,↓arO_noVw,↓arO_ldc,yb_qnamed,yv_qnamed,ys_qnamed,hx,a1,a2,i1,hV',hW',hr,o1,o2,g1,g2]
   try simp only[impB,impN]
   repeat' first|exact ck|with_reducible apply And.intro|intro _
   all_goals first|exact hq|exact hI|exact q1|exact i1|exact s91|(rename_i h;first|exact oI h|exact nah h)|(rename_i _ h _ g;exact sL h g)|decide|omega|(refine ret_with [] ?_;simp only[↓eB,seval,go_sem,bne,yr_qnamed,yb_qnamed,yv_qnamed,e_RESMP,hr,o1,o2,g1,g2])
  |true=>
  have q2:=(qa.nx (m1.trans m2) e2)
  obtain⟨b1,b2⟩:=go_w e2
  cases e3:((wanP [61] q).e==0) with
  |false=>
   obtain⟨o1,o2,g1,g2⟩:=ps_w m4.ps e3
   simp only[↓eB,seval,go_sem,yp_qargs,yr_qargs,yb_qargs,yv_qargs,yp_qindex,yr_qindex,yb_qindex,yv_qindex,yp_qassigned,yb_qassigned,yv_qassigned,ys_qassigned,adv_fold,↓arO_names,↓arO_stor,↓arO_noVw,↓arO_ldc,yb_qnamed,yv_qnamed,ys_qnamed,hx,a1,a2,i1,hV',hW',b1,b2,hr,o1,o2,g1,g2]
   try simp only[impB,impN]
   repeat' first|exact ck|with_reducible apply And.intro|intro _
   all_goals first|exact hq|exact hI|exact q1|exact i1|exact s91|exact q2|exact s61|(rename_i h;first|exact oI h|exact nah h)|(rename_i _ h _ g;exact sL h g)|decide|omega|(refine ret_with [] ?_;simp only[↓eB,seval,go_sem,bne,yr_qnamed,yb_qnamed,yv_qnamed,e_RESMP,hr,o1,o2,g1,g2])
  |true=>
  have q3:=q2.nx m3 e3
  have d3:=dp41 q3.ok
  obtain⟨c1,c2⟩:=go_w e3
  cases e4:((exS (wanP [61] q)).2.e==0) with
  |false=>
   obtain⟨o1,o2,g1,g2⟩:=ps_w (Ps.refl (exS (wanP [61] q)).2) e4
   simp only[↓eB,seval,go_sem,yp_qargs,yr_qargs,yb_qargs,yv_qargs,yp_qindex,yr_qindex,yb_qindex,yv_qindex,yp_qassigned,yb_qassigned,yv_qassigned,ys_qassigned,adv_fold,↓arO_names,↓arO_stor,↓arO_noVw,↓arO_ldc,yb_qnamed,yv_qnamed,ys_qnamed,hx,a1,a2,i1,hV',hW',b1,b2,c1,c2,hr,o1,o2]
   try simp only[impB,impN]
   repeat' first|exact ck|with_reducible apply And.intro|intro _
   all_goals first|exact hq|exact hI|exact q1|exact i1|exact s91|exact q2|exact s61|exact q3|exact d3|(rename_i h;first|exact oI h|exact nah h)|(rename_i _ h _ g;exact sL h g)|decide|omega|(refine ret_with [] ?_;simp only[↓eB,seval,go_sem,bne,yr_qnamed,yb_qnamed,yv_qnamed,e_RESMP,hr,o1,o2])
  |true=>
   obtain⟨g1,g2⟩:=go_w e4
   simp only[↓eB,seval,go_sem,yp_qargs,yr_qargs,yb_qargs,yv_qargs,yp_qindex,yr_qindex,yb_qindex,yv_qindex,yp_qassigned,yb_qassigned,yv_qassigned,ys_qassigned,adv_fold,↓arO_names,↓arO_stor,↓arO_noVw,↓arO_ldc,yb_qnamed,yv_qnamed,ys_qnamed,hx,a1,a2,i1,hV',hW',b1,b2,c1,c2,hr,g1,g2]
   try simp only[impB,impN]
   repeat' first|exact ck|with_reducible apply And.intro|intro _
   all_goals first|exact hq|exact hI|exact q1|exact i1|exact s91|exact q2|exact s61|exact q3|exact d3|(rename_i h;first|exact oI h|exact nah h)|(rename_i _ h _ g;exact sL h g)|decide|omega|(refine ret_with [] ?_;simp only[↓eB,seval,go_sem,bne,yr_qnamed,yb_qnamed,yv_qnamed,e_RESMP,hr,g1,g2,Pr.x,arS,↓arO_names,↓arO_stor,↓arO_noVw,↓arO_ldc,nmdC,arO_none,arO_some,ex_nil,zSc,hx])
 |false=>
 cases i2:isT [40] (namP p) with
 |true=>
  have hr:nmdF p=(⟨8,[],namS p,.nil,.nil,some (argW (adv (namP p))).1⟩,(argW (adv (namP p))).2):=by unfold nmdF;simp[i1,i2]
  cases e2:((argW (adv (namP p))).2.e==0) with
  |false=>
   obtain⟨o1,o2,g1,g2⟩:=ps_w (Ps.refl (argW (adv (namP p))).2) e2
   simp only[↓eB,seval,go_sem,yp_qargs,yr_qargs,yb_qargs,yv_qargs,yp_qindex,yr_qindex,yb_qindex,yv_qindex,yp_qassigned,yb_qassigned,yv_qassigned,ys_qassigned,adv_fold,↓arO_names,↓arO_stor,↓arO_noVw,↓arO_ldc,yb_qnamed,yv_qnamed,ys_qnamed,hx,a1,a2,i1,i2,hr,o1,o2]
   try simp only[impB,impN]
   repeat' first|exact ck|with_reducible apply And.intro|intro _
   all_goals first|exact hq|exact hI|exact q1|exact i2|exact s91|exact s40|(rename_i h;first|exact oI h|exact nah h)|(rename_i _ h _ g;exact sL h g)|decide|omega|(refine ret_with [] ?_;simp only[↓eB,seval,go_sem,bne,yr_qnamed,yb_qnamed,yv_qnamed,e_RESMP,hr,o1,o2])
  |true=>
   obtain⟨g1,g2⟩:=go_w e2
   simp only[↓eB,seval,go_sem,yp_qargs,yr_qargs,yb_qargs,yv_qargs,yp_qindex,yr_qindex,yb_qindex,yv_qindex,yp_qassigned,yb_qassigned,yv_qassigned,ys_qassigned,adv_fold,↓arO_names,↓arO_stor,↓arO_noVw,↓arO_ldc,yb_qnamed,yv_qnamed,ys_qnamed,hx,a1,a2,i1,i2,hr,g1,g2]
   try simp only[impB,impN]
   repeat' first|exact ck|with_reducible apply And.intro|intro _
   all_goals first|exact hq|exact hI|exact q1|exact i2|exact s91|exact s40|(rename_i h;first|exact oI h|exact nah h)|(rename_i _ h _ g;exact sL h g)|decide|omega|(refine ret_with [] ?_;simp only[↓eB,seval,go_sem,bne,yr_qnamed,yb_qnamed,yv_qnamed,e_RESMP,hr,g1,g2,Pr.x,arS,↓arO_names,↓arO_stor,↓arO_noVw,↓arO_ldc,nmdC,arO_none,arO_some,ex_nil,zSc,hx])
 |false=>
 have hr:nmdF p=(⟨(valF (wanP [61] (namP p))).1.k,namS p,(valF (wanP [61] (namP p))).1.y,(valF (wanP [61] (namP p))).1.e,.nil,(valF (wanP [61] (namP p))).1.a⟩,(valF (wanP [61] (namP p))).2):=by unfold nmdF;simp[i1,i2]
 have m1:=wan_nx (t:=[61]) q1.ok
 have m2:=val_nx m1.ok
 cases e2:((wanP [61] (namP p)).e==0) with
 |false=>
  obtain⟨o1,o2,g1,g2⟩:=ps_w m2.ps e2
  simp only[↓eB,seval,go_sem,yp_qargs,yr_qargs,yb_qargs,yv_qargs,yp_qindex,yr_qindex,yb_qindex,yv_qindex,yp_qassigned,yb_qassigned,yv_qassigned,ys_qassigned,adv_fold,↓arO_names,↓arO_stor,↓arO_noVw,↓arO_ldc,yb_qnamed,yv_qnamed,ys_qnamed,hx,a1,a2,i1,i2,hr,o1,o2,g1,g2]
  try simp only[impB,impN]
  repeat' first|exact ck|with_reducible apply And.intro|intro _
  all_goals first|exact hq|exact hI|exact q1|exact s91|exact s40|exact s61|(rename_i h;first|exact oI h|exact nah h)|(rename_i _ h _ g;exact sL h g)|decide|omega|(refine ret_with [] ?_;simp only[↓eB,seval,go_sem,bne,yr_qnamed,yb_qnamed,yv_qnamed,e_RESMP,hr,o1,o2,g1,g2])
 |true=>
 have q2:=q1.nx m1 e2
 obtain⟨b1,b2⟩:=go_w e2
 cases e3:((valF (wanP [61] (namP p))).2.e==0) with
 |false=>
  obtain⟨o1,o2,g1,g2⟩:=ps_w (Ps.refl (valF (wanP [61] (namP p))).2) e3
  simp only[↓eB,seval,go_sem,yp_qargs,yr_qargs,yb_qargs,yv_qargs,yp_qindex,yr_qindex,yb_qindex,yv_qindex,yp_qassigned,yb_qassigned,yv_qassigned,ys_qassigned,adv_fold,↓arO_names,↓arO_stor,↓arO_noVw,↓arO_ldc,yb_qnamed,yv_qnamed,ys_qnamed,hx,a1,a2,b1,b2,i1,i2,hr,o1,o2]
  try simp only[impB,impN]
  repeat' first|exact ck|with_reducible apply And.intro|intro _
  all_goals first|exact hq|exact hI|exact q1|exact s91|exact s40|exact s61|exact q2|(rename_i h;first|exact oI h|exact nah h)|(rename_i _ h _ g;exact sL h g)|decide|omega|(refine ret_with [] ?_;simp only[↓eB,seval,go_sem,bne,yr_qnamed,yb_qnamed,yv_qnamed,e_RESMP,hr,o1,o2])
 |true=>
  obtain⟨g1,g2⟩:=go_w e3
  simp only[↓eB,seval,go_sem,yp_qargs,yr_qargs,yb_qargs,yv_qargs,yp_qindex,yr_qindex,yb_qindex,yv_qindex,yp_qassigned,yb_qassigned,yv_qassigned,ys_qassigned,adv_fold,↓arO_names,↓arO_stor,↓arO_noVw,↓arO_ldc,yb_qnamed,yv_qnamed,ys_qnamed,hx,a1,a2,b1,b2,i1,i2,hr,g1,g2]
  try simp only[impB,impN]
  repeat' first|exact ck|with_reducible apply And.intro|intro _
  all_goals first|exact hq|exact hI|exact q1|exact s91|exact s40|exact s61|exact q2|(rename_i h;first|exact oI h|exact nah h)|(rename_i _ h _ g;exact sL h g)|decide|omega|(refine ret_with [] ?_;simp only[↓eB,seval,go_sem,bne,yr_qnamed,yb_qnamed,yv_qnamed,e_RESMP,hr,g1,g2,Pr.x,arS,↓arO_names,↓arO_stor,↓arO_noVw,↓arO_ldc,nmdC,arO_none,arO_some,ex_nil,zSc,hx])
noncomputable def yp_qnamed {X:Ctx} {w0:World}:Sy.Spec Tryz.prog X w0:=specMP 84 Tryz.call84 (ya_qnamed) (fun p:(Pr)×(Sf)×Unit=>yc_qnamed p.1 p.2.1) (fun p:(Pr)×(Sf)×Unit=>yb_qnamed p.1 p.2.1) (fun p:(Pr)×(Sf)×Unit=>yr_qnamed p.1 p.2.1) (fun p:(Pr)×(Sf)×Unit=>some (yv_qnamed p.1 p.2.1)::offM (yb_qnamed p.1 p.2.1) (ys_qnamed p.1 p.2.1)) yl_qnamed yo_qnamed yn_qnamed y_qnamed
end Go.Proofs.YtlaggppdgoknjaaGreatDoor
