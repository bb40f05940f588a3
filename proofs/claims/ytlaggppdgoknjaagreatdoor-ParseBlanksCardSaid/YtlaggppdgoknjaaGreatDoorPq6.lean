/- The program's parser: products and sums, walked. No conditions but those in each statement. -/
import Derived.Test.YtlaggppdgoknjaaGreatDoorPq5
import Derived.Test.YtlaggppdgoknjaaGreatDoorPq45
set_option linter.unusedVariables false
set_option linter.unusedSimpArgs false
namespace Go.Proofs.YtlaggppdgoknjaaGreatDoor
open Go Go.Sy Go.RowKit
abbrev yc_qun (f:Nat) (p:Pr):Prop:=okQ p∧dpU f p
abbrev yb_qun (f:Nat) (p:Pr):Bool:=(unF f p).2.b
abbrev yr_qun (f:Nat) (p:Pr):SV:=.one (exC (unF f p).1)
abbrev yv_qun (f:Nat) (p:Pr):MV:=(unF f p).2.w
noncomputable abbrev ya_qun:ArgM ((Pr)×Unit):=(amP (mPq) am0)
abbrev yq_qun (f:Nat):Prop:=CallsMP Tryz.prog 109 ((ya_qun).args 0) (ya_qun).mem (fun p:(Pr)×Unit=>yc_qun f p.1) (fun p:(Pr)×Unit=>yb_qun f p.1) (fun p:(Pr)×Unit=>yr_qun f p.1) (fun p:(Pr)×Unit=>[some (yv_qun f p.1)])
theorem yl_qun (f:Nat):∀p,(fun p:(Pr)×Unit=>yc_qun f p.1) p→((fun p:(Pr)×Unit=>[some (yv_qun f p.1)]) p).length=((ya_qun).mem p).length:=by intro p _;rfl
theorem yo_qun (f:Nat):∀p,(fun p:(Pr)×Unit=>yc_qun f p.1) p→outV ((fun p:(Pr)×Unit=>[some (yv_qun f p.1)]) p).length ((fun p:(Pr)×Unit=>yr_qun f p.1) p)=true:=by intro p _;first|rfl|exact ex_out _ _|exact cd_out _ _|(simp[outV,outC,ex_out,cd_out];done)
theorem yn_qun (f:Nat):∀p,(fun p:(Pr)×Unit=>yc_qun f p.1) p→∀q,some q∈(fun p:(Pr)×Unit=>[some (yv_qun f p.1)]) p→∀r∈q.2,∀c∈r,c.names=[]:=by intro p _;exact memw_nm _
noncomputable def yg_qun {X:Ctx} {w0:World} (f:Nat) (h:yq_qun f):Sy.Spec Tryz.prog X w0:=specMP 109 Tryz.call109 (ya_qun) (fun p:(Pr)×Unit=>yc_qun f p.1) (fun p:(Pr)×Unit=>yb_qun f p.1) (fun p:(Pr)×Unit=>yr_qun f p.1) (fun p:(Pr)×Unit=>[some (yv_qun f p.1)]) (yl_qun f) (yo_qun f) (yn_qun f) h
abbrev yc_qprod (f:Nat) (p:Pr):Prop:=okQ p∧dpU f p
abbrev yb_qprod (f:Nat) (p:Pr):Bool:=(prodW (unF f) p).2.b
abbrev yr_qprod (f:Nat) (p:Pr):SV:=.one (exC (prodW (unF f) p).1)
abbrev yv_qprod (f:Nat) (p:Pr):MV:=(prodW (unF f) p).2.w
noncomputable abbrev ya_qprod:ArgM ((Pr)×Unit):=(amP (mPq) am0)
abbrev yq_qprod (f:Nat):Prop:=CallsMP Tryz.prog 92 ((ya_qprod).args 0) (ya_qprod).mem (fun p:(Pr)×Unit=>yc_qprod f p.1) (fun p:(Pr)×Unit=>yb_qprod f p.1) (fun p:(Pr)×Unit=>yr_qprod f p.1) (fun p:(Pr)×Unit=>[some (yv_qprod f p.1)])
theorem yl_qprod (f:Nat):∀p,(fun p:(Pr)×Unit=>yc_qprod f p.1) p→((fun p:(Pr)×Unit=>[some (yv_qprod f p.1)]) p).length=((ya_qprod).mem p).length:=by intro p _;rfl
theorem yo_qprod (f:Nat):∀p,(fun p:(Pr)×Unit=>yc_qprod f p.1) p→outV ((fun p:(Pr)×Unit=>[some (yv_qprod f p.1)]) p).length ((fun p:(Pr)×Unit=>yr_qprod f p.1) p)=true:=by intro p _;first|rfl|exact ex_out _ _|exact cd_out _ _|(simp[outV,outC,ex_out,cd_out];done)
theorem yn_qprod (f:Nat):∀p,(fun p:(Pr)×Unit=>yc_qprod f p.1) p→∀q,some q∈(fun p:(Pr)×Unit=>[some (yv_qprod f p.1)]) p→∀r∈q.2,∀c∈r,c.names=[]:=by intro p _;exact memw_nm _
noncomputable def yg_qprod {X:Ctx} {w0:World} (f:Nat) (h:yq_qprod f):Sy.Spec Tryz.prog X w0:=specMP 92 Tryz.call92 (ya_qprod) (fun p:(Pr)×Unit=>yc_qprod f p.1) (fun p:(Pr)×Unit=>yb_qprod f p.1) (fun p:(Pr)×Unit=>yr_qprod f p.1) (fun p:(Pr)×Unit=>[some (yv_qprod f p.1)]) (yl_qprod f) (yo_qprod f) (yn_qprod f) h
attribute [local go_sem] Pr.q Pr.s Pr.x Tok.r cPt_d cPt_e mPq_d mPq_d' mPq_e mPq_z pnOf_f pnOf_t pr_eta ptR rPq_d rPq_d' rPq_e rPq_z tkq_at wkR_self yb_qexpect yb_qfail yb_qname yb_qneed yb_qopen yb_qprod yb_qun yg_qprod yg_qun yp_qaccept yp_qahead yp_qclose yp_qexpect yp_qfail yp_qis yp_qisKind yp_qisName yp_qname yp_qneed yp_qopen yp_qvalue yr_qahead yr_qis yr_qisKind yr_qisName yr_qname yr_qprod yr_qun yr_qvalue yv_qexpect yv_qfail yv_qname yv_qneed yv_qopen yv_qprod yv_qun zTk
set_option maxRecDepth 20000 in set_option maxHeartbeats 8000000 in
theorem y_qprod (f:Nat) (hu:yq_qun f):yq_qprod f:=by
 rintro ⟨p,_u⟩ w M I lab fz xs hc hA hl hx
 refine calls_toMP Tryz.func92 rfl _ w M I lab fz (yb_qprod f p) (yv_qprod f p) [yp_qaccept,(yg_qun f hu)] [] ((ya_qprod).args 0 ⟨p,_u⟩) (yr_qprod f p) xs hA hl hx (fun v hv k hk=>Nat.lt_of_lt_of_eq ((ya_qprod).an 0 ⟨p,_u⟩ v hv k hk).2 (Nat.zero_add _)) (Nat.le_of_ble_eq_true rfl) (yn_qprod f ⟨p,_u⟩ hc _ (List.mem_singleton.2 rfl)) ?_
 clear hx hl hA xs
 simp only[Tryz.f92]
 obtain⟨hq,hd⟩:=hc
 dsimp only at hq hd
 have hn0:=un_nx f p hq.ok
 have hk0:Nx (unF f p).2 (prodW (unF f) p).2:=prodL_nx (un_nx f) _ _ _ hn0.ok
 cases he:((unF f p).2.e==0) with
 |false=>
  obtain⟨o1,o2,g1,g2⟩:=ps_w hk0.ps he
  simp only[↓eB,seval,go_sem,adv_fold,o1,o2,g1,g2]
  try simp only[impB,impN]
  repeat' first|exact ck|with_reducible apply And.intro|intro _
  all_goals first|exact hq|exact hd|(rename_i h;first|exact oI h|exact nah h)|(rename_i _ h _ g;exact sL h g)|decide|omega|(refine ret_with [] ?_;simp only[↓eB,seval,go_sem,bne,e_RESMP,o1,o2,g1,g2])
 |true=>
 obtain⟨g1,g2⟩:=go_w he
 have hq0:=hq.nx hn0 he
 have hd0:=dp_nx hn0 hd
 simp only[↓eB,seval,go_sem,adv_fold,g1,g2]
 try simp only[impB,impN]
 repeat' (first|exact ck|with_reducible apply And.intro)
 all_goals try first|exact hq|exact hd|decide|omega
 refine loop_ok (Y:=Nat×Ex×Pr) (fun y=>okQ y.2.2∧dpU f y.2.2∧(y.2.2.l.length:Int)≤y.2.2.i+(y.1:Int)∧prodL (unF f) y.1 y.2.1 y.2.2=(prodW (unF f) p))
  (fun y=>⟨[(0,true,.one (.p 0 0 0)),(3,true,.one (exC y.2.1))],[(0,.vec 0 zPq [y.2.2.q])]⟩)
  (fun y=>y.1) (p.l.length,(unF f p).1,(unF f p).2) ⟨hq0,hd0,by have:=hq0.hn;simp only[hn0.l];omega,by show prodL _ _ _ _=prodW _ _;rfl⟩ ?_ ?_
 ·refine to_with [] ?_;simp only[↓eB,seval,go_sem]
 ·rintro ⟨k,a,q⟩ ⟨h1,h2,h3,h4⟩
  refine vc_ok [yp_qaccept,(yg_qun f hu)] [] _ _ _ ?_
  dsimp only at h1 h2 h3 h4
  have he0:=h1.e'
  cases i0:isT [42] q with
  |true=>
   obtain⟨k',rfl⟩:∃k',k=k'+1:=⟨k-1,by have:=(isT_e i0).2;omega⟩
   simp only[prodL,he0,i0,if_true,if_false,Bool.false_eq_true]at h4
   have ha:=isT_okQ h1 i0
   have hda:=dp_nx (isT_adv h1.ok i0) h2
   have hu1:=un_nx f _ ha.ok
   have hai:=adv_i h1.ok (isT_e i0).2
   have tt:=takP_t i0
   skip
   cases e1:((unF f (adv q)).2.e==0) with
   |false=>
    have hk1:Nx (unF f (adv q)).2 (prodW (unF f) p).2:=by rw[← h4];exact prodL_nx (un_nx f) _ _ _ hu1.ok
    obtain⟨o1,o2,g1,g2⟩:=ps_w hk1.ps e1
    simp only[↓eB,seval,go_sem,adv_fold,i0,tt,o1,o2,g1,g2]
    try simp only[impB,impN]
    repeat' first|exact ck|with_reducible apply And.intro|intro _
    all_goals first|exact h1|exact ha|exact hda|(rename_i h;first|exact oI h|exact nah h)|(rename_i _ h _ g;exact sL h g)|decide|omega|(refine ret_with [] ?_;simp only[↓eB,seval,go_sem,bne,e_RESMP,o1,o2,g1,g2])
   |true=>
    obtain⟨g1,g2⟩:=go_w e1
    have hq1:=ha.nx hu1 e1
    simp only[↓eB,seval,go_sem,adv_fold,i0,tt,g1,g2]
    try simp only[impB,impN]
    repeat' (first|exact ck|with_reducible apply And.intro)
    all_goals try first|exact h1|exact ha|exact hda|decide|omega
    refine⟨(k',Ex.mk 4 0 [] a (unF f (adv q)).1 ,(unF f (adv q)).2),⟨hq1,dp_nx hu1 hda,?_,h4⟩,Nat.lt_succ_self _,to_with [.fz 14] ?_⟩
    ·dsimp only;have hi1:=hu1.i;rw[hai]at hi1;rw[hu1.l];show (q.l.length:Int)≤_;omega
    ·simp only[↓eB,seval,go_sem,ex_mk,ex_nil,ex_dnil]
  |false=>
   have f0:=takP_f i0
   cases i1:isT [47] q with
   |true=>
    obtain⟨k',rfl⟩:∃k',k=k'+1:=⟨k-1,by have:=(isT_e i1).2;omega⟩
    simp only[prodL,he0,i0,i1,if_true,if_false,Bool.false_eq_true]at h4
    have ha:=isT_okQ h1 i1
    have hda:=dp_nx (isT_adv h1.ok i1) h2
    have hu1:=un_nx f _ ha.ok
    have hai:=adv_i h1.ok (isT_e i1).2
    have tt:=takP_t i1
    skip
    cases e1:((unF f (adv q)).2.e==0) with
    |false=>
     have hk1:Nx (unF f (adv q)).2 (prodW (unF f) p).2:=by rw[← h4];exact prodL_nx (un_nx f) _ _ _ hu1.ok
     obtain⟨o1,o2,g1,g2⟩:=ps_w hk1.ps e1
     simp only[↓eB,seval,go_sem,adv_fold,i0,i1,tt,f0,o1,o2,g1,g2]
     try simp only[impB,impN]
     repeat' first|exact ck|with_reducible apply And.intro|intro _
     all_goals first|exact h1|exact ha|exact hda|(rename_i h;first|exact oI h|exact nah h)|(rename_i _ h _ g;exact sL h g)|decide|omega|(refine ret_with [] ?_;simp only[↓eB,seval,go_sem,bne,e_RESMP,o1,o2,g1,g2])
    |true=>
     obtain⟨g1,g2⟩:=go_w e1
     have hq1:=ha.nx hu1 e1
     simp only[↓eB,seval,go_sem,adv_fold,i0,i1,tt,f0,g1,g2]
     try simp only[impB,impN]
     repeat' (first|exact ck|with_reducible apply And.intro)
     all_goals try first|exact h1|exact ha|exact hda|decide|omega
     refine⟨(k',Ex.mk 5 0 [] a (unF f (adv q)).1 ,(unF f (adv q)).2),⟨hq1,dp_nx hu1 hda,?_,h4⟩,Nat.lt_succ_self _,to_with [.fz 22] ?_⟩
     ·dsimp only;have hi1:=hu1.i;rw[hai]at hi1;rw[hu1.l];show (q.l.length:Int)≤_;omega
     ·simp only[↓eB,seval,go_sem,ex_mk,ex_nil,ex_dnil]
   |false=>
    have f1:=takP_f i1
    cases i2:isT [37] q with
    |true=>
     obtain⟨k',rfl⟩:∃k',k=k'+1:=⟨k-1,by have:=(isT_e i2).2;omega⟩
     simp only[prodL,he0,i0,i1,i2,if_true,if_false,Bool.false_eq_true]at h4
     have ha:=isT_okQ h1 i2
     have hda:=dp_nx (isT_adv h1.ok i2) h2
     have hu1:=un_nx f _ ha.ok
     have hai:=adv_i h1.ok (isT_e i2).2
     have tt:=takP_t i2
     skip
     cases e1:((unF f (adv q)).2.e==0) with
     |false=>
      have hk1:Nx (unF f (adv q)).2 (prodW (unF f) p).2:=by rw[← h4];exact prodL_nx (un_nx f) _ _ _ hu1.ok
      obtain⟨o1,o2,g1,g2⟩:=ps_w hk1.ps e1
      simp only[↓eB,seval,go_sem,adv_fold,i0,i1,i2,tt,f0,f1,o1,o2,g1,g2]
      try simp only[impB,impN]
      repeat' first|exact ck|with_reducible apply And.intro|intro _
      all_goals first|exact h1|exact ha|exact hda|(rename_i h;first|exact oI h|exact nah h)|(rename_i _ h _ g;exact sL h g)|decide|omega|(refine ret_with [] ?_;simp only[↓eB,seval,go_sem,bne,e_RESMP,o1,o2,g1,g2])
     |true=>
      obtain⟨g1,g2⟩:=go_w e1
      have hq1:=ha.nx hu1 e1
      simp only[↓eB,seval,go_sem,adv_fold,i0,i1,i2,tt,f0,f1,g1,g2]
      try simp only[impB,impN]
      repeat' (first|exact ck|with_reducible apply And.intro)
      all_goals try first|exact h1|exact ha|exact hda|decide|omega
      refine⟨(k',Ex.mk 6 0 [] a (unF f (adv q)).1 ,(unF f (adv q)).2),⟨hq1,dp_nx hu1 hda,?_,h4⟩,Nat.lt_succ_self _,to_with [.fz 30] ?_⟩
      ·dsimp only;have hi1:=hu1.i;rw[hai]at hi1;rw[hu1.l];show (q.l.length:Int)≤_;omega
      ·simp only[↓eB,seval,go_sem,ex_mk,ex_nil,ex_dnil]
    |false=>
     have f2:=takP_f i2
     have hr:(a,q)=(prodW (unF f) p):=by
      rw[← h4];cases k<;>simp[prodL,he0,i0,i1,i2]
     have hr1:(prodW (unF f) p).1=a:=by rw[← hr]
     have hr2:(prodW (unF f) p).2=q:=by rw[← hr]
     obtain⟨g1,g2⟩:=go_w he0
     simp only[↓eB,seval,go_sem,adv_fold,i0,i1,i2,f0,f1,f2,hr2,g1,g2]
     try simp only[impB,impN]
     repeat' first|exact ck|with_reducible apply And.intro|intro _
     all_goals first|exact h1|(rename_i h;first|exact oI h|exact nah h)|(rename_i _ h _ g;exact sL h g)|decide|omega|(refine ret_with [] ?_;simp only[↓eB,seval,go_sem,bne,e_RESMP,hr1,hr2,g1,g2])
abbrev yc_qsum (f:Nat) (p:Pr):Prop:=okQ p∧dpU f p
abbrev yb_qsum (f:Nat) (p:Pr):Bool:=(sumW (unF f) p).2.b
abbrev yr_qsum (f:Nat) (p:Pr):SV:=.one (exC (sumW (unF f) p).1)
abbrev yv_qsum (f:Nat) (p:Pr):MV:=(sumW (unF f) p).2.w
noncomputable abbrev ya_qsum:ArgM ((Pr)×Unit):=(amP (mPq) am0)
abbrev yq_qsum (f:Nat):Prop:=CallsMP Tryz.prog 83 ((ya_qsum).args 0) (ya_qsum).mem (fun p:(Pr)×Unit=>yc_qsum f p.1) (fun p:(Pr)×Unit=>yb_qsum f p.1) (fun p:(Pr)×Unit=>yr_qsum f p.1) (fun p:(Pr)×Unit=>[some (yv_qsum f p.1)])
theorem yl_qsum (f:Nat):∀p,(fun p:(Pr)×Unit=>yc_qsum f p.1) p→((fun p:(Pr)×Unit=>[some (yv_qsum f p.1)]) p).length=((ya_qsum).mem p).length:=by intro p _;rfl
theorem yo_qsum (f:Nat):∀p,(fun p:(Pr)×Unit=>yc_qsum f p.1) p→outV ((fun p:(Pr)×Unit=>[some (yv_qsum f p.1)]) p).length ((fun p:(Pr)×Unit=>yr_qsum f p.1) p)=true:=by intro p _;first|rfl|exact ex_out _ _|exact cd_out _ _|(simp[outV,outC,ex_out,cd_out];done)
theorem yn_qsum (f:Nat):∀p,(fun p:(Pr)×Unit=>yc_qsum f p.1) p→∀q,some q∈(fun p:(Pr)×Unit=>[some (yv_qsum f p.1)]) p→∀r∈q.2,∀c∈r,c.names=[]:=by intro p _;exact memw_nm _
noncomputable def yg_qsum {X:Ctx} {w0:World} (f:Nat) (h:yq_qsum f):Sy.Spec Tryz.prog X w0:=specMP 83 Tryz.call83 (ya_qsum) (fun p:(Pr)×Unit=>yc_qsum f p.1) (fun p:(Pr)×Unit=>yb_qsum f p.1) (fun p:(Pr)×Unit=>yr_qsum f p.1) (fun p:(Pr)×Unit=>[some (yv_qsum f p.1)]) (yl_qsum f) (yo_qsum f) (yn_qsum f) h
set_option maxRecDepth 20000 in set_option maxHeartbeats 8000000 in
theorem y_qsum (f:Nat) (hu:yq_qun f):yq_qsum f:=by
 rintro ⟨p,_u⟩ w M I lab fz xs hc hA hl hx
 refine calls_toMP Tryz.func83 rfl _ w M I lab fz (yb_qsum f p) (yv_qsum f p) [yp_qaccept,(yg_qprod f (y_qprod f hu))] [] ((ya_qsum).args 0 ⟨p,_u⟩) (yr_qsum f p) xs hA hl hx (fun v hv k hk=>Nat.lt_of_lt_of_eq ((ya_qsum).an 0 ⟨p,_u⟩ v hv k hk).2 (Nat.zero_add _)) (Nat.le_of_ble_eq_true rfl) (yn_qsum f ⟨p,_u⟩ hc _ (List.mem_singleton.2 rfl)) ?_
 clear hx hl hA xs
 simp only[Tryz.f83]
 obtain⟨hq,hd⟩:=hc
 dsimp only at hq hd
 have hn0:=prodW_nx (un_nx f) p hq.ok
 have hk0:Nx (prodW (unF f) p).2 (sumW (unF f) p).2:=sumL_nx (un_nx f) _ _ _ hn0.ok
 cases he:((prodW (unF f) p).2.e==0) with
 |false=>
  obtain⟨o1,o2,g1,g2⟩:=ps_w hk0.ps he
  simp only[↓eB,seval,go_sem,adv_fold,yb_qsum,yv_qsum,o1,o2,g1,g2]
  try simp only[impB,impN]
  repeat' first|exact ck|with_reducible apply And.intro|intro _
  all_goals first|exact hq|exact hd|(rename_i h;first|exact oI h|exact nah h)|(rename_i _ h _ g;exact sL h g)|decide|omega|(refine ret_with [] ?_;simp only[↓eB,seval,go_sem,bne,yr_qsum,yb_qsum,yv_qsum,e_RESMP,o1,o2,g1,g2])
 |true=>
 obtain⟨g1,g2⟩:=go_w he
 have hq0:=hq.nx hn0 he
 have hd0:=dp_nx hn0 hd
 simp only[↓eB,seval,go_sem,adv_fold,yb_qsum,yv_qsum,g1,g2]
 try simp only[impB,impN]
 repeat' (first|exact ck|with_reducible apply And.intro)
 all_goals try first|exact hq|exact hd|decide|omega
 refine loop_ok (Y:=Nat×Ex×Pr) (fun y=>okQ y.2.2∧dpU f y.2.2∧(y.2.2.l.length:Int)≤y.2.2.i+(y.1:Int)∧sumL (unF f) y.1 y.2.1 y.2.2=(sumW (unF f) p))
  (fun y=>⟨[(0,true,.one (.p 0 0 0)),(3,true,.one (exC y.2.1))],[(0,.vec 0 zPq [y.2.2.q])]⟩)
  (fun y=>y.1) (p.l.length,(prodW (unF f) p).1,(prodW (unF f) p).2) ⟨hq0,hd0,by have:=hq0.hn;simp only[hn0.l];omega,by show sumL _ _ _ _=sumW _ _;rfl⟩ ?_ ?_
 ·refine to_with [] ?_;simp only[↓eB,seval,go_sem]
 ·rintro ⟨k,a,q⟩ ⟨h1,h2,h3,h4⟩
  refine vc_ok [yp_qaccept,(yg_qprod f (y_qprod f hu))] [] _ _ _ ?_
  dsimp only at h1 h2 h3 h4
  have he0:=h1.e'
  cases i0:isT [43] q with
  |true=>
   obtain⟨k',rfl⟩:∃k',k=k'+1:=⟨k-1,by have:=(isT_e i0).2;omega⟩
   have iy:=isT_ex i0 (t:=[45]) rfl
   simp only[sumL,he0,i0,iy,if_true,if_false,Bool.false_eq_true]at h4
   have ha:=isT_okQ h1 i0
   have hda:=dp_nx (isT_adv h1.ok i0) h2
   have hu1:=prodW_nx (un_nx f) _ ha.ok
   have hai:=adv_i h1.ok (isT_e i0).2
   have tt:=takP_t i0
   cases e1:((prodW (unF f) (adv q)).2.e==0) with
   |false=>
    have hk1:Nx (prodW (unF f) (adv q)).2 (sumW (unF f) p).2:=by rw[← h4];exact sumL_nx (un_nx f) _ _ _ hu1.ok
    obtain⟨o1,o2,g1,g2⟩:=ps_w hk1.ps e1
    simp only[↓eB,seval,go_sem,adv_fold,yb_qsum,yv_qsum,i0,tt,o1,o2,g1,g2]
    try simp only[impB,impN]
    repeat' first|exact ck|with_reducible apply And.intro|intro _
    all_goals first|exact h1|exact ha|exact hda|(rename_i h;first|exact oI h|exact nah h)|(rename_i _ h _ g;exact sL h g)|decide|omega|(refine ret_with [] ?_;simp only[↓eB,seval,go_sem,bne,yr_qsum,yb_qsum,yv_qsum,e_RESMP,o1,o2,g1,g2])
   |true=>
    obtain⟨g1,g2⟩:=go_w e1
    have hq1:=ha.nx hu1 e1
    simp only[↓eB,seval,go_sem,adv_fold,yb_qsum,yv_qsum,i0,tt,g1,g2]
    try simp only[impB,impN]
    repeat' (first|exact ck|with_reducible apply And.intro)
    all_goals try first|exact h1|exact ha|exact hda|decide|omega
    refine⟨(k',Ex.mk 2 0 [] a (prodW (unF f) (adv q)).1 ,(prodW (unF f) (adv q)).2),⟨hq1,dp_nx hu1 hda,?_,h4⟩,Nat.lt_succ_self _,to_with [.fz 14] ?_⟩
    ·dsimp only;have hi1:=hu1.i;rw[hai]at hi1;rw[hu1.l];show (q.l.length:Int)≤_;omega
    ·simp only[↓eB,seval,go_sem,ex_mk,ex_nil,ex_dnil]
  |false=>
   have f0:=takP_f i0
   cases i1:isT [45] q with
   |true=>
    obtain⟨k',rfl⟩:∃k',k=k'+1:=⟨k-1,by have:=(isT_e i1).2;omega⟩
    simp only[sumL,he0,i0,i1,if_true,if_false,Bool.false_eq_true]at h4
    have ha:=isT_okQ h1 i1
    have hda:=dp_nx (isT_adv h1.ok i1) h2
    have hu1:=prodW_nx (un_nx f) _ ha.ok
    have hai:=adv_i h1.ok (isT_e i1).2
    have tt:=takP_t i1
    cases e1:((prodW (unF f) (adv q)).2.e==0) with
    |false=>
     have hk1:Nx (prodW (unF f) (adv q)).2 (sumW (unF f) p).2:=by rw[← h4];exact sumL_nx (un_nx f) _ _ _ hu1.ok
     obtain⟨o1,o2,g1,g2⟩:=ps_w hk1.ps e1
     simp only[↓eB,seval,go_sem,adv_fold,yb_qsum,yv_qsum,i0,i1,tt,f0,o1,o2,g1,g2]
     try simp only[impB,impN]
     repeat' first|exact ck|with_reducible apply And.intro|intro _
     all_goals first|exact h1|exact ha|exact hda|(rename_i h;first|exact oI h|exact nah h)|(rename_i _ h _ g;exact sL h g)|decide|omega|(refine ret_with [] ?_;simp only[↓eB,seval,go_sem,bne,yr_qsum,yb_qsum,yv_qsum,e_RESMP,o1,o2,g1,g2])
    |true=>
     obtain⟨g1,g2⟩:=go_w e1
     have hq1:=ha.nx hu1 e1
     simp only[↓eB,seval,go_sem,adv_fold,yb_qsum,yv_qsum,i0,i1,tt,f0,g1,g2]
     try simp only[impB,impN]
     repeat' (first|exact ck|with_reducible apply And.intro)
     all_goals try first|exact h1|exact ha|exact hda|decide|omega
     refine⟨(k',Ex.mk 3 0 [] a (prodW (unF f) (adv q)).1 ,(prodW (unF f) (adv q)).2),⟨hq1,dp_nx hu1 hda,?_,h4⟩,Nat.lt_succ_self _,to_with [.fz 22] ?_⟩
     ·dsimp only;have hi1:=hu1.i;rw[hai]at hi1;rw[hu1.l];show (q.l.length:Int)≤_;omega
     ·simp only[↓eB,seval,go_sem,ex_mk,ex_nil,ex_dnil]
   |false=>
    have f1:=takP_f i1
    have hr:(a,q)=(sumW (unF f) p):=by
     rw[← h4];cases k<;>simp[sumL,he0,i0,i1]
    have hr1:(sumW (unF f) p).1=a:=by rw[← hr]
    have hr2:(sumW (unF f) p).2=q:=by rw[← hr]
    obtain⟨g1,g2⟩:=go_w he0
    simp only[↓eB,seval,go_sem,adv_fold,yb_qsum,yv_qsum,i0,i1,f0,f1,hr2,g1,g2]
    try simp only[impB,impN]
    repeat' first|exact ck|with_reducible apply And.intro|intro _
    all_goals first|exact h1|(rename_i h;first|exact oI h|exact nah h)|(rename_i _ h _ g;exact sL h g)|decide|omega|(refine ret_with [] ?_;simp only[↓eB,seval,go_sem,bne,yr_qsum,yb_qsum,yv_qsum,e_RESMP,hr1,hr2,g1,g2])
set_option maxRecDepth 20000 in set_option maxHeartbeats 8000000 in
theorem y_qunS (f:Nat) (hu:yq_qun f) (hs:yq_qsum f):yq_qun (f+1):=by
 rintro ⟨p,_u⟩ w M I lab fz xs hc hA hl hx
 refine calls_toMP Tryz.func109 rfl _ w M I lab fz (yb_qun (f+1) p) (yv_qun (f+1) p) [yp_qis,yp_qisKind,yp_qopen,yp_qclose,yp_qexpect,yp_qvalue,yp_qname,(yg_qun f hu),(yg_qsum f hs)] [] ((ya_qun).args 0 ⟨p,_u⟩) (yr_qun (f+1) p) xs hA hl hx (fun v hv k hk=>Nat.lt_of_lt_of_eq ((ya_qun).an 0 ⟨p,_u⟩ v hv k hk).2 (Nat.zero_add _)) (Nat.le_of_ble_eq_true rfl) (yn_qun (f+1) ⟨p,_u⟩ hc _ (List.mem_singleton.2 rfl)) ?_
 clear hx hl hA xs
 simp only[Tryz.f109]
 obtain⟨hq,hd⟩:=hc
 dsimp only at hq hd
 have hI:=hq.i
 have hx:=unQ hq f
 cases i0:isT [45] p with
 |true=>
  have hi:=(isT_e i0).2
  cases ob:opnB p with
  |false=>
   have hr:unF (f+1) p=(.nil,opP p):=by rw[hx];simp[i0,ob]
   obtain⟨o1,o2,g1,g2⟩:=ps_w (Ps.refl _) (opn_ps hq ob)
   simp only[↓eB,seval,go_sem,yg_qsum,yr_qsum,yb_qsum,yv_qsum,adv_fold,i0,hr,g1,g2]
   try simp only[impB,impN]
   repeat' first|exact ck|with_reducible apply And.intro|intro _
   all_goals first|exact hq|exact hi|(rename_i h;first|exact oI h|exact nah h)|(rename_i _ h _ g;exact sL h g)|decide|omega|(refine ret_with [] ?_;simp only[↓eB,seval,go_sem,bne,e_RESMP,hr,g1,g2])
  |true=>
   have hr:unF (f+1) p=(.mk 7 0 [] (unF f (opP p)).1 .nil,shut (unF f (opP p)).2):=by rw[hx];simp[i0,ob]
   have hq1:=opP_okQ hq hi ob
   have hd1:dpU f (opP p):=by rw[opP_t ob];exact opn_dp hq.ok ob hd
   have hn1:=un_nx f _ hq1.ok
   obtain⟨a1,a2⟩:=go_w hq1.e'
   cases e1:((unF f (opP p)).2.e==0) with
   |false=>
    obtain⟨o1,o2,g1,g2⟩:=ps_w (Ps.refl (unF f (opP p)).2).shut e1
    simp only[↓eB,seval,go_sem,yg_qsum,yr_qsum,yb_qsum,yv_qsum,adv_fold,i0,hr,a1,a2,o1,o2,g1,g2]
    try simp only[impB,impN]
    repeat' first|exact ck|with_reducible apply And.intro|intro _
    all_goals first|exact hq|exact hi|exact hq1|exact hd1|(rename_i h;first|exact oI h|exact nah h)|(rename_i _ h _ g;exact sL h g)|decide|omega|(refine ret_with [] ?_;simp only[↓eB,seval,go_sem,bne,e_RESMP,hr,o1,o2,g1,g2])
   |true=>
    have hq2:=hq1.nx hn1 e1
    obtain⟨g1,g2⟩:=go_w e1
    obtain⟨c1,c2⟩:=go_w (show ((shut (unF f (opP p)).2).e==0)=true from e1)
    simp only[↓eB,seval,go_sem,yg_qsum,yr_qsum,yb_qsum,yv_qsum,adv_fold,i0,hr,a1,a2,c1,c2,g1,g2]
    try simp only[impB,impN]
    repeat' first|exact ck|with_reducible apply And.intro|intro _
    all_goals first|exact hq|exact hi|exact hq1|exact hd1|exact hq2|(rename_i h;first|exact oI h|exact nah h)|(rename_i _ h _ g;exact sL h g)|decide|omega|(refine ret_with [.fz 16] ?_;simp only[↓eB,seval,go_sem,bne,e_RESMP,hr,c1,c2,ex_nil,ex_mk,ex_dnil])
 |false=>
 cases i1:isT [40] p with
 |true=>
  have hi:=(isT_e i1).2
  cases ob:opnB p with
  |false=>
   have hr:unF (f+1) p=(.nil,opP p):=by rw[hx];simp[i0,i1,ob]
   obtain⟨o1,o2,g1,g2⟩:=ps_w (Ps.refl _) (opn_ps hq ob)
   simp only[↓eB,seval,go_sem,yg_qsum,yr_qsum,yb_qsum,yv_qsum,adv_fold,i0,i1,hr,g1,g2]
   try simp only[impB,impN]
   repeat' first|exact ck|with_reducible apply And.intro|intro _
   all_goals first|exact hq|exact hi|(rename_i h;first|exact oI h|exact nah h)|(rename_i _ h _ g;exact sL h g)|decide|omega|(refine ret_with [] ?_;simp only[↓eB,seval,go_sem,bne,e_RESMP,hr,g1,g2])
  |true=>
   have hr:unF (f+1) p=((sumW (unF f) (opP p)).1,shut (wanP [41] (sumW (unF f) (opP p)).2)):=by rw[hx];simp[i0,i1,ob]
   have hq1:=opP_okQ hq hi ob
   have hd1:dpU f (opP p):=by rw[opP_t ob];exact opn_dp hq.ok ob hd
   have hn1:=sumW_nx (un_nx f) _ hq1.ok
   have hn2:=wan_nx (t:=[41]) hn1.ok
   have hsg:sgT [41]=true:=rfl
   obtain⟨a1,a2⟩:=go_w hq1.e'
   cases e1:((sumW (unF f) (opP p)).2.e==0) with
   |false=>
    obtain⟨o1,o2,g1,g2⟩:=ps_w hn2.ps.shut e1
    simp only[↓eB,seval,go_sem,yg_qsum,yr_qsum,yb_qsum,yv_qsum,adv_fold,i0,i1,hr,a1,a2,o1,o2,g1,g2]
    try simp only[impB,impN]
    repeat' first|exact ck|with_reducible apply And.intro|intro _
    all_goals first|exact hq|exact hi|exact hq1|exact hd1|(rename_i h;first|exact oI h|exact nah h)|(rename_i _ h _ g;exact sL h g)|decide|omega|(refine ret_with [] ?_;simp only[↓eB,seval,go_sem,bne,e_RESMP,hr,o1,o2,g1,g2])
   |true=>
   have hq2:=hq1.nx hn1 e1
   obtain⟨b1,b2⟩:=go_w e1
   cases e2:((wanP [41] (sumW (unF f) (opP p)).2).e==0) with
   |false=>
    obtain⟨o1,o2,g1,g2⟩:=ps_w (Ps.refl (wanP [41] (sumW (unF f) (opP p)).2)).shut e2
    simp only[↓eB,seval,go_sem,yg_qsum,yr_qsum,yb_qsum,yv_qsum,adv_fold,i0,i1,hr,a1,a2,b1,b2,o1,o2,g1,g2]
    try simp only[impB,impN]
    repeat' first|exact ck|with_reducible apply And.intro|intro _
    all_goals first|exact hq|exact hi|exact hq1|exact hd1|exact hq2|exact hsg|(rename_i h;first|exact oI h|exact nah h)|(rename_i _ h _ g;exact sL h g)|decide|omega|(refine ret_with [] ?_;simp only[↓eB,seval,go_sem,bne,e_RESMP,hr,o1,o2,g1,g2])
   |true=>
    have hq3:=hq2.nx hn2 e2
    obtain⟨g1,g2⟩:=go_w e2
    obtain⟨c1,c2⟩:=go_w (show ((shut (wanP [41] (sumW (unF f) (opP p)).2)).e==0)=true from e2)
    simp only[↓eB,seval,go_sem,yg_qsum,yr_qsum,yb_qsum,yv_qsum,adv_fold,i0,i1,hr,a1,a2,b1,b2,c1,c2,g1,g2]
    try simp only[impB,impN]
    repeat' first|exact ck|with_reducible apply And.intro|intro _
    all_goals first|exact hq|exact hi|exact hq1|exact hd1|exact hq2|exact hq3|exact hsg|(rename_i h;first|exact oI h|exact nah h)|(rename_i _ h _ g;exact sL h g)|decide|omega|(refine ret_with [] ?_;simp only[↓eB,seval,go_sem,bne,e_RESMP,hr,c1,c2])
 |false=>
 cases i2:kdB 1 p with
 |true=>
  have hr:unF (f+1) p=(.mk 0 (numW (tk p).t 0) [] .nil .nil,adv p):=by rw[hx];simp[i0,i1,i2]
  obtain⟨n1,n2,n3,n4,n5⟩:=kd_num hq i2
  have hk:okQ p∧kdB 1 p=true:=⟨hq,i2⟩
  obtain⟨c1,c2⟩:=go_w (adv_e hq)
  simp only[↓eB,seval,go_sem,yg_qsum,yr_qsum,yb_qsum,yv_qsum,adv_fold,i0,i1,i2,hr,c1,c2]
  try simp only[impB,impN]
  repeat' first|exact ck|with_reducible apply And.intro|intro _
  all_goals first|exact hI|exact hq|exact i2|(rename_i h;first|exact oI h|exact nah h)|(rename_i _ h _ g;exact sL h g)|decide|omega|(refine ret_with [.fz 42] ?_;simp only[↓eB,seval,go_sem,bne,e_RESMP,hr,c1,c2,adv,w64i,ex_nil,ex_mk,ex_dnil])
 |false=>
 have hr:unF (f+1) p=(if nameB p=true then .mk 1 0 (namS p) .nil .nil else .nil,namP p):=by rw[hx];simp[i0,i1,i2]
 have hn1:=nam_nx hq.ok
 cases hn:nameB p with
 |false=>
  rw[hn]at hr
  have e1:((namP p).e==0)=false:=by rw[nam_f hn];simpa using failP_ne (c:=51) (by decide) p
  obtain⟨o1,o2,g1,g2⟩:=ps_w (Ps.refl (namP p)) e1
  simp only[↓eB,seval,go_sem,yg_qsum,yr_qsum,yb_qsum,yv_qsum,adv_fold,i0,i1,i2,hr,g1,g2]
  try simp only[impB,impN]
  repeat' first|exact ck|with_reducible apply And.intro|intro _
  all_goals first|exact hI|exact hq|(rename_i h;first|exact oI h|exact nah h)|(rename_i _ h _ g;exact sL h g)|decide|omega|(refine ret_with [] ?_;simp only[↓eB,seval,go_sem,bne,e_RESMP,hr,g1,g2])
 |true=>
  rw[hn,if_pos rfl]at hr
  have e1:((namP p).e==0)=true:=by rw[nam_t hn];exact adv_e hq
  obtain⟨c1,c2⟩:=go_w e1
  simp only[↓eB,seval,go_sem,yg_qsum,yr_qsum,yb_qsum,yv_qsum,adv_fold,i0,i1,i2,hr,c1,c2]
  try simp only[impB,impN]
  repeat' first|exact ck|with_reducible apply And.intro|intro _
  all_goals first|exact hI|exact hq|(rename_i h;first|exact oI h|exact nah h)|(rename_i _ h _ g;exact sL h g)|decide|omega|(refine ret_with [.fz 56] ?_;simp only[↓eB,seval,go_sem,bne,e_RESMP,hr,c1,c2,ex_nil,ex_mk,ex_dnil])
theorem y_qun:∀f:Nat,yq_qun f
 |0=>by
  rintro ⟨p,_u⟩ w M I lab fz xs hc hA hl hx
  obtain⟨h1,h2⟩:=hc
  have h3:p.deep≤40:=h1.ok.2.2.2.2.1
  have h4:41≤p.deep+((0:Nat):Int):=h2
  exact absurd h4 (by simp;omega)
 |f+1=>y_qunS f (y_qun f) (y_qsum f (y_qun f))
noncomputable abbrev sqSum {X:Ctx} {w0:World}:Sy.Spec Tryz.prog X w0:=yg_qsum 41 (y_qsum 41 (y_qun 41))
end Go.Proofs.YtlaggppdgoknjaaGreatDoor
