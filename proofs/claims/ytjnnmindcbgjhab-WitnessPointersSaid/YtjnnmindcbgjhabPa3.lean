/- Products and sums, walked. No conditions but those in each statement. -/
import Derived.Test.YtjnnmindcbgjhabPm
set_option linter.unusedVariables false
set_option linter.unusedSimpArgs false
namespace Go.Proofs.Ytjnnmindcbgjhab
open Go Go.Sy Go.RowKit
abbrev yc_un (f:Nat) (p:Pr):Prop:=okP p∧dpU f p
abbrev yr_un (f:Nat) (p:Pr):SV:=.one (exC (unF f p).1)
abbrev ym_un (f:Nat) (p:Pr):List (Option MV):=[some (zPr,[(unF f p).2.c])]
noncomputable abbrev ya_un:ArgM ((Pr)×Unit):=(amP (mPr) am0)
abbrev yq_un (f:Nat):Prop:=CallsM Try.prog 64 ((ya_un).args 0) (ya_un).mem (fun p:(Pr)×Unit=>yc_un f p.1) (fun p:(Pr)×Unit=>yr_un f p.1) (fun p:(Pr)×Unit=>ym_un f p.1)
theorem yl_un (f:Nat):∀p,(fun p:(Pr)×Unit=>yc_un f p.1) p→lenM ((ya_un).mem p).length ((fun p:(Pr)×Unit=>ym_un f p.1) p)=true:=by intro p _;rfl
theorem yo_un (f:Nat):∀p,(fun p:(Pr)×Unit=>yc_un f p.1) p→outV ((fun p:(Pr)×Unit=>ym_un f p.1) p).length ((fun p:(Pr)×Unit=>yr_un f p.1) p)=true:=by intro p _;first|rfl|exact ex_out _ _|exact cd_out _ _|(simp[outV,outC,ex_out,cd_out];done)
theorem yn_un (f:Nat):∀p,(fun p:(Pr)×Unit=>yc_un f p.1) p→∀q,some q∈(fun p:(Pr)×Unit=>ym_un f p.1) p→∀r∈q.2,∀c∈r,c.names=[]:=by intro p _;exact mem_nm _
noncomputable def yg_un {X:Ctx} {w0:World} (f:Nat) (h:yq_un f):Sy.Spec Try.prog X w0:=specM 64 Try.call64 (ya_un) (fun p:(Pr)×Unit=>yc_un f p.1) (fun p:(Pr)×Unit=>yr_un f p.1) (fun p:(Pr)×Unit=>ym_un f p.1) (yl_un f) (yo_un f) (yn_un f) h
abbrev yc_prod (f:Nat) (p:Pr):Prop:=okP p∧dpU f p
abbrev yr_prod (f:Nat) (p:Pr):SV:=.one (exC (prodW (unF f) p).1)
abbrev ym_prod (f:Nat) (p:Pr):List (Option MV):=[some (zPr,[(prodW (unF f) p).2.c])]
noncomputable abbrev ya_prod:ArgM ((Pr)×Unit):=(amP (mPr) am0)
abbrev yq_prod (f:Nat):Prop:=CallsM Try.prog 61 ((ya_prod).args 0) (ya_prod).mem (fun p:(Pr)×Unit=>yc_prod f p.1) (fun p:(Pr)×Unit=>yr_prod f p.1) (fun p:(Pr)×Unit=>ym_prod f p.1)
theorem yl_prod (f:Nat):∀p,(fun p:(Pr)×Unit=>yc_prod f p.1) p→lenM ((ya_prod).mem p).length ((fun p:(Pr)×Unit=>ym_prod f p.1) p)=true:=by intro p _;rfl
theorem yo_prod (f:Nat):∀p,(fun p:(Pr)×Unit=>yc_prod f p.1) p→outV ((fun p:(Pr)×Unit=>ym_prod f p.1) p).length ((fun p:(Pr)×Unit=>yr_prod f p.1) p)=true:=by intro p _;first|rfl|exact ex_out _ _|exact cd_out _ _|(simp[outV,outC,ex_out,cd_out];done)
theorem yn_prod (f:Nat):∀p,(fun p:(Pr)×Unit=>yc_prod f p.1) p→∀q,some q∈(fun p:(Pr)×Unit=>ym_prod f p.1) p→∀r∈q.2,∀c∈r,c.names=[]:=by intro p _;exact mem_nm _
noncomputable def yg_prod {X:Ctx} {w0:World} (f:Nat) (h:yq_prod f):Sy.Spec Try.prog X w0:=specM 61 Try.call61 (ya_prod) (fun p:(Pr)×Unit=>yc_prod f p.1) (fun p:(Pr)×Unit=>yr_prod f p.1) (fun p:(Pr)×Unit=>ym_prod f p.1) (yl_prod f) (yo_prod f) (yn_prod f) h
attribute [local go_sem] Pr.c zTk
set_option maxRecDepth 20000 in set_option maxHeartbeats 4000000 in
theorem y_prod (f:Nat) (hu:yq_un f):yq_prod f:=by
 rintro ⟨p,_u⟩ w M I lab fz xs hc hA hl hx
 refine calls_toML Try.func61 rfl ((ya_prod).mem ⟨p,_u⟩) w M I lab fz [yp_is,(yg_un f hu)] [] ((ya_prod).args 0 ⟨p,_u⟩) ((fun p:(Pr)×Unit=>ym_prod f p.1) ⟨p,_u⟩) ((fun p:(Pr)×Unit=>yr_prod f p.1) ⟨p,_u⟩) xs hA hl hx (fun v hv k hk=>by have:=(ya_prod).an 0 ⟨p,_u⟩ v hv k hk;omega) (Nat.le_of_ble_eq_true rfl) (Nat.le_of_ble_eq_true rfl) ?_
 clear hx hl hA xs
 simp only[Try.f61]
 simp only[↓eB,seval,go_sem,yp_is,yg_un,mPr_e,mPr_z,mPr_d,tk_at,Tok.r,cPt_d,ptR,rPr_d,mPr_d',rPr_d',pr_eta,yr_is]
 obtain⟨hc1,hc2⟩:=hc
 have hu0:=un_nx f p hc1
 refine⟨⟨hc1,hc2⟩,?_⟩
 refine loop_ok (Y:=Nat×Ex×Pr) (fun y=>okP y.2.2∧dpU f y.2.2∧(y.2.2.l.length:Int)≤y.2.2.i+(y.1:Int)∧prodL (unF f) y.1 y.2.1 y.2.2=prodW (unF f) p)
  (fun y=>⟨[(0,true,.one (.p 0 0 0)),(3,true,.one (exC y.2.1))],[(0,.vec 0 zPr [y.2.2.c])]⟩)
  (fun y=>y.1) (p.l.length,(unF f p).1,(unF f p).2) ⟨hu0.ok,by show dpU f _;unfold dpU;rw[hu0.d];exact hc2,by have:=hu0.ok.1;simp only[hu0.l];omega,by show prodL _ _ _ _=prodW _ _;rfl⟩ (to_with [] ?_) ?_
 ·simp only[↓eB,seval,go_sem]
 ·rintro ⟨k,a,q⟩ ⟨h1,h2,h3,h4⟩
  refine vc_ok [yp_is,yg_un f hu] [] _ _ _ ?_
  dsimp only at h1 h2 h3 h4
  have hI:=h1.i
  cases he:(q.e==0) with
  |false=>
   have hr:(a,q)=prodW (unF f) p:=by
    rw[← h4];cases k<;>simp[prodL,he]
   simp only[↓eB,seval,go_sem,he,yp_is,mPr_e,mPr_z,mPr_d,tk_at,Tok.r,cPt_d,ptR,rPr_d,mPr_d',rPr_d',pr_eta]
   refine ret_with [] ?_;simp only[↓eB,seval,go_sem,bne,yr_prod,ym_prod,← hr]
  |true=>
   cases i0:isT [42] q with
   |true=>
    obtain⟨k',rfl⟩:∃k',k=k'+1:=⟨k-1,by have:=(isT_e i0).2;omega⟩
    simp only[prodL,he,i0,if_true,if_false,Bool.false_eq_true]at h4
    have ha:=adv_nx h1 (isT_e i0).2 (isT_e i0).1
    have hu1:=un_nx f _ ha.ok
    have hai:=adv_i h1 (isT_e i0).2
    simp only[↓eB,seval,go_sem,he,i0,yp_is,yr_is,yg_un,mPr_e,mPr_z,mPr_d,tk_at,Tok.r,cPt_d,ptR,rPr_d,mPr_d',rPr_d',pr_eta]
    refine⟨hI,⟨ha.ok,h2⟩,(k',Ex.mk 4 0 [] a (unF f (adv q)).1,(unF f (adv q)).2),⟨hu1.ok,by show dpU f _;unfold dpU;rw[hu1.d];exact h2,?_,h4⟩,Nat.lt_succ_self _,to_with [.fz 34] ?_⟩
    ·dsimp only;have hi1:=hu1.i;rw[hai]at hi1;rw[hu1.l];show (q.l.length:Int)≤_;omega
    ·simp only[↓eB,seval,go_sem,adv,ex_mk,ex_nil,ex_dnil]
   |false=>
    cases i1:isT [47] q with
    |true=>
     obtain⟨k',rfl⟩:∃k',k=k'+1:=⟨k-1,by have:=(isT_e i1).2;omega⟩
     simp only[prodL,he,i0,i1,if_true,if_false,Bool.false_eq_true]at h4
     have ha:=adv_nx h1 (isT_e i1).2 (isT_e i1).1
     have hu1:=un_nx f _ ha.ok
     have hai:=adv_i h1 (isT_e i1).2
     simp only[↓eB,seval,go_sem,he,i0,i1,yp_is,yr_is,yg_un,mPr_e,mPr_z,mPr_d,tk_at,Tok.r,cPt_d,ptR,rPr_d,mPr_d',rPr_d',pr_eta]
     refine⟨hI,hI,⟨ha.ok,h2⟩,(k',Ex.mk 5 0 [] a (unF f (adv q)).1,(unF f (adv q)).2),⟨hu1.ok,by show dpU f _;unfold dpU;rw[hu1.d];exact h2,?_,h4⟩,Nat.lt_succ_self _,to_with [.fz 34] ?_⟩
     ·dsimp only;have hi1:=hu1.i;rw[hai]at hi1;rw[hu1.l];show (q.l.length:Int)≤_;omega
     ·simp only[↓eB,seval,go_sem,adv,ex_mk,ex_nil,ex_dnil]
    |false=>
     cases i2:isT [37] q with
     |true=>
      obtain⟨k',rfl⟩:∃k',k=k'+1:=⟨k-1,by have:=(isT_e i2).2;omega⟩
      simp only[prodL,he,i0,i1,i2,if_true,if_false,Bool.false_eq_true]at h4
      have ha:=adv_nx h1 (isT_e i2).2 (isT_e i2).1
      have hu1:=un_nx f _ ha.ok
      have hai:=adv_i h1 (isT_e i2).2
      simp only[↓eB,seval,go_sem,he,i0,i1,i2,yp_is,yr_is,yg_un,mPr_e,mPr_z,mPr_d,tk_at,Tok.r,cPt_d,ptR,rPr_d,mPr_d',rPr_d',pr_eta]
      refine⟨hI,hI,hI,⟨ha.ok,h2⟩,(k',Ex.mk 6 0 [] a (unF f (adv q)).1,(unF f (adv q)).2),⟨hu1.ok,by show dpU f _;unfold dpU;rw[hu1.d];exact h2,?_,h4⟩,Nat.lt_succ_self _,to_with [.fz 34] ?_⟩
      ·dsimp only;have hi1:=hu1.i;rw[hai]at hi1;rw[hu1.l];show (q.l.length:Int)≤_;omega
      ·simp only[↓eB,seval,go_sem,adv,ex_mk,ex_nil,ex_dnil]
     |false=>
      have hr:(a,q)=prodW (unF f) p:=by
       rw[← h4];cases k<;>simp[prodL,he,i0,i1,i2]
      simp only[↓eB,seval,go_sem,he,i0,i1,i2,yp_is,yr_is,mPr_e,mPr_z,mPr_d,tk_at,Tok.r,cPt_d,ptR,rPr_d,mPr_d',rPr_d',pr_eta]
      refine⟨hI,hI,hI,?_⟩
      refine ret_with [] ?_;simp only[↓eB,seval,go_sem,bne,yr_prod,ym_prod,← hr]
abbrev yc_sum (f:Nat) (p:Pr):Prop:=okP p∧dpU f p
abbrev yr_sum (f:Nat) (p:Pr):SV:=.one (exC (sumW (unF f) p).1)
abbrev ym_sum (f:Nat) (p:Pr):List (Option MV):=[some (zPr,[(sumW (unF f) p).2.c])]
noncomputable abbrev ya_sum:ArgM ((Pr)×Unit):=(amP (mPr) am0)
abbrev yq_sum (f:Nat):Prop:=CallsM Try.prog 50 ((ya_sum).args 0) (ya_sum).mem (fun p:(Pr)×Unit=>yc_sum f p.1) (fun p:(Pr)×Unit=>yr_sum f p.1) (fun p:(Pr)×Unit=>ym_sum f p.1)
theorem yl_sum (f:Nat):∀p,(fun p:(Pr)×Unit=>yc_sum f p.1) p→lenM ((ya_sum).mem p).length ((fun p:(Pr)×Unit=>ym_sum f p.1) p)=true:=by intro p _;rfl
theorem yo_sum (f:Nat):∀p,(fun p:(Pr)×Unit=>yc_sum f p.1) p→outV ((fun p:(Pr)×Unit=>ym_sum f p.1) p).length ((fun p:(Pr)×Unit=>yr_sum f p.1) p)=true:=by intro p _;first|rfl|exact ex_out _ _|exact cd_out _ _|(simp[outV,outC,ex_out,cd_out];done)
theorem yn_sum (f:Nat):∀p,(fun p:(Pr)×Unit=>yc_sum f p.1) p→∀q,some q∈(fun p:(Pr)×Unit=>ym_sum f p.1) p→∀r∈q.2,∀c∈r,c.names=[]:=by intro p _;exact mem_nm _
noncomputable def yg_sum {X:Ctx} {w0:World} (f:Nat) (h:yq_sum f):Sy.Spec Try.prog X w0:=specM 50 Try.call50 (ya_sum) (fun p:(Pr)×Unit=>yc_sum f p.1) (fun p:(Pr)×Unit=>yr_sum f p.1) (fun p:(Pr)×Unit=>ym_sum f p.1) (yl_sum f) (yo_sum f) (yn_sum f) h
set_option maxRecDepth 20000 in set_option maxHeartbeats 4000000 in
theorem y_sum (f:Nat) (hu:yq_un f):yq_sum f:=by
 rintro ⟨p,_u⟩ w M I lab fz xs hc hA hl hx
 refine calls_toML Try.func50 rfl ((ya_sum).mem ⟨p,_u⟩) w M I lab fz [yp_is,(yg_prod f (y_prod f hu))] [] ((ya_sum).args 0 ⟨p,_u⟩) ((fun p:(Pr)×Unit=>ym_sum f p.1) ⟨p,_u⟩) ((fun p:(Pr)×Unit=>yr_sum f p.1) ⟨p,_u⟩) xs hA hl hx (fun v hv k hk=>by have:=(ya_sum).an 0 ⟨p,_u⟩ v hv k hk;omega) (Nat.le_of_ble_eq_true rfl) (Nat.le_of_ble_eq_true rfl) ?_
 clear hx hl hA xs
 simp only[Try.f50]
 simp only[↓eB,seval,go_sem,yp_is,yg_prod,mPr_e,mPr_z,mPr_d,tk_at,Tok.r,cPt_d,ptR,rPr_d,mPr_d',rPr_d',pr_eta,yr_is]
 obtain⟨hc1,hc2⟩:=hc
 have hu0:=prodW_nx (un_nx f) p hc1
 refine⟨⟨hc1,hc2⟩,?_⟩
 refine loop_ok (Y:=Nat×Ex×Pr) (fun y=>okP y.2.2∧dpU f y.2.2∧(y.2.2.l.length:Int)≤y.2.2.i+(y.1:Int)∧sumL (unF f) y.1 y.2.1 y.2.2=sumW (unF f) p)
  (fun y=>⟨[(0,true,.one (.p 0 0 0)),(3,true,.one (exC y.2.1))],[(0,.vec 0 zPr [y.2.2.c])]⟩)
  (fun y=>y.1) (p.l.length,(prodW (unF f) p).1,(prodW (unF f) p).2) ⟨hu0.ok,by show dpU f _;unfold dpU;rw[hu0.d];exact hc2,by have:=hu0.ok.1;simp only[hu0.l];omega,by show sumL _ _ _ _=sumW _ _;rfl⟩ (to_with [] ?_) ?_
 ·simp only[↓eB,seval,go_sem]
 ·rintro ⟨k,a,q⟩ ⟨h1,h2,h3,h4⟩
  refine vc_ok [yp_is,yg_prod f (y_prod f hu)] [] _ _ _ ?_
  dsimp only at h1 h2 h3 h4
  have hI:=h1.i
  cases he:(q.e==0) with
  |false=>
   have hr:(a,q)=sumW (unF f) p:=by
    rw[← h4];cases k<;>simp[sumL,he]
   simp only[↓eB,seval,go_sem,he,yp_is,mPr_e,mPr_z,mPr_d,tk_at,Tok.r,cPt_d,ptR,rPr_d,mPr_d',rPr_d',pr_eta]
   refine ret_with [] ?_;simp only[↓eB,seval,go_sem,bne,yr_sum,ym_sum,← hr]
  |true=>
   cases i0:isT [45] q with
   |true=>
    obtain⟨k',rfl⟩:∃k',k=k'+1:=⟨k-1,by have:=(isT_e i0).2;omega⟩
    simp only[sumL,he,i0,if_true,if_false,Bool.false_eq_true]at h4
    have ha:=adv_nx h1 (isT_e i0).2 (isT_e i0).1
    have hu1:=prodW_nx (un_nx f) _ ha.ok
    have hai:=adv_i h1 (isT_e i0).2
    simp only[↓eB,seval,go_sem,he,i0,yp_is,yr_is,yg_prod,mPr_e,mPr_z,mPr_d,tk_at,Tok.r,cPt_d,ptR,rPr_d,mPr_d',rPr_d',pr_eta]
    refine⟨hI,⟨ha.ok,h2⟩,(k',Ex.mk 3 0 [] a (prodW (unF f) (adv q)).1,(prodW (unF f) (adv q)).2),⟨hu1.ok,by show dpU f _;unfold dpU;rw[hu1.d];exact h2,?_,h4⟩,Nat.lt_succ_self _,to_with [.fz 30] ?_⟩
    ·dsimp only;have hi1:=hu1.i;rw[hai]at hi1;rw[hu1.l];show (q.l.length:Int)≤_;omega
    ·simp only[↓eB,seval,go_sem,adv,ex_mk,ex_nil,ex_dnil]
   |false=>
    cases i1:isT [43] q with
    |true=>
     obtain⟨k',rfl⟩:∃k',k=k'+1:=⟨k-1,by have:=(isT_e i1).2;omega⟩
     simp only[sumL,he,i0,i1,if_true,if_false,Bool.false_eq_true]at h4
     have ha:=adv_nx h1 (isT_e i1).2 (isT_e i1).1
     have hu1:=prodW_nx (un_nx f) _ ha.ok
     have hai:=adv_i h1 (isT_e i1).2
     simp only[↓eB,seval,go_sem,he,i0,i1,yp_is,yr_is,yg_prod,mPr_e,mPr_z,mPr_d,tk_at,Tok.r,cPt_d,ptR,rPr_d,mPr_d',rPr_d',pr_eta]
     refine⟨hI,hI,⟨ha.ok,h2⟩,(k',Ex.mk 2 0 [] a (prodW (unF f) (adv q)).1,(prodW (unF f) (adv q)).2),⟨hu1.ok,by show dpU f _;unfold dpU;rw[hu1.d];exact h2,?_,h4⟩,Nat.lt_succ_self _,to_with [.fz 30] ?_⟩
     ·dsimp only;have hi1:=hu1.i;rw[hai]at hi1;rw[hu1.l];show (q.l.length:Int)≤_;omega
     ·simp only[↓eB,seval,go_sem,adv,ex_mk,ex_nil,ex_dnil]
    |false=>
     have hr:(a,q)=sumW (unF f) p:=by
      rw[← h4];cases k<;>simp[sumL,he,i0,i1]
     simp only[↓eB,seval,go_sem,he,i0,i1,yp_is,yr_is,mPr_e,mPr_z,mPr_d,tk_at,Tok.r,cPt_d,ptR,rPr_d,mPr_d',rPr_d',pr_eta]
     refine⟨hI,hI,?_⟩
     refine ret_with [] ?_;simp only[↓eB,seval,go_sem,bne,yr_sum,ym_sum,← hr]
set_option maxRecDepth 20000 in set_option maxHeartbeats 4000000 in
theorem y_unS (f:Nat) (hu:yq_un f) (hs:yq_sum f):yq_un (f+1):=by
 rintro ⟨p,_u⟩ w M I lab fz xs hc hA hl hx
 refine calls_toML Try.func64 rfl ((ya_un).mem ⟨p,_u⟩) w M I lab fz [yp_is,yp_named,yp_open,yp_fail,yp_want,yp_name,yp_number,(yg_un f hu),(yg_sum f hs)] [] ((ya_un).args 0 ⟨p,_u⟩) ((fun p:(Pr)×Unit=>ym_un (f+1) p.1) ⟨p,_u⟩) ((fun p:(Pr)×Unit=>yr_un (f+1) p.1) ⟨p,_u⟩) xs hA hl hx (fun v hv k hk=>by have:=(ya_un).an 0 ⟨p,_u⟩ v hv k hk;omega) (Nat.le_of_ble_eq_true rfl) (Nat.le_of_ble_eq_true rfl) ?_
 clear hx hl hA xs
 simp only[Try.f64]
 obtain⟨hc1,hc2⟩:=hc
 have hI:=hc1.i
 cases ho1:(p.e != 0) with
 |true=>
  have hr:unF (f+1) p=(.nil,failP 51 p):=by simp[unF,outB,ho1]
  simp only[↓eB,seval,go_sem,yp_is,yr_is,yp_named,yr_named,yp_open,yp_fail,yp_want,yp_name,yp_number,yr_number,yg_un,yg_sum,mPr_e,mPr_z,mPr_d,tk_at,Tok.r,cPt_d,ptR,rPr_d,mPr_d',rPr_d',pr_eta,ho1]
  try simp only[impB,impN]
  repeat' first|exact ck|with_reducible apply And.intro|intro _
  all_goals first|exact hI|exact hc1|(exact ha.ok)|(exact hd)|(exact hs2.ok)|(exact hsm)|(rename_i h;first|exact oI h|exact nah h)|(rename_i _ h _ g;exact sL h g)|decide|omega|(refine ret_with [] ?_;simp only[↓eB,seval,go_sem,bne,yr_un,ym_un,hr,ex_nil])
 |false=>
 cases ho2:decide ((p.l.length:Int)≤p.i) with
 |true=>
  have hr:unF (f+1) p=(.nil,failP 51 p):=by simp[unF,outB,ho1,ho2]
  simp only[↓eB,seval,go_sem,yp_is,yr_is,yp_named,yr_named,yp_open,yp_fail,yp_want,yp_name,yp_number,yr_number,yg_un,yg_sum,mPr_e,mPr_z,mPr_d,tk_at,Tok.r,cPt_d,ptR,rPr_d,mPr_d',rPr_d',pr_eta,ho1,ho2]
  try simp only[impB,impN]
  repeat' first|exact ck|with_reducible apply And.intro|intro _
  all_goals first|exact hI|exact hc1|(exact ha.ok)|(exact hd)|(exact hs2.ok)|(exact hsm)|(rename_i h;first|exact oI h|exact nah h)|(rename_i _ h _ g;exact sL h g)|decide|omega|(refine ret_with [] ?_;simp only[↓eB,seval,go_sem,bne,yr_un,ym_un,hr,ex_nil])
 |false=>
 have ho:outB p=false:=by unfold outB;rw[ho1,ho2];rfl
 have he:p.e=0:=by simpa using ho1
 have hlt:p.i<(p.l.length:Int):=by simpa using ho2
 have hlt':(p.i<(p.l.length:Int))=True:=by simp[hlt]
 have h0':(0≤p.i)=True:=by simp[hc1.1]
 cases i0:isT [45] p with
 |true=>
  cases ob:opnB p with
  |false=>
   have hr:unF (f+1) p=(.nil,opnP p):=by simp[unF,ho,i0,ob]
   simp only[↓eB,seval,go_sem,yp_is,yr_is,yp_named,yr_named,yp_open,yp_fail,yp_want,yp_name,yp_number,yr_number,yg_un,yg_sum,mPr_e,mPr_z,mPr_d,tk_at,Tok.r,cPt_d,ptR,rPr_d,mPr_d',rPr_d',pr_eta,ho1,ho2,i0,ob]
   try simp only[impB,impN]
   repeat' first|exact ck|with_reducible apply And.intro|intro _
   all_goals first|exact hI|exact hc1|(exact ha.ok)|(exact hd)|(exact hs2.ok)|(exact hsm)|(rename_i h;first|exact oI h|exact nah h)|(rename_i _ h _ g;exact sL h g)|decide|omega|(refine ret_with [] ?_;simp only[↓eB,seval,go_sem,bne,yr_un,ym_un,hr,ex_nil])
  |true=>
   have hr:unF (f+1) p=(.mk 7 0 [] (unF f (adv (opnP p))).1 .nil,shut (unF f (adv (opnP p))).2):=by simp[unF,ho,i0,ob]
   have ha:=opn_adv hc1 ob hlt
   have hd:dpU f (adv (opnP p)):=by
    have h3:=(opn_e hc1 ob).2.2
    show 41≤(opnP p).deep+(f:Int)
    rw[h3];have:41≤p.deep+((f+1:Nat):Int):=hc2;simp only;omega
   simp only[↓eB,seval,go_sem,yp_is,yr_is,yp_named,yr_named,yp_open,yp_fail,yp_want,yp_name,yp_number,yr_number,yg_un,yg_sum,mPr_e,mPr_z,mPr_d,tk_at,Tok.r,cPt_d,ptR,rPr_d,mPr_d',rPr_d',pr_eta,ho1,ho2,i0,ob]
   try simp only[impB,impN]
   repeat' first|exact ck|with_reducible apply And.intro|intro _
   all_goals first|exact hI|exact hc1|(exact ha.ok)|(exact hd)|(exact hs2.ok)|(exact hsm)|(rename_i h;first|exact oI h|exact nah h)|(rename_i _ h _ g;exact sL h g)|decide|omega|(refine ret_with [.fz 51] ?_;simp only[↓eB,seval,go_sem,bne,yr_un,ym_un,hr,ex_nil,ex_mk,ex_dnil,shut,adv])
 |false=>
 cases i1:isT [40] p with
 |true=>
  cases ob:opnB p with
  |false=>
   have hr:unF (f+1) p=(.nil,opnP p):=by simp[unF,ho,i0,i1,ob]
   simp only[↓eB,seval,go_sem,yp_is,yr_is,yp_named,yr_named,yp_open,yp_fail,yp_want,yp_name,yp_number,yr_number,yg_un,yg_sum,mPr_e,mPr_z,mPr_d,tk_at,Tok.r,cPt_d,ptR,rPr_d,mPr_d',rPr_d',pr_eta,ho1,ho2,i0,i1,ob]
   try simp only[impB,impN]
   repeat' first|exact ck|with_reducible apply And.intro|intro _
   all_goals first|exact hI|exact hc1|(exact ha.ok)|(exact hd)|(exact hs2.ok)|(exact hsm)|(rename_i h;first|exact oI h|exact nah h)|(rename_i _ h _ g;exact sL h g)|decide|omega|(refine ret_with [] ?_;simp only[↓eB,seval,go_sem,bne,yr_un,ym_un,hr,ex_nil])
  |true=>
   have hr:unF (f+1) p=((sumW (unF f) (adv (opnP p))).1,shut (wanP [41] (sumW (unF f) (adv (opnP p))).2)):=by simp[unF,ho,i0,i1,ob]
   have ha:=opn_adv hc1 ob hlt
   have hd:dpU f (adv (opnP p)):=by
    have h3:=(opn_e hc1 ob).2.2
    show 41≤(opnP p).deep+(f:Int)
    rw[h3];have:41≤p.deep+((f+1:Nat):Int):=hc2;simp only;omega
   have hs2:=sumW_nx (un_nx f) _ ha.ok
   simp only[↓eB,seval,go_sem,yp_is,yr_is,yp_named,yr_named,yp_open,yp_fail,yp_want,yp_name,yp_number,yr_number,yg_un,yg_sum,mPr_e,mPr_z,mPr_d,tk_at,Tok.r,cPt_d,ptR,rPr_d,mPr_d',rPr_d',pr_eta,ho1,ho2,i0,i1,ob]
   try simp only[impB,impN]
   repeat' first|exact ck|with_reducible apply And.intro|intro _
   all_goals first|exact hI|exact hc1|(exact ha.ok)|(exact hd)|(exact hs2.ok)|(exact hsm)|(rename_i h;first|exact oI h|exact nah h)|(rename_i _ h _ g;exact sL h g)|decide|omega|(refine ret_with [] ?_;simp only[↓eB,seval,go_sem,bne,yr_un,ym_un,hr,shut,adv])
 |false=>
 cases i2:((tk p).k==1) with
 |true=>
  have hr:unF (f+1) p=(.mk 0 (numW (tk p).t 0) [] .nil .nil,adv p):=by simp[unF,ho,i0,i1,i2]
  have e1:=tk_back hc1 hlt
  have hsm:=tk_mem hc1 hlt
  simp only[tk]at i2 hsm
  simp only[w64i]at e1
  simp only[↓eB,seval,go_sem,yp_is,yr_is,yp_named,yr_named,yp_open,yp_fail,yp_want,yp_name,yp_number,yr_number,yg_un,yg_sum,mPr_e,mPr_z,mPr_d,tk_at,Tok.r,cPt_d,ptR,rPr_d,mPr_d',rPr_d',pr_eta,ho1,ho2,i0,i1,i2,e1,hlt',h0']
  try simp only[impB,impN]
  repeat' first|exact ck|with_reducible apply And.intro|intro _
  all_goals first|exact hI|exact hc1|(exact ha.ok)|(exact hd)|(exact hs2.ok)|(exact hsm)|(rename_i h;first|exact oI h|exact nah h)|(rename_i _ h _ g;exact sL h g)|decide|omega|(refine ret_with [.fz 111] ?_;simp only[↓eB,seval,go_sem,bne,yr_un,ym_un,hr,adv,ex_nil,ex_mk,ex_dnil,tk])
 |false=>
 have i2':=i2
 simp only[tk]at i2'
 cases i3:nameB p with
 |true=>
  have hr:unF (f+1) p=(.mk 1 0 (namS p) .nil .nil,namP p):=by simp[unF,ho,i0,i1,i2,i3]
  simp only[↓eB,seval,go_sem,yp_is,yr_is,yp_named,yr_named,yp_open,yp_fail,yp_want,yp_name,yp_number,yr_number,yg_un,yg_sum,mPr_e,mPr_z,mPr_d,tk_at,Tok.r,cPt_d,ptR,rPr_d,mPr_d',rPr_d',pr_eta,ho1,ho2,i0,i1,i2',i3,hlt',h0']
  try simp only[impB,impN]
  repeat' first|exact ck|with_reducible apply And.intro|intro _
  all_goals first|exact hI|exact hc1|(exact ha.ok)|(exact hd)|(exact hs2.ok)|(exact hsm)|(rename_i h;first|exact oI h|exact nah h)|(rename_i _ h _ g;exact sL h g)|decide|omega|(refine ret_with [.fz 118] ?_;simp only[↓eB,seval,go_sem,bne,yr_un,ym_un,hr,ex_nil,ex_mk,ex_dnil])
 |false=>
  have hr:unF (f+1) p=(.nil,failP 51 p):=by simp[unF,ho,i0,i1,i2,i3]
  simp only[↓eB,seval,go_sem,yp_is,yr_is,yp_named,yr_named,yp_open,yp_fail,yp_want,yp_name,yp_number,yr_number,yg_un,yg_sum,mPr_e,mPr_z,mPr_d,tk_at,Tok.r,cPt_d,ptR,rPr_d,mPr_d',rPr_d',pr_eta,ho1,ho2,i0,i1,i2',i3,hlt',h0']
  try simp only[impB,impN]
  repeat' first|exact ck|with_reducible apply And.intro|intro _
  all_goals first|exact hI|exact hc1|(exact ha.ok)|(exact hd)|(exact hs2.ok)|(exact hsm)|(rename_i h;first|exact oI h|exact nah h)|(rename_i _ h _ g;exact sL h g)|decide|omega|(refine ret_with [] ?_;simp only[↓eB,seval,go_sem,bne,yr_un,ym_un,hr,ex_nil])
theorem y_un:∀f:Nat,yq_un f
 |0=>by
  rintro ⟨p,_u⟩ w M I lab fz xs hc hA hl hx
  obtain⟨h1,h2⟩:=hc
  have h3:p.deep≤40:=h1.2.2.2.2.1
  have h4:41≤p.deep+((0:Nat):Int):=h2
  exact absurd h4 (by simp;omega)
 |f+1=>y_unS f (y_un f) (y_sum f (y_un f))
end Go.Proofs.Ytjnnmindcbgjhab
