/- Conditions and arguments, walked. No conditions but those in each statement. -/
import Derived.Test.YtjnnmindcbgjhabPa3
import Derived.Test.YtjnnmindcbgjhabPn
set_option linter.unusedVariables false
set_option linter.unusedSimpArgs false
namespace Go.Proofs.Ytjnnmindcbgjhab
open Go Go.Sy Go.RowKit
abbrev yc_not (f:Nat) (p:Pr):Prop:=okP p∧dpU f p
abbrev yr_not (f:Nat) (p:Pr):SV:=.one (cdC (notF f p).1)
abbrev ym_not (f:Nat) (p:Pr):List (Option MV):=[some (zPr,[(notF f p).2.c])]
noncomputable abbrev ya_not:ArgM ((Pr)×Unit):=(amP (mPr) am0)
abbrev yq_not (f:Nat):Prop:=CallsM Try.prog 65 ((ya_not).args 0) (ya_not).mem (fun p:(Pr)×Unit=>yc_not f p.1) (fun p:(Pr)×Unit=>yr_not f p.1) (fun p:(Pr)×Unit=>ym_not f p.1)
theorem yl_not (f:Nat):∀p,(fun p:(Pr)×Unit=>yc_not f p.1) p→lenM ((ya_not).mem p).length ((fun p:(Pr)×Unit=>ym_not f p.1) p)=true:=by intro p _;rfl
theorem yo_not (f:Nat):∀p,(fun p:(Pr)×Unit=>yc_not f p.1) p→outV ((fun p:(Pr)×Unit=>ym_not f p.1) p).length ((fun p:(Pr)×Unit=>yr_not f p.1) p)=true:=by intro p _;first|rfl|exact ex_out _ _|exact cd_out _ _|(simp[outV,outC,ex_out,cd_out];done)
theorem yn_not (f:Nat):∀p,(fun p:(Pr)×Unit=>yc_not f p.1) p→∀q,some q∈(fun p:(Pr)×Unit=>ym_not f p.1) p→∀r∈q.2,∀c∈r,c.names=[]:=by intro p _;exact mem_nm _
noncomputable def yg_not {X:Ctx} {w0:World} (f:Nat) (h:yq_not f):Sy.Spec Try.prog X w0:=specM 65 Try.call65 (ya_not) (fun p:(Pr)×Unit=>yc_not f p.1) (fun p:(Pr)×Unit=>yr_not f p.1) (fun p:(Pr)×Unit=>ym_not f p.1) (yl_not f) (yo_not f) (yn_not f) h
abbrev yc_and (f:Nat) (p:Pr):Prop:=okP p∧dpU f p
abbrev yr_and (f:Nat) (p:Pr):SV:=.one (cdC (andW (notF f) p).1)
abbrev ym_and (f:Nat) (p:Pr):List (Option MV):=[some (zPr,[(andW (notF f) p).2.c])]
noncomputable abbrev ya_and:ArgM ((Pr)×Unit):=(amP (mPr) am0)
abbrev yq_and (f:Nat):Prop:=CallsM Try.prog 62 ((ya_and).args 0) (ya_and).mem (fun p:(Pr)×Unit=>yc_and f p.1) (fun p:(Pr)×Unit=>yr_and f p.1) (fun p:(Pr)×Unit=>ym_and f p.1)
theorem yl_and (f:Nat):∀p,(fun p:(Pr)×Unit=>yc_and f p.1) p→lenM ((ya_and).mem p).length ((fun p:(Pr)×Unit=>ym_and f p.1) p)=true:=by intro p _;rfl
theorem yo_and (f:Nat):∀p,(fun p:(Pr)×Unit=>yc_and f p.1) p→outV ((fun p:(Pr)×Unit=>ym_and f p.1) p).length ((fun p:(Pr)×Unit=>yr_and f p.1) p)=true:=by intro p _;first|rfl|exact ex_out _ _|exact cd_out _ _|(simp[outV,outC,ex_out,cd_out];done)
theorem yn_and (f:Nat):∀p,(fun p:(Pr)×Unit=>yc_and f p.1) p→∀q,some q∈(fun p:(Pr)×Unit=>ym_and f p.1) p→∀r∈q.2,∀c∈r,c.names=[]:=by intro p _;exact mem_nm _
noncomputable def yg_and {X:Ctx} {w0:World} (f:Nat) (h:yq_and f):Sy.Spec Try.prog X w0:=specM 62 Try.call62 (ya_and) (fun p:(Pr)×Unit=>yc_and f p.1) (fun p:(Pr)×Unit=>yr_and f p.1) (fun p:(Pr)×Unit=>ym_and f p.1) (yl_and f) (yo_and f) (yn_and f) h
attribute [local go_sem] Pr.c zTk
set_option maxRecDepth 20000 in set_option maxHeartbeats 4000000 in
theorem y_and (f:Nat) (hu:yq_not f):yq_and f:=by
 rintro ⟨p,_u⟩ w M I lab fz xs hc hA hl hx
 refine calls_toML Try.func62 rfl ((ya_and).mem ⟨p,_u⟩) w M I lab fz [yp_take,(yg_not f hu)] [] ((ya_and).args 0 ⟨p,_u⟩) ((fun p:(Pr)×Unit=>ym_and f p.1) ⟨p,_u⟩) ((fun p:(Pr)×Unit=>yr_and f p.1) ⟨p,_u⟩) xs hA hl hx (fun v hv k hk=>by have:=(ya_and).an 0 ⟨p,_u⟩ v hv k hk;omega) (Nat.le_of_ble_eq_true rfl) (Nat.le_of_ble_eq_true rfl) ?_
 clear hx hl hA xs
 simp only[Try.f62]
 simp only[↓eB,seval,go_sem,yp_take,yg_not,mPr_e,mPr_z,mPr_d,tk_at,Tok.r,cPt_d,ptR,rPr_d,mPr_d',rPr_d',pr_eta]
 obtain⟨hc1,hc2⟩:=hc
 dsimp only at hc1 hc2
 have hu0:=not_nx f p hc1
 refine⟨⟨hc1,hc2⟩,?_⟩
 refine loop_ok (Y:=Nat×Cd×Pr) (fun y=>okP y.2.2∧dpU f y.2.2∧(y.2.2.l.length:Int)≤y.2.2.i+(y.1:Int)∧andL (notF f) y.1 y.2.1 y.2.2=andW (notF f) p)
  (fun y=>⟨[(0,true,.one (.p 0 0 0)),(3,true,.one (cdC y.2.1))],[(0,.vec 0 zPr [y.2.2.c])]⟩)
  (fun y=>y.1) (p.l.length,(notF f p).1,(notF f p).2) ⟨hu0.ok,by show dpU f _;unfold dpU;rw[hu0.d];exact hc2,by have:=hu0.ok.1;simp only[hu0.l];omega,by show andL _ _ _ _=andW _ _;rfl⟩ ?_ ?_
 ·refine to_with [] ?_;simp only[↓eB,seval,go_sem]
 ·rintro ⟨k,a,q⟩ ⟨h1,h2,h3,h4⟩
  refine vc_ok [yp_take,(yg_not f hu)] [] _ _ _ ?_
  dsimp only at h1 h2 h3 h4
  cases i0:isT [38,38] q with
  |true=>
   obtain⟨k',rfl⟩:∃k',k=k'+1:=⟨k-1,by have:=(isT_e i0).2;omega⟩
   simp only[andL,i0,if_true]at h4
   have ha:=isT_adv h1 i0
   have hu1:=not_nx f _ ha.ok
   have hai:=adv_i h1 (isT_e i0).2
   simp only[↓eB,seval,go_sem,i0,yp_take,yg_not,takP,adv,mPr_e,mPr_z,mPr_d,tk_at,Tok.r,cPt_d,ptR,rPr_d,mPr_d',rPr_d',pr_eta]
   refine⟨h1,⟨ha.ok,h2⟩,(k',Cd.mk 6 .nil .nil a (notF f (adv q)).1 [],(notF f (adv q)).2),⟨hu1.ok,by show dpU f _;unfold dpU;rw[hu1.d];exact h2,?_,?_⟩,Nat.lt_succ_self _,to_with [.fz 12] ?_⟩
   ·dsimp only;have hi1:=hu1.i;rw[hai]at hi1;rw[hu1.l];show (q.l.length:Int)≤_;omega
   ·exact h4
   ·simp only[↓eB,seval,go_sem,adv,cd_mk,cd_nil,cd_dnil,ex_dnil]
  |false=>
   have hr:(a,q)=andW (notF f) p:=by
    rw[← h4];cases k<;>simp[andL,i0]
   simp only[↓eB,seval,go_sem,i0,yp_take,takP,mPr_e,mPr_z,mPr_d,tk_at,Tok.r,cPt_d,ptR,rPr_d,mPr_d',rPr_d',pr_eta]
   try simp only[impB,impN]
   repeat' first|exact ck|with_reducible apply And.intro|intro _
   all_goals first|exact h1|(rename_i h;first|exact oI h|exact nah h)|(rename_i _ h _ g;exact sL h g)|decide|omega|(refine ret_with [] ?_;simp only[↓eB,seval,go_sem,bne,yr_and,ym_and,← hr])
abbrev yc_cond (f:Nat) (p:Pr):Prop:=okP p∧dpU f p
abbrev yr_cond (f:Nat) (p:Pr):SV:=.one (cdC (conW (notF f) p).1)
abbrev ym_cond (f:Nat) (p:Pr):List (Option MV):=[some (zPr,[(conW (notF f) p).2.c])]
noncomputable abbrev ya_cond:ArgM ((Pr)×Unit):=(amP (mPr) am0)
abbrev yq_cond (f:Nat):Prop:=CallsM Try.prog 51 ((ya_cond).args 0) (ya_cond).mem (fun p:(Pr)×Unit=>yc_cond f p.1) (fun p:(Pr)×Unit=>yr_cond f p.1) (fun p:(Pr)×Unit=>ym_cond f p.1)
theorem yl_cond (f:Nat):∀p,(fun p:(Pr)×Unit=>yc_cond f p.1) p→lenM ((ya_cond).mem p).length ((fun p:(Pr)×Unit=>ym_cond f p.1) p)=true:=by intro p _;rfl
theorem yo_cond (f:Nat):∀p,(fun p:(Pr)×Unit=>yc_cond f p.1) p→outV ((fun p:(Pr)×Unit=>ym_cond f p.1) p).length ((fun p:(Pr)×Unit=>yr_cond f p.1) p)=true:=by intro p _;first|rfl|exact ex_out _ _|exact cd_out _ _|(simp[outV,outC,ex_out,cd_out];done)
theorem yn_cond (f:Nat):∀p,(fun p:(Pr)×Unit=>yc_cond f p.1) p→∀q,some q∈(fun p:(Pr)×Unit=>ym_cond f p.1) p→∀r∈q.2,∀c∈r,c.names=[]:=by intro p _;exact mem_nm _
noncomputable def yg_cond {X:Ctx} {w0:World} (f:Nat) (h:yq_cond f):Sy.Spec Try.prog X w0:=specM 51 Try.call51 (ya_cond) (fun p:(Pr)×Unit=>yc_cond f p.1) (fun p:(Pr)×Unit=>yr_cond f p.1) (fun p:(Pr)×Unit=>ym_cond f p.1) (yl_cond f) (yo_cond f) (yn_cond f) h
set_option maxRecDepth 20000 in set_option maxHeartbeats 4000000 in
theorem y_cond (f:Nat) (hu:yq_not f):yq_cond f:=by
 rintro ⟨p,_u⟩ w M I lab fz xs hc hA hl hx
 refine calls_toML Try.func51 rfl ((ya_cond).mem ⟨p,_u⟩) w M I lab fz [yp_take,(yg_and f (y_and f hu))] [] ((ya_cond).args 0 ⟨p,_u⟩) ((fun p:(Pr)×Unit=>ym_cond f p.1) ⟨p,_u⟩) ((fun p:(Pr)×Unit=>yr_cond f p.1) ⟨p,_u⟩) xs hA hl hx (fun v hv k hk=>by have:=(ya_cond).an 0 ⟨p,_u⟩ v hv k hk;omega) (Nat.le_of_ble_eq_true rfl) (Nat.le_of_ble_eq_true rfl) ?_
 clear hx hl hA xs
 simp only[Try.f51]
 simp only[↓eB,seval,go_sem,yp_take,yg_and,mPr_e,mPr_z,mPr_d,tk_at,Tok.r,cPt_d,ptR,rPr_d,mPr_d',rPr_d',pr_eta]
 obtain⟨hc1,hc2⟩:=hc
 dsimp only at hc1 hc2
 have hu0:=andW_nx (not_nx f) p hc1
 refine⟨⟨hc1,hc2⟩,?_⟩
 refine loop_ok (Y:=Nat×Cd×Pr) (fun y=>okP y.2.2∧dpU f y.2.2∧(y.2.2.l.length:Int)≤y.2.2.i+(y.1:Int)∧conL (notF f) y.1 y.2.1 y.2.2=conW (notF f) p)
  (fun y=>⟨[(0,true,.one (.p 0 0 0)),(3,true,.one (cdC y.2.1))],[(0,.vec 0 zPr [y.2.2.c])]⟩)
  (fun y=>y.1) (p.l.length,(andW (notF f) p).1,(andW (notF f) p).2) ⟨hu0.ok,by show dpU f _;unfold dpU;rw[hu0.d];exact hc2,by have:=hu0.ok.1;simp only[hu0.l];omega,by show conL _ _ _ _=conW _ _;rfl⟩ ?_ ?_
 ·refine to_with [] ?_;simp only[↓eB,seval,go_sem]
 ·rintro ⟨k,a,q⟩ ⟨h1,h2,h3,h4⟩
  refine vc_ok [yp_take,(yg_and f (y_and f hu))] [] _ _ _ ?_
  dsimp only at h1 h2 h3 h4
  cases i0:isT [124,124] q with
  |true=>
   obtain⟨k',rfl⟩:∃k',k=k'+1:=⟨k-1,by have:=(isT_e i0).2;omega⟩
   simp only[conL,i0,if_true]at h4
   have ha:=isT_adv h1 i0
   have hu1:=andW_nx (not_nx f) _ ha.ok
   have hai:=adv_i h1 (isT_e i0).2
   simp only[↓eB,seval,go_sem,i0,yp_take,yg_and,takP,adv,mPr_e,mPr_z,mPr_d,tk_at,Tok.r,cPt_d,ptR,rPr_d,mPr_d',rPr_d',pr_eta]
   refine⟨h1,⟨ha.ok,h2⟩,(k',Cd.mk 7 .nil .nil a (andW (notF f) (adv q)).1 [],(andW (notF f) (adv q)).2),⟨hu1.ok,by show dpU f _;unfold dpU;rw[hu1.d];exact h2,?_,?_⟩,Nat.lt_succ_self _,to_with [.fz 12] ?_⟩
   ·dsimp only;have hi1:=hu1.i;rw[hai]at hi1;rw[hu1.l];show (q.l.length:Int)≤_;omega
   ·exact h4
   ·simp only[↓eB,seval,go_sem,adv,cd_mk,cd_nil,cd_dnil,ex_dnil]
  |false=>
   have hr:(a,q)=conW (notF f) p:=by
    rw[← h4];cases k<;>simp[conL,i0]
   simp only[↓eB,seval,go_sem,i0,yp_take,takP,mPr_e,mPr_z,mPr_d,tk_at,Tok.r,cPt_d,ptR,rPr_d,mPr_d',rPr_d',pr_eta]
   try simp only[impB,impN]
   repeat' first|exact ck|with_reducible apply And.intro|intro _
   all_goals first|exact h1|(rename_i h;first|exact oI h|exact nah h)|(rename_i _ h _ g;exact sL h g)|decide|omega|(refine ret_with [] ?_;simp only[↓eB,seval,go_sem,bne,yr_cond,ym_cond,← hr])
noncomputable abbrev sSum {X:Ctx} {w0:World}:Sy.Spec Try.prog X w0:=yg_sum 41 (y_sum 41 (y_un 41))
def cO (s:List UInt8):List C:=[.v (.string (bs s))]
theorem co_at {i:Nat} {x:List UInt8} (h:cmpO[i]?=some x):(cmpO.map cO).getD i [.v (.string (bs []))]=cO x:=by simp[List.getD,h]
set_option maxRecDepth 20000 in set_option maxHeartbeats 8000000 in
theorem y_notS (f:Nat) (hu:yq_not f) (hs:yq_cond f):yq_not (f+1):=by
 rintro ⟨p,_u⟩ w M I lab fz xs hc hA hl hx
 refine calls_toML Try.func65 rfl ((ya_not).mem ⟨p,_u⟩) w M I lab fz [yp_is,yp_named,yp_open,yp_fail,yp_want,yp_take,(yg_not f hu),(yg_cond f hs),sSum] [] ((ya_not).args 0 ⟨p,_u⟩) ((fun p:(Pr)×Unit=>ym_not (f+1) p.1) ⟨p,_u⟩) ((fun p:(Pr)×Unit=>yr_not (f+1) p.1) ⟨p,_u⟩) xs hA hl hx (fun v hv k hk=>by have:=(ya_not).an 0 ⟨p,_u⟩ v hv k hk;omega) (Nat.le_of_ble_eq_true rfl) (Nat.le_of_ble_eq_true rfl) ?_
 clear hx hl hA xs
 simp only[Try.f65]
 obtain⟨hc1,hc2⟩:=hc
 dsimp only at hc1 hc2
 have hI:=hc1.i
 cases i0:isT [33] p with
 |true=>
  cases ob:opnB p with
  |false=>
   have hr:notF (f+1) p=(.nil,opnP p):=by simp[notF,i0,ob]
   simp only[↓eB,seval,go_sem,yp_is,yr_is,yp_named,yr_named,yp_open,yp_fail,yp_want,yp_name,yp_take,yg_not,yg_cond,yg_sum,mPr_e,mPr_z,mPr_d,tk_at,Tok.r,cPt_d,ptR,rPr_d,mPr_d',rPr_d',pr_eta,i0,ob]
   try simp only[impB,impN]
   repeat' first|exact ck|with_reducible apply And.intro|intro _
   all_goals first|exact hI|exact hc1|(rename_i h;first|exact oI h|exact nah h)|(rename_i _ h _ g;exact sL h g)|decide|omega|(refine ret_with [] ?_;simp only[↓eB,seval,go_sem,bne,yr_not,ym_not,hr,cd_nil])
  |true=>
   have hr:notF (f+1) p=(.mk 8 .nil .nil (notF f (adv (opnP p))).1 .nil [],shut (notF f (adv (opnP p))).2):=by simp[notF,i0,ob]
   have ha:=opn_adv hc1 ob (isT_e i0).2
   have hd:=opn_dp hc1 ob hc2
   simp only[↓eB,seval,go_sem,yp_is,yr_is,yp_named,yr_named,yp_open,yp_fail,yp_want,yp_name,yp_take,yg_not,yg_cond,yg_sum,mPr_e,mPr_z,mPr_d,tk_at,Tok.r,cPt_d,ptR,rPr_d,mPr_d',rPr_d',pr_eta,i0,ob]
   try simp only[impB,impN]
   repeat' first|exact ck|with_reducible apply And.intro|intro _
   all_goals first|exact hI|exact hc1|exact ha.ok|exact hd|(rename_i h;first|exact oI h|exact nah h)|(rename_i _ h _ g;exact sL h g)|decide|omega|(refine ret_with [.fz 33] ?_;simp only[↓eB,seval,go_sem,bne,yr_not,ym_not,hr,cd_nil,cd_mk,cd_dnil,ex_dnil,shut,adv])
 |false=>
 cases i1:isT [40] p with
 |true=>
  cases ob:opnB p with
  |false=>
   have hr:notF (f+1) p=(.nil,opnP p):=by simp[notF,i0,i1,ob]
   simp only[↓eB,seval,go_sem,yp_is,yr_is,yp_named,yr_named,yp_open,yp_fail,yp_want,yp_name,yp_take,yg_not,yg_cond,yg_sum,mPr_e,mPr_z,mPr_d,tk_at,Tok.r,cPt_d,ptR,rPr_d,mPr_d',rPr_d',pr_eta,i0,i1,ob]
   try simp only[impB,impN]
   repeat' first|exact ck|with_reducible apply And.intro|intro _
   all_goals first|exact hI|exact hc1|(rename_i h;first|exact oI h|exact nah h)|(rename_i _ h _ g;exact sL h g)|decide|omega|(refine ret_with [] ?_;simp only[↓eB,seval,go_sem,bne,yr_not,ym_not,hr,cd_nil])
  |true=>
   have hr:notF (f+1) p=((conW (notF f) (adv (opnP p))).1,shut (wanP [41] (conW (notF f) (adv (opnP p))).2)):=by simp[notF,i0,i1,ob]
   have ha:=opn_adv hc1 ob (isT_e i1).2
   have hd:=opn_dp hc1 ob hc2
   have hs2:=conW_nx (not_nx f) _ ha.ok
   simp only[↓eB,seval,go_sem,yp_is,yr_is,yp_named,yr_named,yp_open,yp_fail,yp_want,yp_name,yp_take,yg_not,yg_cond,yg_sum,mPr_e,mPr_z,mPr_d,tk_at,Tok.r,cPt_d,ptR,rPr_d,mPr_d',rPr_d',pr_eta,i0,i1,ob]
   try simp only[impB,impN]
   repeat' first|exact ck|with_reducible apply And.intro|intro _
   all_goals first|exact hI|exact hc1|exact ha.ok|exact hd|exact hs2.ok|(rename_i h;first|exact oI h|exact nah h)|(rename_i _ h _ g;exact sL h g)|decide|omega|(refine ret_with [] ?_;simp only[↓eB,seval,go_sem,bne,yr_not,ym_not,hr,shut,adv])
 |false=>
 cases hn:nullB p with
 |true=>
  have hr:notF (f+1) p=(nulC p,adv3 p):=by simp[notF,i0,i1,hn]
  obtain⟨n1,n2,n3,n4,n5⟩:=null_e hc1 hn
  have hn':=hn
  have hna:nameB p=true:=by unfold nullB at hn;simp only[Bool.and_eq_true]at hn;exact hn.1.1.1
  unfold nullB tkA at hn'
  simp only[w64i]at hn' n3 n4 n5
  have q1:(0≤p.i)=True:=by simp[hc1.1]
  have q2:(p.i<(p.l.length:Int))=True:=by simp;omega
  have q3:(0≤p.i+2)=True:=by have:=hc1.1;simp;omega
  have q4:(p.i+2<(p.l.length:Int))=True:=by simp[n2]
  have q5:(0≤p.i+1)=True:=by have:=hc1.1;simp;omega
  have q6:(p.i+1<(p.l.length:Int))=True:=by simp;omega
  simp only[n4,n5,hna,Bool.true_and,Bool.and_eq_true,decide_eq_true_eq]at hn'
  obtain⟨⟨z1,z2⟩,z3⟩:=hn'
  have z0:decide (p.i+2<(p.l.length:Int))=true:=by simp[n2]
  cases z4:((p.l.getD (p.i+1).toNat tk0).t==[33,61]) with
  |true=>
   have hc':nulC p= .mk 8 .nil .nil (.mk 9 .nil .nil .nil .nil (tk p).t) .nil []:=by unfold nulC tkA;simp only[w64i,n5];rw[if_pos z4]
   cases z5:((p.l.getD (p.i+1).toNat tk0).t==[61,61]) with
   |true=>rw[beq_iff_eq]at z4 z5;rw[z4]at z5;cases z5
   |false=>
    simp only[↓eB,seval,go_sem,yp_is,yr_is,yp_named,yr_named,yp_open,yp_fail,yp_want,yp_name,yp_take,yg_not,yg_cond,yg_sum,mPr_e,mPr_z,mPr_d,tk_at,Tok.r,cPt_d,ptR,rPr_d,mPr_d',rPr_d',pr_eta,i0,i1,hna,n3,n4,n5,q1,q2,q3,q4,q5,q6,z0,z2,z4,z5]
    try simp only[impB,impN]
    repeat' first|exact ck|with_reducible apply And.intro|intro _
    all_goals first|exact hI|exact hc1|(rename_i h;first|exact oI h|exact nah h)|(rename_i _ h _ g;exact sL h g)|decide|omega|(refine ret_with [.fz 131,.fz 147] ?_;simp only[↓eB,seval,go_sem,bne,yr_not,ym_not,hr,hc',cd_mk,cd_nil,Cd.d,Ex.d,adv3,tk,n3])
  |false=>
   have hc':nulC p= .mk 9 .nil .nil .nil .nil (tk p).t:=by unfold nulC tkA;simp only[w64i,n5];rw[if_neg (by rw[z4];decide)]
   have z5:((p.l.getD (p.i+1).toNat tk0).t==[61,61])=true:=by rw[z4]at z3;simpa using z3
   simp only[↓eB,seval,go_sem,yp_is,yr_is,yp_named,yr_named,yp_open,yp_fail,yp_want,yp_name,yp_take,yg_not,yg_cond,yg_sum,mPr_e,mPr_z,mPr_d,tk_at,Tok.r,cPt_d,ptR,rPr_d,mPr_d',rPr_d',pr_eta,i0,i1,hna,n3,n4,n5,q1,q2,q3,q4,q5,q6,z0,z2,z4,z5]
   try simp only[impB,impN]
   repeat' first|exact ck|with_reducible apply And.intro|intro _
   all_goals first|exact hI|exact hc1|(rename_i h;first|exact oI h|exact nah h)|(rename_i _ h _ g;exact sL h g)|decide|omega|(refine ret_with [.fz 131] ?_;simp only[↓eB,seval,go_sem,bne,yr_not,ym_not,hr,hc',cd_mk,cd_nil,cd_dnil,ex_dnil,adv3,tk,n3])
 |false=>
 have hr:notF (f+1) p=cmpF (exS p).2 (exS p).1 cmpO 0:=by simp[notF,i0,i1,hn]
 have hn':=hn
 unfold nullB tkA at hn'
 simp only[w64i]at hn'
 have q1:=hc1.1
 have q2:p.i+2<9223372036854775808:=by have:=hc1.2.1;have:=hc1.2.2.1;omega
 have n4:IntKind.i64.wrap (p.i+2)=p.i+2:=wrap_i64 (by omega) (by omega)
 have n5:IntKind.i64.wrap (p.i+1)=p.i+1:=wrap_i64 (by omega) (by omega)
 simp only[n4,n5]at hn'
 have hu0:=exS_nx hc1
 simp only[↓eB,seval,go_sem,yp_is,yr_is,yp_named,yr_named,yp_open,yp_fail,yp_want,yp_name,yp_take,yg_not,yg_cond,yg_sum,mPr_e,mPr_z,mPr_d,tk_at,Tok.r,cPt_d,ptR,rPr_d,mPr_d',rPr_d',pr_eta,i0,i1,hn',n4,n5]
 refine⟨hI,hI,hI,?_,?_,?_,?_,chk_ok (by kernel_rfl),⟨hc1,dp41 hc1⟩,?_⟩
 ·exact fun h=>⟨h,h,by omega,by simp only[Bool.and_eq_true,decide_eq_true_eq]at h;omega⟩
 ·exact fun h=>⟨h,h,by omega,by simp only[Bool.and_eq_true,decide_eq_true_eq]at h;omega⟩
 ·exact fun h=>⟨h,h,by omega,by simp only[Bool.and_eq_true,decide_eq_true_eq]at h;omega⟩
 ·exact fun h=>⟨h,fun h2=>by rw[h,h2];rfl⟩
 generalize hq:(exS p).2=q at hr hu0
 generalize ha:(exS p).1=a at hr
 have hq1:(sumW (unF 41) p).2=q:=hq
 have ha1:(sumW (unF 41) p).1=a:=ha
 have hq0:=hu0.ok
 have hlen:cmpO.length=6:=rfl
 refine loop_ok (Y:=Nat) (fun k=>k≤6∧cmpF q a (cmpO.drop k) (k:Int)=cmpF q a cmpO 0)
  (fun k=>⟨[(0,true,.one (.p 0 0 0)),(6,true,.one (exC a)),(7,true,.one (.s 1000)),(8,true,.one (.v (.int .i64 (k:Int))))],[(0,.vec 0 zPr [q.c]),(1000,.vec 0 [.v (.string (bs []))] (cmpO.map cO))]⟩)
  (fun k=>6-k) 0 ⟨Nat.zero_le _,rfl⟩ ?_ ?_
 ·refine to_with [.mv 158 1000] ?_;simp only[↓eB,seval,go_sem,cmpO,cO]
 ·rintro k ⟨hk,hJ⟩
  refine vc_ok [yp_is,yp_named,yp_open,yp_fail,yp_want,yp_take,yg_not f hu,yg_cond f hs,sSum] [] _ _ _ ?_
  cases hx:cmpO[k]? with
  |none=>
   have hk2:cmpO.length≤k:=List.getElem?_eq_none_iff.1 hx
   have h1:decide ((k:Int)<6)=false:=by simp;omega
   rw[List.drop_eq_nil_of_le hk2]at hJ
   simp only[cmpF]at hJ
   simp only[↓eB,seval,go_sem,yp_is,yr_is,yp_named,yr_named,yp_open,yp_fail,yp_want,yp_name,yp_take,yg_not,yg_cond,yg_sum,mPr_e,mPr_z,mPr_d,tk_at,Tok.r,cPt_d,ptR,rPr_d,mPr_d',rPr_d',pr_eta,h1]
   try simp only[impB,impN]
   repeat' first|exact ck|with_reducible apply And.intro|intro _
   all_goals first|exact hq0.i|(rename_i h;first|exact oI h|exact nah h)|(rename_i _ h _ g;exact sL h g)|decide|omega|(refine ret_with [] ?_;simp only[↓eB,seval,go_sem,bne,yr_not,ym_not,hr,← hJ,cd_nil])
  |some x=>
   have hlt:k<cmpO.length:=(List.getElem?_eq_some_iff.1 hx).1
   have h1:decide ((k:Int)<6)=true:=by simp;omega
   have h2:((k:Int)<(cmpO.length:Int))=True:=by simp;omega
   have h3:=co_at hx
   have h4:=natI_succ (i:=k) (n:=6) (by omega) (by omega)
   have h5:IntKind.i64.wrap (0+(k:Int))=(k:Int):=by rw[wrap_i64 (by omega) (by omega)];omega
   rw[drop_get hx]at hJ
   simp only[cmpF]at hJ
   cases it:isT x q with
   |true=>
    rw[if_pos it]at hJ
    have hb:=isT_adv hq0 it
    simp only[↓eB,seval,go_sem,yp_is,yr_is,yp_named,yr_named,yp_open,yp_fail,yp_want,yp_name,yp_take,yg_not,yg_cond,yg_sum,mPr_e,mPr_z,mPr_d,tk_at,Tok.r,cPt_d,ptR,rPr_d,mPr_d',rPr_d',pr_eta,h1,h2,h3,h4,h5,cO,it,takP,adv]
    try simp only[impB,impN]
    repeat' first|exact ck|with_reducible apply And.intro|intro _
    all_goals first|exact hlt|exact hq0|exact hb.ok|exact dp41 hb.ok|(rename_i h;first|exact oI h|exact nah h)|(rename_i _ h _ g;exact sL h g)|decide|omega|(refine ret_with [.fz 175] ?_;simp only[↓eB,seval,go_sem,bne,yr_not,ym_not,hr,← hJ,cd_mk,cd_dnil,adv])
   |false=>
    rw[if_neg (by rw[it];decide)]at hJ
    simp only[↓eB,seval,go_sem,yp_is,yr_is,yp_named,yr_named,yp_open,yp_fail,yp_want,yp_name,yp_take,yg_not,yg_cond,yg_sum,mPr_e,mPr_z,mPr_d,tk_at,Tok.r,cPt_d,ptR,rPr_d,mPr_d',rPr_d',pr_eta,h1,h2,h3,h4,h5,cO,it,takP]
    refine⟨hlt,hq0,k+1,⟨by omega,hJ⟩,by omega,?_⟩
    refine to_with [] ?_;simp only[↓eB,seval,go_sem,cmpO,cO]
theorem y_not:∀f:Nat,yq_not f
 |0=>by
  rintro ⟨p,_u⟩ w M I lab fz xs hc hA hl hx
  obtain⟨h1,h2⟩:=hc
  have h3:p.deep≤40:=h1.2.2.2.2.1
  have h4:41≤p.deep+((0:Nat):Int):=h2
  exact absurd h4 (by simp;omega)
 |f+1=>y_notS f (y_not f) (y_cond f (y_not f))
noncomputable abbrev sCond {X:Ctx} {w0:World}:Sy.Spec Try.prog X w0:=yg_cond 41 (y_cond 41 (y_not 41))
end Go.Proofs.Ytjnnmindcbgjhab
