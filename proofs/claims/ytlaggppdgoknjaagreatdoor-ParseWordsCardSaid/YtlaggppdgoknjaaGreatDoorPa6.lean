/- Values of statements, walked. No conditions but those in each statement. -/
import Derived.Test.YtlaggppdgoknjaaGreatDoorSo
set_option linter.unusedVariables false
set_option linter.unusedSimpArgs false
namespace Go.Proofs.YtlaggppdgoknjaaGreatDoor
open Go Go.Sy Go.RowKit
theorem mem_nm2 (p:Pr) (s:Sf) (v:VR):∀q,some q∈[some ((zPr,[p.c]):MV),some ((zSc,[valC s v]):MV)]→∀r∈q.2,∀c∈r,c.names=[]:=by
 intro q hq r hr c hc
 simp only[List.mem_cons,List.not_mem_nil,or_false,Option.some.injEq]at hq
 rcases hq with rfl|rfl
 ·simp only[List.mem_singleton]at hr;subst hr;exact prc_nm p c hc
 ·simp only[List.mem_singleton]at hr;subst hr
  simp only[valC,List.mem_cons,List.not_mem_nil,or_false]at hc
  rcases hc with rfl|rfl|rfl|rfl|rfl|rfl|rfl|rfl|rfl|rfl<;>first|rfl|exact ex_names _|exact arO_names _
abbrev yc_value (p:Pr) (s:Sf):Prop:=okP p
abbrev yr_value (p:Pr) (s:Sf):SV:=.tup []
abbrev ym_value (p:Pr) (s:Sf):List (Option MV):=[some (zPr,[(valF p).2.c]),some (zSc,[valC s (valF p).1])]
noncomputable abbrev ya_value:ArgM ((Pr)×(Sf)×Unit):=(amP (mPr) (amP (mSf) am0))
abbrev yq_value:Prop:=CallsM Tryz.prog 73 ((ya_value).args 0) (ya_value).mem (fun p:(Pr)×(Sf)×Unit=>yc_value p.1 p.2.1) (fun p:(Pr)×(Sf)×Unit=>yr_value p.1 p.2.1) (fun p:(Pr)×(Sf)×Unit=>ym_value p.1 p.2.1)
theorem yl_value:∀p,(fun p:(Pr)×(Sf)×Unit=>yc_value p.1 p.2.1) p→lenM ((ya_value).mem p).length ((fun p:(Pr)×(Sf)×Unit=>ym_value p.1 p.2.1) p)=true:=by intro p _;rfl
theorem yo_value:∀p,(fun p:(Pr)×(Sf)×Unit=>yc_value p.1 p.2.1) p→outV ((fun p:(Pr)×(Sf)×Unit=>ym_value p.1 p.2.1) p).length ((fun p:(Pr)×(Sf)×Unit=>yr_value p.1 p.2.1) p)=true:=by intro p _;first|rfl|exact ex_out _ _|exact cd_out _ _|(simp[outV,outC,ex_out,cd_out];done)
theorem yn_value:∀p,(fun p:(Pr)×(Sf)×Unit=>yc_value p.1 p.2.1) p→∀q,some q∈(fun p:(Pr)×(Sf)×Unit=>ym_value p.1 p.2.1) p→∀r∈q.2,∀c∈r,c.names=[]:=by intro p _;exact mem_nm2 _ _ _
attribute [local go_sem] Pr.c Sf.c Tok.r cPt_d mPr_d mPr_d' mPr_e mPr_z mSf_e mSf_z pr_eta ptR rPr_d rPr_d' takP tk_at yg_cond yg_sum yp_args yp_fail yp_is yp_name yp_named yp_open yp_take yp_want yr_is yr_named zTk
set_option maxRecDepth 20000 in set_option maxHeartbeats 8000000 in
theorem y_value:yq_value:=by
 rintro ⟨p,s,_u⟩ w M I lab fz xs hc hA hl hx
 refine calls_toML Tryz.func73 rfl ((ya_value).mem ⟨p,s,_u⟩) w M I lab fz [yp_take,yp_named,yp_name,yp_want,yp_args,sSum] [] ((ya_value).args 0 ⟨p,s,_u⟩) ((fun p:(Pr)×(Sf)×Unit=>ym_value p.1 p.2.1) ⟨p,s,_u⟩) ((fun p:(Pr)×(Sf)×Unit=>yr_value p.1 p.2.1) ⟨p,s,_u⟩) xs hA hl hx (fun v hv k hk=>by have:=(ya_value).an 0 ⟨p,s,_u⟩ v hv k hk;omega) (Nat.le_of_ble_eq_true rfl) (Nat.le_of_ble_eq_true rfl) ?_
 clear hx hl hA xs
 simp only[Tryz.f73]
 have hc1:okP p:=hc
 have hI:=hc1.i
 have hdp:=dp41 hc1
 cases i0:isT tNull p with
 |true=>
  have hr:valF p=(⟨3,[],.nil,none⟩,adv p):=by simp[valF,i0]
  simp only[↓eB,seval,go_sem,i0]
  try simp only[impB,impN]
  repeat' first|exact ck|with_reducible apply And.intro|intro _
  all_goals first|exact hI|exact hc1|(rename_i h;first|exact oI h|exact nah h)|(rename_i _ h _ g;exact sL h g)|decide|omega|(refine ret_with [] ?_;simp only[↓eB,seval,go_sem,bne,yr_value,ym_value,hr,arS,adv,valC,arO_none,ex_nil,zSc])
 |false=>
 cases i1:isT [38] p with
 |true=>
  have hr:valF p=(⟨1,namS (adv p),.nil,none⟩,namP (adv p)):=by simp[valF,i0,i1]
  have ha:=isT_adv hc1 i1
  simp only[↓eB,seval,go_sem,i0,i1,adv]
  try simp only[impB,impN]
  repeat' first|exact ck|with_reducible apply And.intro|intro _
  all_goals first|exact hI|exact hc1|exact ha.ok|(rename_i h;first|exact oI h|exact nah h)|(rename_i _ h _ g;exact sL h g)|decide|omega|(refine ret_with [] ?_;simp only[↓eB,seval,go_sem,bne,yr_value,ym_value,hr,arS,adv,valC,arO_none,ex_nil,zSc])
 |false=>
 cases i2:isT [42] p with
 |true=>
  have hr:valF p=(⟨4,namS (adv p),.nil,none⟩,namP (adv p)):=by simp[valF,i0,i1,i2]
  have ha:=isT_adv hc1 i2
  simp only[↓eB,seval,go_sem,i0,i1,i2,adv]
  try simp only[impB,impN]
  repeat' first|exact ck|with_reducible apply And.intro|intro _
  all_goals first|exact hI|exact hc1|exact ha.ok|(rename_i h;first|exact oI h|exact nah h)|(rename_i _ h _ g;exact sL h g)|decide|omega|(refine ret_with [] ?_;simp only[↓eB,seval,go_sem,bne,yr_value,ym_value,hr,arS,adv,valC,arO_none,ex_nil,zSc])
 |false=>
 have n5:IntKind.i64.wrap (p.i+1)=p.i+1:=by obtain⟨h1,h2,h3,_⟩:=hc1;exact wrap_i64 (by omega) (by omega)
 have q0:(0≤p.i+1)=True:=by have:=hc1.1;simp;omega
 cases i3:ahB [91] p with
 |true=>
  have hr:valF p=(⟨6,namS p,(exS (adv (namP p))).1,none⟩,wanP [93] (exS (adv (namP p))).2):=by simp[valF,i0,i1,i2,i3]
  obtain⟨hna,z1,_,z2⟩:=ahB_e hc1 i3
  have z0:decide (p.i+1<(p.l.length:Int))=true:=by simp[z1]
  have z0':(p.i+1<(p.l.length:Int))=True:=by simp[z1]
  have ha:=ahB_nx hc1 i3
  have hs:=exS_nx ha.ok
  have hd:=dp41 ha.ok
  simp only[↓eB,seval,go_sem,i0,i1,i2,hna,n5,q0,z0,z0',z2]
  try simp only[impB,impN]
  repeat' first|exact ck|with_reducible apply And.intro|intro _
  all_goals first|exact hI|exact hc1|exact ha.ok|exact hs.ok|exact hd|(rename_i h;first|exact oI h|exact nah h)|(rename_i _ h _ g;exact sL h g)|decide|omega|(refine ret_with [] ?_;simp only[↓eB,seval,go_sem,bne,yr_value,ym_value,hr,arS,adv,valC,arO_none,ex_nil,zSc])
 |false=>
 have g3:=i3
 unfold ahB tkA at g3
 simp only[w64i,n5]at g3
 cases i4:ahB [40] p with
 |true=>
  have hr:valF p=(⟨8,namS p,.nil,some (argW (adv (namP p))).1⟩,(argW (adv (namP p))).2):=by simp[valF,i0,i1,i2,i3,i4]
  obtain⟨hna,z1,_,z2⟩:=ahB_e hc1 i4
  have z0:decide (p.i+1<(p.l.length:Int))=true:=by simp[z1]
  have z0':(p.i+1<(p.l.length:Int))=True:=by simp[z1]
  have z3:((p.l.getD (p.i+1).toNat tk0).t==[91])=false:=by rw[hna,z0]at g3;simpa using g3
  have ha:=ahB_nx hc1 i4
  simp only[↓eB,seval,go_sem,i0,i1,i2,hna,n5,q0,z0,z0',z2,z3]
  try simp only[impB,impN]
  repeat' first|exact ck|with_reducible apply And.intro|intro _
  all_goals first|exact hI|exact hc1|exact ha.ok|(rename_i h;first|exact oI h|exact nah h)|(rename_i _ h _ g;exact sL h g)|decide|omega|(refine ret_with [] ?_;simp only[↓eB,seval,go_sem,bne,yr_value,ym_value,hr,arS,adv,valC,arO_some,ex_nil,zSc])
 |false=>
 have hr:valF p=(⟨0,[],(exS p).1,none⟩,(exS p).2):=by simp[valF,i0,i1,i2,i3,i4]
 have g4:=i4
 unfold ahB tkA at g4
 simp only[w64i,n5]at g4
 simp only[↓eB,seval,go_sem,i0,i1,i2,g3,g4,n5,q0]
 try simp only[impB,impN]
 repeat' first|exact ck|with_reducible apply And.intro|intro _
 all_goals first|exact hI|exact hc1|exact hdp|(assumption)|(simp only[Bool.and_eq_true,decide_eq_true_eq]at *;omega)|(rename_i h;first|exact oI h|exact nah h)|(rename_i _ h _ g;exact sL h g)|decide|omega|(refine ret_with [] ?_;simp only[↓eB,seval,go_sem,bne,yr_value,ym_value,hr,arS,adv,valC,arO_none,ex_nil,zSc])
noncomputable def yp_value {X:Ctx} {w0:World}:Sy.Spec Tryz.prog X w0:=specM 73 Tryz.call73 (ya_value) (fun p:(Pr)×(Sf)×Unit=>yc_value p.1 p.2.1) (fun p:(Pr)×(Sf)×Unit=>yr_value p.1 p.2.1) (fun p:(Pr)×(Sf)×Unit=>ym_value p.1 p.2.1) yl_value yo_value yn_value y_value
end Go.Proofs.YtlaggppdgoknjaaGreatDoor
namespace Go.Proofs.YtlaggppdgoknjaaGreatDoor
open Go Go.Sy Go.RowKit
abbrev smS (l:List Sm):C:=.d (.sl zSm (l.map Sm.r))
theorem sm_out (n:Nat) (s:Sm):outV n (.agg s.c)=true:=by
 show s.c.all (outC n)=true
 unfold Sm.c
 simp only[List.all_cons,List.all_nil,ex_out,cd_out,Bool.and_true]
 rfl
end Go.Proofs.YtlaggppdgoknjaaGreatDoor
