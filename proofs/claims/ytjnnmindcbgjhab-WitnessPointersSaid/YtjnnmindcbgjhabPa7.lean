/- Statements, blocks, walked. No conditions but those in each statement. -/
import Derived.Test.YtjnnmindcbgjhabSo
set_option linter.unusedVariables false
set_option linter.unusedSimpArgs false
namespace Go.Proofs.Ytjnnmindcbgjhab
open Go Go.Sy Go.RowKit
abbrev yc_stmt (f:Nat) (p:Pr):Prop:=okP p∧dpU f p
abbrev yr_stmt (f:Nat) (p:Pr):SV:=.agg (stmF f p).1.c
abbrev ym_stmt (f:Nat) (p:Pr):List (Option MV):=[some (zPr,[(stmF f p).2.c])]
noncomputable abbrev ya_stmt:ArgM ((Pr)×Unit):=(amP (mPr) am0)
abbrev yq_stmt (f:Nat):Prop:=CallsM Try.prog 41 ((ya_stmt).args 0) (ya_stmt).mem (fun p:(Pr)×Unit=>yc_stmt f p.1) (fun p:(Pr)×Unit=>yr_stmt f p.1) (fun p:(Pr)×Unit=>ym_stmt f p.1)
theorem yl_stmt (f:Nat):∀p,(fun p:(Pr)×Unit=>yc_stmt f p.1) p→lenM ((ya_stmt).mem p).length ((fun p:(Pr)×Unit=>ym_stmt f p.1) p)=true:=by intro p _;rfl
theorem yo_stmt (f:Nat):∀p,(fun p:(Pr)×Unit=>yc_stmt f p.1) p→outV ((fun p:(Pr)×Unit=>ym_stmt f p.1) p).length ((fun p:(Pr)×Unit=>yr_stmt f p.1) p)=true:=by intro p _;exact sm_out _ _
theorem yn_stmt (f:Nat):∀p,(fun p:(Pr)×Unit=>yc_stmt f p.1) p→∀q,some q∈(fun p:(Pr)×Unit=>ym_stmt f p.1) p→∀r∈q.2,∀c∈r,c.names=[]:=by intro p _;exact mem_nm _
noncomputable def yg_stmt {X:Ctx} {w0:World} (f:Nat) (h:yq_stmt f):Sy.Spec Try.prog X w0:=specM 41 Try.call41 (ya_stmt) (fun p:(Pr)×Unit=>yc_stmt f p.1) (fun p:(Pr)×Unit=>yr_stmt f p.1) (fun p:(Pr)×Unit=>ym_stmt f p.1) (yl_stmt f) (yo_stmt f) (yn_stmt f) h
abbrev yc_stmts (f:Nat) (p:Pr):Prop:=okP p∧dpU f p
abbrev yr_stmts (f:Nat) (p:Pr):SV:=.one (smS (stmtsW (stmF f) p).1)
abbrev ym_stmts (f:Nat) (p:Pr):List (Option MV):=[some (zPr,[(stmtsW (stmF f) p).2.c])]
noncomputable abbrev ya_stmts:ArgM ((Pr)×Unit):=(amP (mPr) am0)
abbrev yq_stmts (f:Nat):Prop:=CallsM Try.prog 27 ((ya_stmts).args 0) (ya_stmts).mem (fun p:(Pr)×Unit=>yc_stmts f p.1) (fun p:(Pr)×Unit=>yr_stmts f p.1) (fun p:(Pr)×Unit=>ym_stmts f p.1)
theorem yl_stmts (f:Nat):∀p,(fun p:(Pr)×Unit=>yc_stmts f p.1) p→lenM ((ya_stmts).mem p).length ((fun p:(Pr)×Unit=>ym_stmts f p.1) p)=true:=by intro p _;rfl
theorem yo_stmts (f:Nat):∀p,(fun p:(Pr)×Unit=>yc_stmts f p.1) p→outV ((fun p:(Pr)×Unit=>ym_stmts f p.1) p).length ((fun p:(Pr)×Unit=>yr_stmts f p.1) p)=true:=by intro p _;first|rfl|exact ex_out _ _|exact cd_out _ _|(simp[outV,outC,ex_out,cd_out];done)
theorem yn_stmts (f:Nat):∀p,(fun p:(Pr)×Unit=>yc_stmts f p.1) p→∀q,some q∈(fun p:(Pr)×Unit=>ym_stmts f p.1) p→∀r∈q.2,∀c∈r,c.names=[]:=by intro p _;exact mem_nm _
noncomputable def yg_stmts {X:Ctx} {w0:World} (f:Nat) (h:yq_stmts f):Sy.Spec Try.prog X w0:=specM 27 Try.call27 (ya_stmts) (fun p:(Pr)×Unit=>yc_stmts f p.1) (fun p:(Pr)×Unit=>yr_stmts f p.1) (fun p:(Pr)×Unit=>ym_stmts f p.1) (yl_stmts f) (yo_stmts f) (yn_stmts f) h
attribute [local go_sem] Pr.c zTk
set_option maxRecDepth 20000 in set_option maxHeartbeats 8000000 in
theorem y_stmts (f:Nat) (hu:yq_stmt f):yq_stmts f:=by
 rintro ⟨p,_u⟩ w M I lab fz xs hc hA hl hx
 refine calls_toML Try.func27 rfl ((ya_stmts).mem ⟨p,_u⟩) w M I lab fz [yp_take,yp_fail,(yg_stmt f hu)] [] ((ya_stmts).args 0 ⟨p,_u⟩) ((fun p:(Pr)×Unit=>ym_stmts f p.1) ⟨p,_u⟩) ((fun p:(Pr)×Unit=>yr_stmts f p.1) ⟨p,_u⟩) xs hA hl hx (fun v hv k hk=>by have:=(ya_stmts).an 0 ⟨p,_u⟩ v hv k hk;omega) (Nat.le_of_ble_eq_true rfl) (Nat.le_of_ble_eq_true rfl) ?_
 clear hx hl hA xs
 simp only[Try.f27]
 obtain⟨hc1,hc2⟩:=hc
 dsimp only at hc1 hc2
 obtain⟨f',rfl⟩:∃f',f=f'+1:=by
  cases f with
  |zero=>
   have h3:p.deep≤40:=hc1.2.2.2.2.1
   have h4:41≤p.deep+((0:Nat):Int):=hc2
   exact absurd h4 (by simp;omega)
  |succ f=>exact⟨f,rfl⟩
 simp only[↓eB,seval,go_sem,yp_is,yr_is,yp_named,yr_named,yp_open,yp_fail,yp_want,yp_name,yp_take,yp_args,yp_value,yg_sum,yg_cond,yg_stmt,mPr_e,mPr_z,mPr_d,tk_at,Tok.r,cPt_d,ptR,rPr_d,mPr_d',rPr_d',pr_eta]
 refine loop_ok (Y:=Nat×List Sm×Pr) (fun y=>okP y.2.2∧dpU (f'+1) y.2.2∧(y.2.2.e=0→(y.2.2.l.length:Int)+1≤y.2.2.i+(y.1:Int))∧(y.2.2.e=0→(y.2.1.length:Int)≤y.2.2.i)∧stmtsL (stmF (f'+1)) y.1 y.2.1 y.2.2=stmtsW (stmF (f'+1)) p)
  (fun y=>⟨[(0,true,.one (.p 0 0 0)),(3,true,.one (.s 1000))],[(0,.vec 0 zPr [y.2.2.c]),(1000,.vec 0 zSc (y.2.1.map Sm.c))]⟩)
  (fun y=>y.1) (p.l.length+1,[],p) ⟨hc1,hc2,fun _=>by have:=hc1.1;simp only;omega,fun _=>by simpa using hc1.1,rfl⟩ ?_ ?_
 ·refine to_with [.nil 3 1000 zSc] ?_;simp only[↓eB,seval,go_sem,zSc]
 ·rintro ⟨k,l,q⟩ ⟨h1,h2,h3,h4,h5⟩
  refine vc_ok [yp_take,yp_fail,yg_stmt (f'+1) hu] [] _ _ _ ?_
  dsimp only at h1 h2 h3 h4 h5
  cases he:(q.e==0) with
  |false=>
   have hr2:stmtsW (stmF (f'+1)) p=(l,q):=by rw[← h5];cases k<;>simp[stmtsL,he]
   simp only[↓eB,seval,go_sem,yp_is,yr_is,yp_named,yr_named,yp_open,yp_fail,yp_want,yp_name,yp_take,yp_args,yp_value,yg_sum,yg_cond,yg_stmt,mPr_e,mPr_z,mPr_d,tk_at,Tok.r,cPt_d,ptR,rPr_d,mPr_d',rPr_d',pr_eta,he]
   try simp only[impB,impN]
   repeat' first|exact ck|with_reducible apply And.intro|intro _
   all_goals first|exact h1|(rename_i h;first|exact oI h|exact nah h)|(rename_i _ h _ g;exact sL h g)|decide|omega|(refine ret_with [.fz 1000] ?_;simp only[↓eB,seval,go_sem,bne,yr_stmts,ym_stmts,hr2,arS,smS,zSc,zSm,rowsS.ds,rowsS.fz])
  |true=>
   have he0:q.e=0:=by simpa using he
   obtain⟨k',rfl⟩:∃k',k=k'+1:=⟨k-1,by have:=h3 he0;have:=h1.2.1;omega⟩
   simp only[stmtsL,he,if_true]at h5
   have hs:=stm_nx (f'+1) q h1
   have hI:=h1.i
   have hle:l.length≤4096:=by have:=h4 he0;have:=h1.2.1;have:=h1.2.2.1;omega
   cases it:isT [125] q with
   |true=>
    rw[if_pos it]at h5
    simp only[↓eB,seval,go_sem,yp_is,yr_is,yp_named,yr_named,yp_open,yp_fail,yp_want,yp_name,yp_take,yp_args,yp_value,yg_sum,yg_cond,yg_stmt,mPr_e,mPr_z,mPr_d,tk_at,Tok.r,cPt_d,ptR,rPr_d,mPr_d',rPr_d',pr_eta,he,it,takP,adv]
    try simp only[impB,impN]
    repeat' first|exact ck|with_reducible apply And.intro|intro _
    all_goals first|exact h1|exact hI|(rename_i h;first|exact oI h|exact nah h)|(rename_i _ h _ g;exact sL h g)|decide|omega|(refine ret_with [.fz 1000] ?_;simp only[↓eB,seval,go_sem,bne,yr_stmts,ym_stmts,← h5,arS,adv,smS,zSc,zSm,rowsS.ds,rowsS.fz])
   |false=>
    rw[if_neg (by rw[it];decide)]at h5
    cases ib:decide ((q.l.length:Int)≤q.i) with
    |true=>
     rw[if_pos ib]at h5
     simp only[↓eB,seval,go_sem,yp_is,yr_is,yp_named,yr_named,yp_open,yp_fail,yp_want,yp_name,yp_take,yp_args,yp_value,yg_sum,yg_cond,yg_stmt,mPr_e,mPr_z,mPr_d,tk_at,Tok.r,cPt_d,ptR,rPr_d,mPr_d',rPr_d',pr_eta,he,it,ib,takP]
     try simp only[impB,impN]
     repeat' first|exact ck|with_reducible apply And.intro|intro _
     all_goals first|exact h1|exact hI|(rename_i h;first|exact oI h|exact nah h)|(rename_i _ h _ g;exact sL h g)|decide|omega|(refine ret_with [] ?_;simp only[↓eB,seval,go_sem,bne,yr_stmts,ym_stmts,← h5,arS,smS])
    |false=>
     rw[if_neg (by rw[ib];decide)]at h5
     simp only[↓eB,seval,go_sem,yp_is,yr_is,yp_named,yr_named,yp_open,yp_fail,yp_want,yp_name,yp_take,yp_args,yp_value,yg_sum,yg_cond,yg_stmt,mPr_e,mPr_z,mPr_d,tk_at,Tok.r,cPt_d,ptR,rPr_d,mPr_d',rPr_d',pr_eta,he,it,ib,takP,zSc,Sm.c,rowsS.fn]
     try simp only[impB,impN]
     repeat' first|exact ck|with_reducible apply And.intro|intro _
     all_goals try first|exact h1|exact hI|exact h2|(rename_i h;first|exact oI h|exact nah h)|(rename_i _ h _ g;exact sL h g)|decide|omega
     refine⟨(k',l++[(stmF (f'+1) q).1],(stmF (f'+1) q).2),⟨hs.ok,by show dpU _ _;unfold dpU;rw[hs.d];exact h2,?_,?_,h5⟩,Nat.lt_succ_self _,
      to_trans (t:=⟨[(0,true,.one (.p 0 0 0)),(3,true,.one (.s 30))],[(0,.vec 0 zPr [(stmF (f'+1) q).2.c]),(30,.vec 0 zSc ((l++[(stmF (f'+1) q).1]).map Sm.c))]⟩) (to_with [] ?_) (to_with [.mv 30 1000] ?_)⟩
     ·exact fun hw0=>by have h6:=h3 he0;have e:=stm_pr f' h1 hw0;dsimp only;rw[hs.l];omega
     ·exact fun hw0=>by have h6:=h4 he0;have e:=stm_pr f' h1 hw0;simp only[List.length_append,List.length_cons,List.length_nil];omega
     ·simp only[↓eB,seval,go_sem,zSc,rowsS.fn,List.flatMap_append,List.map_append,Sm.c]
     ·simp only[↓eB,seval,go_sem,zSc,rowsS.fn,rowsS.mv]
abbrev yc_block (f:Nat) (p:Pr):Prop:=okP p∧dpU (f+1) p
abbrev yr_block (f:Nat) (p:Pr):SV:=.one (smS (blkW (stmF f) p).1)
abbrev ym_block (f:Nat) (p:Pr):List (Option MV):=[some (zPr,[(blkW (stmF f) p).2.c])]
noncomputable abbrev ya_block:ArgM ((Pr)×Unit):=(amP (mPr) am0)
abbrev yq_block (f:Nat):Prop:=CallsM Try.prog 52 ((ya_block).args 0) (ya_block).mem (fun p:(Pr)×Unit=>yc_block f p.1) (fun p:(Pr)×Unit=>yr_block f p.1) (fun p:(Pr)×Unit=>ym_block f p.1)
theorem yl_block (f:Nat):∀p,(fun p:(Pr)×Unit=>yc_block f p.1) p→lenM ((ya_block).mem p).length ((fun p:(Pr)×Unit=>ym_block f p.1) p)=true:=by intro p _;rfl
theorem yo_block (f:Nat):∀p,(fun p:(Pr)×Unit=>yc_block f p.1) p→outV ((fun p:(Pr)×Unit=>ym_block f p.1) p).length ((fun p:(Pr)×Unit=>yr_block f p.1) p)=true:=by intro p _;first|rfl|exact ex_out _ _|exact cd_out _ _|(simp[outV,outC,ex_out,cd_out];done)
theorem yn_block (f:Nat):∀p,(fun p:(Pr)×Unit=>yc_block f p.1) p→∀q,some q∈(fun p:(Pr)×Unit=>ym_block f p.1) p→∀r∈q.2,∀c∈r,c.names=[]:=by intro p _;exact mem_nm _
noncomputable def yg_block {X:Ctx} {w0:World} (f:Nat) (h:yq_block f):Sy.Spec Try.prog X w0:=specM 52 Try.call52 (ya_block) (fun p:(Pr)×Unit=>yc_block f p.1) (fun p:(Pr)×Unit=>yr_block f p.1) (fun p:(Pr)×Unit=>ym_block f p.1) (yl_block f) (yo_block f) (yn_block f) h
set_option maxRecDepth 20000 in set_option maxHeartbeats 8000000 in
theorem y_block (f:Nat) (hu:yq_stmt f):yq_block f:=by
 rintro ⟨p,_u⟩ w M I lab fz xs hc hA hl hx
 refine calls_toML Try.func52 rfl ((ya_block).mem ⟨p,_u⟩) w M I lab fz [yp_is,yp_fail,yp_open,(yg_stmts f (y_stmts f hu))] [] ((ya_block).args 0 ⟨p,_u⟩) ((fun p:(Pr)×Unit=>ym_block f p.1) ⟨p,_u⟩) ((fun p:(Pr)×Unit=>yr_block f p.1) ⟨p,_u⟩) xs hA hl hx (fun v hv k hk=>by have:=(ya_block).an 0 ⟨p,_u⟩ v hv k hk;omega) (Nat.le_of_ble_eq_true rfl) (Nat.le_of_ble_eq_true rfl) ?_
 clear hx hl hA xs
 simp only[Try.f52]
 obtain⟨hc1,hc2⟩:=hc
 dsimp only at hc1 hc2
 have hI:=hc1.i
 cases i0:isT [123] p with
 |false=>
  have hr:blkW (stmF f) p=([],failP 51 p):=by simp[blkW,i0]
  simp only[↓eB,seval,go_sem,yp_is,yr_is,yp_named,yr_named,yp_open,yp_fail,yp_want,yp_name,yp_take,yp_args,yp_value,yg_sum,yg_cond,yg_stmt,yg_stmts,mPr_e,mPr_z,mPr_d,tk_at,Tok.r,cPt_d,ptR,rPr_d,mPr_d',rPr_d',pr_eta,i0]
  try simp only[impB,impN]
  repeat' first|exact ck|with_reducible apply And.intro|intro _
  all_goals first|exact hI|exact hc1|(rename_i h;first|exact oI h|exact nah h)|(rename_i _ h _ g;exact sL h g)|decide|omega|(refine ret_with [] ?_;simp only[↓eB,seval,go_sem,bne,yr_block,ym_block,hr,arS,smS])
 |true=>
 cases ob:opnB p with
 |false=>
  have hr:blkW (stmF f) p=([],opnP p):=by simp[blkW,i0,ob]
  simp only[↓eB,seval,go_sem,yp_is,yr_is,yp_named,yr_named,yp_open,yp_fail,yp_want,yp_name,yp_take,yp_args,yp_value,yg_sum,yg_cond,yg_stmt,yg_stmts,mPr_e,mPr_z,mPr_d,tk_at,Tok.r,cPt_d,ptR,rPr_d,mPr_d',rPr_d',pr_eta,i0,ob]
  try simp only[impB,impN]
  repeat' first|exact ck|with_reducible apply And.intro|intro _
  all_goals first|exact hI|exact hc1|(rename_i h;first|exact oI h|exact nah h)|(rename_i _ h _ g;exact sL h g)|decide|omega|(refine ret_with [] ?_;simp only[↓eB,seval,go_sem,bne,yr_block,ym_block,hr,arS,smS])
 |true=>
  have hr:blkW (stmF f) p=((stmtsW (stmF f) (adv (opnP p))).1,shut (stmtsW (stmF f) (adv (opnP p))).2):=by simp[blkW,i0,ob]
  have ha:=opn_adv hc1 ob (isT_e i0).2
  have hd:=opn_dp hc1 ob hc2
  simp only[↓eB,seval,go_sem,yp_is,yr_is,yp_named,yr_named,yp_open,yp_fail,yp_want,yp_name,yp_take,yp_args,yp_value,yg_sum,yg_cond,yg_stmt,yg_stmts,mPr_e,mPr_z,mPr_d,tk_at,Tok.r,cPt_d,ptR,rPr_d,mPr_d',rPr_d',pr_eta,i0,ob]
  try simp only[impB,impN]
  repeat' first|exact ck|with_reducible apply And.intro|intro _
  all_goals first|exact hI|exact hc1|exact ha.ok|exact hd|(rename_i h;first|exact oI h|exact nah h)|(rename_i _ h _ g;exact sL h g)|decide|omega|(refine ret_with [] ?_;simp only[↓eB,seval,go_sem,bne,yr_block,ym_block,hr,arS,smS,shut,adv])
end Go.Proofs.Ytjnnmindcbgjhab
