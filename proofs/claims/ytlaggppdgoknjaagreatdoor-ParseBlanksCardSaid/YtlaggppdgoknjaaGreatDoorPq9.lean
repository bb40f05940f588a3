/- The program's parser: statements, walked. No conditions but those in each statement. -/
import Derived.Test.YtlaggppdgoknjaaGreatDoorPq8
import Derived.Test.YtlaggppdgoknjaaGreatDoorSo
set_option linter.unusedVariables false
set_option linter.unusedSimpArgs false
namespace Go.Proofs.YtlaggppdgoknjaaGreatDoor
open Go Go.Sy Go.RowKit
abbrev yc_qstmt (f:Nat) (p:Pr):Prop:=okQ p∧dpU f p∧okN p
abbrev yb_qstmt (f:Nat) (p:Pr):Bool:=(stmF f p).2.b
abbrev yr_qstmt (f:Nat) (p:Pr):SV:=.agg (stmF f p).1.c
abbrev yv_qstmt (f:Nat) (p:Pr):MV:=(stmF f p).2.w
noncomputable abbrev ya_qstmt:ArgM ((Pr)×Unit):=(amP (mPq) am0)
abbrev yq_qstmt (f:Nat):Prop:=CallsMP Tryz.prog 63 ((ya_qstmt).args 0) (ya_qstmt).mem (fun p:(Pr)×Unit=>yc_qstmt f p.1) (fun p:(Pr)×Unit=>yb_qstmt f p.1) (fun p:(Pr)×Unit=>yr_qstmt f p.1) (fun p:(Pr)×Unit=>[some (yv_qstmt f p.1)])
theorem yl_qstmt (f:Nat):∀p,(fun p:(Pr)×Unit=>yc_qstmt f p.1) p→((fun p:(Pr)×Unit=>[some (yv_qstmt f p.1)]) p).length=((ya_qstmt).mem p).length:=by intro p _;rfl
theorem yo_qstmt (f:Nat):∀p,(fun p:(Pr)×Unit=>yc_qstmt f p.1) p→outV ((fun p:(Pr)×Unit=>[some (yv_qstmt f p.1)]) p).length ((fun p:(Pr)×Unit=>yr_qstmt f p.1) p)=true:=by intro p _;exact sm_out _ _
theorem yn_qstmt (f:Nat):∀p,(fun p:(Pr)×Unit=>yc_qstmt f p.1) p→∀q,some q∈(fun p:(Pr)×Unit=>[some (yv_qstmt f p.1)]) p→∀r∈q.2,∀c∈r,c.names=[]:=by intro p _;exact memw_nm _
noncomputable def yg_qstmt {X:Ctx} {w0:World} (f:Nat) (h:yq_qstmt f):Sy.Spec Tryz.prog X w0:=specMP 63 Tryz.call63 (ya_qstmt) (fun p:(Pr)×Unit=>yc_qstmt f p.1) (fun p:(Pr)×Unit=>yb_qstmt f p.1) (fun p:(Pr)×Unit=>yr_qstmt f p.1) (fun p:(Pr)×Unit=>[some (yv_qstmt f p.1)]) (yl_qstmt f) (yo_qstmt f) (yn_qstmt f) h
abbrev yc_qlist (f:Nat) (p:Pr):Prop:=okQ p∧dpU f p∧okN p
abbrev yb_qlist (f:Nat) (p:Pr):Bool:=(shut (stmtsW (stmF f) p).2).b
abbrev yr_qlist (f:Nat) (p:Pr):SV:=.one (smS (stmtsW (stmF f) p).1)
abbrev yv_qlist (f:Nat) (p:Pr):MV:=(shut (stmtsW (stmF f) p).2).w
noncomputable abbrev ya_qlist:ArgM ((Pr)×Unit):=(amP (mPq) am0)
abbrev yq_qlist (f:Nat):Prop:=CallsMP Tryz.prog 52 ((ya_qlist).args 0) (ya_qlist).mem (fun p:(Pr)×Unit=>yc_qlist f p.1) (fun p:(Pr)×Unit=>yb_qlist f p.1) (fun p:(Pr)×Unit=>yr_qlist f p.1) (fun p:(Pr)×Unit=>[some (yv_qlist f p.1)])
theorem yl_qlist (f:Nat):∀p,(fun p:(Pr)×Unit=>yc_qlist f p.1) p→((fun p:(Pr)×Unit=>[some (yv_qlist f p.1)]) p).length=((ya_qlist).mem p).length:=by intro p _;rfl
theorem yo_qlist (f:Nat):∀p,(fun p:(Pr)×Unit=>yc_qlist f p.1) p→outV ((fun p:(Pr)×Unit=>[some (yv_qlist f p.1)]) p).length ((fun p:(Pr)×Unit=>yr_qlist f p.1) p)=true:=by intro p _;first|rfl|exact ex_out _ _|exact cd_out _ _|(simp[outV,outC,ex_out,cd_out];done)
theorem yn_qlist (f:Nat):∀p,(fun p:(Pr)×Unit=>yc_qlist f p.1) p→∀q,some q∈(fun p:(Pr)×Unit=>[some (yv_qlist f p.1)]) p→∀r∈q.2,∀c∈r,c.names=[]:=by intro p _;exact memw_nm _
noncomputable def yg_qlist {X:Ctx} {w0:World} (f:Nat) (h:yq_qlist f):Sy.Spec Tryz.prog X w0:=specMP 52 Tryz.call52 (ya_qlist) (fun p:(Pr)×Unit=>yc_qlist f p.1) (fun p:(Pr)×Unit=>yb_qlist f p.1) (fun p:(Pr)×Unit=>yr_qlist f p.1) (fun p:(Pr)×Unit=>[some (yv_qlist f p.1)]) (yl_qlist f) (yo_qlist f) (yn_qlist f) h
attribute [local go_sem] Pr.q Pr.s Sf.c Tok.r cPt_d cPt_e mPq_d mPq_d' mPq_e mPq_z mSf_d mSf_e mSf_z ned_t nmdC pnOf_f pnOf_t pr_eta ptR rPq_d rPq_d' rPq_e rPq_z tkq_at wkR_self yb_qcond yb_qexpect yb_qfail yb_qlist yb_qname yb_qnamed yb_qneed yb_qopen yb_qstmt yb_qsum yb_qtest yg_qcond yg_qlist yg_qstmt yg_qsum yp_qaccept yp_qahead yp_qclose yp_qexpect yp_qfail yp_qis yp_qisKind yp_qisName yp_qname yp_qnamed yp_qneed yp_qopen yp_qtest yp_qvalue yr_qahead yr_qcond yr_qis yr_qisKind yr_qisName yr_qlist yr_qname yr_qstmt yr_qsum yr_qtest yr_qvalue ys_qnamed yv_qcond yv_qexpect yv_qfail yv_qlist yv_qname yv_qnamed yv_qneed yv_qopen yv_qstmt yv_qsum yv_qtest zSc zTk
set_option maxRecDepth 20000 in set_option maxHeartbeats 16000000 in
theorem y_qlist (f:Nat) (hu:yq_qstmt f):yq_qlist f:=by
 rintro ⟨p,_u⟩ w M I lab fz xs hc hA hl hx
 refine calls_toMP Tryz.func52 rfl _ w M I lab fz (yb_qlist f p) (yv_qlist f p) [yp_qaccept,yp_qclose,(yg_qstmt f hu)] [] ((ya_qlist).args 0 ⟨p,_u⟩) (yr_qlist f p) xs hA hl hx (fun v hv k hk=>Nat.lt_of_lt_of_eq ((ya_qlist).an 0 ⟨p,_u⟩ v hv k hk).2 (Nat.zero_add _)) (Nat.le_of_ble_eq_true rfl) (yn_qlist f ⟨p,_u⟩ hc _ (List.mem_singleton.2 rfl)) ?_
 clear hx hl hA xs
 simp only[Tryz.f52]
 obtain⟨hq,hd,hN⟩:=hc
 dsimp only at hq hd hN
 have s1:sgT [125]=true:=rfl
 obtain⟨f',rfl⟩:∃f',f=f'+1:=by
  cases f with
  |zero=>
   have h3:p.deep≤40:=hq.ok.2.2.2.2.1
   have h4:41≤p.deep+((0:Nat):Int):=hd
   exact absurd h4 (by simp;omega)
  |succ f=>exact⟨f,rfl⟩
 simp only[↓eB,seval,go_sem,adv_fold,↓arO_names,↓arO_stor,↓arO_noVw,↓arO_ldc,nxt_fold]
 refine loop_ok (Y:=Nat×List Sm×Pr) (fun y=>okQ y.2.2∧dpU (f'+1) y.2.2∧okN y.2.2∧(y.2.2.l.length:Int)+1≤y.2.2.i+(y.1:Int)∧(y.2.1.length:Int)≤y.2.2.i∧stmtsL (stmF (f'+1)) y.1 y.2.1 y.2.2=stmtsW (stmF (f'+1)) p)
  (fun y=>⟨[(0,true,.one (.p 0 0 0)),(3,true,.one (.s 1000))],[(0,.vec 0 zPq [y.2.2.q]),(1000,.vec 0 zSc (y.2.1.map Sm.c))]⟩)
  (fun y=>y.1) (p.l.length+1,[],p) ⟨hq,hd,hN,by have:=hq.hn;simp only;omega,by simpa using hq.hn,rfl⟩ ?_ ?_
 ·refine to_with [.nil 3 1000 zSc] ?_;simp only[↓eB,seval,go_sem,Pr.x,arS,smS,↓arO_names,↓arO_stor,↓arO_noVw,↓arO_ldc]
 ·rintro ⟨k,l,q⟩ ⟨h1,h2,h3,h4,h5,h6⟩
  refine vc_ok [yp_qaccept,yp_qclose,yg_qstmt (f'+1) hu] [] _ _ _ ?_
  dsimp only at h1 h2 h3 h4 h5 h6
  obtain⟨k',rfl⟩:∃k',k=k'+1:=⟨k-1,by have:=h1.ok.2.1;omega⟩
  have hs:=stm_nx (f'+1) q h1.ok
  have hle:l.length≤4096:=by have:=h1.ok.2.1;have:=h1.ok.2.2.1;omega
  have he0:=h1.e'
  simp only[stmtsL,he0,if_true]at h6
  cases it:isT [125] q with
  |true=>
   rw[if_pos it]at h6
   have tt:=takP_t it
   have ha:=isT_okQ h1 it
   have hr1:(stmtsW (stmF (f'+1)) p).1=l:=by rw[← h6]
   have hr2:(stmtsW (stmF (f'+1)) p).2=adv q:=by rw[← h6]
   obtain⟨g1,g2⟩:=go_w (show ((shut (adv q)).e==0)=true from ha.e')
   simp only[↓eB,seval,go_sem,adv_fold,↓arO_names,↓arO_stor,↓arO_noVw,↓arO_ldc,nxt_fold,it,tt,hr2,g1,g2]
   try simp only[impB,impN]
   repeat' first|exact ck|with_reducible apply And.intro|intro _
   all_goals first|exact h1|exact s1|exact ha|(rename_i h;first|exact oI h|exact nah h)|(rename_i _ h _ g;exact sL h g)|decide|omega|(refine ret_with [.fz 1000] ?_;simp only[↓eB,seval,go_sem,bne,e_RESMP,hr1,hr2,g1,g2,Pr.x,arS,smS,↓arO_names,↓arO_stor,↓arO_noVw,↓arO_ldc,zSm,rowsS.ds,rowsS.fz])
  |false=>
   rw[if_neg (by rw[it];decide)]at h6
   have tf:=takP_f it
   cases e1:((stmF (f'+1) q).2.e==0) with
   |false=>
    have k1:Ps (stmF (f'+1) q).2 (shut (stmtsW (stmF (f'+1)) p).2):=by
     rw[← h6]
     cases ib:decide ((q.l.length:Int)≤q.i) with
     |true=>
      rw[if_pos rfl]
      have h7:=stm_kno (f:=f') h1 (stm_end h1 ib)
      have hf:(failP 51 q).e≠0:=failP_ne (by decide) q
      obtain⟨a,b⟩:=h7 hf
      exact fun _=>⟨a.symm,b.symm⟩
     |false=>
      rw[if_neg (by decide)]
      exact(stmtsL_nx (stm_nx (f'+1)) k' _ _ hs.ok).ps.shut
    obtain⟨o1,o2,g1,g2⟩:=ps_w k1 e1
    simp only[↓eB,seval,go_sem,adv_fold,↓arO_names,↓arO_stor,↓arO_noVw,↓arO_ldc,nxt_fold,it,tf,o1,o2,g1,g2,Sm.c,rowsS.fn]
    try simp only[impB,impN]
    repeat' first|exact ck|with_reducible apply And.intro|intro _
    all_goals first|exact h1|exact s1|exact h2|exact h3|(rename_i h;first|exact oI h|exact nah h)|(rename_i _ h _ g;exact sL h g)|decide|omega|(refine ret_with [] ?_;simp only[↓eB,seval,go_sem,bne,e_RESMP,o1,o2,g1,g2])
   |true=>
    cases ib:decide ((q.l.length:Int)≤q.i) with
    |true=>
     have h7:=stm_kno (f:=f') h1 (stm_end h1 ib)
     have hf:(failP 51 q).e≠0:=failP_ne (by decide) q
     obtain⟨a,b⟩:=h7 hf
     have e2:(stmF (f'+1) q).2.e=0:=by simpa using e1
     rw[e2]at a
     exact absurd a.symm hf
    |false=>
     rw[if_neg (by rw[ib];decide)]at h6
     have hq1:=h1.nx hs e1
     have e2:(stmF (f'+1) q).2.e=0:=by simpa using e1
     have hN1:=stm_okN (f'+1) q h1.ok h2 h3 e2
     obtain⟨g1,g2⟩:=go_w e1
     simp only[↓eB,seval,go_sem,adv_fold,↓arO_names,↓arO_stor,↓arO_noVw,↓arO_ldc,nxt_fold,it,tf,g1,g2,Sm.c,rowsS.fn]
     try simp only[impB,impN]
     repeat' first|exact ck|with_reducible apply And.intro|intro _
     all_goals try first|exact h1|exact s1|exact h2|exact h3|(rename_i h;first|exact oI h|exact nah h)|(rename_i _ h _ g;exact sL h g)|decide|omega
     refine⟨(k',l++[(stmF (f'+1) q).1],(stmF (f'+1) q).2),⟨hq1,dp_nx hs h2,hN1,?_,?_,h6⟩,Nat.lt_succ_self _,
      to_trans (t:=⟨[(0,true,.one (.p 0 0 0)),(3,true,.one (.s 11))],[(0,.vec 0 zPq [(stmF (f'+1) q).2.q]),(11,.vec 0 zSc ((l++[(stmF (f'+1) q).1]).map Sm.c))]⟩) (to_with [] ?_) (to_with [.mv 11 1000] ?_)⟩
     ·have e:=stm_pr f' h1.ok e2;dsimp only;rw[hs.l];omega
     ·have e:=stm_pr f' h1.ok e2;simp only[List.length_append,List.length_cons,List.length_nil];omega
     ·simp only[↓eB,seval,go_sem,Pr.x,arS,smS,↓arO_names,↓arO_stor,↓arO_noVw,↓arO_ldc,rowsS.fn,List.flatMap_append,List.map_append,Sm.c]
     ·simp only[↓eB,seval,go_sem,Pr.x,arS,smS,↓arO_names,↓arO_stor,↓arO_noVw,↓arO_ldc,rowsS.fn,rowsS.mv]
abbrev yc_qblock (f:Nat) (p:Pr):Prop:=okQ p∧dpU (f+1) p∧okN p
abbrev yb_qblock (f:Nat) (p:Pr):Bool:=(blkW (stmF f) p).2.b
abbrev yr_qblock (f:Nat) (p:Pr):SV:=.one (smS (blkW (stmF f) p).1)
abbrev yv_qblock (f:Nat) (p:Pr):MV:=(blkW (stmF f) p).2.w
noncomputable abbrev ya_qblock:ArgM ((Pr)×Unit):=(amP (mPq) am0)
abbrev yq_qblock (f:Nat):Prop:=CallsMP Tryz.prog 82 ((ya_qblock).args 0) (ya_qblock).mem (fun p:(Pr)×Unit=>yc_qblock f p.1) (fun p:(Pr)×Unit=>yb_qblock f p.1) (fun p:(Pr)×Unit=>yr_qblock f p.1) (fun p:(Pr)×Unit=>[some (yv_qblock f p.1)])
theorem yl_qblock (f:Nat):∀p,(fun p:(Pr)×Unit=>yc_qblock f p.1) p→((fun p:(Pr)×Unit=>[some (yv_qblock f p.1)]) p).length=((ya_qblock).mem p).length:=by intro p _;rfl
theorem yo_qblock (f:Nat):∀p,(fun p:(Pr)×Unit=>yc_qblock f p.1) p→outV ((fun p:(Pr)×Unit=>[some (yv_qblock f p.1)]) p).length ((fun p:(Pr)×Unit=>yr_qblock f p.1) p)=true:=by intro p _;first|rfl|exact ex_out _ _|exact cd_out _ _|(simp[outV,outC,ex_out,cd_out];done)
theorem yn_qblock (f:Nat):∀p,(fun p:(Pr)×Unit=>yc_qblock f p.1) p→∀q,some q∈(fun p:(Pr)×Unit=>[some (yv_qblock f p.1)]) p→∀r∈q.2,∀c∈r,c.names=[]:=by intro p _;exact memw_nm _
noncomputable def yg_qblock {X:Ctx} {w0:World} (f:Nat) (h:yq_qblock f):Sy.Spec Tryz.prog X w0:=specMP 82 Tryz.call82 (ya_qblock) (fun p:(Pr)×Unit=>yc_qblock f p.1) (fun p:(Pr)×Unit=>yb_qblock f p.1) (fun p:(Pr)×Unit=>yr_qblock f p.1) (fun p:(Pr)×Unit=>[some (yv_qblock f p.1)]) (yl_qblock f) (yo_qblock f) (yn_qblock f) h
set_option maxRecDepth 20000 in set_option maxHeartbeats 8000000 in
theorem y_qblock (f:Nat) (hu:yq_qstmt f):yq_qblock f:=by
 rintro ⟨p,_u⟩ w M I lab fz xs hc hA hl hx
 refine calls_toMP Tryz.func82 rfl _ w M I lab fz (yb_qblock f p) (yv_qblock f p) [yp_qis,yp_qneed,yp_qopen,(yg_qlist f (y_qlist f hu))] [] ((ya_qblock).args 0 ⟨p,_u⟩) (yr_qblock f p) xs hA hl hx (fun v hv k hk=>Nat.lt_of_lt_of_eq ((ya_qblock).an 0 ⟨p,_u⟩ v hv k hk).2 (Nat.zero_add _)) (Nat.le_of_ble_eq_true rfl) (yn_qblock f ⟨p,_u⟩ hc _ (List.mem_singleton.2 rfl)) ?_
 clear hx hl hA xs
 simp only[Tryz.f82]
 obtain⟨hq,hd,hN⟩:=hc
 dsimp only at hq hd hN
 have s1:sgT [123]=true:=rfl
 cases i0:isT [123] p with
 |false=>
  have hr:blkW (stmF f) p=([],failP 51 p):=by simp[blkW,i0]
  obtain⟨f1,f2⟩:=failP_w (c:=51) hq (by decide)
  simp only[↓eB,seval,go_sem,adv_fold,↓arO_names,↓arO_stor,↓arO_noVw,↓arO_ldc,nxt_fold,yb_qblock,yv_qblock,i0,ned_f,hr,f1,f2]
  try simp only[impB,impN]
  repeat' first|exact ck|with_reducible apply And.intro|intro _
  all_goals first|exact hq|exact s1|(rename_i h;first|exact oI h|exact nah h)|(rename_i _ h _ g;exact sL h g)|decide|omega|(refine ret_with [] ?_;simp only[↓eB,seval,go_sem,bne,yr_qblock,yb_qblock,yv_qblock,e_RESMP,hr,f1,f2])
 |true=>
 have hi:=(isT_e i0).2
 obtain⟨a1,a2⟩:=go_w hq.e'
 cases ob:opnB p with
 |false=>
  have hr:blkW (stmF f) p=([],opP p):=by simp[blkW,i0,ob,opP_f ob]
  obtain⟨o1,o2,g1,g2⟩:=ps_w (Ps.refl (opP p)) (opn_ps hq ob)
  simp only[↓eB,seval,go_sem,adv_fold,↓arO_names,↓arO_stor,↓arO_noVw,↓arO_ldc,nxt_fold,yb_qblock,yv_qblock,i0,a1,a2,hr,o1,o2]
  try simp only[impB,impN]
  repeat' first|exact ck|with_reducible apply And.intro|intro _
  all_goals first|exact hq|exact s1|exact hi|(rename_i h;first|exact oI h|exact nah h)|(rename_i _ h _ g;exact sL h g)|decide|omega|(refine ret_with [] ?_;simp only[↓eB,seval,go_sem,bne,yr_qblock,yb_qblock,yv_qblock,e_RESMP,hr,o1,o2])
 |true=>
  have hr:blkW (stmF f) p=((stmtsW (stmF f) (opP p)).1,shut (stmtsW (stmF f) (opP p)).2):=by simp[blkW,i0,ob,opP_t ob]
  have hq1:=opP_okQ hq hi ob
  have hd1:dpU f (opP p):=by rw[opP_t ob];exact opn_dp hq.ok ob hd
  have hN1:okN (opP p):=hN.of (by rw[opP_t ob];exact opn_n p)
  obtain⟨b1,b2⟩:=go_w hq1.e'
  cases e1:((shut (stmtsW (stmF f) (opP p)).2).e==0) with
  |false=>
   obtain⟨o1,o2,g1,g2⟩:=ps_w (Ps.refl (shut (stmtsW (stmF f) (opP p)).2)) e1
   simp only[↓eB,seval,go_sem,adv_fold,↓arO_names,↓arO_stor,↓arO_noVw,↓arO_ldc,nxt_fold,yb_qblock,yv_qblock,i0,a1,a2,b1,b2,hr,o1,o2]
   try simp only[impB,impN]
   repeat' first|exact ck|with_reducible apply And.intro|intro _
   all_goals first|exact hq|exact s1|exact hi|exact hq1|exact hd1|exact hN1|(rename_i h;first|exact oI h|exact nah h)|(rename_i _ h _ g;exact sL h g)|decide|omega|(refine ret_with [] ?_;simp only[↓eB,seval,go_sem,bne,yr_qblock,yb_qblock,yv_qblock,e_RESMP,hr,o1,o2])
  |true=>
   obtain⟨g1,g2⟩:=go_w e1
   simp only[↓eB,seval,go_sem,adv_fold,↓arO_names,↓arO_stor,↓arO_noVw,↓arO_ldc,nxt_fold,yb_qblock,yv_qblock,i0,a1,a2,b1,b2,hr,g1,g2]
   try simp only[impB,impN]
   repeat' first|exact ck|with_reducible apply And.intro|intro _
   all_goals first|exact hq|exact s1|exact hi|exact hq1|exact hd1|exact hN1|(rename_i h;first|exact oI h|exact nah h)|(rename_i _ h _ g;exact sL h g)|decide|omega|(refine ret_with [] ?_;simp only[↓eB,seval,go_sem,bne,yr_qblock,yb_qblock,yv_qblock,e_RESMP,hr,g1,g2,Pr.x,arS,smS,↓arO_names,↓arO_stor,↓arO_noVw,↓arO_ldc])
abbrev yc_qbegins (p:Pr):Prop:=okQ p
abbrev yr_qbegins (p:Pr):Value:=Value.bool (knoB p)
theorem y_qbegins:CallsR Tryz.prog 80 (ahS (cPt rPq) ah0) (fun p:(Pr×Unit)=>yc_qbegins p.1) (fun p:(Pr×Unit)=>ofV (yr_qbegins p.1)):=by
 rintro ⟨p,_u⟩ w fz xs hc hfz hl hx
 refine calls_toRL Tryz.func80 rfl w fz [yp_qahead,yp_qisName] [] (ahS (cPt rPq) ah0) (fun p:(Pr×Unit)=>ofV (yr_qbegins p.1)) _ xs hfz hl hx (Nat.le_of_ble_eq_true rfl) ?_
 clear hx hl hfz xs
 simp only[Tryz.f80]
 have hI:=hc.i;have e1:=kno_q hc
 all_goals simp only[↓eB,seval,go_sem]
 try simp only[impB,impN]
 repeat' first|exact ck|with_reducible apply And.intro|intro _
 all_goals try simp only[bne,Bool.not_eq_true',Bool.not_eq_false',Bool.not_not] at*
 all_goals first
  |(exact hI;done)
  |(refine ret_with [] ?_;simp only[↓eB,seval,go_sem,bne,yr_qbegins,e1];first|done|(simp only[*,if_true,if_false,Bool.false_eq_true,Bool.true_or,Bool.or_true,Bool.false_or,Bool.or_false,Bool.and_false,Bool.false_and,Bool.true_and,Bool.and_true,Bool.not_true,Bool.not_false,Bool.or_self,Bool.and_self,Int.reduceEq,Int.reduceNeg,Nat.reduceEqDiff,reduceCtorEq,dec_T,dec_F,leC_same,leC_nil,and_self,↓reduceIte];done)|(simp_all [e1];done))
  |omega
  |(simp only[decide_eq_true_eq,decide_eq_false_iff_not]at *;omega)
  |(simp_all [e1];done)
  |(simp_all [e1];omega)
  |trace_state
theorem yh_qbegins:∀p:(Pr×Unit),okV ((fun p:(Pr×Unit)=>yr_qbegins p.1) p)=true:=by intro p;rfl
noncomputable def yp_qbegins {X:Ctx} {w0:World}:Sy.Spec Tryz.prog X w0:=specR 80 Tryz.call80 (ahS (cPt rPq) ah0) (fun p:(Pr×Unit)=>yc_qbegins p.1) (fun p:(Pr×Unit)=>yr_qbegins p.1) yh_qbegins y_qbegins
set_option maxRecDepth 20000 in set_option maxHeartbeats 32000000 in
theorem y_qstmtS (f:Nat) (hu:yq_qstmt f):yq_qstmt (f+1):=by
 rintro ⟨p,_u⟩ w M I lab fz xs hc hA hl hx
 refine calls_toMP Tryz.func63 rfl _ w M I lab fz (yb_qstmt (f+1) p) (yv_qstmt (f+1) p) [yp_qbegins,yp_qneed,yp_qfail,yp_qaccept,yp_qexpect,yp_qname,yp_qtest,yp_qnamed,sqSum,(yg_qblock f (y_qblock f hu))] [] ((ya_qstmt).args 0 ⟨p,_u⟩) (yr_qstmt (f+1) p) xs hA hl hx (fun v hv k hk=>Nat.lt_of_lt_of_eq ((ya_qstmt).an 0 ⟨p,_u⟩ v hv k hk).2 (Nat.zero_add _)) (Nat.le_of_ble_eq_true rfl) (yn_qstmt (f+1) ⟨p,_u⟩ hc _ (List.mem_singleton.2 rfl)) ?_
 clear hx hl hA xs
 simp only[Tryz.f63]
 obtain⟨hq,hd,hN⟩:=hc
 dsimp only at hq hd hN
 cases hk:knoB p with
 |false=>
  have k0:=stm_kno (f:=f) hq hk
  have hf:((failP 51 p).e==0)=false:=by simpa using failP_ne (c:=51) (by decide) p
  obtain⟨o1,o2,g1,g2⟩:=ps_w k0 hf
  simp only[↓eB,seval,go_sem,yg_qblock,yr_qblock,yb_qblock,yv_qblock,yp_qbegins,yr_qbegins,adv_fold,↓arO_names,↓arO_stor,↓arO_noVw,↓arO_ldc,nxt_fold,hk,ned_f,o1,o2,g1,g2]
  try simp only[impB,impN]
  repeat' first|exact ck|with_reducible apply And.intro|intro _
  all_goals first|exact hq|(rename_i h;first|exact oI h|exact nah h)|(rename_i _ h _ g;exact sL h g)|decide|omega|(refine ret_with [] ?_;simp only[↓eB,seval,go_sem,bne,e_RESMP,o1,o2,g1,g2])
 |true=>
 obtain⟨a1,a2⟩:=go_w hq.e'
 obtain⟨hn0,hn2⟩:=hN
 cases hm:(p.n==200) with
 |true=>
  have hm':decide (200≤p.n)=true:=by simp at hm ⊢;omega
  have hr:stmF (f+1) p=(sm0 p.n,failP 53 p):=by simp only[stmF];rw[hk,hm'];rfl
  obtain⟨f1,f2⟩:=failP_w (c:=53) hq (by decide)
  simp only[↓eB,seval,go_sem,yg_qblock,yr_qblock,yb_qblock,yv_qblock,yp_qbegins,yr_qbegins,adv_fold,↓arO_names,↓arO_stor,↓arO_noVw,↓arO_ldc,nxt_fold,hk,a1,a2,hm,hr,f1,f2]
  try simp only[impB,impN]
  repeat' first|exact ck|with_reducible apply And.intro|intro _
  all_goals first|exact hq|(rename_i h;first|exact oI h|exact nah h)|(rename_i _ h _ g;exact sL h g)|decide|omega|(refine ret_with [] ?_;simp only[↓eB,seval,go_sem,bne,e_RESMP,hr,f1,f2])
 |false=>
 have hm':decide (200≤p.n)=false:=by simp at hm ⊢;omega
 have hr0:stmF (f+1) p=stmB (stmF f) p.n (nxt p):=by simp only[stmF];rw[hk,hm'];rfl
 have hx:=nxt_nx hq.ok
 have hq1:okQ (nxt p):=hq.nx hx (show ((nxt p).e==0)=true from hq.e')
 have hd1:=dp_nx hx hd
 have hnn:(nxt p).n=p.n+1:=by show w64i (p.n+1)=_;unfold w64i;rw[wrap_i64 (by omega) (by omega)]
 have h9:¬p.n=200:=by simpa using hm
 have hN1:okN (nxt p):=by unfold okN;rw[hnn];omega
 have sif:sgT tIf=true:=rfl
 have swh:sgT tWhi=true:=rfl
 have sas:sgT tAss=true:=rfl
 have sre:sgT tRet=true:=rfl
 have sel:sgT tElse=true:=rfl
 have s42:sgT [42]=true:=rfl
 have s59:sgT [59]=true:=rfl
 have s61:sgT [61]=true:=rfl
 cases i1:isT tIf (nxt p) with
 |true=>
  have t1:=takP_t i1
  have x2:=isT_ex i1 (t:=tWhi) rfl
  have x3:=isT_ex i1 (t:=tAss) rfl
  have x4:=isT_ex i1 (t:=tRet) rfl
  have na:=isT_adv hq1.ok i1
  have qa:=isT_okQ hq1 i1
  have m1:=wan_nx (t:=[40]) na.ok
  have m2:=cdS_nx m1.ok
  have m3:=wan_nx (t:=[41]) m2.ok
  have mT:=(m1.trans m2).trans m3
  have hTn:(wanP [41] (cdS (wanP [40] (adv (nxt p)))).2).n=(nxt p).n:=by rw[wan_n,cdS_n,wan_n,adv_n]
  generalize hC:(cdS (wanP [40] (adv (nxt p)))).1=C
  generalize hT:wanP [41] (cdS (wanP [40] (adv (nxt p)))).2=T at mT hTn m3
  have mB:=blkW_nx (stm_nx f) mT.ok
  have hE:stmF (f+1) p=if isT tElse (blkW (stmF f) T).2=true then (.mk 10 [] [] .nil .nil C [] (blkW (stmF f) T).1 (blkW (stmF f) (adv (blkW (stmF f) T).2)).1 p.n,(blkW (stmF f) (adv (blkW (stmF f) T).2)).2) else (.mk 10 [] [] .nil .nil C [] (blkW (stmF f) T).1 [] p.n,(blkW (stmF f) T).2):=by
   rw[hr0];unfold stmB;simp only[x2,x3,x4,i1,Bool.false_eq_true,if_false,if_true,ifB,ifC,hC,hT]
  have kB:Nx (blkW (stmF f) T).2 (stmF (f+1) p).2:=by
   rw[hE];split
   ·rename_i h;exact(isT_adv mB.ok h).trans (blkW_nx (stm_nx f) (isT_adv mB.ok h).ok)
   ·exact .refl mB.ok
  cases e1:(T.e==0) with
  |false=>
   obtain⟨o1,o2,g1,g2⟩:=ps_w (mB.trans kB).ps e1
   simp only[↓eB,seval,go_sem,yg_qblock,yr_qblock,yb_qblock,yv_qblock,yp_qbegins,yr_qbegins,adv_fold,↓arO_names,↓arO_stor,↓arO_noVw,↓arO_ldc,nxt_fold,hk,a1,a2,hm,i1,t1,hC,hT,o1,o2,g1,g2]
   try simp only[impB,impN]
   repeat' first|exact ck|with_reducible apply And.intro|intro _
   all_goals first|(exact rfl)|exact hq|exact hq1|exact sif|exact swh|exact sas|exact sre|exact sel|exact s42|exact s59|exact s61|exact qa|(rename_i h;first|exact oI h|exact nah h)|(rename_i _ h _ g;exact sL h g)|decide|omega|(refine ret_with [] ?_;simp only[↓eB,seval,go_sem,bne,e_RESMP,o1,o2,g1,g2])
  |true=>
  have qT:=qa.nx mT e1
  have dT:=dp_nx (na.trans mT) hd1
  have nT:=hN1.of hTn
  obtain⟨b1,b2⟩:=go_w e1
  cases e2:((blkW (stmF f) T).2.e==0) with
  |false=>
   obtain⟨o1,o2,g1,g2⟩:=ps_w kB.ps e2
   simp only[↓eB,seval,go_sem,yg_qblock,yr_qblock,yb_qblock,yv_qblock,yp_qbegins,yr_qbegins,adv_fold,↓arO_names,↓arO_stor,↓arO_noVw,↓arO_ldc,nxt_fold,hk,a1,a2,hm,i1,t1,hC,hT,b1,b2,o1,o2,g1,g2]
   try simp only[impB,impN]
   repeat' first|exact ck|with_reducible apply And.intro|intro _
   all_goals first|(exact rfl)|exact hq|exact hq1|exact sif|exact swh|exact sas|exact sre|exact sel|exact s42|exact s59|exact s61|exact qa|exact qT|exact dT|exact nT|(rename_i h;first|exact oI h|exact nah h)|(rename_i _ h _ g;exact sL h g)|decide|omega|(refine ret_with [] ?_;simp only[↓eB,seval,go_sem,bne,e_RESMP,o1,o2,g1,g2])
  |true=>
  have qB:=qT.nx mB e2
  have dB:=dp_nx mB dT
  have nB:=blkW_okN (stm_nx f) (stm_okN f) mT.ok dT nT (by simpa using e2)
  obtain⟨c1,c2⟩:=go_w e2
  cases i7:isT tElse (blkW (stmF f) T).2 with
  |true=>
   have t7:=takP_t i7
   have qD:=isT_okQ qB i7
   have dD:=dp_nx (isT_adv qB.ok i7) dB
   have nD:okN (adv (blkW (stmF f) T).2):=nB
   rw[i7,if_pos rfl]at hE
   cases e3:((blkW (stmF f) (adv (blkW (stmF f) T).2)).2.e==0) with
   |false=>
    obtain⟨o1,o2,g1,g2⟩:=ps_w (Ps.refl (blkW (stmF f) (adv (blkW (stmF f) T).2)).2) e3
    simp only[↓eB,seval,go_sem,yg_qblock,yr_qblock,yb_qblock,yv_qblock,yp_qbegins,yr_qbegins,adv_fold,↓arO_names,↓arO_stor,↓arO_noVw,↓arO_ldc,nxt_fold,hk,a1,a2,hm,i1,t1,hC,hT,b1,b2,c1,c2,i7,t7,hE,o1,o2]
    try simp only[impB,impN]
    repeat' first|exact ck|with_reducible apply And.intro|intro _
    all_goals first|(exact rfl)|exact hq|exact hq1|exact sif|exact swh|exact sas|exact sre|exact sel|exact s42|exact s59|exact s61|exact qa|exact qT|exact dT|exact nT|exact qB|exact qD|exact dD|exact nD|(rename_i h;first|exact oI h|exact nah h)|(rename_i _ h _ g;exact sL h g)|decide|omega|(refine ret_with [] ?_;simp only[↓eB,seval,go_sem,bne,e_RESMP,hE,o1,o2])
   |true=>
    obtain⟨g1,g2⟩:=go_w e3
    simp only[↓eB,seval,go_sem,yg_qblock,yr_qblock,yb_qblock,yv_qblock,yp_qbegins,yr_qbegins,adv_fold,↓arO_names,↓arO_stor,↓arO_noVw,↓arO_ldc,nxt_fold,hk,a1,a2,hm,i1,t1,hC,hT,b1,b2,c1,c2,i7,t7,hE,g1,g2]
    try simp only[impB,impN]
    repeat' first|exact ck|with_reducible apply And.intro|intro _
    all_goals first|(exact rfl)|exact hq|exact hq1|exact sif|exact swh|exact sas|exact sre|exact sel|exact s42|exact s59|exact s61|exact qa|exact qT|exact dT|exact nT|exact qB|exact qD|exact dD|exact nD|(rename_i h;first|exact oI h|exact nah h)|(rename_i _ h _ g;exact sL h g)|decide|omega|(refine ret_with [] ?_;simp only[↓eB,seval,go_sem,bne,e_RESMP,hE,g1,g2,Pr.x,arS,smS,↓arO_names,↓arO_stor,↓arO_noVw,↓arO_ldc,Sm.c,Sm.k,Sm.x,Sm.y,Sm.e,Sm.f,Sm.cd,Sm.ar,Sm.th,Sm.el,Sm.no,ex_nil,cd_nil,arO_le])
  |false=>
   have t7:=takP_f i7
   rw[i7,if_neg (by decide)]at hE
   simp only[↓eB,seval,go_sem,yg_qblock,yr_qblock,yb_qblock,yv_qblock,yp_qbegins,yr_qbegins,adv_fold,↓arO_names,↓arO_stor,↓arO_noVw,↓arO_ldc,nxt_fold,hk,a1,a2,hm,i1,t1,hC,hT,b1,b2,c1,c2,i7,t7,hE]
   try simp only[impB,impN]
   repeat' first|exact ck|with_reducible apply And.intro|intro _
   all_goals first|(exact rfl)|exact hq|exact hq1|exact sif|exact swh|exact sas|exact sre|exact sel|exact s42|exact s59|exact s61|exact qa|exact qT|exact dT|exact nT|exact qB|(rename_i h;first|exact oI h|exact nah h)|(rename_i _ h _ g;exact sL h g)|decide|omega|(refine ret_with [] ?_;simp only[↓eB,seval,go_sem,bne,e_RESMP,hE,c1,c2,Pr.x,arS,smS,↓arO_names,↓arO_stor,↓arO_noVw,↓arO_ldc,Sm.c,Sm.k,Sm.x,Sm.y,Sm.e,Sm.f,Sm.cd,Sm.ar,Sm.th,Sm.el,Sm.no,ex_nil,cd_nil,arO_le])
 |false=>
 have f1:=takP_f i1
 cases i2:isT tWhi (nxt p) with
 |true=>
  have t2:=takP_t i2
  have x3:=isT_ex i2 (t:=tAss) rfl
  have x4:=isT_ex i2 (t:=tRet) rfl
  have na:=isT_adv hq1.ok i2
  have qa:=isT_okQ hq1 i2
  have m1:=wan_nx (t:=[40]) na.ok
  have m2:=cdS_nx m1.ok
  have m3:=wan_nx (t:=[41]) m2.ok
  have mT:=(m1.trans m2).trans m3
  have hTn:(wanP [41] (cdS (wanP [40] (adv (nxt p)))).2).n=(nxt p).n:=by rw[wan_n,cdS_n,wan_n,adv_n]
  generalize hC:(cdS (wanP [40] (adv (nxt p)))).1=C
  generalize hT:wanP [41] (cdS (wanP [40] (adv (nxt p)))).2=T at mT hTn m3
  have mB:=blkW_nx (stm_nx f) mT.ok
  have hE:stmF (f+1) p=(.mk 11 [] [] .nil .nil C [] (blkW (stmF f) T).1 [] p.n,(blkW (stmF f) T).2):=by
   rw[hr0];unfold stmB;simp only[i2,x3,x4,i1,Bool.false_eq_true,if_false,if_true,ifB,ifC,hC,hT]
  cases e1:(T.e==0) with
  |false=>
   obtain⟨o1,o2,g1,g2⟩:=ps_w mB.ps e1
   simp only[↓eB,seval,go_sem,yg_qblock,yr_qblock,yb_qblock,yv_qblock,yp_qbegins,yr_qbegins,adv_fold,↓arO_names,↓arO_stor,↓arO_noVw,↓arO_ldc,nxt_fold,hk,a1,a2,hm,i1,f1,i2,t2,hC,hT,hE,o1,o2,g1,g2]
   try simp only[impB,impN]
   repeat' first|exact ck|with_reducible apply And.intro|intro _
   all_goals first|(exact rfl)|exact hq|exact hq1|exact sif|exact swh|exact sas|exact sre|exact sel|exact s42|exact s59|exact s61|exact qa|(rename_i h;first|exact oI h|exact nah h)|(rename_i _ h _ g;exact sL h g)|decide|omega|(refine ret_with [] ?_;simp only[↓eB,seval,go_sem,bne,e_RESMP,hE,o1,o2,g1,g2])
  |true=>
  have qT:=qa.nx mT e1
  have dT:=dp_nx (na.trans mT) hd1
  have nT:=hN1.of hTn
  obtain⟨b1,b2⟩:=go_w e1
  cases e2:((blkW (stmF f) T).2.e==0) with
  |false=>
   obtain⟨o1,o2,g1,g2⟩:=ps_w (Ps.refl (blkW (stmF f) T).2) e2
   simp only[↓eB,seval,go_sem,yg_qblock,yr_qblock,yb_qblock,yv_qblock,yp_qbegins,yr_qbegins,adv_fold,↓arO_names,↓arO_stor,↓arO_noVw,↓arO_ldc,nxt_fold,hk,a1,a2,hm,i1,f1,i2,t2,hC,hT,hE,b1,b2,o1,o2]
   try simp only[impB,impN]
   repeat' first|exact ck|with_reducible apply And.intro|intro _
   all_goals first|(exact rfl)|exact hq|exact hq1|exact sif|exact swh|exact sas|exact sre|exact sel|exact s42|exact s59|exact s61|exact qa|exact qT|exact dT|exact nT|(rename_i h;first|exact oI h|exact nah h)|(rename_i _ h _ g;exact sL h g)|decide|omega|(refine ret_with [] ?_;simp only[↓eB,seval,go_sem,bne,e_RESMP,hE,o1,o2])
  |true=>
   obtain⟨c1,c2⟩:=go_w e2
   simp only[↓eB,seval,go_sem,yg_qblock,yr_qblock,yb_qblock,yv_qblock,yp_qbegins,yr_qbegins,adv_fold,↓arO_names,↓arO_stor,↓arO_noVw,↓arO_ldc,nxt_fold,hk,a1,a2,hm,i1,f1,i2,t2,hC,hT,hE,b1,b2,c1,c2]
   try simp only[impB,impN]
   repeat' first|exact ck|with_reducible apply And.intro|intro _
   all_goals first|(exact rfl)|exact hq|exact hq1|exact sif|exact swh|exact sas|exact sre|exact sel|exact s42|exact s59|exact s61|exact qa|exact qT|exact dT|exact nT|(rename_i h;first|exact oI h|exact nah h)|(rename_i _ h _ g;exact sL h g)|decide|omega|(refine ret_with [] ?_;simp only[↓eB,seval,go_sem,bne,e_RESMP,hE,c1,c2,Pr.x,arS,smS,↓arO_names,↓arO_stor,↓arO_noVw,↓arO_ldc,Sm.c,Sm.k,Sm.x,Sm.y,Sm.e,Sm.f,Sm.cd,Sm.ar,Sm.th,Sm.el,Sm.no,ex_nil,cd_nil,arO_le])
 |false=>
 have f2:=takP_f i2
 cases i3:isT tAss (nxt p) with
 |true=>
  have t3:=takP_t i3
  have x4:=isT_ex i3 (t:=tRet) rfl
  have na:=isT_adv hq1.ok i3
  have qa:=isT_okQ hq1 i3
  have m1:=wan_nx (t:=[40]) na.ok
  have m2:=cdS_nx m1.ok
  have m3:=wan_nx (t:=[41]) m2.ok
  have mT:=(m1.trans m2).trans m3
  have hTn:(wanP [41] (cdS (wanP [40] (adv (nxt p)))).2).n=(nxt p).n:=by rw[wan_n,cdS_n,wan_n,adv_n]
  generalize hC:(cdS (wanP [40] (adv (nxt p)))).1=C
  generalize hT:wanP [41] (cdS (wanP [40] (adv (nxt p)))).2=T at mT hTn m3
  have mF:=wan_nx (t:=[59]) mT.ok
  have hE:stmF (f+1) p=(.mk 12 [] [] .nil .nil C [] [] [] p.n,wanP [59] T):=by
   rw[hr0];unfold stmB;simp only[x4,i3,Bool.false_eq_true,if_false,if_true,ifC,hC,hT]
  cases e1:(T.e==0) with
  |false=>
   obtain⟨o1,o2,g1,g2⟩:=ps_w mF.ps e1
   simp only[↓eB,seval,go_sem,yg_qblock,yr_qblock,yb_qblock,yv_qblock,yp_qbegins,yr_qbegins,adv_fold,↓arO_names,↓arO_stor,↓arO_noVw,↓arO_ldc,nxt_fold,hk,a1,a2,hm,i1,f1,i2,f2,i3,t3,hC,hT,hE,o1,o2,g1,g2]
   try simp only[impB,impN]
   repeat' first|exact ck|with_reducible apply And.intro|intro _
   all_goals first|(exact rfl)|exact hq|exact hq1|exact sif|exact swh|exact sas|exact sre|exact sel|exact s42|exact s59|exact s61|exact qa|(rename_i h;first|exact oI h|exact nah h)|(rename_i _ h _ g;exact sL h g)|decide|omega|(refine ret_with [] ?_;simp only[↓eB,seval,go_sem,bne,e_RESMP,hE,o1,o2,g1,g2])
  |true=>
  have qT:=qa.nx mT e1
  obtain⟨b1,b2⟩:=go_w e1
  cases e2:((wanP [59] T).e==0) with
  |false=>
   obtain⟨o1,o2,g1,g2⟩:=ps_w (Ps.refl (wanP [59] T)) e2
   simp only[↓eB,seval,go_sem,yg_qblock,yr_qblock,yb_qblock,yv_qblock,yp_qbegins,yr_qbegins,adv_fold,↓arO_names,↓arO_stor,↓arO_noVw,↓arO_ldc,nxt_fold,hk,a1,a2,hm,i1,f1,i2,f2,i3,t3,hC,hT,hE,b1,b2,o1,o2]
   try simp only[impB,impN]
   repeat' first|exact ck|with_reducible apply And.intro|intro _
   all_goals first|(exact rfl)|exact hq|exact hq1|exact sif|exact swh|exact sas|exact sre|exact sel|exact s42|exact s59|exact s61|exact qa|exact qT|(rename_i h;first|exact oI h|exact nah h)|(rename_i _ h _ g;exact sL h g)|decide|omega|(refine ret_with [] ?_;simp only[↓eB,seval,go_sem,bne,e_RESMP,hE,o1,o2])
  |true=>
   obtain⟨c1,c2⟩:=go_w e2
   simp only[↓eB,seval,go_sem,yg_qblock,yr_qblock,yb_qblock,yv_qblock,yp_qbegins,yr_qbegins,adv_fold,↓arO_names,↓arO_stor,↓arO_noVw,↓arO_ldc,nxt_fold,hk,a1,a2,hm,i1,f1,i2,f2,i3,t3,hC,hT,hE,b1,b2,c1,c2]
   try simp only[impB,impN]
   repeat' first|exact ck|with_reducible apply And.intro|intro _
   all_goals first|(exact rfl)|exact hq|exact hq1|exact sif|exact swh|exact sas|exact sre|exact sel|exact s42|exact s59|exact s61|exact qa|exact qT|(rename_i h;first|exact oI h|exact nah h)|(rename_i _ h _ g;exact sL h g)|decide|omega|(refine ret_with [] ?_;simp only[↓eB,seval,go_sem,bne,e_RESMP,hE,c1,c2,Pr.x,arS,smS,↓arO_names,↓arO_stor,↓arO_noVw,↓arO_ldc,Sm.c,Sm.k,Sm.x,Sm.y,Sm.e,Sm.f,Sm.cd,Sm.ar,Sm.th,Sm.el,Sm.no,ex_nil,cd_nil,arO_le])
 |false=>
 have f3:=takP_f i3
 cases i4:isT tRet (nxt p) with
 |true=>
  have t4:=takP_t i4
  have na:=isT_adv hq1.ok i4
  have qa:=isT_okQ hq1 i4
  have da:=dp41 qa.ok
  have m1:=exS_nx qa.ok
  have m2:=wan_nx (t:=[59]) m1.ok
  have hE:stmF (f+1) p=(.mk 9 [] [] (exS (adv (nxt p))).1 .nil .nil [] [] [] p.n,wanP [59] (exS (adv (nxt p))).2):=by
   rw[hr0];unfold stmB;simp only[i4,if_true]
  cases e1:((exS (adv (nxt p))).2.e==0) with
  |false=>
   obtain⟨o1,o2,g1,g2⟩:=ps_w m2.ps e1
   simp only[↓eB,seval,go_sem,yg_qblock,yr_qblock,yb_qblock,yv_qblock,yp_qbegins,yr_qbegins,adv_fold,↓arO_names,↓arO_stor,↓arO_noVw,↓arO_ldc,nxt_fold,hk,a1,a2,hm,i1,f1,i2,f2,i3,f3,i4,t4,hE,o1,o2,g1,g2]
   try simp only[impB,impN]
   repeat' first|exact ck|with_reducible apply And.intro|intro _
   all_goals first|(exact rfl)|exact hq|exact hq1|exact sif|exact swh|exact sas|exact sre|exact sel|exact s42|exact s59|exact s61|exact qa|exact da|(rename_i h;first|exact oI h|exact nah h)|(rename_i _ h _ g;exact sL h g)|decide|omega|(refine ret_with [] ?_;simp only[↓eB,seval,go_sem,bne,e_RESMP,hE,o1,o2,g1,g2])
  |true=>
  have qT:=qa.nx m1 e1
  obtain⟨b1,b2⟩:=go_w e1
  cases e2:((wanP [59] (exS (adv (nxt p))).2).e==0) with
  |false=>
   obtain⟨o1,o2,g1,g2⟩:=ps_w (Ps.refl (wanP [59] (exS (adv (nxt p))).2)) e2
   simp only[↓eB,seval,go_sem,yg_qblock,yr_qblock,yb_qblock,yv_qblock,yp_qbegins,yr_qbegins,adv_fold,↓arO_names,↓arO_stor,↓arO_noVw,↓arO_ldc,nxt_fold,hk,a1,a2,hm,i1,f1,i2,f2,i3,f3,i4,t4,hE,b1,b2,o1,o2]
   try simp only[impB,impN]
   repeat' first|exact ck|with_reducible apply And.intro|intro _
   all_goals first|(exact rfl)|exact hq|exact hq1|exact sif|exact swh|exact sas|exact sre|exact sel|exact s42|exact s59|exact s61|exact qa|exact da|exact qT|(rename_i h;first|exact oI h|exact nah h)|(rename_i _ h _ g;exact sL h g)|decide|omega|(refine ret_with [] ?_;simp only[↓eB,seval,go_sem,bne,e_RESMP,hE,o1,o2])
  |true=>
   obtain⟨c1,c2⟩:=go_w e2
   simp only[↓eB,seval,go_sem,yg_qblock,yr_qblock,yb_qblock,yv_qblock,yp_qbegins,yr_qbegins,adv_fold,↓arO_names,↓arO_stor,↓arO_noVw,↓arO_ldc,nxt_fold,hk,a1,a2,hm,i1,f1,i2,f2,i3,f3,i4,t4,hE,b1,b2,c1,c2]
   try simp only[impB,impN]
   repeat' first|exact ck|with_reducible apply And.intro|intro _
   all_goals first|(exact rfl)|exact hq|exact hq1|exact sif|exact swh|exact sas|exact sre|exact sel|exact s42|exact s59|exact s61|exact qa|exact da|exact qT|(rename_i h;first|exact oI h|exact nah h)|(rename_i _ h _ g;exact sL h g)|decide|omega|(refine ret_with [] ?_;simp only[↓eB,seval,go_sem,bne,e_RESMP,hE,c1,c2,Pr.x,arS,smS,↓arO_names,↓arO_stor,↓arO_noVw,↓arO_ldc,Sm.c,Sm.k,Sm.x,Sm.y,Sm.e,Sm.f,Sm.cd,Sm.ar,Sm.th,Sm.el,Sm.no,ex_nil,cd_nil,arO_le])
 |false=>
 have f4:=takP_f i4
 cases i5:isT [42] (nxt p) with
 |true=>
  have t5:=takP_t i5
  have na:=isT_adv hq1.ok i5
  have qa:=isT_okQ hq1 i5
  have m1:=nam_nx qa.ok
  have m2:=wan_nx (t:=[61]) m1.ok
  have m3:=exS_nx m2.ok
  have m4:=wan_nx (t:=[59]) m3.ok
  have hE:stmF (f+1) p=(.mk 5 (namS (adv (nxt p))) [] (exS (wanP [61] (namP (adv (nxt p))))).1 .nil .nil [] [] [] p.n,wanP [59] (exS (wanP [61] (namP (adv (nxt p))))).2):=by
   rw[hr0];unfold stmB;simp only[i1,i2,i3,i4,i5,Bool.false_eq_true,if_false,if_true]
  generalize hX:namP (adv (nxt p))=X1 at hE m1 m2 m3 m4
  cases e1:(X1.e==0) with
  |false=>
   obtain⟨o1,o2,g1,g2⟩:=ps_w ((m2.trans m3).trans m4).ps e1
   simp only[↓eB,seval,go_sem,yg_qblock,yr_qblock,yb_qblock,yv_qblock,yp_qbegins,yr_qbegins,adv_fold,↓arO_names,↓arO_stor,↓arO_noVw,↓arO_ldc,nxt_fold,hk,a1,a2,hm,i1,f1,i2,f2,i3,f3,i4,f4,i5,t5,hX,hE,o1,o2,g1,g2]
   try simp only[impB,impN]
   repeat' first|exact ck|with_reducible apply And.intro|intro _
   all_goals first|(exact rfl)|exact hq|exact hq1|exact sif|exact swh|exact sas|exact sre|exact sel|exact s42|exact s59|exact s61|exact qa|(rename_i h;first|exact oI h|exact nah h)|(rename_i _ h _ g;exact sL h g)|decide|omega|(refine ret_with [] ?_;simp only[↓eB,seval,go_sem,bne,e_RESMP,hE,o1,o2,g1,g2])
  |true=>
  have q1:=qa.nx m1 e1
  obtain⟨b1,b2⟩:=go_w e1
  generalize hY:wanP [61] X1=X2 at hE m2 m3 m4
  cases e2:(X2.e==0) with
  |false=>
   obtain⟨o1,o2,g1,g2⟩:=ps_w (m3.trans m4).ps e2
   simp only[↓eB,seval,go_sem,yg_qblock,yr_qblock,yb_qblock,yv_qblock,yp_qbegins,yr_qbegins,adv_fold,↓arO_names,↓arO_stor,↓arO_noVw,↓arO_ldc,nxt_fold,hk,a1,a2,hm,i1,f1,i2,f2,i3,f3,i4,f4,i5,t5,hX,hY,hE,b1,b2,o1,o2,g1,g2]
   try simp only[impB,impN]
   repeat' first|exact ck|with_reducible apply And.intro|intro _
   all_goals first|(exact rfl)|exact hq|exact hq1|exact sif|exact swh|exact sas|exact sre|exact sel|exact s42|exact s59|exact s61|exact qa|exact q1|(rename_i h;first|exact oI h|exact nah h)|(rename_i _ h _ g;exact sL h g)|decide|omega|(refine ret_with [] ?_;simp only[↓eB,seval,go_sem,bne,e_RESMP,hE,o1,o2,g1,g2])
  |true=>
  have q2:=q1.nx m2 e2
  have d2:=dp41 q2.ok
  obtain⟨c1,c2⟩:=go_w e2
  cases e3:((exS X2).2.e==0) with
  |false=>
   obtain⟨o1,o2,g1,g2⟩:=ps_w m4.ps e3
   simp only[↓eB,seval,go_sem,yg_qblock,yr_qblock,yb_qblock,yv_qblock,yp_qbegins,yr_qbegins,adv_fold,↓arO_names,↓arO_stor,↓arO_noVw,↓arO_ldc,nxt_fold,hk,a1,a2,hm,i1,f1,i2,f2,i3,f3,i4,f4,i5,t5,hX,hY,hE,b1,b2,c1,c2,o1,o2,g1,g2]
   try simp only[impB,impN]
   repeat' first|exact ck|with_reducible apply And.intro|intro _
   all_goals first|(exact rfl)|exact hq|exact hq1|exact sif|exact swh|exact sas|exact sre|exact sel|exact s42|exact s59|exact s61|exact qa|exact q1|exact q2|exact d2|(rename_i h;first|exact oI h|exact nah h)|(rename_i _ h _ g;exact sL h g)|decide|omega|(refine ret_with [] ?_;simp only[↓eB,seval,go_sem,bne,e_RESMP,hE,o1,o2,g1,g2])
  |true=>
  have q3:=q2.nx m3 e3
  obtain⟨d3,d4⟩:=go_w e3
  cases e4:((wanP [59] (exS X2).2).e==0) with
  |false=>
   obtain⟨o1,o2,g1,g2⟩:=ps_w (Ps.refl (wanP [59] (exS X2).2)) e4
   simp only[↓eB,seval,go_sem,yg_qblock,yr_qblock,yb_qblock,yv_qblock,yp_qbegins,yr_qbegins,adv_fold,↓arO_names,↓arO_stor,↓arO_noVw,↓arO_ldc,nxt_fold,hk,a1,a2,hm,i1,f1,i2,f2,i3,f3,i4,f4,i5,t5,hX,hY,hE,b1,b2,c1,c2,d3,d4,o1,o2]
   try simp only[impB,impN]
   repeat' first|exact ck|with_reducible apply And.intro|intro _
   all_goals first|(exact rfl)|exact hq|exact hq1|exact sif|exact swh|exact sas|exact sre|exact sel|exact s42|exact s59|exact s61|exact qa|exact q1|exact q2|exact d2|exact q3|(rename_i h;first|exact oI h|exact nah h)|(rename_i _ h _ g;exact sL h g)|decide|omega|(refine ret_with [] ?_;simp only[↓eB,seval,go_sem,bne,e_RESMP,hE,o1,o2])
  |true=>
   obtain⟨g1,g2⟩:=go_w e4
   simp only[↓eB,seval,go_sem,yg_qblock,yr_qblock,yb_qblock,yv_qblock,yp_qbegins,yr_qbegins,adv_fold,↓arO_names,↓arO_stor,↓arO_noVw,↓arO_ldc,nxt_fold,hk,a1,a2,hm,i1,f1,i2,f2,i3,f3,i4,f4,i5,t5,hX,hY,hE,b1,b2,c1,c2,d3,d4,g1,g2]
   try simp only[impB,impN]
   repeat' first|exact ck|with_reducible apply And.intro|intro _
   all_goals first|(exact rfl)|exact hq|exact hq1|exact sif|exact swh|exact sas|exact sre|exact sel|exact s42|exact s59|exact s61|exact qa|exact q1|exact q2|exact d2|exact q3|(rename_i h;first|exact oI h|exact nah h)|(rename_i _ h _ g;exact sL h g)|decide|omega|(refine ret_with [] ?_;simp only[↓eB,seval,go_sem,bne,e_RESMP,hE,g1,g2,Pr.x,arS,smS,↓arO_names,↓arO_stor,↓arO_noVw,↓arO_ldc,Sm.c,Sm.k,Sm.x,Sm.y,Sm.e,Sm.f,Sm.cd,Sm.ar,Sm.th,Sm.el,Sm.no,ex_nil,cd_nil,arO_le])
 |false=>
 have f5:=takP_f i5
 have hE:stmF (f+1) p=(.mk (nmdF (nxt p)).1.k (nmdF (nxt p)).1.x (nmdF (nxt p)).1.y (nmdF (nxt p)).1.e (nmdF (nxt p)).1.f .nil ((nmdF (nxt p)).1.a.getD []) [] [] p.n,wanP [59] (nmdF (nxt p)).2):=by rw[hr0,stm_nmd i1 i2 i3 i4 i5]
 have m1:=nmd_nx hq1.ok
 have m2:=wan_nx (t:=[59]) m1.ok
 cases e1:((nmdF (nxt p)).2.e==0) with
 |false=>
  obtain⟨o1,o2,g1,g2⟩:=ps_w m2.ps e1
  simp only[↓eB,seval,go_sem,yg_qblock,yr_qblock,yb_qblock,yv_qblock,yp_qbegins,yr_qbegins,adv_fold,↓arO_names,↓arO_stor,↓arO_noVw,↓arO_ldc,nxt_fold,hk,a1,a2,hm,i1,f1,i2,f2,i3,f3,i4,f4,i5,f5,hE,o1,o2,g1,g2]
  try simp only[impB,impN]
  repeat' first|exact ck|with_reducible apply And.intro|intro _
  all_goals first|(exact rfl)|exact hq|exact hq1|exact sif|exact swh|exact sas|exact sre|exact sel|exact s42|exact s59|exact s61|(rename_i h;first|exact oI h|exact nah h)|(rename_i _ h _ g;exact sL h g)|decide|omega|(refine ret_with [] ?_;simp only[↓eB,seval,go_sem,bne,e_RESMP,hE,o1,o2,g1,g2])
 |true=>
 have q1:=hq1.nx m1 e1
 obtain⟨b1,b2⟩:=go_w e1
 cases e2:((wanP [59] (nmdF (nxt p)).2).e==0) with
 |false=>
  obtain⟨o1,o2,g1,g2⟩:=ps_w (Ps.refl (wanP [59] (nmdF (nxt p)).2)) e2
  simp only[↓eB,seval,go_sem,yg_qblock,yr_qblock,yb_qblock,yv_qblock,yp_qbegins,yr_qbegins,adv_fold,↓arO_names,↓arO_stor,↓arO_noVw,↓arO_ldc,nxt_fold,hk,a1,a2,hm,i1,f1,i2,f2,i3,f3,i4,f4,i5,f5,hE,b1,b2,o1,o2]
  try simp only[impB,impN]
  repeat' first|exact ck|with_reducible apply And.intro|intro _
  all_goals first|(exact rfl)|exact hq|exact hq1|exact sif|exact swh|exact sas|exact sre|exact sel|exact s42|exact s59|exact s61|exact q1|(rename_i h;first|exact oI h|exact nah h)|(rename_i _ h _ g;exact sL h g)|decide|omega|(refine ret_with [] ?_;simp only[↓eB,seval,go_sem,bne,e_RESMP,hE,o1,o2])
 |true=>
  obtain⟨g1,g2⟩:=go_w e2
  simp only[↓eB,seval,go_sem,yg_qblock,yr_qblock,yb_qblock,yv_qblock,yp_qbegins,yr_qbegins,adv_fold,↓arO_names,↓arO_stor,↓arO_noVw,↓arO_ldc,nxt_fold,hk,a1,a2,hm,i1,f1,i2,f2,i3,f3,i4,f4,i5,f5,hE,b1,b2,g1,g2]
  try simp only[impB,impN]
  repeat' first|exact ck|with_reducible apply And.intro|intro _
  all_goals first|(exact rfl)|exact hq|exact hq1|exact sif|exact swh|exact sas|exact sre|exact sel|exact s42|exact s59|exact s61|exact q1|(rename_i h;first|exact oI h|exact nah h)|(rename_i _ h _ g;exact sL h g)|decide|omega|(refine ret_with [] ?_;simp only[↓eB,seval,go_sem,bne,e_RESMP,hE,g1,g2,Pr.x,arS,smS,↓arO_names,↓arO_stor,↓arO_noVw,↓arO_ldc,Sm.c,Sm.k,Sm.x,Sm.y,Sm.e,Sm.f,Sm.cd,Sm.ar,Sm.th,Sm.el,Sm.no,ex_nil,cd_nil,arO_le])
theorem y_qstmt:∀f:Nat,yq_qstmt f
 |0=>by
  rintro ⟨p,_u⟩ w M I lab fz xs hc hA hl hx
  obtain⟨h1,h2,_⟩:=hc
  have h3:p.deep≤40:=h1.ok.2.2.2.2.1
  have h4:41≤p.deep+((0:Nat):Int):=h2
  exact absurd h4 (by simp;omega)
 |f+1=>y_qstmtS f (y_qstmt f)
noncomputable abbrev sqBody {X:Ctx} {w0:World}:Sy.Spec Tryz.prog X w0:=yg_qlist 41 (y_qlist 41 (y_qstmt 41))
end Go.Proofs.YtlaggppdgoknjaaGreatDoor
