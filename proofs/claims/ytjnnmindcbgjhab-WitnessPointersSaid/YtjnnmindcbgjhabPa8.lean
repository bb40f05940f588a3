/- One statement, walked. No conditions but those in each statement. -/
import Derived.Test.YtjnnmindcbgjhabPa7
set_option linter.unusedVariables false
set_option linter.unusedSimpArgs false
namespace Go.Proofs.Ytjnnmindcbgjhab
open Go Go.Sy Go.RowKit
attribute [local go_sem] Pr.c Tok.r cPt_d mPr_d mPr_d' mPr_e mPr_z mSf_d mSf_e mSf_z pr_eta ptR rPr_d rPr_d' tk_at valC yg_block yg_cond yg_sum yp_args yp_fail yp_is yp_name yp_named yp_open yp_take yp_value yp_want yr_is yr_named zSc zTk
set_option maxRecDepth 20000 in set_option maxHeartbeats 16000000 in
theorem y_stmtS (f:Nat) (hu:yq_stmt f):yq_stmt (f+1):=by
 rintro ⟨p,_u⟩ w M I lab fz xs hc hA hl hx
 refine calls_toML Try.func41 rfl ((ya_stmt).mem ⟨p,_u⟩) w M I lab fz [yp_is,yp_named,yp_fail,yp_want,yp_name,yp_take,yp_args,yp_value,sSum,sCond,(yg_block f (y_block f hu))] [] ((ya_stmt).args 0 ⟨p,_u⟩) ((fun p:(Pr)×Unit=>ym_stmt (f+1) p.1) ⟨p,_u⟩) ((fun p:(Pr)×Unit=>yr_stmt (f+1) p.1) ⟨p,_u⟩) xs hA hl hx (fun v hv k hk=>by have:=(ya_stmt).an 0 ⟨p,_u⟩ v hv k hk;omega) (Nat.le_of_ble_eq_true rfl) (Nat.le_of_ble_eq_true rfl) ?_
 clear hx hl hA xs
 simp only[Try.f41]
 obtain⟨hc1,hc2⟩:=hc
 dsimp only at hc1 hc2
 have hI:=hc1.i
 have hq:=nxt_nx hc1
 have hqI:=hq.ok.i
 have hqd:=dp_nx hq hc2
 cases hk:(knoB p&&decide (200≤p.n)) with
 |true=>
  have hr:stmF (f+1) p=(sm0 p.n,failP 53 p):=by simp only[stmF];rw[if_pos hk]
  simp only[knoB]at hk
  simp only[↓eB,seval,go_sem,↓arO_names,↓arO_stor,↓arO_noVw,↓arO_ldc,hk]
  try simp only[impB,impN]
  repeat' first|exact ck|with_reducible apply And.intro|intro _
  all_goals first|exact hI|exact hc1|(rename_i h;first|exact oI h|exact nah h)|(rename_i _ h _ g;exact sL h g)|decide|omega|(refine ret_with [] ?_;simp only[↓eB,seval,go_sem,bne,yr_stmt,ym_stmt,hr,arS,smS,↓arO_names,↓arO_stor,↓arO_noVw,↓arO_ldc,sm0,Sm.c,Sm.k,Sm.x,Sm.y,Sm.e,Sm.f,Sm.cd,Sm.ar,Sm.th,Sm.el,Sm.no,ex_nil,cd_nil,arO_le,ifB,ifC])
 |false=>
 have hr0:stmF (f+1) p=stmB (stmF f) p.n (nxt p):=by simp only[stmF];rw[if_neg (by rw[hk];decide)]
 simp only[knoB]at hk
 cases i1:isT tRet (nxt p) with
 |true=>
  have j1:=i1
  simp only[nxt]at j1
  have hr:stmF (f+1) p=(.mk 9 [] [] (exS (adv (nxt p))).1 .nil .nil [] [] [] p.n,wanP [59] (exS (adv (nxt p))).2):=by rw[hr0];simp[stmB,i1]
  have ha:=isT_adv hq.ok i1
  have hs:=exS_nx ha.ok
  have hd:=dp41 ha.ok
  simp only[↓eB,seval,go_sem,↓arO_names,↓arO_stor,↓arO_noVw,↓arO_ldc,hk,j1,takP,adv]
  try simp only[impB,impN]
  repeat' first|exact ck|with_reducible apply And.intro|intro _
  all_goals first|exact hI|exact hc1|exact hq.ok|exact hqI|exact hqd|exact ha.ok|exact hd|exact hs.ok|(rename_i h;first|exact oI h|exact nah h)|(rename_i _ h _ g;exact sL h g)|decide|omega|(refine ret_with [] ?_;simp only[↓eB,seval,go_sem,bne,yr_stmt,ym_stmt,hr,arS,smS,↓arO_names,↓arO_stor,↓arO_noVw,↓arO_ldc,nxt,adv,Sm.c,Sm.k,Sm.x,Sm.y,Sm.e,Sm.f,Sm.cd,Sm.ar,Sm.th,Sm.el,Sm.no,ex_nil,cd_nil,arO_le,ifB,ifC])
 |false=>
 have j1:=i1
 simp only[nxt]at j1
 cases i2:isT tAss (nxt p) with
 |true=>
  have j2:=i2
  simp only[nxt]at j2
  have hr:stmF (f+1) p=(.mk 12 [] [] .nil .nil (ifC (nxt p)).1 [] [] [] p.n,wanP [59] (wanP [41] (ifC (nxt p)).2)):=by rw[hr0];simp[stmB,i1,i2]
  have ha:=isT_adv hq.ok i2
  have hw:=wan_nx (t:=[40]) ha.ok
  have hd:=dp41 hw.ok
  have hcd:=cdS_nx hw.ok
  have hw2:=wan_nx (t:=[41]) hcd.ok
  simp only[↓eB,seval,go_sem,↓arO_names,↓arO_stor,↓arO_noVw,↓arO_ldc,hk,j1,j2,takP,adv]
  try simp only[impB,impN]
  repeat' first|exact ck|with_reducible apply And.intro|intro _
  all_goals first|exact hI|exact hc1|exact hq.ok|exact hqI|exact hqd|exact ha.ok|exact hd|exact hw.ok|exact hcd.ok|exact hw2.ok|(rename_i h;first|exact oI h|exact nah h)|(rename_i _ h _ g;exact sL h g)|decide|omega|(refine ret_with [] ?_;simp only[↓eB,seval,go_sem,bne,yr_stmt,ym_stmt,hr,arS,smS,↓arO_names,↓arO_stor,↓arO_noVw,↓arO_ldc,nxt,adv,Sm.c,Sm.k,Sm.x,Sm.y,Sm.e,Sm.f,Sm.cd,Sm.ar,Sm.th,Sm.el,Sm.no,ex_nil,cd_nil,arO_le,ifB,ifC])
 |false=>
 have j2:=i2
 simp only[nxt]at j2
 cases i3:isT tWhi (nxt p) with
 |true=>
  have j3:=i3
  simp only[nxt]at j3
  have hr:stmF (f+1) p=(.mk 11 [] [] .nil .nil (ifC (nxt p)).1 [] (ifB (blkW (stmF f)) (nxt p)).1 [] p.n,(ifB (blkW (stmF f)) (nxt p)).2):=by rw[hr0];simp[stmB,i1,i2,i3]
  have ha:=isT_adv hq.ok i3
  have hw:=wan_nx (t:=[40]) ha.ok
  have hd:=dp41 hw.ok
  have hcd:=cdS_nx hw.ok
  have hw2:=wan_nx (t:=[41]) hcd.ok
  have hdd:=dp_nx (((ha.trans hw).trans hcd).trans hw2) hqd
  simp only[↓eB,seval,go_sem,↓arO_names,↓arO_stor,↓arO_noVw,↓arO_ldc,hk,j1,j2,j3,takP,adv]
  try simp only[impB,impN]
  repeat' first|exact ck|with_reducible apply And.intro|intro _
  all_goals first|exact hI|exact hc1|exact hq.ok|exact hqI|exact hqd|exact ha.ok|exact hd|exact hw.ok|exact hcd.ok|exact hw2.ok|exact hdd|(rename_i h;first|exact oI h|exact nah h)|(rename_i _ h _ g;exact sL h g)|decide|omega|(refine ret_with [] ?_;simp only[↓eB,seval,go_sem,bne,yr_stmt,ym_stmt,hr,arS,smS,↓arO_names,↓arO_stor,↓arO_noVw,↓arO_ldc,nxt,adv,Sm.c,Sm.k,Sm.x,Sm.y,Sm.e,Sm.f,Sm.cd,Sm.ar,Sm.th,Sm.el,Sm.no,ex_nil,cd_nil,arO_le,ifB,ifC])
 |false=>
 have j3:=i3
 simp only[nxt]at j3
 cases i4:isT tIf (nxt p) with
 |true=>
  have j4:=i4
  simp only[nxt]at j4
  have ha:=isT_adv hq.ok i4
  have hw:=wan_nx (t:=[40]) ha.ok
  have hd:=dp41 hw.ok
  have hcd:=cdS_nx hw.ok
  have hw2:=wan_nx (t:=[41]) hcd.ok
  have hnn:=((ha.trans hw).trans hcd).trans hw2
  have hdd:=dp_nx hnn hqd
  have hb:=blkW_nx (stm_nx f) hw2.ok
  cases i5:isT tElse (ifB (blkW (stmF f)) (nxt p)).2 with
  |true=>
   have hr:stmF (f+1) p=(.mk 10 [] [] .nil .nil (ifC (nxt p)).1 [] (ifB (blkW (stmF f)) (nxt p)).1 (blkW (stmF f) (adv (ifB (blkW (stmF f)) (nxt p)).2)).1 p.n,(blkW (stmF f) (adv (ifB (blkW (stmF f)) (nxt p)).2)).2):=by rw[hr0];simp[stmB,i1,i2,i3,i4,i5]
   have hb2:=isT_adv hb.ok i5
   have hde:=dp_nx ((hnn.trans hb).trans hb2) hqd
   have j5:=i5
   simp only[nxt,ifB,ifC,adv]at j5
   simp only[↓eB,seval,go_sem,↓arO_names,↓arO_stor,↓arO_noVw,↓arO_ldc,hk,j1,j2,j3,j4,j5,takP,adv]
   try simp only[impB,impN]
   repeat' first|exact ck|with_reducible apply And.intro|intro _
   all_goals first|exact hI|exact hc1|exact hq.ok|exact hqI|exact hqd|exact ha.ok|exact hd|exact hw.ok|exact hcd.ok|exact hw2.ok|exact hdd|exact hb.ok|exact hb2.ok|exact hde|(rename_i h;first|exact oI h|exact nah h)|(rename_i _ h _ g;exact sL h g)|decide|omega|(refine ret_with [] ?_;simp only[↓eB,seval,go_sem,bne,yr_stmt,ym_stmt,hr,arS,smS,↓arO_names,↓arO_stor,↓arO_noVw,↓arO_ldc,nxt,adv,Sm.c,Sm.k,Sm.x,Sm.y,Sm.e,Sm.f,Sm.cd,Sm.ar,Sm.th,Sm.el,Sm.no,ex_nil,cd_nil,arO_le,ifB,ifC])
  |false=>
   have hr:stmF (f+1) p=(.mk 10 [] [] .nil .nil (ifC (nxt p)).1 [] (ifB (blkW (stmF f)) (nxt p)).1 [] p.n,(ifB (blkW (stmF f)) (nxt p)).2):=by rw[hr0];simp[stmB,i1,i2,i3,i4,i5]
   have j5:=i5
   simp only[nxt,ifB,ifC,adv]at j5
   simp only[↓eB,seval,go_sem,↓arO_names,↓arO_stor,↓arO_noVw,↓arO_ldc,hk,j1,j2,j3,j4,j5,takP,adv]
   try simp only[impB,impN]
   repeat' first|exact ck|with_reducible apply And.intro|intro _
   all_goals first|exact hI|exact hc1|exact hq.ok|exact hqI|exact hqd|exact ha.ok|exact hd|exact hw.ok|exact hcd.ok|exact hw2.ok|exact hdd|exact hb.ok|(rename_i h;first|exact oI h|exact nah h)|(rename_i _ h _ g;exact sL h g)|decide|omega|(refine ret_with [] ?_;simp only[↓eB,seval,go_sem,bne,yr_stmt,ym_stmt,hr,arS,smS,↓arO_names,↓arO_stor,↓arO_noVw,↓arO_ldc,nxt,adv,Sm.c,Sm.k,Sm.x,Sm.y,Sm.e,Sm.f,Sm.cd,Sm.ar,Sm.th,Sm.el,Sm.no,ex_nil,cd_nil,arO_le,ifB,ifC])
 |false=>
 have j4:=i4
 simp only[nxt]at j4
 cases i6:isT [42] (nxt p) with
 |true=>
  have j6:=i6
  simp only[nxt]at j6
  have hr:stmF (f+1) p=(.mk 5 (namS (adv (nxt p))) [] (exS (wanP [61] (namP (adv (nxt p))))).1 .nil .nil [] [] [] p.n,wanP [59] (exS (wanP [61] (namP (adv (nxt p))))).2):=by rw[hr0];simp[stmB,i1,i2,i3,i4,i6]
  have ha:=isT_adv hq.ok i6
  have hn:=nam_nx ha.ok
  have hw:=wan_nx (t:=[61]) hn.ok
  have hd:=dp41 hw.ok
  have hs:=exS_nx hw.ok
  simp only[↓eB,seval,go_sem,↓arO_names,↓arO_stor,↓arO_noVw,↓arO_ldc,hk,j1,j2,j3,j4,j6,takP,adv]
  try simp only[impB,impN]
  repeat' first|exact ck|with_reducible apply And.intro|intro _
  all_goals first|exact hI|exact hc1|exact hq.ok|exact hqI|exact hqd|exact ha.ok|exact hn.ok|exact hd|exact hw.ok|exact hs.ok|(rename_i h;first|exact oI h|exact nah h)|(rename_i _ h _ g;exact sL h g)|decide|omega|(refine ret_with [] ?_;simp only[↓eB,seval,go_sem,bne,yr_stmt,ym_stmt,hr,arS,smS,↓arO_names,↓arO_stor,↓arO_noVw,↓arO_ldc,nxt,adv,Sm.c,Sm.k,Sm.x,Sm.y,Sm.e,Sm.f,Sm.cd,Sm.ar,Sm.th,Sm.el,Sm.no,ex_nil,cd_nil,arO_le,ifB,ifC])
 |false=>
 have j6:=i6
 simp only[nxt]at j6
 have hn:=nam_nx hq.ok
 cases i7:isT [40] (namP (nxt p)) with
 |true=>
  have j7:=i7
  simp only[nxt]at j7
  have hr:stmF (f+1) p=(.mk 8 [] (namS (nxt p)) .nil .nil .nil (argW (adv (namP (nxt p)))).1 [] [] p.n,wanP [59] (argW (adv (namP (nxt p)))).2):=by rw[hr0];simp[stmB,i1,i2,i3,i4,i6,i7]
  have ha:=isT_adv hn.ok i7
  have hs:=argW_nx ha.ok
  simp only[↓eB,seval,go_sem,↓arO_names,↓arO_stor,↓arO_noVw,↓arO_ldc,hk,j1,j2,j3,j4,j6,j7,takP,adv]
  try simp only[impB,impN]
  repeat' first|exact ck|with_reducible apply And.intro|intro _
  all_goals first|exact hI|exact hc1|exact hq.ok|exact hqI|exact hqd|exact ha.ok|exact hn.ok|exact hs.ok|(rename_i h;first|exact oI h|exact nah h)|(rename_i _ h _ g;exact sL h g)|decide|omega|(refine ret_with [] ?_;simp only[↓eB,seval,go_sem,bne,yr_stmt,ym_stmt,hr,arS,smS,↓arO_names,↓arO_stor,↓arO_noVw,↓arO_ldc,nxt,adv,Sm.c,Sm.k,Sm.x,Sm.y,Sm.e,Sm.f,Sm.cd,Sm.ar,Sm.th,Sm.el,Sm.no,ex_nil,cd_nil,arO_le,ifB,ifC])
 |false=>
 have j7:=i7
 simp only[nxt]at j7
 cases i8:isT [91] (namP (nxt p)) with
 |true=>
  have j8:=i8
  simp only[nxt]at j8
  have hr:stmF (f+1) p=(.mk 7 [] (namS (nxt p)) (exS (adv (namP (nxt p)))).1 (exS (wanP [61] (wanP [93] (exS (adv (namP (nxt p)))).2))).1 .nil [] [] [] p.n,wanP [59] (exS (wanP [61] (wanP [93] (exS (adv (namP (nxt p)))).2))).2):=by rw[hr0];simp[stmB,i1,i2,i3,i4,i6,i7,i8]
  have ha:=isT_adv hn.ok i8
  have hd:=dp41 ha.ok
  have hs:=exS_nx ha.ok
  have hw:=wan_nx (t:=[93]) hs.ok
  have hw2:=wan_nx (t:=[61]) hw.ok
  have hd2:=dp41 hw2.ok
  have hs2:=exS_nx hw2.ok
  simp only[↓eB,seval,go_sem,↓arO_names,↓arO_stor,↓arO_noVw,↓arO_ldc,hk,j1,j2,j3,j4,j6,j7,j8,takP,adv]
  try simp only[impB,impN]
  repeat' first|exact ck|with_reducible apply And.intro|intro _
  all_goals first|exact hI|exact hc1|exact hq.ok|exact hqI|exact hqd|exact ha.ok|exact hn.ok|exact hd|exact hs.ok|exact hw.ok|exact hw2.ok|exact hd2|exact hs2.ok|(rename_i h;first|exact oI h|exact nah h)|(rename_i _ h _ g;exact sL h g)|decide|omega|(refine ret_with [] ?_;simp only[↓eB,seval,go_sem,bne,yr_stmt,ym_stmt,hr,arS,smS,↓arO_names,↓arO_stor,↓arO_noVw,↓arO_ldc,nxt,adv,Sm.c,Sm.k,Sm.x,Sm.y,Sm.e,Sm.f,Sm.cd,Sm.ar,Sm.th,Sm.el,Sm.no,ex_nil,cd_nil,arO_le,ifB,ifC])
 |false=>
 have j8:=i8
 simp only[nxt]at j8
 have hr:stmF (f+1) p=(.mk (valF (wanP [61] (namP (nxt p)))).1.k (namS (nxt p)) (valF (wanP [61] (namP (nxt p)))).1.y (valF (wanP [61] (namP (nxt p)))).1.e .nil .nil ((valF (wanP [61] (namP (nxt p)))).1.a.getD []) [] [] p.n,wanP [59] (valF (wanP [61] (namP (nxt p)))).2):=by rw[hr0];simp[stmB,i1,i2,i3,i4,i6,i7,i8]
 have hw:=wan_nx (t:=[61]) hn.ok
 have hv:=val_nx hw.ok
 simp only[↓eB,seval,go_sem,↓arO_names,↓arO_stor,↓arO_noVw,↓arO_ldc,hk,j1,j2,j3,j4,j6,j7,j8,takP,adv]
 try simp only[impB,impN]
 repeat' first|exact ck|with_reducible apply And.intro|intro _
 all_goals first|exact hI|exact hc1|exact hq.ok|exact hqI|exact hqd|exact hn.ok|exact hw.ok|exact hv.ok|(rename_i h;first|exact oI h|exact nah h)|(rename_i _ h _ g;exact sL h g)|decide|omega|(refine ret_with [] ?_;simp only[↓eB,seval,go_sem,bne,yr_stmt,ym_stmt,hr,arS,smS,↓arO_names,↓arO_stor,↓arO_noVw,↓arO_ldc,nxt,adv,Sm.c,Sm.k,Sm.x,Sm.y,Sm.e,Sm.f,Sm.cd,Sm.ar,Sm.th,Sm.el,Sm.no,ex_nil,cd_nil,arO_le,ifB,ifC])
theorem y_stmt:∀f:Nat,yq_stmt f
 |0=>by
  rintro ⟨p,_u⟩ w M I lab fz xs hc hA hl hx
  obtain⟨h1,h2⟩:=hc
  have h3:p.deep≤40:=h1.2.2.2.2.1
  have h4:41≤p.deep+((0:Nat):Int):=h2
  exact absurd h4 (by simp;omega)
 |f+1=>y_stmtS f (y_stmt f)
noncomputable abbrev sBody {X:Ctx} {w0:World}:Sy.Spec Try.prog X w0:=yg_stmts 41 (y_stmts 41 (y_stmt 41))
end Go.Proofs.Ytjnnmindcbgjhab
