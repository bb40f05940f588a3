/- The program's parser: a function, walked. No conditions but those in each statement. -/
import Derived.Test.YtlaggppdgoknjaaGreatDoorPq9
import Derived.Test.YtlaggppdgoknjaaGreatDoorPq10
import Derived.Test.YtlaggppdgoknjaaGreatDoorSo
set_option linter.unusedVariables false
set_option linter.unusedSimpArgs false
namespace Go.Proofs.YtlaggppdgoknjaaGreatDoor
open Go Go.Sy Go.RowKit
theorem tak_okQ {t:List UInt8} {p:Pr} (h:okQ p):okQ (takP t p):=by
 cases it:isT t p with
 |true=>rw[takP_t it];exact isT_okQ h it
 |false=>rw[takP_f it];exact h
abbrev yc_qparam (p:Pr) (n:Int):Prop:=okQ p
abbrev yb_qparam (p:Pr) (n:Int):Bool:=(decP n 6 (takP [42] p)).b
abbrev yr_qparam (p:Pr) (n:Int):SV:=.agg [.v (.string (bs (namS (takP [42] p)))),.v (.bool (isT [42] p))]
abbrev yv_qparam (p:Pr) (n:Int):MV:=(decP n 6 (takP [42] p)).w
noncomputable abbrev ya_qparam:ArgM ((Pr)×(Int)×Unit):=(amP (mPq) (amD (cInt .i64) am0))
abbrev yq_qparam:Prop:=CallsMP Tryz.prog 48 ((ya_qparam).args 0) (ya_qparam).mem (fun p:(Pr)×(Int)×Unit=>yc_qparam p.1 p.2.1) (fun p:(Pr)×(Int)×Unit=>yb_qparam p.1 p.2.1) (fun p:(Pr)×(Int)×Unit=>yr_qparam p.1 p.2.1) (fun p:(Pr)×(Int)×Unit=>[some (yv_qparam p.1 p.2.1)])
theorem yl_qparam:∀p,(fun p:(Pr)×(Int)×Unit=>yc_qparam p.1 p.2.1) p→((fun p:(Pr)×(Int)×Unit=>[some (yv_qparam p.1 p.2.1)]) p).length=((ya_qparam).mem p).length:=by intro p _;rfl
theorem yo_qparam:∀p,(fun p:(Pr)×(Int)×Unit=>yc_qparam p.1 p.2.1) p→outV ((fun p:(Pr)×(Int)×Unit=>[some (yv_qparam p.1 p.2.1)]) p).length ((fun p:(Pr)×(Int)×Unit=>yr_qparam p.1 p.2.1) p)=true:=by intro p _;rfl
theorem yn_qparam:∀p,(fun p:(Pr)×(Int)×Unit=>yc_qparam p.1 p.2.1) p→∀q,some q∈(fun p:(Pr)×(Int)×Unit=>[some (yv_qparam p.1 p.2.1)]) p→∀r∈q.2,∀c∈r,c.names=[]:=by intro p _;exact memw_nm _
attribute [local go_sem] Pr.q Pr.s Pr.x Tok.r arS cPt_d cPt_e mPq_d mPq_d' mPq_e mPq_z pnOf_f pnOf_t pr_eta ptR rPq_d rPq_d' rPq_e rPq_z smS tkq_at wkR_self yb_qdeclared yb_qexpect yb_qfail yb_qlist yb_qname yb_qneed yb_qopen yb_qparam yg_qlist yp_qaccept yp_qahead yp_qclose yp_qdeclared yp_qexpect yp_qfail yp_qis yp_qisKind yp_qisName yp_qname yp_qneed yp_qopen yp_qvalue yr_qahead yr_qdeclared yr_qis yr_qisKind yr_qisName yr_qlist yr_qname yr_qparam yr_qvalue yv_qdeclared yv_qexpect yv_qfail yv_qlist yv_qname yv_qneed yv_qopen yv_qparam zTk zVc
set_option maxRecDepth 20000 in
theorem y_qparam:yq_qparam:=by
 rintro ⟨p,n,_u⟩ w M I lab fz xs hc hA hl hx
 refine calls_toMP Tryz.func48 rfl _ w M I lab fz (yb_qparam p n) (yv_qparam p n) [yp_qaccept,yp_qdeclared] [] ((ya_qparam).args 0 ⟨p,n,_u⟩) (yr_qparam p n) xs hA hl hx (fun v hv k hk=>Nat.lt_of_lt_of_eq ((ya_qparam).an 0 ⟨p,n,_u⟩ v hv k hk).2 (Nat.zero_add _)) (Nat.le_of_ble_eq_true rfl) (yn_qparam ⟨p,n,_u⟩ hc _ (List.mem_singleton.2 rfl)) ?_
 clear hx hl hA xs
 simp only[Tryz.f48]
 have hq:okQ p:=hc
 have s42:sgT [42]=true:=rfl
 have ht:=tak_okQ (t:=[42]) hq
 cases e1:((decP n 6 (takP [42] p)).e==0) with
 |false=>
  obtain⟨o1,o2,g1,g2⟩:=ps_w (Ps.refl (decP n 6 (takP [42] p))) e1
  simp only[↓eB,seval,go_sem,adv_fold,↓arO_names,↓arO_stor,↓arO_noVw,↓arO_ldc,g1,g2]
  try simp only[impB,impN]
  repeat' first|exact ck|with_reducible apply And.intro|intro _
  all_goals first|exact hq|exact s42|exact ht|(rename_i h;first|exact oI h|exact nah h)|(rename_i _ h _ g;exact sL h g)|decide|omega|(refine ret_with [] ?_;simp only[↓eB,seval,go_sem,bne,e_RESMP,g1,g2])
 |true=>
  obtain⟨g1,g2⟩:=go_w e1
  simp only[↓eB,seval,go_sem,adv_fold,↓arO_names,↓arO_stor,↓arO_noVw,↓arO_ldc,g1,g2]
  try simp only[impB,impN]
  repeat' first|exact ck|with_reducible apply And.intro|intro _
  all_goals first|exact hq|exact s42|exact ht|(rename_i h;first|exact oI h|exact nah h)|(rename_i _ h _ g;exact sL h g)|decide|omega|(refine ret_with [] ?_;simp only[↓eB,seval,go_sem,bne,e_RESMP,g1,g2,↓arO_names,↓arO_stor,↓arO_noVw,↓arO_ldc])
noncomputable def yp_qparam {X:Ctx} {w0:World}:Sy.Spec Tryz.prog X w0:=specMP 48 Tryz.call48 (ya_qparam) (fun p:(Pr)×(Int)×Unit=>yc_qparam p.1 p.2.1) (fun p:(Pr)×(Int)×Unit=>yb_qparam p.1 p.2.1) (fun p:(Pr)×(Int)×Unit=>yr_qparam p.1 p.2.1) (fun p:(Pr)×(Int)×Unit=>[some (yv_qparam p.1 p.2.1)]) yl_qparam yo_qparam yn_qparam y_qparam
abbrev z4:List C:=[.v (.bool false),.v (.bool false),.v (.bool false),.v (.bool false)]
abbrev cN:C:=.v (.slice none 0 0)
abbrev fQt (nm c1 c2 c3:C) (q:Pr) (ex:List (Nat×Ch)):St:=⟨[(0,true,.one (.p 0 0 0)),(2,true,.one (.p 2 0 0)),(3,true,.one (.p 3 0 0))],(0,.vec 0 zPq [q.q])::(2,.vec 0 z4 [[.v (.string (bs [])),cN,cN,cN]])::(3,.vec 0 z4 [[nm,c1,c2,c3]])::ex⟩
theorem fn_out (n:Nat) (f:Fn):outV n (.agg f.c)=true:=rfl
theorem stor_vr (a b:Value):rowsStor [[C.v a,C.v b]]:=by
 intro r hr c hc
 simp only[List.mem_singleton]at hr
 subst hr
 simp only[List.mem_cons,List.not_mem_nil,or_false]at hc
 rcases hc with rfl|rfl<;>rfl
def nextV (q:Pr):Vr:=⟨namS (takP [42] q),isT [42] q⟩
theorem vr_len (l:List Vr):((l.map Vr.c).length:Int)=(l.length:Int):=by simp
abbrev yc_qfunction (p:Pr):Prop:=okQ p∧okN p
abbrev yb_qfunction (p:Pr):Bool:=(fnQ p).2.b
abbrev yr_qfunction (p:Pr):SV:=.agg (fnQ p).1.c
abbrev yv_qfunction (p:Pr):MV:=(fnQ p).2.w
noncomputable abbrev ya_qfunction:ArgM ((Pr)×Unit):=(amP (mPq) am0)
abbrev yq_qfunction:Prop:=CallsMP Tryz.prog 22 ((ya_qfunction).args 0) (ya_qfunction).mem (fun p:(Pr)×Unit=>yc_qfunction p.1) (fun p:(Pr)×Unit=>yb_qfunction p.1) (fun p:(Pr)×Unit=>yr_qfunction p.1) (fun p:(Pr)×Unit=>[some (yv_qfunction p.1)])
theorem yl_qfunction:∀p,(fun p:(Pr)×Unit=>yc_qfunction p.1) p→((fun p:(Pr)×Unit=>[some (yv_qfunction p.1)]) p).length=((ya_qfunction).mem p).length:=by intro p _;rfl
theorem yo_qfunction:∀p,(fun p:(Pr)×Unit=>yc_qfunction p.1) p→outV ((fun p:(Pr)×Unit=>[some (yv_qfunction p.1)]) p).length ((fun p:(Pr)×Unit=>yr_qfunction p.1) p)=true:=by intro p _;exact fn_out _ _
theorem yn_qfunction:∀p,(fun p:(Pr)×Unit=>yc_qfunction p.1) p→∀q,some q∈(fun p:(Pr)×Unit=>[some (yv_qfunction p.1)]) p→∀r∈q.2,∀c∈r,c.names=[]:=by intro p _;exact memw_nm _
set_option maxRecDepth 20000 in set_option maxHeartbeats 32000000 in
theorem y_qfunction:yq_qfunction:=by
 rintro ⟨p,_u⟩ w M I lab fz xs hc hA hl hx
 refine calls_triMN Tryz.func22 rfl ((ya_qfunction).mem ⟨p,_u⟩) w M I lab fz (yb_qfunction p) (yv_qfunction p) (some (yv_qfunction p)::offM (yb_qfunction p) []) ((ya_qfunction).args 0 ⟨p,_u⟩) (yr_qfunction p) xs hA hl hx (fun v hv k hk=>Nat.lt_of_lt_of_eq ((ya_qfunction).an 0 ⟨p,_u⟩ v hv k hk).2 (Nat.zero_add _)) (Nat.le_of_ble_eq_true rfl) rfl rfl (offM_bad _ _ _) (yn_qfunction ⟨p,_u⟩ hc _ (List.mem_cons_self ..)) ?_
 clear hx hl hA xs
 simp only[Tryz.f22]
 obtain⟨hq,hN⟩:=hc
 dsimp only at hq hN
 have sF:sgT tFn=true:=rfl
 have s40:sgT [40]=true:=rfl
 have s41:sgT [41]=true:=rfl
 have s44:sgT [44]=true:=rfl
 have s59:sgT [59]=true:=rfl
 have s123:sgT [123]=true:=rfl
 have sV:sgT tVar=true:=rfl
 have sP:sgT tPtr=true:=rfl
 have n1:=wan_nx (t:=tFn) hq.ok
 have n2:=nam_nx n1.ok
 have n3:=wan_nx (t:=[40]) n2.ok
 have nP:=parW_nx n3.ok
 have kP:Ps (parW (wanP [40] (namP (wanP tFn p)))).2 (fnQ p).2:=fq_ps n3.ok
 have hF:fnQ p=(⟨namS (wanP tFn p),(parW (wanP [40] (namP (wanP tFn p)))).1,(locW (opeP (parW (wanP [40] (namP (wanP tFn p)))).2)).1,(bodS (locW (opeP (parW (wanP [40] (namP (wanP tFn p)))).2)).2).1⟩,shut (bodS (locW (opeP (parW (wanP [40] (namP (wanP tFn p)))).2)).2).2):=rfl
 have hN3:okN (wanP [40] (namP (wanP tFn p))):=hN.of (by rw[wan_n,nam_n,wan_n])
 refine tri_next [yp_qis,yp_qaccept,yp_qexpect,yp_qname,yp_qneed,yp_qopen,yp_qdeclared,yp_qparam,sqBody] [] ?_
 simp only[↓eB,seval,go_sem,yp_qparam,adv_fold,↓arO_names,↓arO_stor,↓arO_noVw,↓arO_ldc,yb_qfunction,yv_qfunction]
 refine tri_next [yp_qis,yp_qaccept,yp_qexpect,yp_qname,yp_qneed,yp_qopen,yp_qdeclared,yp_qparam,sqBody] [] ?_
 simp only[↓eB,seval,go_sem,yp_qparam,adv_fold,↓arO_names,↓arO_stor,↓arO_noVw,↓arO_ldc,yb_qfunction,yv_qfunction]
 refine tri_next [yp_qis,yp_qaccept,yp_qexpect,yp_qname,yp_qneed,yp_qopen,yp_qdeclared,yp_qparam,sqBody] [] ?_
 cases e1:((wanP tFn p).e==0) with
 |false=>
  obtain⟨o1,o2,g1,g2⟩:=ps_w ((n2.trans (n3.trans nP)).ps.trans kP) e1
  simp only[↓eB,seval,go_sem,yp_qparam,adv_fold,↓arO_names,↓arO_stor,↓arO_noVw,↓arO_ldc,yb_qfunction,yv_qfunction,o1,o2,g1,g2]
  try simp only[impB,impN]
  repeat' first|exact ck|with_reducible apply And.intro|intro _
  all_goals first|exact hq|exact sF|(rename_i h;first|exact oI h|exact nah h)|(rename_i _ h _ g;exact sL h g)|decide|omega|(refine ret_with [] ?_;simp only[↓eB,seval,go_sem,bne,yr_qfunction,yb_qfunction,yv_qfunction,e_RESMP,o1,o2,g1,g2])
 |true=>
 have q1:=hq.nx n1 e1
 obtain⟨a1,a2⟩:=go_w e1
 generalize hX1:wanP tFn p=x1 at*
 simp only[↓eB,seval,go_sem,yp_qparam,adv_fold,↓arO_names,↓arO_stor,↓arO_noVw,↓arO_ldc,yb_qfunction,yv_qfunction,hX1,a1,a2]
 refine⟨⟨hq,sF⟩,?_⟩
 refine tri_next [yp_qis,yp_qaccept,yp_qexpect,yp_qname,yp_qneed,yp_qopen,yp_qdeclared,yp_qparam,sqBody] [] ?_
 cases e2:((namP x1).e==0) with
 |false=>
  obtain⟨o1,o2,g1,g2⟩:=ps_w ((n3.trans nP).ps.trans kP) e2
  simp only[↓eB,seval,go_sem,yp_qparam,adv_fold,↓arO_names,↓arO_stor,↓arO_noVw,↓arO_ldc,yb_qfunction,yv_qfunction,o1,o2,g1,g2]
  try simp only[impB,impN]
  repeat' first|exact ck|with_reducible apply And.intro|intro _
  all_goals first|exact q1|(rename_i h;first|exact oI h|exact nah h)|(rename_i _ h _ g;exact sL h g)|decide|omega|(refine ret_with [] ?_;simp only[↓eB,seval,go_sem,bne,yr_qfunction,yb_qfunction,yv_qfunction,e_RESMP,o1,o2,g1,g2])
 |true=>
 have q2:=q1.nx n2 e2
 obtain⟨b1,b2⟩:=go_w e2
 generalize hX2:namP x1=x2 at*
 simp only[↓eB,seval,go_sem,yp_qparam,adv_fold,↓arO_names,↓arO_stor,↓arO_noVw,↓arO_ldc,yb_qfunction,yv_qfunction,hX2,b1,b2]
 refine⟨q1,?_⟩
 refine tri_next [yp_qis,yp_qaccept,yp_qexpect,yp_qname,yp_qneed,yp_qopen,yp_qdeclared,yp_qparam,sqBody] [] ?_
 cases e3:((wanP [40] x2).e==0) with
 |false=>
  obtain⟨o1,o2,g1,g2⟩:=ps_w (nP.ps.trans kP) e3
  simp only[↓eB,seval,go_sem,yp_qparam,adv_fold,↓arO_names,↓arO_stor,↓arO_noVw,↓arO_ldc,yb_qfunction,yv_qfunction,o1,o2,g1,g2]
  try simp only[impB,impN]
  repeat' first|exact ck|with_reducible apply And.intro|intro _
  all_goals first|exact q2|exact s40|(rename_i h;first|exact oI h|exact nah h)|(rename_i _ h _ g;exact sL h g)|decide|omega|(refine ret_with [] ?_;simp only[↓eB,seval,go_sem,bne,yr_qfunction,yb_qfunction,yv_qfunction,e_RESMP,o1,o2,g1,g2])
 |true=>
 have q3:=q2.nx n3 e3
 obtain⟨c1,c2⟩:=go_w e3
 generalize hX3:wanP [40] x2=x3 at*
 simp only[↓eB,seval,go_sem,yp_qparam,adv_fold,↓arO_names,↓arO_stor,↓arO_noVw,↓arO_ldc,yb_qfunction,yv_qfunction,hX3,c1,c2]
 refine⟨⟨q2,s40⟩,?_⟩
 generalize hnm:C.v (Value.string (bs (namS x1)))=nm
 have hnm1:nm.names=[]:=by rw[← hnm];rfl
 have hnm2:noVwC nm=true:=by rw[← hnm];rfl
 have hnm3:nm.stor=true:=by rw[← hnm];rfl
 refine tri_cut (Y:=List Vr×Pr) (fun y=>okQ y.2∧okN y.2∧(parW x3).2=wanP [41] y.2∧((wanP [41] y.2).e=0→(parW x3).1=y.1)) (fun y=>fQt nm (.s 1000) cN cN y.2 [(1000,.vec 0 zVc (y.1.map Vr.c))]) [yp_qis,yp_qaccept,yp_qexpect,yp_qname,yp_qneed,yp_qopen,yp_qdeclared,yp_qparam,sqBody] [] ?_ ?_
 ·cases i0:isT [41] x3 with
  |true=>
   have hr:parW x3=([],adv x3):=by unfold parW;rw[i0];rfl
   simp only[↓eB,seval,go_sem,yp_qparam,adv_fold,↓arO_names,↓arO_stor,↓arO_noVw,↓arO_ldc,yb_qfunction,yv_qfunction,i0]
   refine⟨⟨q3,s41⟩,([],x3),⟨q3,hN3,by rw[hr,wan_t i0],fun _=>by rw[hr]⟩,?_⟩
   rw[← hnm]
   refine to_with [.nilr 3 0 1 1000 zVc] ?_;simp only[↓eB,seval,go_sem,↓arO_names,↓arO_stor,↓arO_noVw,↓arO_ldc]
  |false=>
  have hr:parW x3=parM x3.l.length (morL [] (isT [42] x3) 6 (takP [42] x3)) (morP [] 6 (takP [42] x3)):=by
   have:parW x3=parL (x3.l.length+1) [] x3:=by unfold parW;rw[i0];rfl
   rw[this,parM_S q3.e]
  have ht:=tak_okQ (t:=[42]) q3
  have nt:=tak_nx (t:=[42]) q3.ok
  have nm1:=mor_nx (l:=[]) (most:=6) ht.ok
  have hmd:morP [] 6 (takP [42] x3)=decP 0 6 (takP [42] x3):=rfl
  rw[hmd]at hr nm1
  cases e6:((decP 0 6 (takP [42] x3)).e==0) with
  |false=>
   have k6:Nx (decP 0 6 (takP [42] x3)) (parW x3).2:=by rw[hr];exact parM_nx nm1.ok
   obtain⟨o1,o2,g1,g2⟩:=ps_w (k6.ps.trans kP) e6
   simp only[↓eB,seval,go_sem,yp_qparam,adv_fold,↓arO_names,↓arO_stor,↓arO_noVw,↓arO_ldc,yb_qfunction,yv_qfunction,i0,o1,o2,g1,g2]
   try simp only[impB,impN]
   repeat' first|exact ck|with_reducible apply And.intro|intro _
   all_goals first|exact q3|exact s41|(rename_i h;first|exact oI h|exact nah h)|(rename_i _ h _ g;exact sL h g)|decide|omega|(refine ret_with [] ?_;simp only[↓eB,seval,go_sem,bne,yr_qfunction,yb_qfunction,yv_qfunction,e_RESMP,o1,o2,g1,g2])
  |true=>
  have q6:=ht.nx nm1 e6
  obtain⟨g1,g2⟩:=go_w e6
  have hml:morL [] (isT [42] x3) 6 (takP [42] x3)=[nextV x3]:=by
   have:=mor_l (l:=[]) (ptr:=isT [42] x3) (most:=6) (p:=takP [42] x3) (by rw[hmd];simpa using e6)
   rw[this];rfl
  rw[hml]at hr
  have hN6:okN (decP 0 6 (takP [42] x3)):=hN3.of (by rw[← hmd,mor_n,tak_n])
  rw[← hnm]
  simp only[↓eB,seval,go_sem,yp_qparam,adv_fold,↓arO_names,↓arO_stor,↓arO_noVw,↓arO_ldc,yb_qfunction,yv_qfunction,i0,g1,g2]
  try simp only[impB,impN]
  repeat' (first|exact ck|with_reducible apply And.intro)
  all_goals try first|exact q3|exact s41|exact stor_vr _ _|decide|omega
  rw[hnm]
  have hi6:x3.i+1≤(decP 0 6 (takP [42] x3)).i:=by
   have h0:(decP 0 6 (takP [42] x3)).e=0:=by simpa using e6
   have hb:nameB (takP [42] x3)=true:=by
    cases hb:nameB (takP [42] x3) with
    |true=>rfl
    |false=>
     unfold decP at h0
     rw[hb,Bool.false_and,if_neg (by decide),nam_f hb]at h0
     exact absurd h0 (failP_ne (by decide) _)
   have he:decP 0 6 (takP [42] x3)=adv (takP [42] x3):=by
    unfold decP at h0 ⊢
    split
    ·rename_i h9;rw[if_pos h9]at h0;exact absurd h0 (failP_ne (by decide) _)
    ·exact nam_t hb
   rw[he,adv_i ht.ok (nameB_e hb).2]
   have:=nt.i;omega
  refine loop_ok (Y:=Nat×List Vr×Pr) (fun y=>okQ y.2.2∧okN y.2.2∧(y.2.2.l.length:Int)≤y.2.2.i+(y.1:Int)∧(y.2.1.length:Int)≤y.2.2.i∧parM y.1 y.2.1 y.2.2=parW x3)
   (fun y=>fQt nm (.s 1000) cN cN y.2.2 [(1000,.vec 0 zVc (y.2.1.map Vr.c))])
   (fun y=>y.1) (x3.l.length,[nextV x3],decP 0 6 (takP [42] x3)) ⟨q6,hN6,by have:=q3.hn;have:=nm1.l;have:=nt.l;dsimp only;rw[nm1.l,nt.l];omega,by have:=q3.hn;simp only[List.length_cons,List.length_nil];omega,hr.symm⟩ ?_ ?_
  ·rw[← hnm]
   refine to_with [.mv 22 1000] ?_;simp only[↓eB,seval,go_sem,↓arO_names,↓arO_stor,↓arO_noVw,↓arO_ldc,Vr.c,nextV]
  ·rintro ⟨k,l,q⟩ ⟨h1,h2,h3,h4,h5⟩
   refine vc_ok [yp_qis,yp_qaccept,yp_qexpect,yp_qname,yp_qneed,yp_qopen,yp_qdeclared,yp_qparam,sqBody] [] _ _ _ ?_
   dsimp only at h1 h2 h3 h4 h5
   have hle:l.length≤4096:=by have:=h1.ok.2.1;have:=h1.ok.2.2.1;omega
   cases it:isT [44] q with
   |true=>
    obtain⟨k',rfl⟩:∃k',k=k'+1:=⟨k-1,by have:=(isT_e it).2;omega⟩
    have ha:=isT_okQ h1 it
    have hai:=adv_i h1.ok (isT_e it).2
    have tt:=takP_t it
    have hta:=tak_okQ (t:=[42]) ha
    have nta:=tak_nx (t:=[42]) ha.ok
    have nma:=mor_nx (l:=l) (most:=6) hta.ok
    rw[mor_dec]at nma
    have h6:parM k' (morL l (isT [42] (adv q)) 6 (takP [42] (adv q))) (decP (l.length:Int) 6 (takP [42] (adv q)))=parW x3:=by
     rw[← h5]
     have i2:=isT_ex it (t:=[41]) rfl
     unfold parM
     rw[i2,wan_t it]
     simp only[Bool.false_eq_true,if_false]
     rw[parM_S ha.e];rfl
    cases e7:((decP (l.length:Int) 6 (takP [42] (adv q))).e==0) with
    |false=>
     have k7:Nx (decP (l.length:Int) 6 (takP [42] (adv q))) (parW x3).2:=by rw[← h6];exact parM_nx nma.ok
     obtain⟨o1,o2,g3,g4⟩:=ps_w (k7.ps.trans kP) e7
     rw[← hnm]
     simp only[↓eB,seval,go_sem,yp_qparam,adv_fold,↓arO_names,↓arO_stor,↓arO_noVw,↓arO_ldc,yb_qfunction,yv_qfunction,it,tt,vr_len,o1,o2,g3,g4,rowsV.fn]
     try simp only[impB,impN]
     repeat' first|exact ck|with_reducible apply And.intro|intro _
     all_goals first|exact h1|exact s44|exact ha|(rename_i h;first|exact oI h|exact nah h)|(rename_i _ h _ g;exact sL h g)|decide|omega|(refine ret_with [] ?_;simp only[↓eB,seval,go_sem,bne,yr_qfunction,yb_qfunction,yv_qfunction,e_RESMP,o1,o2,g3,g4])
    |true=>
     have q7:=hta.nx nma e7
     obtain⟨g3,g4⟩:=go_w e7
     have hml2:morL l (isT [42] (adv q)) 6 (takP [42] (adv q))=l++[nextV (adv q)]:=by
      have:=mor_l (l:=l) (ptr:=isT [42] (adv q)) (most:=6) (p:=takP [42] (adv q)) (by rw[mor_dec];simpa using e7)
      rw[this];rfl
     rw[hml2]at h6
     have hN7:okN (decP (l.length:Int) 6 (takP [42] (adv q))):=h2.of (by rw[← mor_dec,mor_n,tak_n,adv_n])
     rw[← hnm]
     simp only[↓eB,seval,go_sem,yp_qparam,adv_fold,↓arO_names,↓arO_stor,↓arO_noVw,↓arO_ldc,yb_qfunction,yv_qfunction,it,tt,vr_len,g3,g4,rowsV.fn]
     try simp only[impB,impN]
     repeat' first|exact ck|with_reducible apply And.intro|intro _
     all_goals try first|exact h1|exact s44|exact ha|(rename_i h;first|exact oI h|exact nah h)|(rename_i _ h _ g;exact sL h g)|decide|omega
     refine⟨(k',l++[nextV (adv q)],decP (l.length:Int) 6 (takP [42] (adv q))),⟨q7,hN7,?_,?_,h6⟩,Nat.lt_succ_self _,
      to_trans (t:=fQt (C.v (Value.string (bs (namS x1)))) (.s 34) cN cN (decP (l.length:Int) 6 (takP [42] (adv q))) [(34,.vec 0 zVc ((l++[nextV (adv q)]).map Vr.c))]) ?_ ?_⟩
     ·have:=nma.i;have:=nta.i;rw[hai]at this;dsimp only;rw[nma.l,nta.l];show (q.l.length:Int)≤_;omega
     ·have:=nma.i;have:=nta.i;rw[hai]at this;simp only[List.length_append,List.length_cons,List.length_nil];omega
     ·refine to_with [] ?_;simp only[↓eB,seval,go_sem,↓arO_names,↓arO_stor,↓arO_noVw,↓arO_ldc,rowsV.fn,List.flatMap_append,List.map_append,Vr.c,nextV]
     ·refine to_with [.mv 34 1000] ?_;simp only[↓eB,seval,go_sem,↓arO_names,↓arO_stor,↓arO_noVw,↓arO_ldc,rowsV.fn,rowsV.mv]
   |false=>
    have tf:=takP_f it
    have h6:(parW x3).2=wanP [41] q∧((wanP [41] q).e=0→(parW x3).1=l):=by
     rw[← h5]
     unfold parM
     cases i3:isT [41] q with
     |true=>rw[if_pos rfl,wan_t i3];exact⟨rfl,fun _=>rfl⟩
     |false=>
      rw[if_neg (by decide),wan_f it,wan_f i3,parL_f _ _ (failP_ne (by decide) q)]
      exact⟨rfl,fun h=>absurd h (failP_ne (by decide) q)⟩
    rw[← hnm]
    simp only[↓eB,seval,go_sem,yp_qparam,adv_fold,↓arO_names,↓arO_stor,↓arO_noVw,↓arO_ldc,yb_qfunction,yv_qfunction,it,tf,rowsV.fn]
    try simp only[impB,impN]
    repeat' first|exact ck|with_reducible apply And.intro|intro _
    all_goals try first|exact h1|exact s44|(rename_i h;first|exact oI h|exact nah h)|(rename_i _ h _ g;exact sL h g)|decide|omega
    refine⟨(l,q),⟨h1,h2,h6⟩,?_⟩
    refine to_with [] ?_;simp only[↓eB,seval,go_sem,↓arO_names,↓arO_stor,↓arO_noVw,↓arO_ldc,rowsV.fn]
 rintro ⟨ps,q⟩ ⟨r1,r2,r3,r4⟩
 dsimp only at r1 r2 r3 r4
 rw[r3]at kP
 refine tri_next [yp_qis,yp_qaccept,yp_qexpect,yp_qname,yp_qneed,yp_qopen,yp_qdeclared,yp_qparam,sqBody] [] ?_
 rw[← hnm]
 cases e5:((wanP [41] q).e==0) with
 |false=>
  obtain⟨o1,o2,g1,g2⟩:=ps_w kP e5
  simp only[↓eB,seval,go_sem,yp_qparam,adv_fold,↓arO_names,↓arO_stor,↓arO_noVw,↓arO_ldc,yb_qfunction,yv_qfunction,o1,o2,g1,g2,rowsV.fn]
  try simp only[impB,impN]
  repeat' first|exact ck|with_reducible apply And.intro|intro _
  all_goals first|exact r1|exact s41|(rename_i h;first|exact oI h|exact nah h)|(rename_i _ h _ g;exact sL h g)|decide|omega|(refine ret_with [] ?_;simp only[↓eB,seval,go_sem,bne,yr_qfunction,yb_qfunction,yv_qfunction,e_RESMP,o1,o2,g1,g2])
 |true=>
 have n5:=wan_nx (t:=[41]) r1.ok
 have q5:=r1.nx n5 e5
 have hN5:okN (wanP [41] q):=r2.of (wan_n _ _)
 have hps:(parW x3).1=ps:=r4 (by simpa using e5)
 rw[r3,hps]at hF
 obtain⟨d1,d2⟩:=go_w e5
 generalize hX5:wanP [41] q=x5 at*
 simp only[↓eB,seval,go_sem,yp_qparam,adv_fold,↓arO_names,↓arO_stor,↓arO_noVw,↓arO_ldc,yb_qfunction,yv_qfunction,hX5,d1,d2,rowsV.fn]
 refine⟨⟨r1,s41⟩,?_⟩
 refine tri_next [yp_qis,yp_qaccept,yp_qexpect,yp_qname,yp_qneed,yp_qopen,yp_qdeclared,yp_qparam,sqBody] [] ?_
 have hfin:(fnQ p).2=shut (bodS (locW (opeP x5)).2).2:=by rw[hF]
 cases i1:isT [123] x5 with
 |false=>
  have ho:=opeP_f i1
  have kO:=kP
  have k1:Ps (failP 51 x5) (fnQ p).2:=by
   rw[hfin,ho]
   have h8:=(fail_nx 51 q5.ok).ok
   exact((locW_nx h8).trans (bodS_nx (locW_nx h8).ok)).ps.shut
  have e8:((failP 51 x5).e==0)=false:=by simpa using failP_ne (c:=51) (by decide) x5
  obtain⟨o1,o2,g1,g2⟩:=ps_w k1 e8
  simp only[↓eB,seval,go_sem,yp_qparam,adv_fold,↓arO_names,↓arO_stor,↓arO_noVw,↓arO_ldc,yb_qfunction,yv_qfunction,i1,ned_f,o1,o2,g1,g2,rowsV.fn]
  try simp only[impB,impN]
  repeat' first|exact ck|with_reducible apply And.intro|intro _
  all_goals first|exact q5|exact s123|(rename_i h;first|exact oI h|exact nah h)|(rename_i _ h _ g;exact sL h g)|decide|omega|(refine ret_with [] ?_;simp only[↓eB,seval,go_sem,bne,yr_qfunction,yb_qfunction,yv_qfunction,e_RESMP,o1,o2,g1,g2])
 |true=>
 have ho:=opeP_t q5 i1
 have hi:=(isT_e i1).2
 rw[ho]at hF hfin
 simp only[↓eB,seval,go_sem,yp_qparam,adv_fold,↓arO_names,↓arO_stor,↓arO_noVw,↓arO_ldc,yb_qfunction,yv_qfunction,i1,ned_t,d1,d2,rowsV.fn]
 refine⟨⟨q5,s123⟩,q5,?_⟩
 refine tri_next [yp_qis,yp_qaccept,yp_qexpect,yp_qname,yp_qneed,yp_qopen,yp_qdeclared,yp_qparam,sqBody] [] ?_
 cases ob:opnB x5 with
 |false=>
  have h8:okP (opP x5):=by rw[opP_f ob];exact(opn_no q5.ok ob).ok
  have k1:Ps (opP x5) (fnQ p).2:=by rw[hfin];exact((locW_nx h8).trans (bodS_nx (locW_nx h8).ok)).ps.shut
  obtain⟨o1,o2,g1,g2⟩:=ps_w k1 (opn_ps q5 ob)
  simp only[↓eB,seval,go_sem,yp_qparam,adv_fold,↓arO_names,↓arO_stor,↓arO_noVw,↓arO_ldc,yb_qfunction,yv_qfunction,o1,o2,g1,g2,rowsV.fn]
  try simp only[impB,impN]
  repeat' first|exact ck|with_reducible apply And.intro|intro _
  all_goals first|exact q5|exact hi|(rename_i h;first|exact oI h|exact nah h)|(rename_i _ h _ g;exact sL h g)|decide|omega|(refine ret_with [] ?_;simp only[↓eB,seval,go_sem,bne,yr_qfunction,yb_qfunction,yv_qfunction,e_RESMP,o1,o2,g1,g2])
 |true=>
 have q8:=opP_okQ q5 hi ob
 have hN8:okN (opP x5):=hN5.of (by rw[opP_t ob];exact opn_n x5)
 obtain⟨f1,f2⟩:=go_w q8.e'
 generalize hX8:opP x5=x8 at*
 simp only[↓eB,seval,go_sem,yp_qparam,adv_fold,↓arO_names,↓arO_stor,↓arO_noVw,↓arO_ldc,yb_qfunction,yv_qfunction,hX8,f1,f2,rowsV.fn]
 refine⟨⟨q5,hi⟩,?_⟩
 have nL:=locW_nx q8.ok
 have kL:Ps (locW x8).2 (fnQ p).2:=by rw[hfin];exact(bodS_nx nL.ok).ps.shut
 refine tri_cut (Y:=List Vr×Pr) (fun y=>okQ y.2∧okN y.2∧locW x8=y) (fun y=>fQt (C.v (Value.string (bs (namS x1)))) (.s 1000) (.s 1001) cN y.2 [(1000,.vec 0 zVc (ps.map Vr.c)),(1001,.vec 0 zVc (y.1.map Vr.c))]) [yp_qis,yp_qaccept,yp_qexpect,yp_qname,yp_qneed,yp_qopen,yp_qdeclared,yp_qparam,sqBody] [] ?_ ?_
 ·simp only[↓eB,seval,go_sem,yp_qparam,adv_fold,↓arO_names,↓arO_stor,↓arO_noVw,↓arO_ldc,yb_qfunction,yv_qfunction,rowsV.fn]
  refine loop_ok (Y:=Nat×List Vr×Pr) (fun y=>okQ y.2.2∧okN y.2.2∧(y.2.2.l.length:Int)≤y.2.2.i+(y.1:Int)∧(y.2.1.length:Int)≤y.2.2.i∧locL y.1 y.2.1 y.2.2=locW x8)
   (fun y=>fQt (C.v (Value.string (bs (namS x1)))) (.s 1000) (.s 1001) cN y.2.2 [(1000,.vec 0 zVc (ps.map Vr.c)),(1001,.vec 0 zVc (y.2.1.map Vr.c))])
   (fun y=>y.1) (x8.l.length,[],x8) ⟨q8,hN8,by have:=q8.hn;simp only;omega,by simpa using q8.hn,rfl⟩ ?_ ?_
  ·refine to_with [.nilr 3 0 2 1001 zVc] ?_;simp only[↓eB,seval,go_sem,↓arO_names,↓arO_stor,↓arO_noVw,↓arO_ldc,rowsV.fn]
  ·rintro ⟨k,l,q9⟩ ⟨h1,h2,h3,h4,h5⟩
   refine vc_ok [yp_qis,yp_qaccept,yp_qexpect,yp_qname,yp_qneed,yp_qopen,yp_qdeclared,yp_qparam,sqBody] [] _ _ _ ?_
   dsimp only at h1 h2 h3 h4 h5
   cases hl:locB q9 with
   |false=>
    have hr2:locW x8=(l,q9):=by rw[← h5];cases k<;>simp[locL,hl]
    unfold locB at hl
    simp only[Bool.or_eq_false_iff]at hl
    obtain⟨l1,l2⟩:=hl
    simp only[↓eB,seval,go_sem,yp_qparam,adv_fold,↓arO_names,↓arO_stor,↓arO_noVw,↓arO_ldc,yb_qfunction,yv_qfunction,l1,l2,rowsV.fn]
    try simp only[impB,impN]
    repeat' first|exact ck|with_reducible apply And.intro|intro _
    all_goals try first|exact h1|exact sV|exact sP|(rename_i h;first|exact oI h|exact nah h)|(rename_i _ h _ g;exact sL h g)|decide|omega
    refine⟨(l,q9),⟨h1,h2,hr2⟩,?_⟩
    refine to_with [] ?_;simp only[↓eB,seval,go_sem,↓arO_names,↓arO_stor,↓arO_noVw,↓arO_ldc,rowsV.fn]
   |true=>
    have hlt:=(locB_e hl).2
    have ha:=adv_okQ h1 hlt
    have hai:=adv_i h1.ok hlt
    obtain⟨k',rfl⟩:∃k',k=k'+1:=⟨k-1,by omega⟩
    simp only[locL,hl,if_true]at h5
    have hm2:=mor_nx (l:=l) (most:=20) ha.ok
    have hle:l.length≤4096:=by have:=h1.ok.2.1;have:=h1.ok.2.2.1;omega
    have hmd:=mor_dec l 20 (adv q9)
    have hw:=wan_nx (t:=[59]) hm2.ok
    have kR:Nx (wanP [59] (morP l 20 (adv q9))) (locW x8).2:=by rw[← h5];exact locL_nx _ _ _ hw.ok
    rw[hmd]at h5 hm2 hw kR
    generalize hX9:decP (l.length:Int) 20 (adv q9)=x9 at*
    cases e9:(x9.e==0) with
    |false=>
     obtain⟨o1,o2,g1,g2⟩:=ps_w ((hw.trans kR).ps.trans kL) e9
     cases hv0:isT tVar q9 with
     |true=>
      have hp0:=isT_ex hv0 (t:=tPtr) rfl
      simp only[↓eB,seval,go_sem,yp_qparam,adv_fold,↓arO_names,↓arO_stor,↓arO_noVw,↓arO_ldc,yb_qfunction,yv_qfunction,hv0,hp0,vr_len,hX9,o1,o2,g1,g2,rowsV.fn]
      try simp only[impB,impN]
      repeat' first|exact ck|with_reducible apply And.intro|intro _
      all_goals first|exact h1|exact sV|exact sP|exact ha|(rename_i h;first|exact oI h|exact nah h)|(rename_i _ h _ g;exact sL h g)|decide|omega|(refine ret_with [] ?_;simp only[↓eB,seval,go_sem,bne,yr_qfunction,yb_qfunction,yv_qfunction,e_RESMP,o1,o2,g1,g2])
     |false=>
      have hp0:isT tPtr q9=true:=by unfold locB at hl;rw[hv0]at hl;simpa using hl
      simp only[↓eB,seval,go_sem,yp_qparam,adv_fold,↓arO_names,↓arO_stor,↓arO_noVw,↓arO_ldc,yb_qfunction,yv_qfunction,hv0,hp0,vr_len,hX9,o1,o2,g1,g2,rowsV.fn]
      try simp only[impB,impN]
      repeat' first|exact ck|with_reducible apply And.intro|intro _
      all_goals first|exact h1|exact sV|exact sP|exact ha|(rename_i h;first|exact oI h|exact nah h)|(rename_i _ h _ g;exact sL h g)|decide|omega|(refine ret_with [] ?_;simp only[↓eB,seval,go_sem,bne,yr_qfunction,yb_qfunction,yv_qfunction,e_RESMP,o1,o2,g1,g2])
    |true=>
    have q10:=ha.nx hm2 e9
    obtain⟨g1,g2⟩:=go_w e9
    cases e10:((wanP [59] x9).e==0) with
    |false=>
     obtain⟨o1,o2,g3,g4⟩:=ps_w (kR.ps.trans kL) e10
     cases hv0:isT tVar q9 with
     |true=>
      have hp0:=isT_ex hv0 (t:=tPtr) rfl
      simp only[↓eB,seval,go_sem,yp_qparam,adv_fold,↓arO_names,↓arO_stor,↓arO_noVw,↓arO_ldc,yb_qfunction,yv_qfunction,hv0,hp0,vr_len,hX9,g1,g2,o1,o2,g3,g4,rowsV.fn]
      try simp only[impB,impN]
      repeat' first|exact ck|with_reducible apply And.intro|intro _
      all_goals first|exact h1|exact sV|exact sP|exact ha|exact q10|exact s59|(rename_i h;first|exact oI h|exact nah h)|(rename_i _ h _ g;exact sL h g)|decide|omega|(refine ret_with [] ?_;simp only[↓eB,seval,go_sem,bne,yr_qfunction,yb_qfunction,yv_qfunction,e_RESMP,o1,o2,g3,g4])
     |false=>
      have hp0:isT tPtr q9=true:=by unfold locB at hl;rw[hv0]at hl;simpa using hl
      simp only[↓eB,seval,go_sem,yp_qparam,adv_fold,↓arO_names,↓arO_stor,↓arO_noVw,↓arO_ldc,yb_qfunction,yv_qfunction,hv0,hp0,vr_len,hX9,g1,g2,o1,o2,g3,g4,rowsV.fn]
      try simp only[impB,impN]
      repeat' first|exact ck|with_reducible apply And.intro|intro _
      all_goals first|exact h1|exact sV|exact sP|exact ha|exact q10|exact s59|(rename_i h;first|exact oI h|exact nah h)|(rename_i _ h _ g;exact sL h g)|decide|omega|(refine ret_with [] ?_;simp only[↓eB,seval,go_sem,bne,yr_qfunction,yb_qfunction,yv_qfunction,e_RESMP,o1,o2,g3,g4])
    |true=>
    have q11:=q10.nx hw e10
    obtain⟨g3,g4⟩:=go_w e10
    have hml:morL l (isT tPtr q9) 20 (adv q9)=l++[⟨namS (adv q9),isT tPtr q9⟩]:=mor_l (by rw[hmd];simpa using e9)
    rw[hml]at h5
    have hN11:okN (wanP [59] x9):=h2.of (by rw[wan_n,← hX9,← mor_dec,mor_n,adv_n])
    cases hv0:isT tVar q9 with
    |true=>
     have hp0:=isT_ex hv0 (t:=tPtr) rfl
     rw[hp0]at h5
     simp only[↓eB,seval,go_sem,yp_qparam,adv_fold,↓arO_names,↓arO_stor,↓arO_noVw,↓arO_ldc,yb_qfunction,yv_qfunction,hv0,hp0,vr_len,hX9,g1,g2,g3,g4,rowsV.fn]
     try simp only[impB,impN]
     repeat' first|exact ck|with_reducible apply And.intro|intro _
     all_goals try first|exact h1|exact sV|exact sP|exact ha|exact q10|exact s59|(rename_i h;first|exact oI h|exact nah h)|(rename_i _ h _ g;exact sL h g)|decide|omega
     refine⟨(k',l++[⟨namS (adv q9),false⟩],wanP [59] x9),⟨q11,hN11,?_,?_,h5⟩,Nat.lt_succ_self _,
      to_trans (t:=fQt (C.v (Value.string (bs (namS x1)))) (.s 1000) (.s 79) cN (wanP [59] x9) [(1000,.vec 0 zVc (ps.map Vr.c)),(79,.vec 0 zVc ((l++[(⟨namS (adv q9),false⟩:Vr)]).map Vr.c))]) ?_ ?_⟩
     ·have h7:=hm2.i;have h8:=hw.i;rw[hai]at h7;dsimp only;rw[hw.l,hm2.l];show (q9.l.length:Int)≤_;omega
     ·have h7:=hm2.i;have h8:=hw.i;rw[hai]at h7;simp only[List.length_append,List.length_cons,List.length_nil];omega
     ·refine to_with [] ?_;simp only[↓eB,seval,go_sem,↓arO_names,↓arO_stor,↓arO_noVw,↓arO_ldc,rowsV.fn,List.flatMap_append,List.map_append,Vr.c]
     ·refine to_with [.mv 79 1001] ?_;simp only[↓eB,seval,go_sem,↓arO_names,↓arO_stor,↓arO_noVw,↓arO_ldc,rowsV.fn,rowsV.mv]
    |false=>
     have hp0:isT tPtr q9=true:=by unfold locB at hl;rw[hv0]at hl;simpa using hl
     rw[hp0]at h5
     simp only[↓eB,seval,go_sem,yp_qparam,adv_fold,↓arO_names,↓arO_stor,↓arO_noVw,↓arO_ldc,yb_qfunction,yv_qfunction,hv0,hp0,vr_len,hX9,g1,g2,g3,g4,rowsV.fn]
     try simp only[impB,impN]
     repeat' first|exact ck|with_reducible apply And.intro|intro _
     all_goals try first|exact h1|exact sV|exact sP|exact ha|exact q10|exact s59|(rename_i h;first|exact oI h|exact nah h)|(rename_i _ h _ g;exact sL h g)|decide|omega
     refine⟨(k',l++[⟨namS (adv q9),true⟩],wanP [59] x9),⟨q11,hN11,?_,?_,h5⟩,Nat.lt_succ_self _,
      to_trans (t:=fQt (C.v (Value.string (bs (namS x1)))) (.s 1000) (.s 79) cN (wanP [59] x9) [(1000,.vec 0 zVc (ps.map Vr.c)),(79,.vec 0 zVc ((l++[(⟨namS (adv q9),true⟩:Vr)]).map Vr.c))]) ?_ ?_⟩
     ·have h7:=hm2.i;have h8:=hw.i;rw[hai]at h7;dsimp only;rw[hw.l,hm2.l];show (q9.l.length:Int)≤_;omega
     ·have h7:=hm2.i;have h8:=hw.i;rw[hai]at h7;simp only[List.length_append,List.length_cons,List.length_nil];omega
     ·refine to_with [] ?_;simp only[↓eB,seval,go_sem,↓arO_names,↓arO_stor,↓arO_noVw,↓arO_ldc,rowsV.fn,List.flatMap_append,List.map_append,Vr.c]
     ·refine to_with [.mv 79 1001] ?_;simp only[↓eB,seval,go_sem,↓arO_names,↓arO_stor,↓arO_noVw,↓arO_ldc,rowsV.fn,rowsV.mv]
 rintro ⟨ls,x12⟩ ⟨t1,t2,t3⟩
 dsimp only at t1 t2 t3
 rw[t3]at hF hfin kL
 have d12:=dp41 t1.ok
 dsimp only at hF hfin kL
 refine tri_next [yp_qis,yp_qaccept,yp_qexpect,yp_qname,yp_qneed,yp_qopen,yp_qdeclared,yp_qparam,sqBody] [] ?_
 have hfb:(fnQ p).2=shut (stmtsW (stmF 41) x12).2:=hfin
 cases e12:((shut (stmtsW (stmF 41) x12).2).e==0) with
 |false=>
  obtain⟨o1,o2,g1,g2⟩:=ps_w (Ps.refl (shut (stmtsW (stmF 41) x12).2)) e12
  simp only[↓eB,seval,go_sem,yp_qparam,adv_fold,↓arO_names,↓arO_stor,↓arO_noVw,↓arO_ldc,yb_qfunction,yv_qfunction,hfb,g1,g2,rowsV.fn]
  try simp only[impB,impN]
  repeat' first|exact ck|with_reducible apply And.intro|intro _
  all_goals first|exact t1|exact t2|exact d12|(rename_i h;first|exact oI h|exact nah h)|(rename_i _ h _ g;exact sL h g)|decide|omega|(refine ret_with [] ?_;simp only[↓eB,seval,go_sem,bne,yr_qfunction,yb_qfunction,yv_qfunction,e_RESMP,hfb,g1,g2])
 |true=>
 obtain⟨g1,g2⟩:=go_w e12
 simp only[↓eB,seval,go_sem,yp_qparam,adv_fold,↓arO_names,↓arO_stor,↓arO_noVw,↓arO_ldc,yb_qfunction,yv_qfunction,hfb,g1,g2,rowsV.fn]
 refine⟨⟨t1,d12,t2⟩,?_⟩
 have hv:(fnQ p).1=⟨namS x1,ps,ls,(stmtsW (stmF 41) x12).1⟩:=by rw[hF]
 refine vc_ok [yp_qis,yp_qaccept,yp_qexpect,yp_qname,yp_qneed,yp_qopen,yp_qdeclared,yp_qparam,sqBody] [] _ _ _ ?_
 simp only[↓eB,seval,go_sem,yp_qparam,adv_fold,↓arO_names,↓arO_stor,↓arO_noVw,↓arO_ldc,yb_qfunction,yv_qfunction,rowsV.fn]
 refine ret_with [.fz 1000,.fz 1001] ?_;simp only[↓eB,seval,go_sem,bne,yr_qfunction,yb_qfunction,yv_qfunction,e_RESMP,hv,hfb,g1,g2,Fn.c,↓arO_names,↓arO_stor,↓arO_noVw,↓arO_ldc,rowsV.ds,rowsV.fz,zVr]
noncomputable def yp_qfunction {X:Ctx} {w0:World}:Sy.Spec Tryz.prog X w0:=specMP 22 Tryz.call22 (ya_qfunction) (fun p:(Pr)×Unit=>yc_qfunction p.1) (fun p:(Pr)×Unit=>yb_qfunction p.1) (fun p:(Pr)×Unit=>yr_qfunction p.1) (fun p:(Pr)×Unit=>[some (yv_qfunction p.1)]) yl_qfunction yo_qfunction yn_qfunction y_qfunction
end Go.Proofs.YtlaggppdgoknjaaGreatDoor
