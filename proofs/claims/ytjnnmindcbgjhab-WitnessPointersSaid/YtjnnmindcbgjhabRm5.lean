/- A frame's sums and conditions, walked. No conditions but those in each statement. -/
import Derived.Test.YtjnnmindcbgjhabRm4
set_option linter.unusedVariables false
set_option linter.unusedSimpArgs false
namespace Go.Proofs.Ytjnnmindcbgjhab
open Go Go.Sy Go.RowKit
abbrev yc_fVal (q:Fa) (s:Sm) (x:List UInt8):Prop:=okC q.P q.m
abbrev yb_fVal (q:Fa) (s:Sm) (x:List UInt8):Bool:=(vlF q.P q.m q.vs x).b
abbrev yv_fVal (q:Fa) (s:Sm) (x:List UInt8):Fa:=evA q s (vlF q.P q.m q.vs x)
abbrev yz_fVal (q:Fa) (s:Sm) (x:List UInt8):Fa:=evW q s (vlF q.P q.m q.vs x)
abbrev yr_fVal (q:Fa) (s:Sm) (x:List UInt8):SV:=.one (.v (.int .i64 ((vlF q.P q.m q.vs x).vl 0)))
theorem yt_fVal:∀b,∀v∈ArgC.e (acS (cSp) (acS (cStr) ac0)) b,v.tupB=false:=by rintro ⟨x0,x1,_⟩ v hv;simp only[acS_e,ac0_e,List.mem_cons,List.not_mem_nil,or_false]at hv;rcases hv with rfl|rfl<;>first|rfl|exact ex_tup _|exact cd_tup _
noncomputable abbrev ya_fVal:ArgL (Fa×(Sm)×(List UInt8)×Unit):=amFr (acS (cSp) (acS (cStr) ac0)) yt_fVal
abbrev yq_fVal:Prop:=CallsL Try.prog 75 (ya_fVal).args (ya_fVal).mem (fun p:(Fa×(Sm)×(List UInt8)×Unit)=>yc_fVal p.1 p.2.1 p.2.2.1) (fun p:(Fa×(Sm)×(List UInt8)×Unit)=>yb_fVal p.1 p.2.1 p.2.2.1) (fun p:(Fa×(Sm)×(List UInt8)×Unit)=>yr_fVal p.1 p.2.1 p.2.2.1) (fun p:(Fa×(Sm)×(List UInt8)×Unit)=>Fa.memO (yv_fVal p.1 p.2.1 p.2.2.1)) (fun p:(Fa×(Sm)×(List UInt8)×Unit)=>mlO (Fa.pan (yz_fVal p.1 p.2.1 p.2.2.1)))
theorem yl_fVal:∀p,(fun p:(Fa×(Sm)×(List UInt8)×Unit)=>yc_fVal p.1 p.2.1 p.2.2.1) p→(fun p:(Fa×(Sm)×(List UInt8)×Unit)=>yb_fVal p.1 p.2.1 p.2.2.1) p=false→lenL ((ya_fVal).mem p).length ((fun p:(Fa×(Sm)×(List UInt8)×Unit)=>Fa.memO (yv_fVal p.1 p.2.1 p.2.2.1)) p)=true∧kdL ((ya_fVal).mem p) ((fun p:(Fa×(Sm)×(List UInt8)×Unit)=>Fa.memO (yv_fVal p.1 p.2.1 p.2.2.1)) p)=true∧outQ ((fun p:(Fa×(Sm)×(List UInt8)×Unit)=>Fa.memO (yv_fVal p.1 p.2.1 p.2.2.1)) p) ((fun p:(Fa×(Sm)×(List UInt8)×Unit)=>yr_fVal p.1 p.2.1 p.2.2.1) p)∧∀q,some q∈(fun p:(Fa×(Sm)×(List UInt8)×Unit)=>Fa.memO (yv_fVal p.1 p.2.1 p.2.2.1)) p→okML ((fun p:(Fa×(Sm)×(List UInt8)×Unit)=>Fa.memO (yv_fVal p.1 p.2.1 p.2.2.1)) p).length q:=fun p _ _=>have h:=fa_out p.1 (yv_fVal p.1 p.2.1 p.2.2.1);⟨h.1,h.2.1,rfl,h.2.2⟩
theorem yw_fVal:∀p,(fun p:(Fa×(Sm)×(List UInt8)×Unit)=>yc_fVal p.1 p.2.1 p.2.2.1) p→(fun p:(Fa×(Sm)×(List UInt8)×Unit)=>yb_fVal p.1 p.2.1 p.2.2.1) p=true→((fun p:(Fa×(Sm)×(List UInt8)×Unit)=>mlO (Fa.pan (yz_fVal p.1 p.2.1 p.2.2.1))) p).length=((ya_fVal).mem p).length∧kdL ((ya_fVal).mem p) ((fun p:(Fa×(Sm)×(List UInt8)×Unit)=>mlO (Fa.pan (yz_fVal p.1 p.2.1 p.2.2.1))) p)=true∧∀q,some q∈(fun p:(Fa×(Sm)×(List UInt8)×Unit)=>mlO (Fa.pan (yz_fVal p.1 p.2.1 p.2.2.1))) p→okML ((fun p:(Fa×(Sm)×(List UInt8)×Unit)=>mlO (Fa.pan (yz_fVal p.1 p.2.1 p.2.2.1))) p).length q:=fun p _ _=>fa_pan p.1 (yz_fVal p.1 p.2.1 p.2.2.1)
theorem yd_fVal:∀p,(fun p:(Fa×(Sm)×(List UInt8)×Unit)=>yc_fVal p.1 p.2.1 p.2.2.1) p→(fun p:(Fa×(Sm)×(List UInt8)×Unit)=>yb_fVal p.1 p.2.1 p.2.2.1) p=true→lenL ((ya_fVal).mem p).length ((fun p:(Fa×(Sm)×(List UInt8)×Unit)=>Fa.memO (yv_fVal p.1 p.2.1 p.2.2.1)) p)=true∧outQ ((fun p:(Fa×(Sm)×(List UInt8)×Unit)=>Fa.memO (yv_fVal p.1 p.2.1 p.2.2.1)) p) ((fun p:(Fa×(Sm)×(List UInt8)×Unit)=>yr_fVal p.1 p.2.1 p.2.2.1) p):=fun p _ _=>⟨(fa_out p.1 (yv_fVal p.1 p.2.1 p.2.2.1)).1,rfl⟩
noncomputable def yg_fVal {X:Ctx} {w0:World} (h:yq_fVal):Sy.Spec Try.prog X w0:=specL' 75 Try.call75 (ya_fVal) (fun p:(Fa×(Sm)×(List UInt8)×Unit)=>yc_fVal p.1 p.2.1 p.2.2.1) (fun p:(Fa×(Sm)×(List UInt8)×Unit)=>yb_fVal p.1 p.2.1 p.2.2.1) (fun p:(Fa×(Sm)×(List UInt8)×Unit)=>yr_fVal p.1 p.2.1 p.2.2.1) (fun p:(Fa×(Sm)×(List UInt8)×Unit)=>Fa.memO (yv_fVal p.1 p.2.1 p.2.2.1)) (fun p:(Fa×(Sm)×(List UInt8)×Unit)=>mlO (Fa.pan (yz_fVal p.1 p.2.1 p.2.2.1))) (yl_fVal) (yw_fVal) (yd_fVal) (fun _=>rfl) h
theorem yF_fVal {X:Ctx} {w0:World} (h:yq_fVal):(yg_fVal (X:=X) (w0:=w0) h).f=75:=rfl
theorem yN_fVal {X:Ctx} {w0:World} (h:yq_fVal) (t:Nat) (args:List SV) (H:Hp):(yg_fVal (X:=X) (w0:=w0) h).fn t args H=spL X ((ya_fVal).d H args) t H (fun p:(Fa×(Sm)×(List UInt8)×Unit)=>yc_fVal p.1 p.2.1 p.2.2.1) (fun p:(Fa×(Sm)×(List UInt8)×Unit)=>yb_fVal p.1 p.2.1 p.2.2.1) (fun p:(Fa×(Sm)×(List UInt8)×Unit)=>yr_fVal p.1 p.2.1 p.2.2.1) (fun p:(Fa×(Sm)×(List UInt8)×Unit)=>Fa.memO (yv_fVal p.1 p.2.1 p.2.2.1)) (fun p:(Fa×(Sm)×(List UInt8)×Unit)=>mlO (Fa.pan (yz_fVal p.1 p.2.1 p.2.2.1))):=rfl
attribute [local go_sem] Ev.b Ev.vl Fa.mem Fa.memO Fa.pan ML.ch ML.ren Ms.brk Ms.exh Ms.spd Sm.ar Sm.cd Sm.e Sm.el Sm.f Sm.k Sm.no Sm.th Sm.x Sm.y Va.c amFr_a amFr_d amFr_m bumpL cCd_d cCd_e cCd_n cEx_d cEx_e cEx_n cSp_d cSp_e cSs_d cSs_e chL evA evW faD_p faJ_some faK_some fa_eta fcN flN_vs frC frD_v frJ_eq lmH lmO mMc_d' mMc_e mMc_z mcC mcD_v mcR_d mcW mlO_nil mlO_none mlO_some mp_ai mp_ci mp_fi mp_vs ms_eta nmX pairN_o pairO_n pg_eta pnL_nil pnL_none pnL_some pnOL_f pnOL_t pnOf_f pnOf_t renQ renQC rnC sm_r spFn_n spL_some specL'_f specL'_fn updL updX va0 vrQ vsD_v vs_ren wkR_me yF_fBrk yN_fBrk yb_fBrk yb_fVal yp_fBrk yv_fBrk yv_fVal yz_fBrk yz_fVal
set_option maxRecDepth 20000 in set_option maxHeartbeats 16000000 in
theorem y_fVal:yq_fVal:=by
 rintro ⟨q,s,x,_u⟩ w M I lab fz xs hc hA hl hx
 refine calls_toLM Try.func75 rfl (Fa.mem q) w M I lab fz (yb_fVal q s x) (Fa.pan (yz_fVal q s x)) (Fa.memO (yv_fVal q s x)) [yp_fBrk] [] ((ya_fVal).args ⟨q,s,x,_u⟩) (yr_fVal q s x) xs hA hl hx (amFr_nm _ _ _ _) (Nat.le_of_ble_eq_true rfl) (Nat.le_refl _) rfl (fa_pnm _) ?_
 clear hx hl hA xs
 simp only[Try.f75]
 have hc1:okC q.P q.m:=hc
 obtain⟨k0,x0,y0,e0,f0,cd0,ar0,th0,el0,no0⟩:=s
 cases h1:mget q.vs x with
 |some v=>
  have h:vlF q.P q.m q.vs x= .ok v.n:=by unfold vlF;rw[h1]
  simp only[↓eB,seval,go_sem,xt,↓e_fac4,Option.isSome_some,Option.isSome_none,h1,h]
  try simp only[impB,impN]
  repeat' first|exact ck|with_reducible apply And.intro|intro _
  all_goals first|exact trivial|(rename_i h;first|exact oI h|exact nah h)|(rename_i _ h _ g;exact sL h g)|decide|omega|(refine ret_with [] ?_;simp only[↓eB,seval,go_sem,bne,yr_fVal,e_RESLP,xt,↓e_fac4,h])
 |none=>
  cases h2:q.P.ci x with
  |none=>
   have h:vlF q.P q.m q.vs x= .no 4:=by unfold vlF;rw[h1,h2]
   simp only[↓eB,seval,go_sem,xt,↓e_fac4,Option.isSome_some,Option.isSome_none,h1,h2,h]
   try simp only[impB,impN]
   repeat' first|exact ck|with_reducible apply And.intro|intro _
   all_goals first|exact trivial|(rename_i h;first|exact oI h|exact nah h)|(rename_i _ h _ g;exact sL h g)|decide|omega|(refine ret_with [] ?_;simp only[↓eB,seval,go_sem,bne,yr_fVal,e_RESLP,xt,↓e_fac4,h])
  |some i=>
   have h:vlF q.P q.m q.vs x= .ok (q.m.cell i):=by unfold vlF;rw[h1,h2]
   have hi:=Pg.ci_lt hc1 h2
   have hg:=nb_get hi
   simp only[↓eB,seval,go_sem,xt,↓e_fac4,Option.isSome_some,Option.isSome_none,h1,h2,h,hg,Ms.cell]
   try simp only[impB,impN]
   repeat' first|exact ck|with_reducible apply And.intro|intro _
   all_goals first|exact hi.1|exact hi.2|(rename_i h;first|exact oI h|exact nah h)|(rename_i _ h _ g;exact sL h g)|decide|omega|(refine ret_with [] ?_;simp only[↓eB,seval,go_sem,bne,yr_fVal,e_RESLP,xt,↓e_fac4,h,Ms.cell])
noncomputable def yp_fVal {X:Ctx} {w0:World}:Sy.Spec Try.prog X w0:=yg_fVal y_fVal
abbrev yc_fEval (n:Nat) (q:Fa) (s:Sm) (e:Ex):Prop:=okC q.P q.m∧e.dp<n
abbrev yb_fEval (n:Nat) (q:Fa) (s:Sm) (e:Ex):Bool:=(evF q.P q.m q.vs e).b
abbrev yv_fEval (n:Nat) (q:Fa) (s:Sm) (e:Ex):Fa:=evA q s (evF q.P q.m q.vs e)
abbrev yz_fEval (n:Nat) (q:Fa) (s:Sm) (e:Ex):Fa:=evW q s (evF q.P q.m q.vs e)
abbrev yr_fEval (n:Nat) (q:Fa) (s:Sm) (e:Ex):SV:=.one (.v (.int .i64 ((evF q.P q.m q.vs e).vl 0)))
theorem yt_fEval:∀b,∀v∈ArgC.e (acS (cSp) (acS (cEx) ac0)) b,v.tupB=false:=by rintro ⟨x0,x1,_⟩ v hv;simp only[acS_e,ac0_e,List.mem_cons,List.not_mem_nil,or_false]at hv;rcases hv with rfl|rfl<;>first|rfl|exact ex_tup _|exact cd_tup _
noncomputable abbrev ya_fEval:ArgL (Fa×(Sm)×(Ex)×Unit):=amFr (acS (cSp) (acS (cEx) ac0)) yt_fEval
abbrev yq_fEval (n:Nat):Prop:=CallsL Try.prog 69 (ya_fEval).args (ya_fEval).mem (fun p:(Fa×(Sm)×(Ex)×Unit)=>yc_fEval n p.1 p.2.1 p.2.2.1) (fun p:(Fa×(Sm)×(Ex)×Unit)=>yb_fEval n p.1 p.2.1 p.2.2.1) (fun p:(Fa×(Sm)×(Ex)×Unit)=>yr_fEval n p.1 p.2.1 p.2.2.1) (fun p:(Fa×(Sm)×(Ex)×Unit)=>Fa.memO (yv_fEval n p.1 p.2.1 p.2.2.1)) (fun p:(Fa×(Sm)×(Ex)×Unit)=>mlO (Fa.pan (yz_fEval n p.1 p.2.1 p.2.2.1)))
theorem yl_fEval (n:Nat):∀p,(fun p:(Fa×(Sm)×(Ex)×Unit)=>yc_fEval n p.1 p.2.1 p.2.2.1) p→(fun p:(Fa×(Sm)×(Ex)×Unit)=>yb_fEval n p.1 p.2.1 p.2.2.1) p=false→lenL ((ya_fEval).mem p).length ((fun p:(Fa×(Sm)×(Ex)×Unit)=>Fa.memO (yv_fEval n p.1 p.2.1 p.2.2.1)) p)=true∧kdL ((ya_fEval).mem p) ((fun p:(Fa×(Sm)×(Ex)×Unit)=>Fa.memO (yv_fEval n p.1 p.2.1 p.2.2.1)) p)=true∧outQ ((fun p:(Fa×(Sm)×(Ex)×Unit)=>Fa.memO (yv_fEval n p.1 p.2.1 p.2.2.1)) p) ((fun p:(Fa×(Sm)×(Ex)×Unit)=>yr_fEval n p.1 p.2.1 p.2.2.1) p)∧∀q,some q∈(fun p:(Fa×(Sm)×(Ex)×Unit)=>Fa.memO (yv_fEval n p.1 p.2.1 p.2.2.1)) p→okML ((fun p:(Fa×(Sm)×(Ex)×Unit)=>Fa.memO (yv_fEval n p.1 p.2.1 p.2.2.1)) p).length q:=fun p _ _=>have h:=fa_out p.1 (yv_fEval n p.1 p.2.1 p.2.2.1);⟨h.1,h.2.1,rfl,h.2.2⟩
theorem yw_fEval (n:Nat):∀p,(fun p:(Fa×(Sm)×(Ex)×Unit)=>yc_fEval n p.1 p.2.1 p.2.2.1) p→(fun p:(Fa×(Sm)×(Ex)×Unit)=>yb_fEval n p.1 p.2.1 p.2.2.1) p=true→((fun p:(Fa×(Sm)×(Ex)×Unit)=>mlO (Fa.pan (yz_fEval n p.1 p.2.1 p.2.2.1))) p).length=((ya_fEval).mem p).length∧kdL ((ya_fEval).mem p) ((fun p:(Fa×(Sm)×(Ex)×Unit)=>mlO (Fa.pan (yz_fEval n p.1 p.2.1 p.2.2.1))) p)=true∧∀q,some q∈(fun p:(Fa×(Sm)×(Ex)×Unit)=>mlO (Fa.pan (yz_fEval n p.1 p.2.1 p.2.2.1))) p→okML ((fun p:(Fa×(Sm)×(Ex)×Unit)=>mlO (Fa.pan (yz_fEval n p.1 p.2.1 p.2.2.1))) p).length q:=fun p _ _=>fa_pan p.1 (yz_fEval n p.1 p.2.1 p.2.2.1)
theorem yd_fEval (n:Nat):∀p,(fun p:(Fa×(Sm)×(Ex)×Unit)=>yc_fEval n p.1 p.2.1 p.2.2.1) p→(fun p:(Fa×(Sm)×(Ex)×Unit)=>yb_fEval n p.1 p.2.1 p.2.2.1) p=true→lenL ((ya_fEval).mem p).length ((fun p:(Fa×(Sm)×(Ex)×Unit)=>Fa.memO (yv_fEval n p.1 p.2.1 p.2.2.1)) p)=true∧outQ ((fun p:(Fa×(Sm)×(Ex)×Unit)=>Fa.memO (yv_fEval n p.1 p.2.1 p.2.2.1)) p) ((fun p:(Fa×(Sm)×(Ex)×Unit)=>yr_fEval n p.1 p.2.1 p.2.2.1) p):=fun p _ _=>⟨(fa_out p.1 (yv_fEval n p.1 p.2.1 p.2.2.1)).1,rfl⟩
noncomputable def yg_fEval {X:Ctx} {w0:World} (n:Nat) (h:yq_fEval n):Sy.Spec Try.prog X w0:=specL' 69 Try.call69 (ya_fEval) (fun p:(Fa×(Sm)×(Ex)×Unit)=>yc_fEval n p.1 p.2.1 p.2.2.1) (fun p:(Fa×(Sm)×(Ex)×Unit)=>yb_fEval n p.1 p.2.1 p.2.2.1) (fun p:(Fa×(Sm)×(Ex)×Unit)=>yr_fEval n p.1 p.2.1 p.2.2.1) (fun p:(Fa×(Sm)×(Ex)×Unit)=>Fa.memO (yv_fEval n p.1 p.2.1 p.2.2.1)) (fun p:(Fa×(Sm)×(Ex)×Unit)=>mlO (Fa.pan (yz_fEval n p.1 p.2.1 p.2.2.1))) (yl_fEval n) (yw_fEval n) (yd_fEval n) (fun _=>rfl) h
theorem yF_fEval {X:Ctx} {w0:World} (n:Nat) (h:yq_fEval n):(yg_fEval (X:=X) (w0:=w0) n h).f=69:=rfl
theorem yN_fEval {X:Ctx} {w0:World} (n:Nat) (h:yq_fEval n) (t:Nat) (args:List SV) (H:Hp):(yg_fEval (X:=X) (w0:=w0) n h).fn t args H=spL X ((ya_fEval).d H args) t H (fun p:(Fa×(Sm)×(Ex)×Unit)=>yc_fEval n p.1 p.2.1 p.2.2.1) (fun p:(Fa×(Sm)×(Ex)×Unit)=>yb_fEval n p.1 p.2.1 p.2.2.1) (fun p:(Fa×(Sm)×(Ex)×Unit)=>yr_fEval n p.1 p.2.1 p.2.2.1) (fun p:(Fa×(Sm)×(Ex)×Unit)=>Fa.memO (yv_fEval n p.1 p.2.1 p.2.2.1)) (fun p:(Fa×(Sm)×(Ex)×Unit)=>mlO (Fa.pan (yz_fEval n p.1 p.2.1 p.2.2.1))):=rfl
set_option maxRecDepth 20000 in set_option maxHeartbeats 16000000 in
theorem y_fEvalS (n:Nat) (hu:yq_fEval n):yq_fEval (n+1):=by
 rintro ⟨q,s,e,_u⟩ w M I lab fz xs hc hA hl hx
 refine calls_toLM Try.func69 rfl (Fa.mem q) w M I lab fz (yb_fEval (n+1) q s e) (Fa.pan (yz_fEval (n+1) q s e)) (Fa.memO (yv_fEval (n+1) q s e)) [yp_fBrk,yp_fVal,(yg_fEval n hu)] [] ((ya_fEval).args ⟨q,s,e,_u⟩) (yr_fEval (n+1) q s e) xs hA hl hx (amFr_nm _ _ _ _) (Nat.le_of_ble_eq_true rfl) (Nat.le_refl _) rfl (fa_pnm _) ?_
 clear hx hl hA xs
 simp only[Try.f69]
 obtain⟨hc1,hc2⟩:=hc
 dsimp only at hc1 hc2
 obtain⟨k0,x0,y0,e0,f0,cd0,ar0,th0,el0,no0⟩:=s
 cases e with
 |nil=>
  have h:evF q.P q.m q.vs .nil= .ok 0:=rfl
  simp only[↓eB,seval,go_sem,xt,↓e_fac4,Option.isSome_some,Option.isSome_none,yp_fVal,yF_fVal,yN_fVal,yr_fVal,yF_fEval,yN_fEval,yr_fEval,yb_fEval,yv_fEval,yz_fEval,h,ex_nil]
  try simp only[impB,impN]
  repeat' first|exact ck|with_reducible apply And.intro|intro _
  all_goals first|exact trivial|(rename_i h;first|exact oI h|exact nah h)|(rename_i _ h _ g;exact sL h g)|decide|omega|(refine ret_with [] ?_;simp only[↓eB,seval,go_sem,bne,yr_fEval,yb_fEval,yv_fEval,yz_fEval,e_RESLP,xt,↓e_fac4,h])
 |mk k n1 x a b=>
  simp only[Ex.dp]at hc2
  have ha1:a.dp<n:=by omega
  have hb1:b.dp<n:=by omega
  by_cases c0:k=0
  ·subst c0
   have h:evF q.P q.m q.vs (.mk 0 n1 x a b)= .ok n1:=rfl
   simp only[↓eB,seval,go_sem,xt,↓e_fac4,Option.isSome_some,Option.isSome_none,yp_fVal,yF_fVal,yN_fVal,yr_fVal,yF_fEval,yN_fEval,yr_fEval,yb_fEval,yv_fEval,yz_fEval,h,ex_mk]
   try simp only[impB,impN]
   repeat' first|exact ck|with_reducible apply And.intro|intro _
   all_goals first|exact trivial|(rename_i h;first|exact oI h|exact nah h)|(rename_i _ h _ g;exact sL h g)|decide|omega|(refine ret_with [] ?_;simp only[↓eB,seval,go_sem,bne,yr_fEval,yb_fEval,yv_fEval,yz_fEval,e_RESLP,xt,↓e_fac4,h])
  by_cases c1:k=1
  ·subst c1
   have h:evF q.P q.m q.vs (.mk 1 n1 x a b)=vlF q.P q.m q.vs x:=rfl
   cases hv:vlF q.P q.m q.vs x with
   |ok v=>
    simp only[↓eB,seval,go_sem,xt,↓e_fac4,Option.isSome_some,Option.isSome_none,yp_fVal,yF_fVal,yN_fVal,yr_fVal,yF_fEval,yN_fEval,yr_fEval,yb_fEval,yv_fEval,yz_fEval,h,hv,ex_mk]
    try simp only[impB,impN]
    repeat' first|exact ck|with_reducible apply And.intro|intro _
    all_goals first|exact hc1|(rename_i h;first|exact oI h|exact nah h)|(rename_i _ h _ g;exact sL h g)|decide|omega|(refine ret_with [] ?_;simp only[↓eB,seval,go_sem,bne,yr_fEval,yb_fEval,yv_fEval,yz_fEval,e_RESLP,xt,↓e_fac4,h,hv])
   |no j=>
    simp only[↓eB,seval,go_sem,xt,↓e_fac4,Option.isSome_some,Option.isSome_none,yp_fVal,yF_fVal,yN_fVal,yr_fVal,yF_fEval,yN_fEval,yr_fEval,yb_fEval,yv_fEval,yz_fEval,h,hv,ex_mk]
    try simp only[impB,impN]
    repeat' first|exact ck|with_reducible apply And.intro|intro _
    all_goals first|exact hc1|(rename_i h;first|exact oI h|exact nah h)|(rename_i _ h _ g;exact sL h g)|decide|omega|(refine ret_with [] ?_;simp only[↓eB,seval,go_sem,bne,yr_fEval,yb_fEval,yv_fEval,yz_fEval,e_RESLP,xt,↓e_fac4,h,hv])
  by_cases c7:k=7
  ·subst c7
   cases ha:evF q.P q.m q.vs a with
   |ok v=>
    have h:evF q.P q.m q.vs (.mk 7 n1 x a b)= .ok (w64i (0-v)):=by simp only[evF,ha];rfl
    simp only[↓eB,seval,go_sem,xt,↓e_fac4,Option.isSome_some,Option.isSome_none,yp_fVal,yF_fVal,yN_fVal,yr_fVal,yF_fEval,yN_fEval,yr_fEval,yb_fEval,yv_fEval,yz_fEval,h,ha,ex_mk]
    try simp only[impB,impN]
    repeat' first|exact ck|with_reducible apply And.intro|intro _
    all_goals first|exact hc1|exact⟨hc1,ha1⟩|(rename_i h;first|exact oI h|exact nah h)|(rename_i _ h _ g;exact sL h g)|decide|omega|(refine ret_with [] ?_;simp only[↓eB,seval,go_sem,bne,yr_fEval,yb_fEval,yv_fEval,yz_fEval,e_RESLP,xt,↓e_fac4,h,ha])
   |no j=>
    have h:evF q.P q.m q.vs (.mk 7 n1 x a b)= .no j:=by simp only[evF,ha];rfl
    simp only[↓eB,seval,go_sem,xt,↓e_fac4,Option.isSome_some,Option.isSome_none,yp_fVal,yF_fVal,yN_fVal,yr_fVal,yF_fEval,yN_fEval,yr_fEval,yb_fEval,yv_fEval,yz_fEval,h,ha,ex_mk]
    try simp only[impB,impN]
    repeat' first|exact ck|with_reducible apply And.intro|intro _
    all_goals first|exact hc1|exact⟨hc1,ha1⟩|(rename_i h;first|exact oI h|exact nah h)|(rename_i _ h _ g;exact sL h g)|decide|omega|(refine ret_with [] ?_;simp only[↓eB,seval,go_sem,bne,yr_fEval,yb_fEval,yv_fEval,yz_fEval,e_RESLP,xt,↓e_fac4,h,ha])
  have hh:evF q.P q.m q.vs (.mk k n1 x a b)=(match evF q.P q.m q.vs a with
    | .no j=>.no j
    | .ok x=>match evF q.P q.m q.vs b with
     | .no j=>.no j
     | .ok y=>if (k=5∨k=6)∧y=0 then .no 0 else .ok (arF k x y)):=by
   simp only[evF];rw[if_neg c0,if_neg c1,if_neg c7];rfl
  have d0:(k==0)=false:=by simpa using c0
  have d1:(k==1)=false:=by simpa using c1
  have d7:(k==7)=false:=by simpa using c7
  cases ha:evF q.P q.m q.vs a with
  |no j=>
   have h:evF q.P q.m q.vs (.mk k n1 x a b)= .no j:=by rw[hh,ha]
   simp only[↓eB,seval,go_sem,xt,↓e_fac4,Option.isSome_some,Option.isSome_none,yp_fVal,yF_fVal,yN_fVal,yr_fVal,yF_fEval,yN_fEval,yr_fEval,yb_fEval,yv_fEval,yz_fEval,h,ha,ex_mk,d0,d1,d7]
   try simp only[impB,impN]
   repeat' first|exact ck|with_reducible apply And.intro|intro _
   all_goals first|exact hc1|exact⟨hc1,ha1⟩|(rename_i h;first|exact oI h|exact nah h)|(rename_i _ h _ g;exact sL h g)|decide|omega|(refine ret_with [] ?_;simp only[↓eB,seval,go_sem,bne,yr_fEval,yb_fEval,yv_fEval,yz_fEval,e_RESLP,xt,↓e_fac4,h,ha])
  |ok u=>
  cases hb:evF q.P q.m q.vs b with
  |no j=>
   have h:evF q.P q.m q.vs (.mk k n1 x a b)= .no j:=by rw[hh,ha,hb]
   simp only[↓eB,seval,go_sem,xt,↓e_fac4,Option.isSome_some,Option.isSome_none,yp_fVal,yF_fVal,yN_fVal,yr_fVal,yF_fEval,yN_fEval,yr_fEval,yb_fEval,yv_fEval,yz_fEval,h,ha,hb,ex_mk,d0,d1,d7]
   try simp only[impB,impN]
   repeat' first|exact ck|with_reducible apply And.intro|intro _
   all_goals first|exact hc1|exact⟨hc1,ha1⟩|exact⟨hc1,hb1⟩|(rename_i h;first|exact oI h|exact nah h)|(rename_i _ h _ g;exact sL h g)|decide|omega|(refine ret_with [] ?_;simp only[↓eB,seval,go_sem,bne,yr_fEval,yb_fEval,yv_fEval,yz_fEval,e_RESLP,xt,↓e_fac4,h,ha,hb])
  |ok v=>
  by_cases c5:k=5
  ·subst c5
   cases cy:(v==0) with
   |true=>
    obtain rfl:v=0:=eq_of_beq cy
    have h:evF q.P q.m q.vs (.mk 5 n1 x a b)= .no 0:=by rw[hh,ha,hb];simp
    simp only[↓eB,seval,go_sem,xt,↓e_fac4,Option.isSome_some,Option.isSome_none,yp_fVal,yF_fVal,yN_fVal,yr_fVal,yF_fEval,yN_fEval,yr_fEval,yb_fEval,yv_fEval,yz_fEval,h,ha,hb,ex_mk]
    try simp only[impB,impN]
    repeat' first|exact ck|with_reducible apply And.intro|intro _
    all_goals first|exact hc1|exact⟨hc1,ha1⟩|exact⟨hc1,hb1⟩|(rename_i h;first|exact oI h|exact nah h)|(rename_i _ h _ g;exact sL h g)|decide|omega|(refine ret_with [] ?_;simp only[↓eB,seval,go_sem,bne,yr_fEval,yb_fEval,yv_fEval,yz_fEval,e_RESLP,xt,↓e_fac4,h,ha,hb])
   |false=>
    have hv0:v≠0:=by simpa using cy
    have h:evF q.P q.m q.vs (.mk 5 n1 x a b)= .ok (w64i (u.tdiv v)):=by rw[hh,ha,hb];simp[hv0,arF]
    simp only[↓eB,seval,go_sem,xt,↓e_fac4,Option.isSome_some,Option.isSome_none,yp_fVal,yF_fVal,yN_fVal,yr_fVal,yF_fEval,yN_fEval,yr_fEval,yb_fEval,yv_fEval,yz_fEval,h,ha,hb,ex_mk,cy]
    try simp only[impB,impN]
    repeat' first|exact ck|with_reducible apply And.intro|intro _
    all_goals first|exact hc1|exact⟨hc1,ha1⟩|exact⟨hc1,hb1⟩|exact hv0|(rename_i h;first|exact oI h|exact nah h)|(rename_i _ h _ g;exact sL h g)|decide|omega|(refine ret_with [] ?_;simp only[↓eB,seval,go_sem,bne,yr_fEval,yb_fEval,yv_fEval,yz_fEval,e_RESLP,xt,↓e_fac4,h,ha,hb])
  by_cases c6:k=6
  ·subst c6
   cases cy:(v==0) with
   |true=>
    obtain rfl:v=0:=eq_of_beq cy
    have h:evF q.P q.m q.vs (.mk 6 n1 x a b)= .no 0:=by rw[hh,ha,hb];simp
    simp only[↓eB,seval,go_sem,xt,↓e_fac4,Option.isSome_some,Option.isSome_none,yp_fVal,yF_fVal,yN_fVal,yr_fVal,yF_fEval,yN_fEval,yr_fEval,yb_fEval,yv_fEval,yz_fEval,h,ha,hb,ex_mk]
    try simp only[impB,impN]
    repeat' first|exact ck|with_reducible apply And.intro|intro _
    all_goals first|exact hc1|exact⟨hc1,ha1⟩|exact⟨hc1,hb1⟩|(rename_i h;first|exact oI h|exact nah h)|(rename_i _ h _ g;exact sL h g)|decide|omega|(refine ret_with [] ?_;simp only[↓eB,seval,go_sem,bne,yr_fEval,yb_fEval,yv_fEval,yz_fEval,e_RESLP,xt,↓e_fac4,h,ha,hb])
   |false=>
    have hv0:v≠0:=by simpa using cy
    have h:evF q.P q.m q.vs (.mk 6 n1 x a b)= .ok (u.tmod v):=by rw[hh,ha,hb];simp[hv0,arF]
    simp only[↓eB,seval,go_sem,xt,↓e_fac4,Option.isSome_some,Option.isSome_none,yp_fVal,yF_fVal,yN_fVal,yr_fVal,yF_fEval,yN_fEval,yr_fEval,yb_fEval,yv_fEval,yz_fEval,h,ha,hb,ex_mk,cy]
    try simp only[impB,impN]
    repeat' first|exact ck|with_reducible apply And.intro|intro _
    all_goals first|exact hc1|exact⟨hc1,ha1⟩|exact⟨hc1,hb1⟩|exact hv0|(rename_i h;first|exact oI h|exact nah h)|(rename_i _ h _ g;exact sL h g)|decide|omega|(refine ret_with [] ?_;simp only[↓eB,seval,go_sem,bne,yr_fEval,yb_fEval,yv_fEval,yz_fEval,e_RESLP,xt,↓e_fac4,h,ha,hb])
  by_cases c2:k=2
  ·subst c2
   have h:evF q.P q.m q.vs (.mk 2 n1 x a b)= .ok (w64i (u+v)):=by rw[hh,ha,hb];rfl
   simp only[↓eB,seval,go_sem,xt,↓e_fac4,Option.isSome_some,Option.isSome_none,yp_fVal,yF_fVal,yN_fVal,yr_fVal,yF_fEval,yN_fEval,yr_fEval,yb_fEval,yv_fEval,yz_fEval,h,ha,hb,ex_mk]
   try simp only[impB,impN]
   repeat' first|exact ck|with_reducible apply And.intro|intro _
   all_goals first|exact hc1|exact⟨hc1,ha1⟩|exact⟨hc1,hb1⟩|(rename_i h;first|exact oI h|exact nah h)|(rename_i _ h _ g;exact sL h g)|decide|omega|(refine ret_with [] ?_;simp only[↓eB,seval,go_sem,bne,yr_fEval,yb_fEval,yv_fEval,yz_fEval,e_RESLP,xt,↓e_fac4,h,ha,hb])
  by_cases c3:k=3
  ·subst c3
   have h:evF q.P q.m q.vs (.mk 3 n1 x a b)= .ok (w64i (u-v)):=by rw[hh,ha,hb];rfl
   simp only[↓eB,seval,go_sem,xt,↓e_fac4,Option.isSome_some,Option.isSome_none,yp_fVal,yF_fVal,yN_fVal,yr_fVal,yF_fEval,yN_fEval,yr_fEval,yb_fEval,yv_fEval,yz_fEval,h,ha,hb,ex_mk]
   try simp only[impB,impN]
   repeat' first|exact ck|with_reducible apply And.intro|intro _
   all_goals first|exact hc1|exact⟨hc1,ha1⟩|exact⟨hc1,hb1⟩|(rename_i h;first|exact oI h|exact nah h)|(rename_i _ h _ g;exact sL h g)|decide|omega|(refine ret_with [] ?_;simp only[↓eB,seval,go_sem,bne,yr_fEval,yb_fEval,yv_fEval,yz_fEval,e_RESLP,xt,↓e_fac4,h,ha,hb])
  by_cases c4:k=4
  ·subst c4
   have h:evF q.P q.m q.vs (.mk 4 n1 x a b)= .ok (w64i (u*v)):=by rw[hh,ha,hb];rfl
   simp only[↓eB,seval,go_sem,xt,↓e_fac4,Option.isSome_some,Option.isSome_none,yp_fVal,yF_fVal,yN_fVal,yr_fVal,yF_fEval,yN_fEval,yr_fEval,yb_fEval,yv_fEval,yz_fEval,h,ha,hb,ex_mk]
   try simp only[impB,impN]
   repeat' first|exact ck|with_reducible apply And.intro|intro _
   all_goals first|exact hc1|exact⟨hc1,ha1⟩|exact⟨hc1,hb1⟩|(rename_i h;first|exact oI h|exact nah h)|(rename_i _ h _ g;exact sL h g)|decide|omega|(refine ret_with [] ?_;simp only[↓eB,seval,go_sem,bne,yr_fEval,yb_fEval,yv_fEval,yz_fEval,e_RESLP,xt,↓e_fac4,h,ha,hb])
  have d2:(k==2)=false:=by simpa using c2
  have d3:(k==3)=false:=by simpa using c3
  have d4:(k==4)=false:=by simpa using c4
  have d5:(k==5)=false:=by simpa using c5
  have d6:(k==6)=false:=by simpa using c6
  have h:evF q.P q.m q.vs (.mk k n1 x a b)= .ok 0:=by
   rw[hh,ha,hb]
   simp[c5,c6,arF,c2,c3,c4]
  simp only[↓eB,seval,go_sem,xt,↓e_fac4,Option.isSome_some,Option.isSome_none,yp_fVal,yF_fVal,yN_fVal,yr_fVal,yF_fEval,yN_fEval,yr_fEval,yb_fEval,yv_fEval,yz_fEval,h,ha,hb,ex_mk,d0,d1,d2,d3,d4,d5,d6,d7]
  try simp only[impB,impN]
  repeat' first|exact ck|with_reducible apply And.intro|intro _
  all_goals first|exact hc1|exact⟨hc1,ha1⟩|exact⟨hc1,hb1⟩|(rename_i h;first|exact oI h|exact nah h)|(rename_i _ h _ g;exact sL h g)|decide|omega|(refine ret_with [] ?_;simp only[↓eB,seval,go_sem,bne,yr_fEval,yb_fEval,yv_fEval,yz_fEval,e_RESLP,xt,↓e_fac4,h,ha,hb])
theorem y_fEval:∀n,yq_fEval n
 |0=>fun p w M I lab fz xs hc=>absurd hc.2 (Nat.not_lt_zero _)
 |n+1=>y_fEvalS n (y_fEval n)
end Go.Proofs.Ytjnnmindcbgjhab
