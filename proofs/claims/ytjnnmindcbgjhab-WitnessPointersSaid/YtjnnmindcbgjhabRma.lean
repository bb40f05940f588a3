/- Loops, walked. No conditions but those in each statement. -/
import Derived.Test.YtjnnmindcbgjhabRm9
set_option linter.unusedVariables false
set_option linter.unusedSimpArgs false
namespace Go.Proofs.Ytjnnmindcbgjhab
open Go Go.Sy Go.RowKit
theorem lp_out {bl:Fa→Ro} {s:Sm} {k:Nat} {q:Fa} (h:q.m.out=true):lpF bl s (k+1) q=⟨true,false,{ q with m:=q.m.exh }⟩:=by simp only[lpF];rw[if_pos h]
theorem lp_in {bl:Fa→Ro} {s:Sm} {k:Nat} {q:Fa} (h:q.m.out=false):lpF bl s (k+1) q=(match cdF q.P q.m.spd q.vs s.cd with
  | .no j=>Fa.brk { q with m:=q.m.spd } s j
  | .ok false=>Fa.go { q with m:=q.m.spd }
  | .ok true=>
   let r:=bl { q with m:=q.m.spd }
   if r.b=true∨r.t=true then r else lpF bl s k r.q):=by simp only[lpF];rw[if_neg (by rw[h];decide)];rfl
theorem okC_spd {P:Pg} {m:Ms} (h:okC P m):okC P m.spd:=⟨h.c,h.a,h.n,h.k⟩
abbrev yc_fLoop (N:Nat) (n:Nat) (q:Fa) (s:Sm):Prop:=okT N s∧okMs N (n+1) q∧n+1≤1000000000
abbrev yb_fLoop (N:Nat) (n:Nat) (q:Fa) (s:Sm):Bool:=(lpF (blF (stF n) s.th) s (n+1) q).b
abbrev yv_fLoop (N:Nat) (n:Nat) (q:Fa) (s:Sm):Fa:=(lpF (blF (stF n) s.th) s (n+1) q).q
abbrev yz_fLoop (N:Nat) (n:Nat) (q:Fa) (s:Sm):Fa:=(lpF (blF (stF n) s.th) s (n+1) q).q
abbrev yr_fLoop (N:Nat) (n:Nat) (q:Fa) (s:Sm):SV:=.one (.v (.bool (lpF (blF (stF n) s.th) s (n+1) q).t))
theorem yt_fLoop:∀b,∀v∈ArgC.e (acS (cSp) ac0) b,v.tupB=false:=by rintro ⟨x0,_⟩ v hv;simp only[acS_e,ac0_e,List.mem_cons,List.not_mem_nil,or_false]at hv;subst hv<;>first|rfl|exact ex_tup _|exact cd_tup _
noncomputable abbrev ya_fLoop:ArgL (Fa×(Sm)×Unit):=amFr (acS (cSp) ac0) yt_fLoop
abbrev yq_fLoop (N:Nat) (n:Nat):Prop:=CallsL Try.prog 66 (ya_fLoop).args (ya_fLoop).mem (fun p:(Fa×(Sm)×Unit)=>yc_fLoop N n p.1 p.2.1) (fun p:(Fa×(Sm)×Unit)=>yb_fLoop N n p.1 p.2.1) (fun p:(Fa×(Sm)×Unit)=>yr_fLoop N n p.1 p.2.1) (fun p:(Fa×(Sm)×Unit)=>Fa.memO (yv_fLoop N n p.1 p.2.1)) (fun p:(Fa×(Sm)×Unit)=>mlO (Fa.pan (yz_fLoop N n p.1 p.2.1)))
theorem yl_fLoop (N:Nat) (n:Nat):∀p,(fun p:(Fa×(Sm)×Unit)=>yc_fLoop N n p.1 p.2.1) p→(fun p:(Fa×(Sm)×Unit)=>yb_fLoop N n p.1 p.2.1) p=false→lenL ((ya_fLoop).mem p).length ((fun p:(Fa×(Sm)×Unit)=>Fa.memO (yv_fLoop N n p.1 p.2.1)) p)=true∧kdL ((ya_fLoop).mem p) ((fun p:(Fa×(Sm)×Unit)=>Fa.memO (yv_fLoop N n p.1 p.2.1)) p)=true∧outQ ((fun p:(Fa×(Sm)×Unit)=>Fa.memO (yv_fLoop N n p.1 p.2.1)) p) ((fun p:(Fa×(Sm)×Unit)=>yr_fLoop N n p.1 p.2.1) p)∧∀q,some q∈(fun p:(Fa×(Sm)×Unit)=>Fa.memO (yv_fLoop N n p.1 p.2.1)) p→okML ((fun p:(Fa×(Sm)×Unit)=>Fa.memO (yv_fLoop N n p.1 p.2.1)) p).length q:=fun p _ _=>have h:=fa_out p.1 (yv_fLoop N n p.1 p.2.1);⟨h.1,h.2.1,rfl,h.2.2⟩
theorem yw_fLoop (N:Nat) (n:Nat):∀p,(fun p:(Fa×(Sm)×Unit)=>yc_fLoop N n p.1 p.2.1) p→(fun p:(Fa×(Sm)×Unit)=>yb_fLoop N n p.1 p.2.1) p=true→((fun p:(Fa×(Sm)×Unit)=>mlO (Fa.pan (yz_fLoop N n p.1 p.2.1))) p).length=((ya_fLoop).mem p).length∧kdL ((ya_fLoop).mem p) ((fun p:(Fa×(Sm)×Unit)=>mlO (Fa.pan (yz_fLoop N n p.1 p.2.1))) p)=true∧∀q,some q∈(fun p:(Fa×(Sm)×Unit)=>mlO (Fa.pan (yz_fLoop N n p.1 p.2.1))) p→okML ((fun p:(Fa×(Sm)×Unit)=>mlO (Fa.pan (yz_fLoop N n p.1 p.2.1))) p).length q:=fun p _ _=>fa_pan p.1 (yz_fLoop N n p.1 p.2.1)
theorem yd_fLoop (N:Nat) (n:Nat):∀p,(fun p:(Fa×(Sm)×Unit)=>yc_fLoop N n p.1 p.2.1) p→(fun p:(Fa×(Sm)×Unit)=>yb_fLoop N n p.1 p.2.1) p=true→lenL ((ya_fLoop).mem p).length ((fun p:(Fa×(Sm)×Unit)=>Fa.memO (yv_fLoop N n p.1 p.2.1)) p)=true∧outQ ((fun p:(Fa×(Sm)×Unit)=>Fa.memO (yv_fLoop N n p.1 p.2.1)) p) ((fun p:(Fa×(Sm)×Unit)=>yr_fLoop N n p.1 p.2.1) p):=fun p _ _=>⟨(fa_out p.1 (yv_fLoop N n p.1 p.2.1)).1,rfl⟩
noncomputable def yg_fLoop {X:Ctx} {w0:World} (N:Nat) (n:Nat) (h:yq_fLoop N n):Sy.Spec Try.prog X w0:=specL' 66 Try.call66 (ya_fLoop) (fun p:(Fa×(Sm)×Unit)=>yc_fLoop N n p.1 p.2.1) (fun p:(Fa×(Sm)×Unit)=>yb_fLoop N n p.1 p.2.1) (fun p:(Fa×(Sm)×Unit)=>yr_fLoop N n p.1 p.2.1) (fun p:(Fa×(Sm)×Unit)=>Fa.memO (yv_fLoop N n p.1 p.2.1)) (fun p:(Fa×(Sm)×Unit)=>mlO (Fa.pan (yz_fLoop N n p.1 p.2.1))) (yl_fLoop N n) (yw_fLoop N n) (yd_fLoop N n) (fun _=>rfl) h
theorem yF_fLoop {X:Ctx} {w0:World} (N:Nat) (n:Nat) (h:yq_fLoop N n):(yg_fLoop (X:=X) (w0:=w0) N n h).f=66:=rfl
theorem yN_fLoop {X:Ctx} {w0:World} (N:Nat) (n:Nat) (h:yq_fLoop N n) (t:Nat) (args:List SV) (H:Hp):(yg_fLoop (X:=X) (w0:=w0) N n h).fn t args H=spL X ((ya_fLoop).d H args) t H (fun p:(Fa×(Sm)×Unit)=>yc_fLoop N n p.1 p.2.1) (fun p:(Fa×(Sm)×Unit)=>yb_fLoop N n p.1 p.2.1) (fun p:(Fa×(Sm)×Unit)=>yr_fLoop N n p.1 p.2.1) (fun p:(Fa×(Sm)×Unit)=>Fa.memO (yv_fLoop N n p.1 p.2.1)) (fun p:(Fa×(Sm)×Unit)=>mlO (Fa.pan (yz_fLoop N n p.1 p.2.1))):=rfl
attribute [local go_sem] Fa.mem Fa.memO Fa.pan ML.ch ML.ren Sm.ar Sm.cd Sm.e Sm.el Sm.f Sm.k Sm.no Sm.th Sm.x Sm.y amFr_a amFr_d amFr_m bumpL cCd_d cCd_e cCd_n cEx_d cEx_e cEx_n cSp_d cSp_e cSs_d cSs_e chL faD_p faJ_some faK_some fa_eta fcN flN_vs frC frD_v frJ_eq lmH lmO mMc_d' mMc_e mMc_z mcC mcD_v mcR_d mcW mlO_nil mlO_none mlO_some ms_eta nmX pairN_o pairO_n pg_eta pnL_nil pnL_none pnL_some pnOL_f pnOL_t pnOf_f pnOf_t renQ renQC rnC sm_r spFn_n spL_some specL'_f specL'_fn updL updX vrQ vsD_v vs_ren wkR_me
set_option maxRecDepth 20000 in set_option maxHeartbeats 32000000 in
theorem y_fLoop (N:Nat) (n:Nat) (hu:yq_fBlock N n):yq_fLoop N n:=by
 rintro ⟨q,s,_u⟩ w M I lab fz xs hc hA hl hx
 refine calls_toLM Try.func66 rfl (Fa.mem q) w M I lab fz (yb_fLoop N n q s) (Fa.pan (yz_fLoop N n q s)) (Fa.memO (yv_fLoop N n q s)) [yp_mSpd,(yg_fCond N false (y_fCond N false)),(yg_fBlock N n hu)] [] ((ya_fLoop).args ⟨q,s,_u⟩) (yr_fLoop N n q s) xs hA hl hx (amFr_nm _ _ _ _) (Nat.le_of_ble_eq_true rfl) (Nat.le_refl _) rfl (fa_pnm _) ?_
 clear hx hl hA xs
 simp only[Try.f66]
 obtain⟨hT,hM,hn⟩:=hc
 dsimp only at hT hM hn
 obtain⟨G,hG⟩:∃G,(lpF (blF (stF n) s.th) s (n+1) q)=G:=⟨_,rfl⟩
 have hcd:s.cd.dp<N:=hT.k.c
 obtain⟨mt,hth⟩:=hT.t
 obtain⟨k0,x0,y0,e0,f0,cd0,ar0,th0,el0,no0⟩:=s
 dsimp only[Sm.cd,Sm.th]at hcd hth hG
 simp only[↓eB,seval,go_sem,xt,↓e_fac4,mp_ci,mp_ai,mp_fi,mp_vs,Va.c,Option.isSome_some,Option.isSome_none,Ev.b,Ev.vl,evA,evW,va0,yp_mSpd,yb_mSpd,yv_mSpd,yF_fCond,yN_fCond,yr_fCond,yb_fCond,yv_fCond,yz_fCond,yF_fBlock,yN_fBlock,yr_fBlock,yb_fBlock,yv_fBlock,yz_fBlock,yb_fLoop,yv_fLoop,yz_fLoop,hG]
 refine loop_ok (Y:=Nat×Fa) (fun z=>okMs N (n+1) z.2∧z.2.m.fuel<z.1∧lpF (blF (stF n) th0) (.mk k0 x0 y0 e0 f0 cd0 ar0 th0 el0 no0) z.1 z.2=G)
  (fun z=>⟨[(0,true,.one (.p 0 0 0)),(1,true,.one (.dp [.v (.int .i64 k0),.v (.string (bs x0)),.v (.string (bs y0)),e0.d,f0.d,cd0.d,.sl zAr (ar0.map Ar.r),.sl zSm (th0.map Sm.r),.sl zSm (el0.map Sm.r),.v (.int .i64 no0)]))],[(0,.vec 0 zFr [frC z.2]),(1,.vec 0 zMc [mcC z.2.P z.2.m]),(2,.mp true (vsC z.2.vs))]⟩)
  (fun z=>z.1) (n+1,q) ⟨hM,hM.u,hG⟩ ?_ ?_
 ·refine to_with [] ?_;simp only[↓eB,seval,go_sem,xt,↓e_fac4]
 ·rintro ⟨k,r⟩ ⟨hr,hk,hJ⟩
  dsimp only at hr hk hJ
  refine vc_ok [yp_mSpd,yg_fCond N false (y_fCond N false),yg_fBlock N n hu] [] _ _ _ ?_
  obtain⟨j,rfl⟩:∃j,k=j+1:=⟨k-1,by have:=hr.l;omega⟩
  cases ho:r.m.out with
  |true=>
   rw[lp_out ho]at hJ
   subst hJ
   simp only[↓eB,seval,go_sem,xt,↓e_fac4,mp_ci,mp_ai,mp_fi,mp_vs,Va.c,Option.isSome_some,Option.isSome_none,Ev.b,Ev.vl,evA,evW,va0,yp_mSpd,yb_mSpd,yv_mSpd,yF_fCond,yN_fCond,yr_fCond,yb_fCond,yv_fCond,yz_fCond,yF_fBlock,yN_fBlock,yr_fBlock,yb_fBlock,yv_fBlock,yz_fBlock,yb_fLoop,yv_fLoop,yz_fLoop,ho,hG]
   try simp only[impB,impN]
   repeat' first|exact ck|with_reducible apply And.intro|intro _
   all_goals first|exact trivial|(rename_i h;first|exact oI h|exact nah h)|(rename_i _ h _ g;exact sL h g)|decide|omega|(refine ret_with [] ?_;simp only[↓eB,seval,go_sem,bne,yr_fLoop,yb_fLoop,yv_fLoop,yz_fLoop,e_RESLP,xt,↓e_fac4,Ev.b,Ev.vl,evA,evW,va0,yp_mSpd,yb_mSpd,yv_mSpd,yF_fCond,yN_fCond,yr_fCond,yb_fCond,yv_fCond,yz_fCond,yF_fBlock,yN_fBlock,yr_fBlock,yb_fBlock,yv_fBlock,yz_fBlock,hG,ho])
  |false=>
   rw[lp_in ho]at hJ
   have ks:=kq_spd ho hr.l (by have:=hr.u;omega)
   have ka:=kspd ho hr.l (by have:=hr.u;omega)
   have hc2:=okC_spd hr.c
   have hcs:okC r.P r.m.spd:=hc2
   have hMs:okMs N n { r with m:=r.m.spd }:=hr.kq ks (by show r.m.spd.fuel<_;have:=hr.u;omega)
   cases hcv:cdF r.P r.m.spd r.vs cd0 with
   |no e=>
    have hJ':Fa.brk { r with m:=r.m.spd } (.mk k0 x0 y0 e0 f0 cd0 ar0 th0 el0 no0) e=G:=by rw[← hJ];show _=(match cdF r.P r.m.spd r.vs cd0 with| .no j=>_| .ok false=>_| .ok true=>_);rw[hcv]
    subst hJ'
    simp only[↓eB,seval,go_sem,xt,↓e_fac4,mp_ci,mp_ai,mp_fi,mp_vs,Va.c,Option.isSome_some,Option.isSome_none,Ev.b,Ev.vl,evA,evW,va0,yp_mSpd,yb_mSpd,yv_mSpd,yF_fCond,yN_fCond,yr_fCond,yb_fCond,yv_fCond,yz_fCond,yF_fBlock,yN_fBlock,yr_fBlock,yb_fBlock,yv_fBlock,yz_fBlock,yb_fLoop,yv_fLoop,yz_fLoop,ho,hcv,hG,Fa.brk]
    try simp only[impB,impN]
    repeat' first|exact ck|with_reducible apply And.intro|intro _
    all_goals first|exact⟨hcs,hcd⟩|(rename_i h;first|exact oI h|exact nah h)|(rename_i _ h _ g;exact sL h g)|decide|omega|(refine ret_with [] ?_;simp only[↓eB,seval,go_sem,bne,yr_fLoop,yb_fLoop,yv_fLoop,yz_fLoop,e_RESLP,xt,↓e_fac4,Ev.b,Ev.vl,evA,evW,va0,yp_mSpd,yb_mSpd,yv_mSpd,yF_fCond,yN_fCond,yr_fCond,yb_fCond,yv_fCond,yz_fCond,yF_fBlock,yN_fBlock,yr_fBlock,yb_fBlock,yv_fBlock,yz_fBlock,hG,ho,Fa.brk])
   |ok v=>
   cases v with
   |false=>
    have hJ':Fa.go { r with m:=r.m.spd }=G:=by rw[← hJ];show _=(match cdF r.P r.m.spd r.vs cd0 with| .no j=>_| .ok false=>_| .ok true=>_);rw[hcv]
    subst hJ'
    simp only[↓eB,seval,go_sem,xt,↓e_fac4,mp_ci,mp_ai,mp_fi,mp_vs,Va.c,Option.isSome_some,Option.isSome_none,Ev.b,Ev.vl,evA,evW,va0,yp_mSpd,yb_mSpd,yv_mSpd,yF_fCond,yN_fCond,yr_fCond,yb_fCond,yv_fCond,yz_fCond,yF_fBlock,yN_fBlock,yr_fBlock,yb_fBlock,yv_fBlock,yz_fBlock,yb_fLoop,yv_fLoop,yz_fLoop,ho,hcv,hG,Fa.go]
    try simp only[impB,impN]
    repeat' first|exact ck|with_reducible apply And.intro|intro _
    all_goals first|exact⟨hcs,hcd⟩|(rename_i h;first|exact oI h|exact nah h)|(rename_i _ h _ g;exact sL h g)|decide|omega|(refine ret_with [] ?_;simp only[↓eB,seval,go_sem,bne,yr_fLoop,yb_fLoop,yv_fLoop,yz_fLoop,e_RESLP,xt,↓e_fac4,Ev.b,Ev.vl,evA,evW,va0,yp_mSpd,yb_mSpd,yv_mSpd,yF_fCond,yN_fCond,yr_fCond,yb_fCond,yv_fCond,yz_fCond,yF_fBlock,yN_fBlock,yr_fBlock,yb_fBlock,yv_fBlock,yz_fBlock,hG,ho,Fa.go])
   |true=>
    obtain⟨T,hT2⟩:∃T,blF (stF n) th0 { r with m:=r.m.spd }=T:=⟨_,rfl⟩
    have hJ':(if T.b=true∨T.t=true then T else lpF (blF (stF n) th0) (.mk k0 x0 y0 e0 f0 cd0 ar0 th0 el0 no0) j T.q)=G:=by
     rw[← hT2,← hJ];show _=(match cdF r.P r.m.spd r.vs cd0 with| .no j=>_| .ok false=>_| .ok true=>_);rw[hcv]
    have kb:=kq_bl (kq_st n) th0 { r with m:=r.m.spd } hMs.l (by have:=hMs.u;omega)
    rw[hT2]at kb
    obtain⟨b,t,r'⟩:=T
    cases b with
    |true=>
     have hJ2:(⟨true,t,r'⟩:Ro)=G:=by simpa using hJ'
     subst hJ2
     simp only[↓eB,seval,go_sem,xt,↓e_fac4,mp_ci,mp_ai,mp_fi,mp_vs,Va.c,Option.isSome_some,Option.isSome_none,Ev.b,Ev.vl,evA,evW,va0,yp_mSpd,yb_mSpd,yv_mSpd,yF_fCond,yN_fCond,yr_fCond,yb_fCond,yv_fCond,yz_fCond,yF_fBlock,yN_fBlock,yr_fBlock,yb_fBlock,yv_fBlock,yz_fBlock,yb_fLoop,yv_fLoop,yz_fLoop,ho,hcv,hG,hT2]
     try simp only[impB,impN]
     repeat' first|exact ck|with_reducible apply And.intro|intro _
     all_goals first|exact⟨hcs,hcd⟩|exact⟨⟨mt,hth⟩,hMs,by omega⟩|exact⟨mt,hth⟩|exact hMs|exact hcs|exact hcd|(rename_i h;first|exact oI h|exact nah h)|(rename_i _ h _ g;exact sL h g)|decide|omega|(refine ret_with [] ?_;simp only[↓eB,seval,go_sem,bne,yr_fLoop,yb_fLoop,yv_fLoop,yz_fLoop,e_RESLP,xt,↓e_fac4,Ev.b,Ev.vl,evA,evW,va0,yp_mSpd,yb_mSpd,yv_mSpd,yF_fCond,yN_fCond,yr_fCond,yb_fCond,yv_fCond,yz_fCond,yF_fBlock,yN_fBlock,yr_fBlock,yb_fBlock,yv_fBlock,yz_fBlock,hG,ho,hT2])
    |false=>
    cases t with
    |true=>
     have hJ2:(⟨false,true,r'⟩:Ro)=G:=by simpa using hJ'
     subst hJ2
     simp only[↓eB,seval,go_sem,xt,↓e_fac4,mp_ci,mp_ai,mp_fi,mp_vs,Va.c,Option.isSome_some,Option.isSome_none,Ev.b,Ev.vl,evA,evW,va0,yp_mSpd,yb_mSpd,yv_mSpd,yF_fCond,yN_fCond,yr_fCond,yb_fCond,yv_fCond,yz_fCond,yF_fBlock,yN_fBlock,yr_fBlock,yb_fBlock,yv_fBlock,yz_fBlock,yb_fLoop,yv_fLoop,yz_fLoop,ho,hcv,hG,hT2]
     try simp only[impB,impN]
     repeat' first|exact ck|with_reducible apply And.intro|intro _
     all_goals first|exact⟨hcs,hcd⟩|exact⟨⟨mt,hth⟩,hMs,by omega⟩|exact⟨mt,hth⟩|exact hMs|exact hcs|exact hcd|(rename_i h;first|exact oI h|exact nah h)|(rename_i _ h _ g;exact sL h g)|decide|omega|(refine ret_with [] ?_;simp only[↓eB,seval,go_sem,bne,yr_fLoop,yb_fLoop,yv_fLoop,yz_fLoop,e_RESLP,xt,↓e_fac4,Ev.b,Ev.vl,evA,evW,va0,yp_mSpd,yb_mSpd,yv_mSpd,yF_fCond,yN_fCond,yr_fCond,yb_fCond,yv_fCond,yz_fCond,yF_fBlock,yN_fBlock,yr_fBlock,yb_fBlock,yv_fBlock,yz_fBlock,hG,ho,hT2])
    |false=>
     have hJ2:lpF (blF (stF n) th0) (.mk k0 x0 y0 e0 f0 cd0 ar0 th0 el0 no0) j r'=G:=by simpa using hJ'
     simp only[↓eB,seval,go_sem,xt,↓e_fac4,mp_ci,mp_ai,mp_fi,mp_vs,Va.c,Option.isSome_some,Option.isSome_none,Ev.b,Ev.vl,evA,evW,va0,yp_mSpd,yb_mSpd,yv_mSpd,yF_fCond,yN_fCond,yr_fCond,yb_fCond,yv_fCond,yz_fCond,yF_fBlock,yN_fBlock,yr_fBlock,yb_fBlock,yv_fBlock,yz_fBlock,yb_fLoop,yv_fLoop,yz_fLoop,ho,hcv,hG,hT2]
     try simp only[impB,impN]
     repeat' first|exact ck|with_reducible apply And.intro|intro _
     all_goals try first|exact⟨hcs,hcd⟩|exact⟨⟨mt,hth⟩,hMs,by omega⟩|exact⟨mt,hth⟩|exact hMs|exact hcs|exact hcd|(rename_i h;first|exact oI h|exact nah h)|(rename_i _ h _ g;exact sL h g)|decide|omega
     have hf:r'.m.fuel≤r.m.spd.fuel:=kb.u
     refine⟨(j,r'),⟨hMs.kq kb (by show r'.m.fuel<_;have h7:r.m.spd.fuel<n:=hMs.u;omega),by dsimp only;omega,hJ2⟩,Nat.lt_succ_self _,to_with [] ?_⟩
     simp only[↓eB,seval,go_sem,xt,↓e_fac4]
end Go.Proofs.Ytjnnmindcbgjhab
