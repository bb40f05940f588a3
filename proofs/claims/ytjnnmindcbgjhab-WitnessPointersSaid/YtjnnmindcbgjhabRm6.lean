/- A frame's conditions, walked. No conditions but those in each statement. -/
import Derived.Test.YtjnnmindcbgjhabRm5
set_option linter.unusedVariables false
set_option linter.unusedSimpArgs false
namespace Go.Proofs.Ytjnnmindcbgjhab
open Go Go.Sy Go.RowKit
def kb:Cd→Bool
 | .nil=>false
 | .mk k _ _ _ _ _=>k==7
theorem kb_mk (k:Int) (a b:Ex) (p q:Cd) (s:List UInt8):kb (.mk k a b p q s)=(k==7):=rfl
theorem kb_nil:kb .nil=false:=rfl
abbrev yc_fCond (n:Nat) (d:Bool) (q:Fa) (s:Sm) (e:Cd):Prop:=okC q.P q.m∧e.dp<n
abbrev yb_fCond (n:Nat) (d:Bool) (q:Fa) (s:Sm) (e:Cd):Bool:=(cdF q.P q.m q.vs e).b
abbrev yv_fCond (n:Nat) (d:Bool) (q:Fa) (s:Sm) (e:Cd):Fa:=evA q s (cdF q.P q.m q.vs e)
abbrev yz_fCond (n:Nat) (d:Bool) (q:Fa) (s:Sm) (e:Cd):Fa:=evW q s (cdF q.P q.m q.vs e)
abbrev yr_fCond (n:Nat) (d:Bool) (q:Fa) (s:Sm) (e:Cd):SV:=.one (.v (.bool ((cdF q.P q.m q.vs e).vl d)))
theorem yt_fCond:∀b,∀v∈ArgC.e (acS (cSp) (acS (cCd) ac0)) b,v.tupB=false:=by rintro ⟨x0,x1,_⟩ v hv;simp only[acS_e,ac0_e,List.mem_cons,List.not_mem_nil,or_false]at hv;rcases hv with rfl|rfl<;>first|rfl|exact ex_tup _|exact cd_tup _
noncomputable abbrev ya_fCond:ArgL (Fa×(Sm)×(Cd)×Unit):=amFr (acS (cSp) (acS (cCd) ac0)) yt_fCond
abbrev yq_fCond (n:Nat) (d:Bool):Prop:=CallsL Try.prog 74 (ya_fCond).args (ya_fCond).mem (fun p:(Fa×(Sm)×(Cd)×Unit)=>yc_fCond n d p.1 p.2.1 p.2.2.1) (fun p:(Fa×(Sm)×(Cd)×Unit)=>yb_fCond n d p.1 p.2.1 p.2.2.1) (fun p:(Fa×(Sm)×(Cd)×Unit)=>yr_fCond n d p.1 p.2.1 p.2.2.1) (fun p:(Fa×(Sm)×(Cd)×Unit)=>Fa.memO (yv_fCond n d p.1 p.2.1 p.2.2.1)) (fun p:(Fa×(Sm)×(Cd)×Unit)=>mlO (Fa.pan (yz_fCond n d p.1 p.2.1 p.2.2.1)))
theorem yl_fCond (n:Nat) (d:Bool):∀p,(fun p:(Fa×(Sm)×(Cd)×Unit)=>yc_fCond n d p.1 p.2.1 p.2.2.1) p→(fun p:(Fa×(Sm)×(Cd)×Unit)=>yb_fCond n d p.1 p.2.1 p.2.2.1) p=false→lenL ((ya_fCond).mem p).length ((fun p:(Fa×(Sm)×(Cd)×Unit)=>Fa.memO (yv_fCond n d p.1 p.2.1 p.2.2.1)) p)=true∧kdL ((ya_fCond).mem p) ((fun p:(Fa×(Sm)×(Cd)×Unit)=>Fa.memO (yv_fCond n d p.1 p.2.1 p.2.2.1)) p)=true∧outQ ((fun p:(Fa×(Sm)×(Cd)×Unit)=>Fa.memO (yv_fCond n d p.1 p.2.1 p.2.2.1)) p) ((fun p:(Fa×(Sm)×(Cd)×Unit)=>yr_fCond n d p.1 p.2.1 p.2.2.1) p)∧∀q,some q∈(fun p:(Fa×(Sm)×(Cd)×Unit)=>Fa.memO (yv_fCond n d p.1 p.2.1 p.2.2.1)) p→okML ((fun p:(Fa×(Sm)×(Cd)×Unit)=>Fa.memO (yv_fCond n d p.1 p.2.1 p.2.2.1)) p).length q:=fun p _ _=>have h:=fa_out p.1 (yv_fCond n d p.1 p.2.1 p.2.2.1);⟨h.1,h.2.1,rfl,h.2.2⟩
theorem yw_fCond (n:Nat) (d:Bool):∀p,(fun p:(Fa×(Sm)×(Cd)×Unit)=>yc_fCond n d p.1 p.2.1 p.2.2.1) p→(fun p:(Fa×(Sm)×(Cd)×Unit)=>yb_fCond n d p.1 p.2.1 p.2.2.1) p=true→((fun p:(Fa×(Sm)×(Cd)×Unit)=>mlO (Fa.pan (yz_fCond n d p.1 p.2.1 p.2.2.1))) p).length=((ya_fCond).mem p).length∧kdL ((ya_fCond).mem p) ((fun p:(Fa×(Sm)×(Cd)×Unit)=>mlO (Fa.pan (yz_fCond n d p.1 p.2.1 p.2.2.1))) p)=true∧∀q,some q∈(fun p:(Fa×(Sm)×(Cd)×Unit)=>mlO (Fa.pan (yz_fCond n d p.1 p.2.1 p.2.2.1))) p→okML ((fun p:(Fa×(Sm)×(Cd)×Unit)=>mlO (Fa.pan (yz_fCond n d p.1 p.2.1 p.2.2.1))) p).length q:=fun p _ _=>fa_pan p.1 (yz_fCond n d p.1 p.2.1 p.2.2.1)
theorem yd_fCond (n:Nat) (d:Bool):∀p,(fun p:(Fa×(Sm)×(Cd)×Unit)=>yc_fCond n d p.1 p.2.1 p.2.2.1) p→(fun p:(Fa×(Sm)×(Cd)×Unit)=>yb_fCond n d p.1 p.2.1 p.2.2.1) p=true→lenL ((ya_fCond).mem p).length ((fun p:(Fa×(Sm)×(Cd)×Unit)=>Fa.memO (yv_fCond n d p.1 p.2.1 p.2.2.1)) p)=true∧outQ ((fun p:(Fa×(Sm)×(Cd)×Unit)=>Fa.memO (yv_fCond n d p.1 p.2.1 p.2.2.1)) p) ((fun p:(Fa×(Sm)×(Cd)×Unit)=>yr_fCond n d p.1 p.2.1 p.2.2.1) p):=fun p _ _=>⟨(fa_out p.1 (yv_fCond n d p.1 p.2.1 p.2.2.1)).1,rfl⟩
noncomputable def yg_fCond {X:Ctx} {w0:World} (n:Nat) (d:Bool) (h:yq_fCond n d):Sy.Spec Try.prog X w0:=specL' 74 Try.call74 (ya_fCond) (fun p:(Fa×(Sm)×(Cd)×Unit)=>yc_fCond n d p.1 p.2.1 p.2.2.1) (fun p:(Fa×(Sm)×(Cd)×Unit)=>yb_fCond n d p.1 p.2.1 p.2.2.1) (fun p:(Fa×(Sm)×(Cd)×Unit)=>yr_fCond n d p.1 p.2.1 p.2.2.1) (fun p:(Fa×(Sm)×(Cd)×Unit)=>Fa.memO (yv_fCond n d p.1 p.2.1 p.2.2.1)) (fun p:(Fa×(Sm)×(Cd)×Unit)=>mlO (Fa.pan (yz_fCond n d p.1 p.2.1 p.2.2.1))) (yl_fCond n d) (yw_fCond n d) (yd_fCond n d) (fun _=>rfl) h
theorem yF_fCond {X:Ctx} {w0:World} (n:Nat) (d:Bool) (h:yq_fCond n d):(yg_fCond (X:=X) (w0:=w0) n d h).f=74:=rfl
theorem yN_fCond {X:Ctx} {w0:World} (n:Nat) (d:Bool) (h:yq_fCond n d) (t:Nat) (args:List SV) (H:Hp):(yg_fCond (X:=X) (w0:=w0) n d h).fn t args H=spL X ((ya_fCond).d H args) t H (fun p:(Fa×(Sm)×(Cd)×Unit)=>yc_fCond n d p.1 p.2.1 p.2.2.1) (fun p:(Fa×(Sm)×(Cd)×Unit)=>yb_fCond n d p.1 p.2.1 p.2.2.1) (fun p:(Fa×(Sm)×(Cd)×Unit)=>yr_fCond n d p.1 p.2.1 p.2.2.1) (fun p:(Fa×(Sm)×(Cd)×Unit)=>Fa.memO (yv_fCond n d p.1 p.2.1 p.2.2.1)) (fun p:(Fa×(Sm)×(Cd)×Unit)=>mlO (Fa.pan (yz_fCond n d p.1 p.2.1 p.2.2.1))):=rfl
attribute [local go_sem] Ev.b Ev.vl Fa.mem Fa.memO Fa.pan ML.ch ML.ren Ms.brk Ms.exh Ms.spd Sm.ar Sm.cd Sm.e Sm.el Sm.f Sm.k Sm.no Sm.th Sm.x Sm.y Va.c amFr_a amFr_d amFr_m bumpL cCd_d cCd_e cCd_n cEx_d cEx_e cEx_n cSp_d cSp_e cSs_d cSs_e chL evA evW faD_p faJ_some faK_some fa_eta fcN flN_vs frC frD_v frJ_eq kb_mk kb_nil lmH lmO mMc_d' mMc_e mMc_z mcC mcD_v mcR_d mcW mlO_nil mlO_none mlO_some mp_ai mp_ci mp_fi mp_vs ms_eta nmX pairN_o pairO_n pg_eta pnL_nil pnL_none pnL_some pnOL_f pnOL_t pnOf_f pnOf_t renQ renQC rnC sm_r spFn_n spL_some specL'_f specL'_fn updL updX va0 vrQ vsD_v vs_ren wkR_me yF_fBrk yF_fCond yF_fEval yN_fBrk yN_fCond yN_fEval yb_fBrk yb_fCond yb_fEval yp_fBrk yr_fCond yr_fEval yv_fBrk yv_fCond yv_fEval yz_fBrk yz_fCond yz_fEval
set_option maxRecDepth 20000 in set_option maxHeartbeats 16000000 in
theorem y_fCondS (n:Nat) (d:Bool) (hu:∀d,yq_fCond n d):yq_fCond (n+1) d:=by
 rintro ⟨q,s,e,_u⟩ w M I lab fz xs hc hA hl hx
 refine calls_toLM Try.func74 rfl (Fa.mem q) w M I lab fz (yb_fCond (n+1) d q s e) (Fa.pan (yz_fCond (n+1) d q s e)) (Fa.memO (yv_fCond (n+1) d q s e)) [yp_fBrk,(yg_fEval n (y_fEval n)),(yg_fCond n (kb e) (hu (kb e)))] [] ((ya_fCond).args ⟨q,s,e,_u⟩) (yr_fCond (n+1) d q s e) xs hA hl hx (amFr_nm _ _ _ _) (Nat.le_of_ble_eq_true rfl) (Nat.le_refl _) rfl (fa_pnm _) ?_
 clear hx hl hA xs
 simp only[Try.f74]
 obtain⟨hc1,hc2⟩:=hc
 dsimp only at hc1 hc2
 obtain⟨k0,x0,y0,e0,f0,cd0,ar0,th0,el0,no0⟩:=s
 cases e with
 |nil=>
  have h:cdF q.P q.m q.vs .nil= .ok false:=rfl
  simp only[↓eB,seval,go_sem,xt,↓e_fac4,Option.isSome_some,Option.isSome_none,h,cd_nil]
  try simp only[impB,impN]
  repeat' first|exact ck|with_reducible apply And.intro|intro _
  all_goals first|exact trivial|(rename_i h;first|exact oI h|exact nah h)|(rename_i _ h _ g;exact sL h g)|decide|omega|(refine ret_with [] ?_;simp only[↓eB,seval,go_sem,bne,e_RESLP,xt,↓e_fac4,h])
 |mk k a b p1 p2 x=>
  simp only[Cd.dp]at hc2
  have ha1:a.dp<n:=by omega
  have hb1:b.dp<n:=by omega
  have hp1:p1.dp<n:=by omega
  have hp2:p2.dp<n:=by omega
  by_cases c6:k=6
  ·subst c6
   cases hp:cdF q.P q.m q.vs p1 with
   |no j=>
    have h:cdF q.P q.m q.vs (.mk 6 a b p1 p2 x)= .no j:=by simp only[cdF,hp];rfl
    simp only[↓eB,seval,go_sem,xt,↓e_fac4,Option.isSome_some,Option.isSome_none,h,hp,cd_mk]
    try simp only[impB,impN]
    repeat' first|exact ck|with_reducible apply And.intro|intro _
    all_goals first|exact hc1|exact⟨hc1,ha1⟩|exact⟨hc1,hb1⟩|exact⟨hc1,hp1⟩|exact⟨hc1,hp2⟩|(rename_i h;first|exact oI h|exact nah h)|(rename_i _ h _ g;exact sL h g)|decide|omega|(refine ret_with [] ?_;simp only[↓eB,seval,go_sem,bne,e_RESLP,xt,↓e_fac4,h,hp])
   |ok v=>
    cases v with
    |false=>
     have h:cdF q.P q.m q.vs (.mk 6 a b p1 p2 x)= .ok false:=by simp only[cdF,hp];rfl
     simp only[↓eB,seval,go_sem,xt,↓e_fac4,Option.isSome_some,Option.isSome_none,h,hp,cd_mk]
     try simp only[impB,impN]
     repeat' first|exact ck|with_reducible apply And.intro|intro _
     all_goals first|exact hc1|exact⟨hc1,ha1⟩|exact⟨hc1,hb1⟩|exact⟨hc1,hp1⟩|exact⟨hc1,hp2⟩|(rename_i h;first|exact oI h|exact nah h)|(rename_i _ h _ g;exact sL h g)|decide|omega|(refine ret_with [] ?_;simp only[↓eB,seval,go_sem,bne,e_RESLP,xt,↓e_fac4,h,hp])
    |true=>
     cases hq:cdF q.P q.m q.vs p2 with
     |no j=>
      have h:cdF q.P q.m q.vs (.mk 6 a b p1 p2 x)= .no j:=by simp only[cdF,hp,hq];rfl
      simp only[↓eB,seval,go_sem,xt,↓e_fac4,Option.isSome_some,Option.isSome_none,h,hp,hq,cd_mk]
      try simp only[impB,impN]
      repeat' first|exact ck|with_reducible apply And.intro|intro _
      all_goals first|exact hc1|exact⟨hc1,ha1⟩|exact⟨hc1,hb1⟩|exact⟨hc1,hp1⟩|exact⟨hc1,hp2⟩|(rename_i h;first|exact oI h|exact nah h)|(rename_i _ h _ g;exact sL h g)|decide|omega|(refine ret_with [] ?_;simp only[↓eB,seval,go_sem,bne,e_RESLP,xt,↓e_fac4,h,hp,hq])
     |ok u=>
      have h:cdF q.P q.m q.vs (.mk 6 a b p1 p2 x)= .ok u:=by simp only[cdF,hp,hq];rfl
      simp only[↓eB,seval,go_sem,xt,↓e_fac4,Option.isSome_some,Option.isSome_none,h,hp,hq,cd_mk]
      try simp only[impB,impN]
      repeat' first|exact ck|with_reducible apply And.intro|intro _
      all_goals first|exact hc1|exact⟨hc1,ha1⟩|exact⟨hc1,hb1⟩|exact⟨hc1,hp1⟩|exact⟨hc1,hp2⟩|(rename_i h;first|exact oI h|exact nah h)|(rename_i _ h _ g;exact sL h g)|decide|omega|(refine ret_with [] ?_;simp only[↓eB,seval,go_sem,bne,e_RESLP,xt,↓e_fac4,h,hp,hq])
  by_cases c7:k=7
  ·subst c7
   cases hp:cdF q.P q.m q.vs p1 with
   |no j=>
    have h:cdF q.P q.m q.vs (.mk 7 a b p1 p2 x)= .no j:=by simp only[cdF,hp];rfl
    simp only[↓eB,seval,go_sem,xt,↓e_fac4,Option.isSome_some,Option.isSome_none,h,hp,cd_mk]
    try simp only[impB,impN]
    repeat' first|exact ck|with_reducible apply And.intro|intro _
    all_goals first|exact hc1|exact⟨hc1,ha1⟩|exact⟨hc1,hb1⟩|exact⟨hc1,hp1⟩|exact⟨hc1,hp2⟩|(rename_i h;first|exact oI h|exact nah h)|(rename_i _ h _ g;exact sL h g)|decide|omega|(refine ret_with [] ?_;simp only[↓eB,seval,go_sem,bne,e_RESLP,xt,↓e_fac4,h,hp])
   |ok v=>
    cases v with
    |true=>
     have h:cdF q.P q.m q.vs (.mk 7 a b p1 p2 x)= .ok true:=by simp only[cdF,hp];rfl
     simp only[↓eB,seval,go_sem,xt,↓e_fac4,Option.isSome_some,Option.isSome_none,h,hp,cd_mk]
     try simp only[impB,impN]
     repeat' first|exact ck|with_reducible apply And.intro|intro _
     all_goals first|exact hc1|exact⟨hc1,ha1⟩|exact⟨hc1,hb1⟩|exact⟨hc1,hp1⟩|exact⟨hc1,hp2⟩|(rename_i h;first|exact oI h|exact nah h)|(rename_i _ h _ g;exact sL h g)|decide|omega|(refine ret_with [] ?_;simp only[↓eB,seval,go_sem,bne,e_RESLP,xt,↓e_fac4,h,hp])
    |false=>
     cases hq:cdF q.P q.m q.vs p2 with
     |no j=>
      have h:cdF q.P q.m q.vs (.mk 7 a b p1 p2 x)= .no j:=by simp only[cdF,hp,hq];rfl
      simp only[↓eB,seval,go_sem,xt,↓e_fac4,Option.isSome_some,Option.isSome_none,h,hp,hq,cd_mk]
      try simp only[impB,impN]
      repeat' first|exact ck|with_reducible apply And.intro|intro _
      all_goals first|exact hc1|exact⟨hc1,ha1⟩|exact⟨hc1,hb1⟩|exact⟨hc1,hp1⟩|exact⟨hc1,hp2⟩|(rename_i h;first|exact oI h|exact nah h)|(rename_i _ h _ g;exact sL h g)|decide|omega|(refine ret_with [] ?_;simp only[↓eB,seval,go_sem,bne,e_RESLP,xt,↓e_fac4,h,hp,hq])
     |ok u=>
      have h:cdF q.P q.m q.vs (.mk 7 a b p1 p2 x)= .ok u:=by simp only[cdF,hp,hq];rfl
      simp only[↓eB,seval,go_sem,xt,↓e_fac4,Option.isSome_some,Option.isSome_none,h,hp,hq,cd_mk]
      try simp only[impB,impN]
      repeat' first|exact ck|with_reducible apply And.intro|intro _
      all_goals first|exact hc1|exact⟨hc1,ha1⟩|exact⟨hc1,hb1⟩|exact⟨hc1,hp1⟩|exact⟨hc1,hp2⟩|(rename_i h;first|exact oI h|exact nah h)|(rename_i _ h _ g;exact sL h g)|decide|omega|(refine ret_with [] ?_;simp only[↓eB,seval,go_sem,bne,e_RESLP,xt,↓e_fac4,h,hp,hq])
  by_cases c8:k=8
  ·subst c8
   cases hp:cdF q.P q.m q.vs p1 with
   |no j=>
    have h:cdF q.P q.m q.vs (.mk 8 a b p1 p2 x)= .no j:=by simp only[cdF,hp];rfl
    simp only[↓eB,seval,go_sem,xt,↓e_fac4,Option.isSome_some,Option.isSome_none,h,hp,cd_mk]
    try simp only[impB,impN]
    repeat' first|exact ck|with_reducible apply And.intro|intro _
    all_goals first|exact hc1|exact⟨hc1,ha1⟩|exact⟨hc1,hb1⟩|exact⟨hc1,hp1⟩|exact⟨hc1,hp2⟩|(rename_i h;first|exact oI h|exact nah h)|(rename_i _ h _ g;exact sL h g)|decide|omega|(refine ret_with [] ?_;simp only[↓eB,seval,go_sem,bne,e_RESLP,xt,↓e_fac4,h,hp])
   |ok v=>
    have h:cdF q.P q.m q.vs (.mk 8 a b p1 p2 x)= .ok (!v):=by simp only[cdF,hp];rfl
    simp only[↓eB,seval,go_sem,xt,↓e_fac4,Option.isSome_some,Option.isSome_none,h,hp,cd_mk]
    try simp only[impB,impN]
    repeat' first|exact ck|with_reducible apply And.intro|intro _
    all_goals first|exact hc1|exact⟨hc1,ha1⟩|exact⟨hc1,hb1⟩|exact⟨hc1,hp1⟩|exact⟨hc1,hp2⟩|(rename_i h;first|exact oI h|exact nah h)|(rename_i _ h _ g;exact sL h g)|decide|omega|(refine ret_with [] ?_;simp only[↓eB,seval,go_sem,bne,e_RESLP,xt,↓e_fac4,h,hp])
  by_cases c9:k=9
  ·subst c9
   have h:cdF q.P q.m q.vs (.mk 9 a b p1 p2 x)= .ok ((vget q.vs x).s==[]):=by simp only[cdF];rfl
   unfold vget at h
   cases hm:mget q.vs x with
   |none=>
    rw[hm]at h
    simp only[↓eB,seval,go_sem,xt,↓e_fac4,Option.isSome_some,Option.isSome_none,h,hm,cd_mk]
    try simp only[impB,impN]
    repeat' first|exact ck|with_reducible apply And.intro|intro _
    all_goals first|exact hc1|exact⟨hc1,ha1⟩|exact⟨hc1,hb1⟩|exact⟨hc1,hp1⟩|exact⟨hc1,hp2⟩|(rename_i h;first|exact oI h|exact nah h)|(rename_i _ h _ g;exact sL h g)|decide|omega|(refine ret_with [] ?_;simp only[↓eB,seval,go_sem,bne,e_RESLP,xt,↓e_fac4,h])
   |some v=>
    rw[hm]at h
    simp only[↓eB,seval,go_sem,xt,↓e_fac4,Option.isSome_some,Option.isSome_none,h,hm,cd_mk]
    try simp only[impB,impN]
    repeat' first|exact ck|with_reducible apply And.intro|intro _
    all_goals first|exact hc1|exact⟨hc1,ha1⟩|exact⟨hc1,hb1⟩|exact⟨hc1,hp1⟩|exact⟨hc1,hp2⟩|(rename_i h;first|exact oI h|exact nah h)|(rename_i _ h _ g;exact sL h g)|decide|omega|(refine ret_with [] ?_;simp only[↓eB,seval,go_sem,bne,e_RESLP,xt,↓e_fac4,h])
  have hh:cdF q.P q.m q.vs (.mk k a b p1 p2 x)=(match evF q.P q.m q.vs a with
    | .no j=>.no j
    | .ok x=>match evF q.P q.m q.vs b with
     | .no j=>.no j
     | .ok y=>.ok (cmF k x y)):=by
   simp only[cdF];rw[if_neg c6,if_neg c7,if_neg c8,if_neg c9];rfl
  have d6:(k==6)=false:=by simpa using c6
  have d7:(k==7)=false:=by simpa using c7
  have d8:(k==8)=false:=by simpa using c8
  have d9:(k==9)=false:=by simpa using c9
  cases ha:evF q.P q.m q.vs a with
  |no j=>
   have h:cdF q.P q.m q.vs (.mk k a b p1 p2 x)= .no j:=by rw[hh,ha]
   simp only[↓eB,seval,go_sem,xt,↓e_fac4,Option.isSome_some,Option.isSome_none,h,ha,cd_mk,d6,d7,d8,d9]
   try simp only[impB,impN]
   repeat' first|exact ck|with_reducible apply And.intro|intro _
   all_goals first|exact hc1|exact⟨hc1,ha1⟩|exact⟨hc1,hb1⟩|exact⟨hc1,hp1⟩|exact⟨hc1,hp2⟩|(rename_i h;first|exact oI h|exact nah h)|(rename_i _ h _ g;exact sL h g)|decide|omega|(refine ret_with [] ?_;simp only[↓eB,seval,go_sem,bne,e_RESLP,xt,↓e_fac4,h,ha])
  |ok u=>
  cases hb:evF q.P q.m q.vs b with
  |no j=>
   have h:cdF q.P q.m q.vs (.mk k a b p1 p2 x)= .no j:=by rw[hh,ha,hb]
   simp only[↓eB,seval,go_sem,xt,↓e_fac4,Option.isSome_some,Option.isSome_none,h,ha,hb,cd_mk,d6,d7,d8,d9]
   try simp only[impB,impN]
   repeat' first|exact ck|with_reducible apply And.intro|intro _
   all_goals first|exact hc1|exact⟨hc1,ha1⟩|exact⟨hc1,hb1⟩|exact⟨hc1,hp1⟩|exact⟨hc1,hp2⟩|(rename_i h;first|exact oI h|exact nah h)|(rename_i _ h _ g;exact sL h g)|decide|omega|(refine ret_with [] ?_;simp only[↓eB,seval,go_sem,bne,e_RESLP,xt,↓e_fac4,h,ha,hb])
  |ok v=>
  by_cases c0:k=0
  ·subst c0
   have h:cdF q.P q.m q.vs (.mk 0 a b p1 p2 x)= .ok (u==v):=by rw[hh,ha,hb];rfl
   simp only[↓eB,seval,go_sem,xt,↓e_fac4,Option.isSome_some,Option.isSome_none,h,ha,hb,cd_mk,bne]
   try simp only[impB,impN]
   repeat' first|exact ck|with_reducible apply And.intro|intro _
   all_goals first|exact hc1|exact⟨hc1,ha1⟩|exact⟨hc1,hb1⟩|exact⟨hc1,hp1⟩|exact⟨hc1,hp2⟩|(rename_i h;first|exact oI h|exact nah h)|(rename_i _ h _ g;exact sL h g)|decide|omega|(refine ret_with [] ?_;simp only[↓eB,seval,go_sem,bne,e_RESLP,xt,↓e_fac4,h,ha,hb])
  by_cases c1:k=1
  ·subst c1
   have h:cdF q.P q.m q.vs (.mk 1 a b p1 p2 x)= .ok (!(u==v)):=by rw[hh,ha,hb];rfl
   simp only[↓eB,seval,go_sem,xt,↓e_fac4,Option.isSome_some,Option.isSome_none,h,ha,hb,cd_mk,bne]
   try simp only[impB,impN]
   repeat' first|exact ck|with_reducible apply And.intro|intro _
   all_goals first|exact hc1|exact⟨hc1,ha1⟩|exact⟨hc1,hb1⟩|exact⟨hc1,hp1⟩|exact⟨hc1,hp2⟩|(rename_i h;first|exact oI h|exact nah h)|(rename_i _ h _ g;exact sL h g)|decide|omega|(refine ret_with [] ?_;simp only[↓eB,seval,go_sem,bne,e_RESLP,xt,↓e_fac4,h,ha,hb])
  by_cases c2:k=2
  ·subst c2
   have h:cdF q.P q.m q.vs (.mk 2 a b p1 p2 x)= .ok (decide (u<v)):=by rw[hh,ha,hb];rfl
   simp only[↓eB,seval,go_sem,xt,↓e_fac4,Option.isSome_some,Option.isSome_none,h,ha,hb,cd_mk,bne]
   try simp only[impB,impN]
   repeat' first|exact ck|with_reducible apply And.intro|intro _
   all_goals first|exact hc1|exact⟨hc1,ha1⟩|exact⟨hc1,hb1⟩|exact⟨hc1,hp1⟩|exact⟨hc1,hp2⟩|(rename_i h;first|exact oI h|exact nah h)|(rename_i _ h _ g;exact sL h g)|decide|omega|(refine ret_with [] ?_;simp only[↓eB,seval,go_sem,bne,e_RESLP,xt,↓e_fac4,h,ha,hb])
  by_cases c3:k=3
  ·subst c3
   have h:cdF q.P q.m q.vs (.mk 3 a b p1 p2 x)= .ok (decide (u≤v)):=by rw[hh,ha,hb];rfl
   simp only[↓eB,seval,go_sem,xt,↓e_fac4,Option.isSome_some,Option.isSome_none,h,ha,hb,cd_mk,bne]
   try simp only[impB,impN]
   repeat' first|exact ck|with_reducible apply And.intro|intro _
   all_goals first|exact hc1|exact⟨hc1,ha1⟩|exact⟨hc1,hb1⟩|exact⟨hc1,hp1⟩|exact⟨hc1,hp2⟩|(rename_i h;first|exact oI h|exact nah h)|(rename_i _ h _ g;exact sL h g)|decide|omega|(refine ret_with [] ?_;simp only[↓eB,seval,go_sem,bne,e_RESLP,xt,↓e_fac4,h,ha,hb])
  by_cases c4:k=4
  ·subst c4
   have h:cdF q.P q.m q.vs (.mk 4 a b p1 p2 x)= .ok (decide (v<u)):=by rw[hh,ha,hb];rfl
   simp only[↓eB,seval,go_sem,xt,↓e_fac4,Option.isSome_some,Option.isSome_none,h,ha,hb,cd_mk,bne]
   try simp only[impB,impN]
   repeat' first|exact ck|with_reducible apply And.intro|intro _
   all_goals first|exact hc1|exact⟨hc1,ha1⟩|exact⟨hc1,hb1⟩|exact⟨hc1,hp1⟩|exact⟨hc1,hp2⟩|(rename_i h;first|exact oI h|exact nah h)|(rename_i _ h _ g;exact sL h g)|decide|omega|(refine ret_with [] ?_;simp only[↓eB,seval,go_sem,bne,e_RESLP,xt,↓e_fac4,h,ha,hb])
  by_cases c5:k=5
  ·subst c5
   have h:cdF q.P q.m q.vs (.mk 5 a b p1 p2 x)= .ok (decide (v≤u)):=by rw[hh,ha,hb];rfl
   simp only[↓eB,seval,go_sem,xt,↓e_fac4,Option.isSome_some,Option.isSome_none,h,ha,hb,cd_mk,bne]
   try simp only[impB,impN]
   repeat' first|exact ck|with_reducible apply And.intro|intro _
   all_goals first|exact hc1|exact⟨hc1,ha1⟩|exact⟨hc1,hb1⟩|exact⟨hc1,hp1⟩|exact⟨hc1,hp2⟩|(rename_i h;first|exact oI h|exact nah h)|(rename_i _ h _ g;exact sL h g)|decide|omega|(refine ret_with [] ?_;simp only[↓eB,seval,go_sem,bne,e_RESLP,xt,↓e_fac4,h,ha,hb])
  have e0':(k==0)=false:=by simpa using c0
  have e1':(k==1)=false:=by simpa using c1
  have e2':(k==2)=false:=by simpa using c2
  have e3':(k==3)=false:=by simpa using c3
  have e4':(k==4)=false:=by simpa using c4
  have e5':(k==5)=false:=by simpa using c5
  have h:cdF q.P q.m q.vs (.mk k a b p1 p2 x)= .ok false:=by
   rw[hh,ha,hb];simp[cmF,c0,c1,c2,c3,c4,c5]
  simp only[↓eB,seval,go_sem,xt,↓e_fac4,Option.isSome_some,Option.isSome_none,h,ha,hb,cd_mk,e0',e1',e2',e3',e4',e5',d6,d7,d8,d9]
  try simp only[impB,impN]
  repeat' first|exact ck|with_reducible apply And.intro|intro _
  all_goals first|exact hc1|exact⟨hc1,ha1⟩|exact⟨hc1,hb1⟩|exact⟨hc1,hp1⟩|exact⟨hc1,hp2⟩|(rename_i h;first|exact oI h|exact nah h)|(rename_i _ h _ g;exact sL h g)|decide|omega|(refine ret_with [] ?_;simp only[↓eB,seval,go_sem,bne,e_RESLP,xt,↓e_fac4,h,ha,hb])
theorem y_fCond:∀n d,yq_fCond n d
 |0,d=>fun p w M I lab fz xs hc=>absurd hc.2 (Nat.not_lt_zero _)
 |n+1,d=>y_fCondS n d fun d=>y_fCond n d
end Go.Proofs.Ytjnnmindcbgjhab
