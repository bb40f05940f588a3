/- A frame's assignments and places, walked. No conditions but those in each statement. -/
import Derived.Test.YtjnnmindcbgjhabRm5
set_option linter.unusedVariables false
set_option linter.unusedSimpArgs false
namespace Go.Proofs.Ytjnnmindcbgjhab
open Go Go.Sy Go.RowKit
theorem nb_set (l:List Nb) (i:Nat) (s:List UInt8) (v:Int):(l.map Nb.c).set i [.v (.string (bs s)),.v (.int .i64 v)]=(l.set i ⟨s,v⟩).map Nb.c:=(List.map_set (f:=Nb.c) (a:=⟨s,v⟩)).symm
theorem na_set (l:List Na) (i:Nat) (s:List UInt8) (x:List Int):(l.map Na.c).set i [.v (.string (bs s)),.ov zI (x.map cI)]=(l.set i ⟨s,x⟩).map Na.c:=(List.map_set (f:=Na.c) (a:=⟨s,x⟩)).symm
theorem ci_set (l:List Int) (i:Nat) (v:Int):(l.map cI).set i [.v (.int .i64 v)]=(l.set i v).map cI:=(List.map_set (f:=cI) (a:=v)).symm
theorem nl_beq:(([]:List UInt8)==[])=true:=rfl
theorem e_resq (k u0 v:Nat) (p:List (Nat×Nat)) (s m o:Nat) (z0 z1:List C) (es0 es1:List (List C)):(∃u z es,SV.one (C.q k u0 p s m o)=SV.one (C.q k u p s m o)∧some (Ch.vec v z0 es0)=some (Ch.vec u z es)∧some (some (ML.vec z1 es1))=some (some (ML.vec z es)))=(v=u0∧z1=z0∧es1=es0):=by
 refine propext ⟨?_,?_⟩
 ·rintro ⟨u,z,es,h1,h2,h3⟩
  simp only[SV.one.injEq,C.q.injEq,Option.some.injEq,Ch.vec.injEq,ML.vec.injEq,and_true,true_and]at h1 h2 h3
  obtain⟨rfl,rfl,rfl⟩:=h2
  exact⟨h1.symm,h3.1,h3.2⟩
 ·rintro ⟨rfl,rfl,rfl⟩
  exact⟨_,_,_,rfl,rfl,rfl⟩
theorem put_get {α:Type} (s:List UInt8) (v:α):∀es:List (List UInt8×α),mget (mput es s v) s=some v
 |[]=>by simp[mput,mget]
 |(a,b)::r=>by
  simp only[mput]
  split
  ·simp only[mget,beq_self_eq_true,if_true]
  ·rename_i h
   simp only[mget];rw[if_neg h];exact put_get s v r
theorem asg_dead (q:Fa) (s:Sm) (v:Int):asgF (q.dead s) s v=Fa.go { q.dead s with vs:=mput (q.dead s).vs s.x ⟨false,v,[]⟩ }:=by
 have h:mget (q.dead s).vs s.x=some va0:=put_get s.x va0 q.vs
 unfold asgF
 rw[h]
abbrev yc_fAsg (q:Fa) (s:Sm) (v:Int):Prop:=mget q.vs s.x=none→okC q.P q.m
abbrev yb_fAsg (q:Fa) (s:Sm) (v:Int):Bool:=(asgF q s v).b
abbrev yv_fAsg (q:Fa) (s:Sm) (v:Int):Fa:=(asgF q s v).q
abbrev yz_fAsg (q:Fa) (s:Sm) (v:Int):Fa:=(asgF q s v).q
abbrev yr_fAsg (q:Fa) (s:Sm) (v:Int):SV:=.tup []
theorem yt_fAsg:∀b,∀v∈ArgC.e (acS (cSp) (acS (cInt .i64) ac0)) b,v.tupB=false:=by rintro ⟨x0,x1,_⟩ v hv;simp only[acS_e,ac0_e,List.mem_cons,List.not_mem_nil,or_false]at hv;rcases hv with rfl|rfl<;>first|rfl|exact ex_tup _|exact cd_tup _
noncomputable abbrev ya_fAsg:ArgL (Fa×(Sm)×(Int)×Unit):=amFr (acS (cSp) (acS (cInt .i64) ac0)) yt_fAsg
abbrev yq_fAsg:Prop:=CallsL Try.prog 68 (ya_fAsg).args (ya_fAsg).mem (fun p:(Fa×(Sm)×(Int)×Unit)=>yc_fAsg p.1 p.2.1 p.2.2.1) (fun p:(Fa×(Sm)×(Int)×Unit)=>yb_fAsg p.1 p.2.1 p.2.2.1) (fun p:(Fa×(Sm)×(Int)×Unit)=>yr_fAsg p.1 p.2.1 p.2.2.1) (fun p:(Fa×(Sm)×(Int)×Unit)=>Fa.memO (yv_fAsg p.1 p.2.1 p.2.2.1)) (fun p:(Fa×(Sm)×(Int)×Unit)=>mlO (Fa.pan (yz_fAsg p.1 p.2.1 p.2.2.1)))
theorem yl_fAsg:∀p,(fun p:(Fa×(Sm)×(Int)×Unit)=>yc_fAsg p.1 p.2.1 p.2.2.1) p→(fun p:(Fa×(Sm)×(Int)×Unit)=>yb_fAsg p.1 p.2.1 p.2.2.1) p=false→lenL ((ya_fAsg).mem p).length ((fun p:(Fa×(Sm)×(Int)×Unit)=>Fa.memO (yv_fAsg p.1 p.2.1 p.2.2.1)) p)=true∧kdL ((ya_fAsg).mem p) ((fun p:(Fa×(Sm)×(Int)×Unit)=>Fa.memO (yv_fAsg p.1 p.2.1 p.2.2.1)) p)=true∧outQ ((fun p:(Fa×(Sm)×(Int)×Unit)=>Fa.memO (yv_fAsg p.1 p.2.1 p.2.2.1)) p) ((fun p:(Fa×(Sm)×(Int)×Unit)=>yr_fAsg p.1 p.2.1 p.2.2.1) p)∧∀q,some q∈(fun p:(Fa×(Sm)×(Int)×Unit)=>Fa.memO (yv_fAsg p.1 p.2.1 p.2.2.1)) p→okML ((fun p:(Fa×(Sm)×(Int)×Unit)=>Fa.memO (yv_fAsg p.1 p.2.1 p.2.2.1)) p).length q:=fun p _ _=>have h:=fa_out p.1 (yv_fAsg p.1 p.2.1 p.2.2.1);⟨h.1,h.2.1,rfl,h.2.2⟩
theorem yw_fAsg:∀p,(fun p:(Fa×(Sm)×(Int)×Unit)=>yc_fAsg p.1 p.2.1 p.2.2.1) p→(fun p:(Fa×(Sm)×(Int)×Unit)=>yb_fAsg p.1 p.2.1 p.2.2.1) p=true→((fun p:(Fa×(Sm)×(Int)×Unit)=>mlO (Fa.pan (yz_fAsg p.1 p.2.1 p.2.2.1))) p).length=((ya_fAsg).mem p).length∧kdL ((ya_fAsg).mem p) ((fun p:(Fa×(Sm)×(Int)×Unit)=>mlO (Fa.pan (yz_fAsg p.1 p.2.1 p.2.2.1))) p)=true∧∀q,some q∈(fun p:(Fa×(Sm)×(Int)×Unit)=>mlO (Fa.pan (yz_fAsg p.1 p.2.1 p.2.2.1))) p→okML ((fun p:(Fa×(Sm)×(Int)×Unit)=>mlO (Fa.pan (yz_fAsg p.1 p.2.1 p.2.2.1))) p).length q:=fun p _ _=>fa_pan p.1 (yz_fAsg p.1 p.2.1 p.2.2.1)
theorem yd_fAsg:∀p,(fun p:(Fa×(Sm)×(Int)×Unit)=>yc_fAsg p.1 p.2.1 p.2.2.1) p→(fun p:(Fa×(Sm)×(Int)×Unit)=>yb_fAsg p.1 p.2.1 p.2.2.1) p=true→lenL ((ya_fAsg).mem p).length ((fun p:(Fa×(Sm)×(Int)×Unit)=>Fa.memO (yv_fAsg p.1 p.2.1 p.2.2.1)) p)=true∧outQ ((fun p:(Fa×(Sm)×(Int)×Unit)=>Fa.memO (yv_fAsg p.1 p.2.1 p.2.2.1)) p) ((fun p:(Fa×(Sm)×(Int)×Unit)=>yr_fAsg p.1 p.2.1 p.2.2.1) p):=fun p _ _=>⟨(fa_out p.1 (yv_fAsg p.1 p.2.1 p.2.2.1)).1,rfl⟩
noncomputable def yg_fAsg {X:Ctx} {w0:World} (h:yq_fAsg):Sy.Spec Try.prog X w0:=specL' 68 Try.call68 (ya_fAsg) (fun p:(Fa×(Sm)×(Int)×Unit)=>yc_fAsg p.1 p.2.1 p.2.2.1) (fun p:(Fa×(Sm)×(Int)×Unit)=>yb_fAsg p.1 p.2.1 p.2.2.1) (fun p:(Fa×(Sm)×(Int)×Unit)=>yr_fAsg p.1 p.2.1 p.2.2.1) (fun p:(Fa×(Sm)×(Int)×Unit)=>Fa.memO (yv_fAsg p.1 p.2.1 p.2.2.1)) (fun p:(Fa×(Sm)×(Int)×Unit)=>mlO (Fa.pan (yz_fAsg p.1 p.2.1 p.2.2.1))) (yl_fAsg) (yw_fAsg) (yd_fAsg) (fun _=>rfl) h
theorem yF_fAsg {X:Ctx} {w0:World} (h:yq_fAsg):(yg_fAsg (X:=X) (w0:=w0) h).f=68:=rfl
theorem yN_fAsg {X:Ctx} {w0:World} (h:yq_fAsg) (t:Nat) (args:List SV) (H:Hp):(yg_fAsg (X:=X) (w0:=w0) h).fn t args H=spL X ((ya_fAsg).d H args) t H (fun p:(Fa×(Sm)×(Int)×Unit)=>yc_fAsg p.1 p.2.1 p.2.2.1) (fun p:(Fa×(Sm)×(Int)×Unit)=>yb_fAsg p.1 p.2.1 p.2.2.1) (fun p:(Fa×(Sm)×(Int)×Unit)=>yr_fAsg p.1 p.2.1 p.2.2.1) (fun p:(Fa×(Sm)×(Int)×Unit)=>Fa.memO (yv_fAsg p.1 p.2.1 p.2.2.1)) (fun p:(Fa×(Sm)×(Int)×Unit)=>mlO (Fa.pan (yz_fAsg p.1 p.2.1 p.2.2.1))):=rfl
attribute [local go_sem] Ev.b Ev.vl Fa.mem Fa.memO Fa.pan ML.ch ML.ren Ms.brk Ms.exh Ms.spd Sm.ar Sm.cd Sm.e Sm.el Sm.f Sm.k Sm.no Sm.th Sm.x Sm.y Va.c amFr_a amFr_d amFr_m bumpL cCd_d cCd_e cCd_n cEx_d cEx_e cEx_n cSp_d cSp_e cSs_d cSs_e chL evA evW faD_p faJ_some faK_some fa_eta fcN flN_vs frC frD_v frJ_eq lmH lmO mMc_d' mMc_e mMc_z mcC mcD_v mcR_d mcW mlO_nil mlO_none mlO_some mp_ai mp_ci mp_fi mp_vs ms_eta nmX pairN_o pairO_n pg_eta pnL_nil pnL_none pnL_some pnOL_f pnOL_t pnOf_f pnOf_t renQ renQC rnC sm_r spFn_n spL_some specL'_f specL'_fn updL updX va0 vrQ vsD_v vs_ren wkR_me yF_fBrk yN_fBrk yb_fBrk yp_fBrk yv_fBrk yz_fBrk
set_option maxRecDepth 20000 in set_option maxHeartbeats 16000000 in
theorem y_fAsg:yq_fAsg:=by
 rintro ⟨q,s,v,_u⟩ w M I lab fz xs hc hA hl hx
 refine calls_toLM Try.func68 rfl (Fa.mem q) w M I lab fz (yb_fAsg q s v) (Fa.pan (yz_fAsg q s v)) (Fa.memO (yv_fAsg q s v)) [yp_fBrk] [] ((ya_fAsg).args ⟨q,s,v,_u⟩) (yr_fAsg q s v) xs hA hl hx (amFr_nm _ _ _ _) (Nat.le_of_ble_eq_true rfl) (Nat.le_refl _) rfl (fa_pnm _) ?_
 clear hx hl hA xs
 simp only[Try.f68]
 have hc1:mget q.vs s.x=none→okC q.P q.m:=hc
 obtain⟨k0,x,y,e0,f0,cd0,ar0,th0,el0,no0⟩:=s
 cases h1:mget q.vs x with
 |some u=>
  have h:asgF q (.mk k0 x y e0 f0 cd0 ar0 th0 el0 no0) v=Fa.go { q with vs:=mput q.vs x ⟨false,v,[]⟩ }:=by unfold asgF;rw[show mget q.vs (Sm.mk k0 x y e0 f0 cd0 ar0 th0 el0 no0).x=some u from h1];rfl
  simp only[↓eB,seval,go_sem,xt,↓e_fac4,Option.isSome_some,Option.isSome_none,yb_fAsg,yv_fAsg,yz_fAsg,h1,h,Fa.go,mp_put]
  try simp only[impB,impN]
  repeat' first|exact ck|with_reducible apply And.intro|intro _
  all_goals first|exact trivial|(rename_i h;first|exact oI h|exact nah h)|(rename_i _ h _ g;exact sL h g)|decide|omega|(refine ret_with [] ?_;simp only[↓eB,seval,go_sem,bne,yr_fAsg,yb_fAsg,yv_fAsg,yz_fAsg,e_RESLP,xt,↓e_fac4,e_resq,h,Fa.go])
 |none=>
  have hc2:okC q.P q.m:=hc1 h1
  cases h2:q.P.ci x with
  |none=>
   have h:asgF q (.mk k0 x y e0 f0 cd0 ar0 th0 el0 no0) v=q.brk (.mk k0 x y e0 f0 cd0 ar0 th0 el0 no0) 4:=by unfold asgF;rw[show mget q.vs (Sm.mk k0 x y e0 f0 cd0 ar0 th0 el0 no0).x=none from h1,show q.P.ci (Sm.mk k0 x y e0 f0 cd0 ar0 th0 el0 no0).x=none from h2]
   simp only[↓eB,seval,go_sem,xt,↓e_fac4,Option.isSome_some,Option.isSome_none,yb_fAsg,yv_fAsg,yz_fAsg,h1,h2,h,Fa.brk]
   try simp only[impB,impN]
   repeat' first|exact ck|with_reducible apply And.intro|intro _
   all_goals first|exact trivial|(rename_i h;first|exact oI h|exact nah h)|(rename_i _ h _ g;exact sL h g)|decide|omega|(refine ret_with [] ?_;simp only[↓eB,seval,go_sem,bne,yr_fAsg,yb_fAsg,yv_fAsg,yz_fAsg,e_RESLP,xt,↓e_fac4,e_resq,h,Fa.brk])
  |some i=>
   have h:asgF q (.mk k0 x y e0 f0 cd0 ar0 th0 el0 no0) v=Fa.go { q with m:=q.m.set i v }:=by unfold asgF;rw[show mget q.vs (Sm.mk k0 x y e0 f0 cd0 ar0 th0 el0 no0).x=none from h1,show q.P.ci (Sm.mk k0 x y e0 f0 cd0 ar0 th0 el0 no0).x=some i from h2]
   have hi:=Pg.ci_lt hc2 h2
   have hg:=nb_get hi
   simp only[↓eB,seval,go_sem,xt,↓e_fac4,Option.isSome_some,Option.isSome_none,yb_fAsg,yv_fAsg,yz_fAsg,h1,h2,h,hg,Fa.go,Ms.set,nb_set]
   try simp only[impB,impN]
   repeat' first|exact ck|with_reducible apply And.intro|intro _
   all_goals first|exact hi.1|exact hi.2|(rename_i h;first|exact oI h|exact nah h)|(rename_i _ h _ g;exact sL h g)|decide|omega|(refine ret_with [] ?_;simp only[↓eB,seval,go_sem,bne,yr_fAsg,yb_fAsg,yv_fAsg,yz_fAsg,e_RESLP,xt,↓e_fac4,e_resq,h,Fa.go,Ms.set])
noncomputable def yp_fAsg {X:Ctx} {w0:World}:Sy.Spec Try.prog X w0:=yg_fAsg y_fAsg
abbrev yc_fFol (q:Fa) (s:Sm) (x:List UInt8):Prop:=okC q.P q.m
abbrev yb_fFol (q:Fa) (s:Sm) (x:List UInt8):Bool:=(folF q x).b
abbrev yv_fFol (q:Fa) (s:Sm) (x:List UInt8):Fa:=evA q s (folF q x)
abbrev yz_fFol (q:Fa) (s:Sm) (x:List UInt8):Fa:=evW q s (folF q x)
abbrev yr_fFol (q:Fa) (s:Sm) (x:List UInt8):SV:=.one (.q 1 0 ([(0,8)]) (2) (((folF q x).vl 0).toNat) (0))
theorem yt_fFol:∀b,∀v∈ArgC.e (acS (cSp) (acS (cStr) ac0)) b,v.tupB=false:=by rintro ⟨x0,x1,_⟩ v hv;simp only[acS_e,ac0_e,List.mem_cons,List.not_mem_nil,or_false]at hv;rcases hv with rfl|rfl<;>first|rfl|exact ex_tup _|exact cd_tup _
noncomputable abbrev ya_fFol:ArgL (Fa×(Sm)×(List UInt8)×Unit):=amFr (acS (cSp) (acS (cStr) ac0)) yt_fFol
abbrev yq_fFol:Prop:=CallsL Try.prog 71 (ya_fFol).args (ya_fFol).mem (fun p:(Fa×(Sm)×(List UInt8)×Unit)=>yc_fFol p.1 p.2.1 p.2.2.1) (fun p:(Fa×(Sm)×(List UInt8)×Unit)=>yb_fFol p.1 p.2.1 p.2.2.1) (fun p:(Fa×(Sm)×(List UInt8)×Unit)=>yr_fFol p.1 p.2.1 p.2.2.1) (fun p:(Fa×(Sm)×(List UInt8)×Unit)=>Fa.memO (yv_fFol p.1 p.2.1 p.2.2.1)) (fun p:(Fa×(Sm)×(List UInt8)×Unit)=>mlO (Fa.pan (yz_fFol p.1 p.2.1 p.2.2.1)))
theorem yl_fFol:∀p,(fun p:(Fa×(Sm)×(List UInt8)×Unit)=>yc_fFol p.1 p.2.1 p.2.2.1) p→(fun p:(Fa×(Sm)×(List UInt8)×Unit)=>yb_fFol p.1 p.2.1 p.2.2.1) p=false→lenL ((ya_fFol).mem p).length ((fun p:(Fa×(Sm)×(List UInt8)×Unit)=>Fa.memO (yv_fFol p.1 p.2.1 p.2.2.1)) p)=true∧kdL ((ya_fFol).mem p) ((fun p:(Fa×(Sm)×(List UInt8)×Unit)=>Fa.memO (yv_fFol p.1 p.2.1 p.2.2.1)) p)=true∧outQ ((fun p:(Fa×(Sm)×(List UInt8)×Unit)=>Fa.memO (yv_fFol p.1 p.2.1 p.2.2.1)) p) ((fun p:(Fa×(Sm)×(List UInt8)×Unit)=>yr_fFol p.1 p.2.1 p.2.2.1) p)∧∀q,some q∈(fun p:(Fa×(Sm)×(List UInt8)×Unit)=>Fa.memO (yv_fFol p.1 p.2.1 p.2.2.1)) p→okML ((fun p:(Fa×(Sm)×(List UInt8)×Unit)=>Fa.memO (yv_fFol p.1 p.2.1 p.2.2.1)) p).length q:=fun p _ _=>have h:=fa_out p.1 (yv_fFol p.1 p.2.1 p.2.2.1);⟨h.1,h.2.1,⟨rfl,_,_,rfl,fa_cl _ _ rfl⟩,h.2.2⟩
theorem yw_fFol:∀p,(fun p:(Fa×(Sm)×(List UInt8)×Unit)=>yc_fFol p.1 p.2.1 p.2.2.1) p→(fun p:(Fa×(Sm)×(List UInt8)×Unit)=>yb_fFol p.1 p.2.1 p.2.2.1) p=true→((fun p:(Fa×(Sm)×(List UInt8)×Unit)=>mlO (Fa.pan (yz_fFol p.1 p.2.1 p.2.2.1))) p).length=((ya_fFol).mem p).length∧kdL ((ya_fFol).mem p) ((fun p:(Fa×(Sm)×(List UInt8)×Unit)=>mlO (Fa.pan (yz_fFol p.1 p.2.1 p.2.2.1))) p)=true∧∀q,some q∈(fun p:(Fa×(Sm)×(List UInt8)×Unit)=>mlO (Fa.pan (yz_fFol p.1 p.2.1 p.2.2.1))) p→okML ((fun p:(Fa×(Sm)×(List UInt8)×Unit)=>mlO (Fa.pan (yz_fFol p.1 p.2.1 p.2.2.1))) p).length q:=fun p _ _=>fa_pan p.1 (yz_fFol p.1 p.2.1 p.2.2.1)
theorem yd_fFol:∀p,(fun p:(Fa×(Sm)×(List UInt8)×Unit)=>yc_fFol p.1 p.2.1 p.2.2.1) p→(fun p:(Fa×(Sm)×(List UInt8)×Unit)=>yb_fFol p.1 p.2.1 p.2.2.1) p=true→lenL ((ya_fFol).mem p).length ((fun p:(Fa×(Sm)×(List UInt8)×Unit)=>Fa.memO (yv_fFol p.1 p.2.1 p.2.2.1)) p)=true∧outQ ((fun p:(Fa×(Sm)×(List UInt8)×Unit)=>Fa.memO (yv_fFol p.1 p.2.1 p.2.2.1)) p) ((fun p:(Fa×(Sm)×(List UInt8)×Unit)=>yr_fFol p.1 p.2.1 p.2.2.1) p):=fun p _ _=>⟨(fa_out p.1 (yv_fFol p.1 p.2.1 p.2.2.1)).1,⟨rfl,_,_,rfl,fa_cl _ _ rfl⟩⟩
noncomputable def yg_fFol {X:Ctx} {w0:World} (h:yq_fFol):Sy.Spec Try.prog X w0:=specL' 71 Try.call71 (ya_fFol) (fun p:(Fa×(Sm)×(List UInt8)×Unit)=>yc_fFol p.1 p.2.1 p.2.2.1) (fun p:(Fa×(Sm)×(List UInt8)×Unit)=>yb_fFol p.1 p.2.1 p.2.2.1) (fun p:(Fa×(Sm)×(List UInt8)×Unit)=>yr_fFol p.1 p.2.1 p.2.2.1) (fun p:(Fa×(Sm)×(List UInt8)×Unit)=>Fa.memO (yv_fFol p.1 p.2.1 p.2.2.1)) (fun p:(Fa×(Sm)×(List UInt8)×Unit)=>mlO (Fa.pan (yz_fFol p.1 p.2.1 p.2.2.1))) (yl_fFol) (yw_fFol) (yd_fFol) (fun _=>rfl) h
theorem yF_fFol {X:Ctx} {w0:World} (h:yq_fFol):(yg_fFol (X:=X) (w0:=w0) h).f=71:=rfl
theorem yN_fFol {X:Ctx} {w0:World} (h:yq_fFol) (t:Nat) (args:List SV) (H:Hp):(yg_fFol (X:=X) (w0:=w0) h).fn t args H=spL X ((ya_fFol).d H args) t H (fun p:(Fa×(Sm)×(List UInt8)×Unit)=>yc_fFol p.1 p.2.1 p.2.2.1) (fun p:(Fa×(Sm)×(List UInt8)×Unit)=>yb_fFol p.1 p.2.1 p.2.2.1) (fun p:(Fa×(Sm)×(List UInt8)×Unit)=>yr_fFol p.1 p.2.1 p.2.2.1) (fun p:(Fa×(Sm)×(List UInt8)×Unit)=>Fa.memO (yv_fFol p.1 p.2.1 p.2.2.1)) (fun p:(Fa×(Sm)×(List UInt8)×Unit)=>mlO (Fa.pan (yz_fFol p.1 p.2.1 p.2.2.1))):=rfl
set_option maxRecDepth 20000 in set_option maxHeartbeats 16000000 in
theorem y_fFol:yq_fFol:=by
 rintro ⟨q,s,x,_u⟩ w M I lab fz xs hc hA hl hx
 refine calls_toLQ Try.func71 rfl (Fa.mem q) w M I lab fz (yb_fFol q s x) (Fa.pan (yz_fFol q s x)) (Fa.memO (yv_fFol q s x)) [yp_fBrk] [] ((ya_fFol).args ⟨q,s,x,_u⟩) 1 ([(0,8)]) (2) (((folF q x).vl 0).toNat) (0) xs hA hl hx (amFr_nm _ _ _ _) (Nat.le_of_ble_eq_true rfl) (Nat.le_refl _) rfl (fa_pnm _) ?_
 clear hx hl hA xs
 simp only[Try.f71]
 have hc1:okC q.P q.m:=hc
 obtain⟨k0,x1,y,e0,f0,cd0,ar0,th0,el0,no0⟩:=s
 have hvg:∀o,mget q.vs x=o→(vget q.vs x)=o.getD va0:=fun o ho=>by unfold vget;rw[ho]
 cases h1:mget q.vs x with
 |none=>
  have h:folF q x= .no 2:=by unfold folF vget;rw[h1];rfl
  simp only[↓eB,seval,go_sem,xt,↓e_fac4,Option.isSome_some,Option.isSome_none,yb_fFol,yv_fFol,yz_fFol,h1,h,nl_beq]
  try simp only[impB,impN]
  repeat' first|exact ck|with_reducible apply And.intro|intro _
  all_goals first|exact trivial|(rename_i h;first|exact oI h|exact nah h)|(rename_i _ h _ g;exact sL h g)|decide|omega|(refine ret_with [] ?_;simp only[↓eB,seval,go_sem,bne,yr_fFol,yb_fFol,yv_fFol,yz_fFol,RESLQ,xt,↓e_fac4,e_resq,h,h1])
 |some v=>
  have hv:vget q.vs x=v:=hvg _ h1
  cases hs:((vget q.vs x).s==[]) with
  |true=>
   have h:folF q x= .no 2:=by unfold folF;rw[if_pos hs]
   rw[hv]at hs
   simp only[↓eB,seval,go_sem,xt,↓e_fac4,Option.isSome_some,Option.isSome_none,yb_fFol,yv_fFol,yz_fFol,h1,h,hs]
   try simp only[impB,impN]
   repeat' first|exact ck|with_reducible apply And.intro|intro _
   all_goals first|exact trivial|(rename_i h;first|exact oI h|exact nah h)|(rename_i _ h _ g;exact sL h g)|decide|omega|(refine ret_with [] ?_;simp only[↓eB,seval,go_sem,bne,yr_fFol,yb_fFol,yv_fFol,yz_fFol,RESLQ,xt,↓e_fac4,e_resq,h,h1])
  |false=>
   cases h2:q.P.ci (vget q.vs x).s with
   |none=>
    have h:folF q x= .no 4:=by unfold folF;rw[if_neg (by rw[hs];decide),h2]
    rw[hv]at hs h2
    simp only[↓eB,seval,go_sem,xt,↓e_fac4,Option.isSome_some,Option.isSome_none,yb_fFol,yv_fFol,yz_fFol,h1,h,hs,h2]
    try simp only[impB,impN]
    repeat' first|exact ck|with_reducible apply And.intro|intro _
    all_goals first|exact trivial|(rename_i h;first|exact oI h|exact nah h)|(rename_i _ h _ g;exact sL h g)|decide|omega|(refine ret_with [] ?_;simp only[↓eB,seval,go_sem,bne,yr_fFol,yb_fFol,yv_fFol,yz_fFol,RESLQ,xt,↓e_fac4,e_resq,h,h1])
   |some i=>
    have h:folF q x= .ok i:=by unfold folF;rw[if_neg (by rw[hs];decide),h2]
    have hi:=Pg.ci_lt hc1 h2
    rw[hv]at hs h2
    simp only[↓eB,seval,go_sem,xt,↓e_fac4,Option.isSome_some,Option.isSome_none,yb_fFol,yv_fFol,yz_fFol,h1,h,hs,h2]
    try simp only[impB,impN]
    repeat' first|exact ck|with_reducible apply And.intro|intro _
    all_goals first|exact hi.1|exact hi.2|(rename_i h;first|exact oI h|exact nah h)|(rename_i _ h _ g;exact sL h g)|decide|omega|(refine ret_with [] ?_;simp only[↓eB,seval,go_sem,bne,yr_fFol,yb_fFol,yv_fFol,yz_fFol,RESLQ,xt,↓e_fac4,e_resq,h,h1])
noncomputable def yp_fFol {X:Ctx} {w0:World}:Sy.Spec Try.prog X w0:=yg_fFol y_fFol
abbrev yc_fAcc (q:Fa) (s:Sm) (i:Int):Prop:=okC q.P q.m∧∀a∈q.m.ar,a.l.length≤1000000000
abbrev yb_fAcc (q:Fa) (s:Sm) (i:Int):Bool:=(accF q s i).b
abbrev yv_fAcc (q:Fa) (s:Sm) (i:Int):Fa:=evA q s (accF q s i)
abbrev yz_fAcc (q:Fa) (s:Sm) (i:Int):Fa:=evW q s (accF q s i)
abbrev yr_fAcc (q:Fa) (s:Sm) (i:Int):SV:=.one (.q 1 0 ([(0,9),(((accF q s i).vl 0).toNat,1)]) (1) ((if (accF q s i).b=true then 0 else i.toNat)) (0))
theorem yt_fAcc:∀b,∀v∈ArgC.e (acS (cSp) (acS (cInt .i64) ac0)) b,v.tupB=false:=by rintro ⟨x0,x1,_⟩ v hv;simp only[acS_e,ac0_e,List.mem_cons,List.not_mem_nil,or_false]at hv;rcases hv with rfl|rfl<;>first|rfl|exact ex_tup _|exact cd_tup _
noncomputable abbrev ya_fAcc:ArgL (Fa×(Sm)×(Int)×Unit):=amFr (acS (cSp) (acS (cInt .i64) ac0)) yt_fAcc
abbrev yq_fAcc:Prop:=CallsL Try.prog 72 (ya_fAcc).args (ya_fAcc).mem (fun p:(Fa×(Sm)×(Int)×Unit)=>yc_fAcc p.1 p.2.1 p.2.2.1) (fun p:(Fa×(Sm)×(Int)×Unit)=>yb_fAcc p.1 p.2.1 p.2.2.1) (fun p:(Fa×(Sm)×(Int)×Unit)=>yr_fAcc p.1 p.2.1 p.2.2.1) (fun p:(Fa×(Sm)×(Int)×Unit)=>Fa.memO (yv_fAcc p.1 p.2.1 p.2.2.1)) (fun p:(Fa×(Sm)×(Int)×Unit)=>mlO (Fa.pan (yz_fAcc p.1 p.2.1 p.2.2.1)))
theorem yl_fAcc:∀p,(fun p:(Fa×(Sm)×(Int)×Unit)=>yc_fAcc p.1 p.2.1 p.2.2.1) p→(fun p:(Fa×(Sm)×(Int)×Unit)=>yb_fAcc p.1 p.2.1 p.2.2.1) p=false→lenL ((ya_fAcc).mem p).length ((fun p:(Fa×(Sm)×(Int)×Unit)=>Fa.memO (yv_fAcc p.1 p.2.1 p.2.2.1)) p)=true∧kdL ((ya_fAcc).mem p) ((fun p:(Fa×(Sm)×(Int)×Unit)=>Fa.memO (yv_fAcc p.1 p.2.1 p.2.2.1)) p)=true∧outQ ((fun p:(Fa×(Sm)×(Int)×Unit)=>Fa.memO (yv_fAcc p.1 p.2.1 p.2.2.1)) p) ((fun p:(Fa×(Sm)×(Int)×Unit)=>yr_fAcc p.1 p.2.1 p.2.2.1) p)∧∀q,some q∈(fun p:(Fa×(Sm)×(Int)×Unit)=>Fa.memO (yv_fAcc p.1 p.2.1 p.2.2.1)) p→okML ((fun p:(Fa×(Sm)×(Int)×Unit)=>Fa.memO (yv_fAcc p.1 p.2.1 p.2.2.1)) p).length q:=fun p _ _=>have h:=fa_out p.1 (yv_fAcc p.1 p.2.1 p.2.2.1);⟨h.1,h.2.1,⟨rfl,_,_,rfl,fa_cl _ _ rfl⟩,h.2.2⟩
theorem yw_fAcc:∀p,(fun p:(Fa×(Sm)×(Int)×Unit)=>yc_fAcc p.1 p.2.1 p.2.2.1) p→(fun p:(Fa×(Sm)×(Int)×Unit)=>yb_fAcc p.1 p.2.1 p.2.2.1) p=true→((fun p:(Fa×(Sm)×(Int)×Unit)=>mlO (Fa.pan (yz_fAcc p.1 p.2.1 p.2.2.1))) p).length=((ya_fAcc).mem p).length∧kdL ((ya_fAcc).mem p) ((fun p:(Fa×(Sm)×(Int)×Unit)=>mlO (Fa.pan (yz_fAcc p.1 p.2.1 p.2.2.1))) p)=true∧∀q,some q∈(fun p:(Fa×(Sm)×(Int)×Unit)=>mlO (Fa.pan (yz_fAcc p.1 p.2.1 p.2.2.1))) p→okML ((fun p:(Fa×(Sm)×(Int)×Unit)=>mlO (Fa.pan (yz_fAcc p.1 p.2.1 p.2.2.1))) p).length q:=fun p _ _=>fa_pan p.1 (yz_fAcc p.1 p.2.1 p.2.2.1)
theorem yd_fAcc:∀p,(fun p:(Fa×(Sm)×(Int)×Unit)=>yc_fAcc p.1 p.2.1 p.2.2.1) p→(fun p:(Fa×(Sm)×(Int)×Unit)=>yb_fAcc p.1 p.2.1 p.2.2.1) p=true→lenL ((ya_fAcc).mem p).length ((fun p:(Fa×(Sm)×(Int)×Unit)=>Fa.memO (yv_fAcc p.1 p.2.1 p.2.2.1)) p)=true∧outQ ((fun p:(Fa×(Sm)×(Int)×Unit)=>Fa.memO (yv_fAcc p.1 p.2.1 p.2.2.1)) p) ((fun p:(Fa×(Sm)×(Int)×Unit)=>yr_fAcc p.1 p.2.1 p.2.2.1) p):=fun p _ _=>⟨(fa_out p.1 (yv_fAcc p.1 p.2.1 p.2.2.1)).1,⟨rfl,_,_,rfl,fa_cl _ _ rfl⟩⟩
noncomputable def yg_fAcc {X:Ctx} {w0:World} (h:yq_fAcc):Sy.Spec Try.prog X w0:=specL' 72 Try.call72 (ya_fAcc) (fun p:(Fa×(Sm)×(Int)×Unit)=>yc_fAcc p.1 p.2.1 p.2.2.1) (fun p:(Fa×(Sm)×(Int)×Unit)=>yb_fAcc p.1 p.2.1 p.2.2.1) (fun p:(Fa×(Sm)×(Int)×Unit)=>yr_fAcc p.1 p.2.1 p.2.2.1) (fun p:(Fa×(Sm)×(Int)×Unit)=>Fa.memO (yv_fAcc p.1 p.2.1 p.2.2.1)) (fun p:(Fa×(Sm)×(Int)×Unit)=>mlO (Fa.pan (yz_fAcc p.1 p.2.1 p.2.2.1))) (yl_fAcc) (yw_fAcc) (yd_fAcc) (fun _=>rfl) h
theorem yF_fAcc {X:Ctx} {w0:World} (h:yq_fAcc):(yg_fAcc (X:=X) (w0:=w0) h).f=72:=rfl
theorem yN_fAcc {X:Ctx} {w0:World} (h:yq_fAcc) (t:Nat) (args:List SV) (H:Hp):(yg_fAcc (X:=X) (w0:=w0) h).fn t args H=spL X ((ya_fAcc).d H args) t H (fun p:(Fa×(Sm)×(Int)×Unit)=>yc_fAcc p.1 p.2.1 p.2.2.1) (fun p:(Fa×(Sm)×(Int)×Unit)=>yb_fAcc p.1 p.2.1 p.2.2.1) (fun p:(Fa×(Sm)×(Int)×Unit)=>yr_fAcc p.1 p.2.1 p.2.2.1) (fun p:(Fa×(Sm)×(Int)×Unit)=>Fa.memO (yv_fAcc p.1 p.2.1 p.2.2.1)) (fun p:(Fa×(Sm)×(Int)×Unit)=>mlO (Fa.pan (yz_fAcc p.1 p.2.1 p.2.2.1))):=rfl
set_option maxRecDepth 20000 in set_option maxHeartbeats 16000000 in
theorem y_fAcc:yq_fAcc:=by
 rintro ⟨q,s,i,_u⟩ w M I lab fz xs hc hA hl hx
 refine calls_toLQ Try.func72 rfl (Fa.mem q) w M I lab fz (yb_fAcc q s i) (Fa.pan (yz_fAcc q s i)) (Fa.memO (yv_fAcc q s i)) [yp_fBrk] [] ((ya_fAcc).args ⟨q,s,i,_u⟩) 1 ([(0,9),(((accF q s i).vl 0).toNat,1)]) (1) ((if (accF q s i).b=true then 0 else i.toNat)) (0) xs hA hl hx (amFr_nm _ _ _ _) (Nat.le_of_ble_eq_true rfl) (Nat.le_refl _) rfl (fa_pnm _) ?_
 clear hx hl hA xs
 simp only[Try.f72]
 obtain⟨hc1,hc2⟩:=hc
 dsimp only at hc1 hc2
 obtain⟨k0,x,y,e0,f0,cd0,ar0,th0,el0,no0⟩:=s
 cases h2:q.P.ai y with
 |none=>
  have h:accF q (.mk k0 x y e0 f0 cd0 ar0 th0 el0 no0) i= .no 4:=by unfold accF;rw[show q.P.ai (Sm.mk k0 x y e0 f0 cd0 ar0 th0 el0 no0).y=none from h2]
  simp only[↓eB,seval,go_sem,xt,↓e_fac4,Option.isSome_some,Option.isSome_none,yb_fAcc,yv_fAcc,yz_fAcc,h,h2]
  try simp only[impB,impN]
  repeat' first|exact ck|with_reducible apply And.intro|intro _
  all_goals first|exact trivial|(rename_i h;first|exact oI h|exact nah h)|(rename_i _ h _ g;exact sL h g)|decide|omega|(refine ret_with [] ?_;simp only[↓eB,seval,go_sem,bne,yr_fAcc,yb_fAcc,yv_fAcc,yz_fAcc,RESLQ,xt,↓e_fac4,e_resq,h])
 |some k=>
  have hi:=Pg.ai_lt hc1 h2
  have hg:=na_get hi
  have ha:(q.m.ar.getD k.toNat ⟨[],[]⟩).l.length≤1000000000:=hc2 _ (by
   have:k.toNat<q.m.ar.length:=by omega
   rw[List.getD,List.getElem?_eq_getElem this];exact List.getElem_mem this)
  cases n1:decide (i<0) with
  |true=>
   have h:accF q (.mk k0 x y e0 f0 cd0 ar0 th0 el0 no0) i= .no 1:=by unfold accF;rw[show q.P.ai (Sm.mk k0 x y e0 f0 cd0 ar0 th0 el0 no0).y=some k from h2];exact if_pos (.inl (of_decide_eq_true n1))
   simp only[↓eB,seval,go_sem,xt,↓e_fac4,Option.isSome_some,Option.isSome_none,yb_fAcc,yv_fAcc,yz_fAcc,h,h2,hg,n1]
   try simp only[impB,impN]
   repeat' first|exact ck|with_reducible apply And.intro|intro _
   all_goals first|exact hi.1|exact hi.2|(rename_i h;first|exact oI h|exact nah h)|(rename_i _ h _ g;exact sL h g)|decide|omega|(refine ret_with [] ?_;simp only[↓eB,seval,go_sem,bne,yr_fAcc,yb_fAcc,yv_fAcc,yz_fAcc,RESLQ,xt,↓e_fac4,e_resq,h])
  |false=>
   cases n2:decide (((q.m.ar.getD k.toNat ⟨[],[]⟩).l.length:Int)≤i) with
   |true=>
    have h:accF q (.mk k0 x y e0 f0 cd0 ar0 th0 el0 no0) i= .no 1:=by unfold accF;rw[show q.P.ai (Sm.mk k0 x y e0 f0 cd0 ar0 th0 el0 no0).y=some k from h2];exact if_pos (.inr (of_decide_eq_true n2))
    simp only[↓eB,seval,go_sem,xt,↓e_fac4,Option.isSome_some,Option.isSome_none,yb_fAcc,yv_fAcc,yz_fAcc,h,h2,hg,n1,n2]
    try simp only[impB,impN]
    repeat' first|exact ck|with_reducible apply And.intro|intro _
    all_goals first|exact hi.1|exact hi.2|(rename_i h;first|exact oI h|exact nah h)|(rename_i _ h _ g;exact sL h g)|decide|omega|(refine ret_with [] ?_;simp only[↓eB,seval,go_sem,bne,yr_fAcc,yb_fAcc,yv_fAcc,yz_fAcc,RESLQ,xt,↓e_fac4,e_resq,h])
   |false=>
    have m1:=of_decide_eq_false n1
    have m2:=of_decide_eq_false n2
    have h:accF q (.mk k0 x y e0 f0 cd0 ar0 th0 el0 no0) i= .ok k:=by unfold accF;rw[show q.P.ai (Sm.mk k0 x y e0 f0 cd0 ar0 th0 el0 no0).y=some k from h2];exact if_neg (fun hh=>by rcases hh with hh|hh;exact m1 hh;exact m2 hh)
    simp only[↓eB,seval,go_sem,xt,↓e_fac4,Option.isSome_some,Option.isSome_none,yb_fAcc,yv_fAcc,yz_fAcc,h,h2,hg,n1,n2]
    try simp only[impB,impN]
    repeat' first|exact ck|with_reducible apply And.intro|intro _
    all_goals first|exact hi.1|exact hi.2|(rename_i h;first|exact oI h|exact nah h)|(rename_i _ h _ g;exact sL h g)|decide|omega|(refine ret_with [] ?_;simp only[↓eB,seval,go_sem,bne,yr_fAcc,yb_fAcc,yv_fAcc,yz_fAcc,RESLQ,xt,↓e_fac4,e_resq,h])
noncomputable def yp_fAcc {X:Ctx} {w0:World}:Sy.Spec Try.prog X w0:=yg_fAcc y_fAcc
end Go.Proofs.Ytjnnmindcbgjhab
