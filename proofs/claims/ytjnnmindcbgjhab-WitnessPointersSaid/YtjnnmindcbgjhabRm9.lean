/- Statements, blocks, loops, calls: walked. No conditions but those in each statement. -/
import Derived.Test.YtjnnmindcbgjhabRm6
import Derived.Test.YtjnnmindcbgjhabRm7
import Derived.Test.YtjnnmindcbgjhabRm8
set_option linter.unusedVariables false
set_option linter.unusedSimpArgs false
namespace Go.Proofs.Ytjnnmindcbgjhab
open Go Go.Sy Go.RowKit
theorem sp_at {l:List Sm} {i:Nat} {x:Sm} (h:l[i]?=some x) (z:List D):(l.map Sm.r).getD i z=x.r:=by simp[List.getD,h]
structure okT (N:Nat) (s:Sm):Prop where
 k:OkS N s
 t:∃m,okB N m s.th
 e:∃m,okB N m s.el
theorem okB_T {N m:Nat} {l:List Sm} {s:Sm} (h:okB N m l) (hs:s∈l):okT N s:=by
 cases m with
 |zero=>exact h.elim
 |succ m=>obtain⟨a,b,c⟩:=h.2 s hs;exact⟨a,⟨m,b⟩,⟨m,c⟩⟩
theorem okB_len {N m:Nat} {l:List Sm} (h:okB N m l):l.length≤5000:=by
 cases m with
 |zero=>exact h.elim
 |succ m=>exact h.1
abbrev yc_fStmt (N:Nat) (n:Nat) (q:Fa) (s:Sm):Prop:=okT N s∧okMs N n q∧n≤1000000000
abbrev yb_fStmt (N:Nat) (n:Nat) (q:Fa) (s:Sm):Bool:=(stF n s q).b
abbrev yv_fStmt (N:Nat) (n:Nat) (q:Fa) (s:Sm):Fa:=(stF n s q).q
abbrev yz_fStmt (N:Nat) (n:Nat) (q:Fa) (s:Sm):Fa:=(stF n s q).q
abbrev yr_fStmt (N:Nat) (n:Nat) (q:Fa) (s:Sm):SV:=.one (.v (.bool (stF n s q).t))
theorem yt_fStmt:∀b,∀v∈ArgC.e (acS (cSp) ac0) b,v.tupB=false:=by rintro ⟨x0,_⟩ v hv;simp only[acS_e,ac0_e,List.mem_cons,List.not_mem_nil,or_false]at hv;subst hv<;>first|rfl|exact ex_tup _|exact cd_tup _
noncomputable abbrev ya_fStmt:ArgL (Fa×(Sm)×Unit):=amFr (acS (cSp) ac0) yt_fStmt
abbrev yq_fStmt (N:Nat) (n:Nat):Prop:=CallsL Try.prog 63 (ya_fStmt).args (ya_fStmt).mem (fun p:(Fa×(Sm)×Unit)=>yc_fStmt N n p.1 p.2.1) (fun p:(Fa×(Sm)×Unit)=>yb_fStmt N n p.1 p.2.1) (fun p:(Fa×(Sm)×Unit)=>yr_fStmt N n p.1 p.2.1) (fun p:(Fa×(Sm)×Unit)=>Fa.memO (yv_fStmt N n p.1 p.2.1)) (fun p:(Fa×(Sm)×Unit)=>mlO (Fa.pan (yz_fStmt N n p.1 p.2.1)))
theorem yl_fStmt (N:Nat) (n:Nat):∀p,(fun p:(Fa×(Sm)×Unit)=>yc_fStmt N n p.1 p.2.1) p→(fun p:(Fa×(Sm)×Unit)=>yb_fStmt N n p.1 p.2.1) p=false→lenL ((ya_fStmt).mem p).length ((fun p:(Fa×(Sm)×Unit)=>Fa.memO (yv_fStmt N n p.1 p.2.1)) p)=true∧kdL ((ya_fStmt).mem p) ((fun p:(Fa×(Sm)×Unit)=>Fa.memO (yv_fStmt N n p.1 p.2.1)) p)=true∧outQ ((fun p:(Fa×(Sm)×Unit)=>Fa.memO (yv_fStmt N n p.1 p.2.1)) p) ((fun p:(Fa×(Sm)×Unit)=>yr_fStmt N n p.1 p.2.1) p)∧∀q,some q∈(fun p:(Fa×(Sm)×Unit)=>Fa.memO (yv_fStmt N n p.1 p.2.1)) p→okML ((fun p:(Fa×(Sm)×Unit)=>Fa.memO (yv_fStmt N n p.1 p.2.1)) p).length q:=fun p _ _=>have h:=fa_out p.1 (yv_fStmt N n p.1 p.2.1);⟨h.1,h.2.1,rfl,h.2.2⟩
theorem yw_fStmt (N:Nat) (n:Nat):∀p,(fun p:(Fa×(Sm)×Unit)=>yc_fStmt N n p.1 p.2.1) p→(fun p:(Fa×(Sm)×Unit)=>yb_fStmt N n p.1 p.2.1) p=true→((fun p:(Fa×(Sm)×Unit)=>mlO (Fa.pan (yz_fStmt N n p.1 p.2.1))) p).length=((ya_fStmt).mem p).length∧kdL ((ya_fStmt).mem p) ((fun p:(Fa×(Sm)×Unit)=>mlO (Fa.pan (yz_fStmt N n p.1 p.2.1))) p)=true∧∀q,some q∈(fun p:(Fa×(Sm)×Unit)=>mlO (Fa.pan (yz_fStmt N n p.1 p.2.1))) p→okML ((fun p:(Fa×(Sm)×Unit)=>mlO (Fa.pan (yz_fStmt N n p.1 p.2.1))) p).length q:=fun p _ _=>fa_pan p.1 (yz_fStmt N n p.1 p.2.1)
theorem yd_fStmt (N:Nat) (n:Nat):∀p,(fun p:(Fa×(Sm)×Unit)=>yc_fStmt N n p.1 p.2.1) p→(fun p:(Fa×(Sm)×Unit)=>yb_fStmt N n p.1 p.2.1) p=true→lenL ((ya_fStmt).mem p).length ((fun p:(Fa×(Sm)×Unit)=>Fa.memO (yv_fStmt N n p.1 p.2.1)) p)=true∧outQ ((fun p:(Fa×(Sm)×Unit)=>Fa.memO (yv_fStmt N n p.1 p.2.1)) p) ((fun p:(Fa×(Sm)×Unit)=>yr_fStmt N n p.1 p.2.1) p):=fun p _ _=>⟨(fa_out p.1 (yv_fStmt N n p.1 p.2.1)).1,rfl⟩
noncomputable def yg_fStmt {X:Ctx} {w0:World} (N:Nat) (n:Nat) (h:yq_fStmt N n):Sy.Spec Try.prog X w0:=specL' 63 Try.call63 (ya_fStmt) (fun p:(Fa×(Sm)×Unit)=>yc_fStmt N n p.1 p.2.1) (fun p:(Fa×(Sm)×Unit)=>yb_fStmt N n p.1 p.2.1) (fun p:(Fa×(Sm)×Unit)=>yr_fStmt N n p.1 p.2.1) (fun p:(Fa×(Sm)×Unit)=>Fa.memO (yv_fStmt N n p.1 p.2.1)) (fun p:(Fa×(Sm)×Unit)=>mlO (Fa.pan (yz_fStmt N n p.1 p.2.1))) (yl_fStmt N n) (yw_fStmt N n) (yd_fStmt N n) (fun _=>rfl) h
theorem yF_fStmt {X:Ctx} {w0:World} (N:Nat) (n:Nat) (h:yq_fStmt N n):(yg_fStmt (X:=X) (w0:=w0) N n h).f=63:=rfl
theorem yN_fStmt {X:Ctx} {w0:World} (N:Nat) (n:Nat) (h:yq_fStmt N n) (t:Nat) (args:List SV) (H:Hp):(yg_fStmt (X:=X) (w0:=w0) N n h).fn t args H=spL X ((ya_fStmt).d H args) t H (fun p:(Fa×(Sm)×Unit)=>yc_fStmt N n p.1 p.2.1) (fun p:(Fa×(Sm)×Unit)=>yb_fStmt N n p.1 p.2.1) (fun p:(Fa×(Sm)×Unit)=>yr_fStmt N n p.1 p.2.1) (fun p:(Fa×(Sm)×Unit)=>Fa.memO (yv_fStmt N n p.1 p.2.1)) (fun p:(Fa×(Sm)×Unit)=>mlO (Fa.pan (yz_fStmt N n p.1 p.2.1))):=rfl
abbrev yc_fBlock (N:Nat) (n:Nat) (q:Fa) (l:List Sm):Prop:=(∃m,okB N m l)∧okMs N n q∧n≤1000000000
abbrev yb_fBlock (N:Nat) (n:Nat) (q:Fa) (l:List Sm):Bool:=(blF (stF n) l q).b
abbrev yv_fBlock (N:Nat) (n:Nat) (q:Fa) (l:List Sm):Fa:=(blF (stF n) l q).q
abbrev yz_fBlock (N:Nat) (n:Nat) (q:Fa) (l:List Sm):Fa:=(blF (stF n) l q).q
abbrev yr_fBlock (N:Nat) (n:Nat) (q:Fa) (l:List Sm):SV:=.one (.v (.bool (blF (stF n) l q).t))
theorem yt_fBlock:∀b,∀v∈ArgC.e (acS (cSs) ac0) b,v.tupB=false:=by rintro ⟨x0,_⟩ v hv;simp only[acS_e,ac0_e,List.mem_cons,List.not_mem_nil,or_false]at hv;subst hv<;>first|rfl|exact ex_tup _|exact cd_tup _
noncomputable abbrev ya_fBlock:ArgL (Fa×(List Sm)×Unit):=amFr (acS (cSs) ac0) yt_fBlock
abbrev yq_fBlock (N:Nat) (n:Nat):Prop:=CallsL Try.prog 60 (ya_fBlock).args (ya_fBlock).mem (fun p:(Fa×(List Sm)×Unit)=>yc_fBlock N n p.1 p.2.1) (fun p:(Fa×(List Sm)×Unit)=>yb_fBlock N n p.1 p.2.1) (fun p:(Fa×(List Sm)×Unit)=>yr_fBlock N n p.1 p.2.1) (fun p:(Fa×(List Sm)×Unit)=>Fa.memO (yv_fBlock N n p.1 p.2.1)) (fun p:(Fa×(List Sm)×Unit)=>mlO (Fa.pan (yz_fBlock N n p.1 p.2.1)))
theorem yl_fBlock (N:Nat) (n:Nat):∀p,(fun p:(Fa×(List Sm)×Unit)=>yc_fBlock N n p.1 p.2.1) p→(fun p:(Fa×(List Sm)×Unit)=>yb_fBlock N n p.1 p.2.1) p=false→lenL ((ya_fBlock).mem p).length ((fun p:(Fa×(List Sm)×Unit)=>Fa.memO (yv_fBlock N n p.1 p.2.1)) p)=true∧kdL ((ya_fBlock).mem p) ((fun p:(Fa×(List Sm)×Unit)=>Fa.memO (yv_fBlock N n p.1 p.2.1)) p)=true∧outQ ((fun p:(Fa×(List Sm)×Unit)=>Fa.memO (yv_fBlock N n p.1 p.2.1)) p) ((fun p:(Fa×(List Sm)×Unit)=>yr_fBlock N n p.1 p.2.1) p)∧∀q,some q∈(fun p:(Fa×(List Sm)×Unit)=>Fa.memO (yv_fBlock N n p.1 p.2.1)) p→okML ((fun p:(Fa×(List Sm)×Unit)=>Fa.memO (yv_fBlock N n p.1 p.2.1)) p).length q:=fun p _ _=>have h:=fa_out p.1 (yv_fBlock N n p.1 p.2.1);⟨h.1,h.2.1,rfl,h.2.2⟩
theorem yw_fBlock (N:Nat) (n:Nat):∀p,(fun p:(Fa×(List Sm)×Unit)=>yc_fBlock N n p.1 p.2.1) p→(fun p:(Fa×(List Sm)×Unit)=>yb_fBlock N n p.1 p.2.1) p=true→((fun p:(Fa×(List Sm)×Unit)=>mlO (Fa.pan (yz_fBlock N n p.1 p.2.1))) p).length=((ya_fBlock).mem p).length∧kdL ((ya_fBlock).mem p) ((fun p:(Fa×(List Sm)×Unit)=>mlO (Fa.pan (yz_fBlock N n p.1 p.2.1))) p)=true∧∀q,some q∈(fun p:(Fa×(List Sm)×Unit)=>mlO (Fa.pan (yz_fBlock N n p.1 p.2.1))) p→okML ((fun p:(Fa×(List Sm)×Unit)=>mlO (Fa.pan (yz_fBlock N n p.1 p.2.1))) p).length q:=fun p _ _=>fa_pan p.1 (yz_fBlock N n p.1 p.2.1)
theorem yd_fBlock (N:Nat) (n:Nat):∀p,(fun p:(Fa×(List Sm)×Unit)=>yc_fBlock N n p.1 p.2.1) p→(fun p:(Fa×(List Sm)×Unit)=>yb_fBlock N n p.1 p.2.1) p=true→lenL ((ya_fBlock).mem p).length ((fun p:(Fa×(List Sm)×Unit)=>Fa.memO (yv_fBlock N n p.1 p.2.1)) p)=true∧outQ ((fun p:(Fa×(List Sm)×Unit)=>Fa.memO (yv_fBlock N n p.1 p.2.1)) p) ((fun p:(Fa×(List Sm)×Unit)=>yr_fBlock N n p.1 p.2.1) p):=fun p _ _=>⟨(fa_out p.1 (yv_fBlock N n p.1 p.2.1)).1,rfl⟩
noncomputable def yg_fBlock {X:Ctx} {w0:World} (N:Nat) (n:Nat) (h:yq_fBlock N n):Sy.Spec Try.prog X w0:=specL' 60 Try.call60 (ya_fBlock) (fun p:(Fa×(List Sm)×Unit)=>yc_fBlock N n p.1 p.2.1) (fun p:(Fa×(List Sm)×Unit)=>yb_fBlock N n p.1 p.2.1) (fun p:(Fa×(List Sm)×Unit)=>yr_fBlock N n p.1 p.2.1) (fun p:(Fa×(List Sm)×Unit)=>Fa.memO (yv_fBlock N n p.1 p.2.1)) (fun p:(Fa×(List Sm)×Unit)=>mlO (Fa.pan (yz_fBlock N n p.1 p.2.1))) (yl_fBlock N n) (yw_fBlock N n) (yd_fBlock N n) (fun _=>rfl) h
theorem yF_fBlock {X:Ctx} {w0:World} (N:Nat) (n:Nat) (h:yq_fBlock N n):(yg_fBlock (X:=X) (w0:=w0) N n h).f=60:=rfl
theorem yN_fBlock {X:Ctx} {w0:World} (N:Nat) (n:Nat) (h:yq_fBlock N n) (t:Nat) (args:List SV) (H:Hp):(yg_fBlock (X:=X) (w0:=w0) N n h).fn t args H=spL X ((ya_fBlock).d H args) t H (fun p:(Fa×(List Sm)×Unit)=>yc_fBlock N n p.1 p.2.1) (fun p:(Fa×(List Sm)×Unit)=>yb_fBlock N n p.1 p.2.1) (fun p:(Fa×(List Sm)×Unit)=>yr_fBlock N n p.1 p.2.1) (fun p:(Fa×(List Sm)×Unit)=>Fa.memO (yv_fBlock N n p.1 p.2.1)) (fun p:(Fa×(List Sm)×Unit)=>mlO (Fa.pan (yz_fBlock N n p.1 p.2.1))):=rfl
attribute [local go_sem] Fa.mem Fa.memO Fa.pan ML.ch ML.ren Ms.brk Ms.exh Ms.spd Sm.ar Sm.cd Sm.e Sm.el Sm.f Sm.k Sm.no Sm.th Sm.x Sm.y amFr_a amFr_d amFr_m bumpL cCd_d cCd_e cCd_n cEx_d cEx_e cEx_n cSp_d cSp_e cSs_d cSs_e chL faD_p faJ_some faK_some fa_eta fcN flN_vs frC frD_v frJ_eq lmH lmO mMc_d' mMc_e mMc_z mcC mcD_v mcR_d mcW mlO_nil mlO_none mlO_some ms_eta nmX pairN_o pairO_n pg_eta pnL_nil pnL_none pnL_some pnOL_f pnOL_t pnOf_f pnOf_t renQ renQC rnC sm_r spFn_n spL_some specL'_f specL'_fn updL updX vrQ vsD_v vs_ren wkR_me
set_option maxRecDepth 20000 in set_option maxHeartbeats 32000000 in
theorem y_fBlock (N:Nat) (n:Nat) (hu:yq_fStmt N n):yq_fBlock N n:=by
 rintro ⟨q,l,_u⟩ w M I lab fz xs hc hA hl hx
 refine calls_toLM Try.func60 rfl (Fa.mem q) w M I lab fz (yb_fBlock N n q l) (Fa.pan (yz_fBlock N n q l)) (Fa.memO (yv_fBlock N n q l)) [(yg_fStmt N n hu)] [] ((ya_fBlock).args ⟨q,l,_u⟩) (yr_fBlock N n q l) xs hA hl hx (amFr_nm _ _ _ _) (Nat.le_of_ble_eq_true rfl) (Nat.le_refl _) rfl (fa_pnm _) ?_
 clear hx hl hA xs
 simp only[Try.f60]
 obtain⟨⟨m,hl⟩,hM,hn⟩:=hc
 dsimp only at hl hM hn
 have hlen:=okB_len hl
 obtain⟨G,hG⟩:∃G,blF (stF n) l q=G:=⟨_,rfl⟩
 simp only[↓eB,seval,go_sem,xt,↓e_fac4,mp_ci,mp_ai,mp_fi,mp_vs,Va.c,Option.isSome_some,Option.isSome_none,Ev.b,Ev.vl,evA,evW,va0,yF_fStmt,yN_fStmt,yr_fStmt,yb_fStmt,yv_fStmt,yz_fStmt,yb_fBlock,yv_fBlock,yz_fBlock,hG]
 refine loop_ok (Y:=Nat×Fa) (fun z=>z.1≤l.length∧okMs N n z.2∧blF (stF n) (l.drop z.1) z.2=G)
  (fun z=>⟨[(0,true,.one (.p 0 0 0)),(1,true,.one (.d (.sl zSm (l.map Sm.r)))),(6,true,.one (.d (.sl zSm (l.map Sm.r)))),(7,true,.one (.v (.int .i64 (l.length:Int)))),(8,true,.one (.v (.int .i64 (z.1:Int))))],[(0,.vec 0 zFr [frC z.2]),(1,.vec 0 zMc [mcC z.2.P z.2.m]),(2,.mp true (vsC z.2.vs))]⟩)
  (fun z=>l.length-z.1) (0,q) ⟨Nat.zero_le _,hM,hG⟩ ?_ ?_
 ·refine to_with [] ?_;simp only[↓eB,seval,go_sem,xt,↓e_fac4]
 ·rintro ⟨i,r⟩ ⟨hi,hr,hJ⟩
  dsimp only at hi hr hJ
  refine vc_ok [yg_fStmt N n hu] [] _ _ _ ?_
  have w1:IntKind.i64.wrap ((i:Int)+1)=((i+1:Nat):Int):=by rw[wrap_i64 (by omega) (by omega)];rfl
  cases hx:l[i]? with
  |none=>
   have h2:=List.getElem?_eq_none_iff.1 hx
   have h1:=natI_ge h2
   rw[List.drop_eq_nil_of_le h2]at hJ
   have hJ':r.go=G:=hJ
   subst hJ'
   simp only[↓eB,seval,go_sem,xt,↓e_fac4,mp_ci,mp_ai,mp_fi,mp_vs,Va.c,Option.isSome_some,Option.isSome_none,Ev.b,Ev.vl,evA,evW,va0,yF_fStmt,yN_fStmt,yr_fStmt,yb_fStmt,yv_fStmt,yz_fStmt,yb_fBlock,yv_fBlock,yz_fBlock,h1,hG]
   try simp only[impB,impN]
   repeat' first|exact ck|with_reducible apply And.intro|intro _
   all_goals first|exact trivial|(rename_i h;first|exact oI h|exact nah h)|(rename_i _ h _ g;exact sL h g)|decide|omega|(refine ret_with [] ?_;simp only[↓eB,seval,go_sem,bne,yr_fBlock,yb_fBlock,yv_fBlock,yz_fBlock,e_RESLP,xt,↓e_fac4,Ev.b,Ev.vl,evA,evW,va0,hG,Fa.go])
  |some s=>
   have hlt:=(List.getElem?_eq_some_iff.1 hx).1
   have h1:=natI_lt hlt
   have h2:=sp_at hx
   have hT:=okB_T hl (List.mem_of_getElem? hx)
   have hk:=kq_st n s r hr.l (by have:=hr.u;omega)
   rw[drop_get hx]at hJ
   simp only[blF]at hJ
   obtain⟨T,hT2⟩:∃T,stF n s r=T:=⟨_,rfl⟩
   rw[hT2]at hJ hk
   obtain⟨k0,x0,y0,e0,f0,cd0,ar0,th0,el0,no0⟩:=s
   obtain⟨b,t,r'⟩:=T
   cases b with
   |true=>
    have hJ':(⟨true,t,r'⟩:Ro)=G:=by simpa using hJ
    subst hJ'
    simp only[↓eB,seval,go_sem,xt,↓e_fac4,mp_ci,mp_ai,mp_fi,mp_vs,Va.c,Option.isSome_some,Option.isSome_none,Ev.b,Ev.vl,evA,evW,va0,yF_fStmt,yN_fStmt,yr_fStmt,yb_fStmt,yv_fStmt,yz_fStmt,yb_fBlock,yv_fBlock,yz_fBlock,h1,h2,hG,hT2]
    try simp only[impB,impN]
    repeat' first|exact ck|with_reducible apply And.intro|intro _
    all_goals first|exact⟨hT,hr,hn⟩|(rename_i h;first|exact oI h|exact nah h)|(rename_i _ h _ g;exact sL h g)|decide|omega|(refine ret_with [] ?_;simp only[↓eB,seval,go_sem,bne,yr_fBlock,yb_fBlock,yv_fBlock,yz_fBlock,e_RESLP,xt,↓e_fac4,Ev.b,Ev.vl,evA,evW,va0,hG,hT2])
   |false=>
   cases t with
   |true=>
    have hJ':(⟨false,true,r'⟩:Ro)=G:=by simpa using hJ
    subst hJ'
    simp only[↓eB,seval,go_sem,xt,↓e_fac4,mp_ci,mp_ai,mp_fi,mp_vs,Va.c,Option.isSome_some,Option.isSome_none,Ev.b,Ev.vl,evA,evW,va0,yF_fStmt,yN_fStmt,yr_fStmt,yb_fStmt,yv_fStmt,yz_fStmt,yb_fBlock,yv_fBlock,yz_fBlock,h1,h2,hG,hT2]
    try simp only[impB,impN]
    repeat' first|exact ck|with_reducible apply And.intro|intro _
    all_goals first|exact⟨hT,hr,hn⟩|(rename_i h;first|exact oI h|exact nah h)|(rename_i _ h _ g;exact sL h g)|decide|omega|(refine ret_with [] ?_;simp only[↓eB,seval,go_sem,bne,yr_fBlock,yb_fBlock,yv_fBlock,yz_fBlock,e_RESLP,xt,↓e_fac4,Ev.b,Ev.vl,evA,evW,va0,hG,hT2])
   |false=>
    have hJ':blF (stF n) (l.drop (i+1)) r'=G:=by simpa using hJ
    simp only[↓eB,seval,go_sem,xt,↓e_fac4,mp_ci,mp_ai,mp_fi,mp_vs,Va.c,Option.isSome_some,Option.isSome_none,Ev.b,Ev.vl,evA,evW,va0,yF_fStmt,yN_fStmt,yr_fStmt,yb_fStmt,yv_fStmt,yz_fStmt,yb_fBlock,yv_fBlock,yz_fBlock,h1,h2,hG,hT2,w1]
    try simp only[impB,impN]
    repeat' first|exact ck|with_reducible apply And.intro|intro _
    all_goals try first|exact⟨hT,hr,hn⟩|(rename_i h;first|exact oI h|exact nah h)|(rename_i _ h _ g;exact sL h g)|decide|omega
    refine⟨(i+1,r'),⟨hlt,hr.kq hk (by have h9:r'.m.fuel≤r.m.fuel:=hk.u;have:=hr.u;show r'.m.fuel<_;omega),hJ'⟩,by dsimp only;omega,to_with [] ?_⟩
    simp only[↓eB,seval,go_sem,xt,↓e_fac4]
end Go.Proofs.Ytjnnmindcbgjhab
