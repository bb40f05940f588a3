/- A frame's values, walked. No conditions but those in each statement. -/
import Derived.Test.YtjnnmindcbgjhabSy42
set_option linter.unusedVariables false
set_option linter.unusedSimpArgs false
namespace Go.Proofs.Ytjnnmindcbgjhab
open Go Go.Sy Go.RowKit
theorem ex_tup (e:Ex):(SV.one (exC e)).tupB=false:=rfl
theorem cd_tup (e:Cd):(SV.one (cdC e)).tupB=false:=rfl
theorem fa_eta (q:Fa):(⟨q.nm,q.ret,q.P,q.m,q.vs⟩:Fa)=q:=rfl
noncomputable def cSp:Cod Sm:=codOf (fun s=>.one (.dp s.r)) (fun v a b h h'=>by
 cases v with
 |one c=>
  rcases h with rfl|⟨_,h2⟩
  ·rcases h' with h|⟨_,h4⟩
   ·simp only[C.dp.injEq]at h
    exact sm_inj a b h
   ·cases h4
  ·cases h2
 |agg l=>exact h.elim
 |tup l=>exact h.elim) (fun s=>rfl)
theorem cSp_e (s:Sm):cSp.e s= .one (.dp s.r):=rfl
theorem cSp_d (k no:Int) (x y:List UInt8) (e f:Ex) (cd:Cd) (ar:List Ar) (th el:List Sm):cSp.d (.one (.dp [.v (.int .i64 k),.v (.string (bs x)),.v (.string (bs y)),e.d,f.d,cd.d,.sl zAr (ar.map Ar.r),.sl zSm (th.map Sm.r),.sl zSm (el.map Sm.r),.v (.int .i64 no)]))=some (.mk k x y e f cd ar th el no):=by
 have h:cSp.d (.one (.dp (Sm.mk k x y e f cd ar th el no).r))=some (.mk k x y e f cd ar th el no):=codOf_le (e:=fun s:Sm=>.one (.dp s.r)) (leV_refl _)
 rw[sm_r]at h;exact h
theorem mp_get (l:List (List UInt8×Int)) (s:List UInt8):mget ((mpI l).map fun p=>(p.1,[C.v p.2])) s=(mget l s).map fun i=>[.v (.int .i64 i)]:=by
 unfold mpI
 rw[mget_map (fun x:Value=>[C.v x]),mget_map (fun x:Int=>Value.int .i64 x),Option.map_map];rfl
theorem mp_ci (P:Pg) (s:List UInt8):mget ((mpI (fI P.g.c)).map fun p=>(p.1,[C.v p.2])) s=(P.ci s).map fun i=>[.v (.int .i64 i)]:=mp_get _ _
theorem mp_ai (P:Pg) (s:List UInt8):mget ((mpI (fI (P.g.a.map Gy.s))).map fun p=>(p.1,[C.v p.2])) s=(P.ai s).map fun i=>[.v (.int .i64 i)]:=mp_get _ _
theorem mp_fi (P:Pg) (s:List UInt8):mget ((mpI (fI (P.fs.map Fn.name))).map fun p=>(p.1,[C.v p.2])) s=(P.fi s).map fun i=>[.v (.int .i64 i)]:=mp_get _ _
theorem mp_vs (vs:Vs) (s:List UInt8):mget (vsC vs) s=(mget vs s).map Va.c:=mget_map Va.c s vs
theorem mp_put (vs:Vs) (s:List UInt8) (p:Bool) (n:Int) (t:List UInt8):mput (vsC vs) s [.v (.bool p),.v (.int .i64 n),.v (.string (bs t))]=vsC (mput vs s ⟨p,n,t⟩):=mput_map Va.c s ⟨p,n,t⟩ vs
theorem flN_vs (vs:Vs):List.flatMap (fun p=>List.flatMap C.names p.snd) (vsC vs)=[]:=List.flatMap_eq_nil_iff.2 fun p hp=>List.flatMap_eq_nil_iff.2 fun c hc=>vsC_nm vs c (List.mem_flatMap.2 ⟨p,hp,hc⟩)
theorem vs_ren (f:Nat→Nat) (vs:Vs):(vsC vs).map (fun p=>(p.1,p.2.map (rnC f)))=vsC vs:=map_self fun p hp=>by
 show (p.1,p.2.map _)=p
 rw[map_self fun c hc=>rnC_clos (vsC_nm vs c (List.mem_flatMap.2 ⟨p,hp,hc⟩))]
theorem e_fac4 (t:Nat) (ag:Bool) (es:List (List UInt8×List C)) (r:List (Nat×Ch)) (K:St→Prop):facK ((t,.mp ag es)::r) K=facK r K:=rfl
theorem nb_get {l:List Nb} {i:Int} (h:0≤i∧i<(l.length:Int)) (z:List C):(l.map Nb.c).getD i.toNat z=[.v (.string (bs (l.getD i.toNat ⟨[],0⟩).s)),.v (.int .i64 (l.getD i.toNat ⟨[],0⟩).n)]:=by
 have h1:i.toNat<l.length:=by omega
 simp[List.getD,h1,Nb.c]
theorem na_get {l:List Na} {i:Int} (h:0≤i∧i<(l.length:Int)) (z:List C):(l.map Na.c).getD i.toNat z=[.v (.string (bs (l.getD i.toNat ⟨[],[]⟩).s)),.ov zI ((l.getD i.toNat ⟨[],[]⟩).l.map cI)]:=by
 have h1:i.toNat<l.length:=by omega
 simp[List.getD,h1,Na.c]
abbrev yc_fBrk (q:Fa) (s:Sm) (kd:Int):Prop:=True
abbrev yb_fBrk (q:Fa) (s:Sm) (kd:Int):Bool:=true
abbrev yv_fBrk (q:Fa) (s:Sm) (kd:Int):Fa:={ q with m:=q.m.brk q.nm s.no kd }
abbrev yz_fBrk (q:Fa) (s:Sm) (kd:Int):Fa:={ q with m:=q.m.brk q.nm s.no kd }
abbrev yr_fBrk (q:Fa) (s:Sm) (kd:Int):SV:=.tup []
theorem yt_fBrk:∀b,∀v∈ArgC.e (acS (cSp) (acS (cInt .i64) ac0)) b,v.tupB=false:=by rintro ⟨x0,x1,_⟩ v hv;simp only[acS_e,ac0_e,List.mem_cons,List.not_mem_nil,or_false]at hv;rcases hv with rfl|rfl<;>first|rfl|exact ex_tup _|exact cd_tup _
noncomputable abbrev ya_fBrk:ArgL (Fa×(Sm)×(Int)×Unit):=amFr (acS (cSp) (acS (cInt .i64) ac0)) yt_fBrk
abbrev yq_fBrk:Prop:=CallsL Try.prog 70 (ya_fBrk).args (ya_fBrk).mem (fun p:(Fa×(Sm)×(Int)×Unit)=>yc_fBrk p.1 p.2.1 p.2.2.1) (fun p:(Fa×(Sm)×(Int)×Unit)=>yb_fBrk p.1 p.2.1 p.2.2.1) (fun p:(Fa×(Sm)×(Int)×Unit)=>yr_fBrk p.1 p.2.1 p.2.2.1) (fun p:(Fa×(Sm)×(Int)×Unit)=>Fa.memO (yv_fBrk p.1 p.2.1 p.2.2.1)) (fun p:(Fa×(Sm)×(Int)×Unit)=>mlO (Fa.pan (yz_fBrk p.1 p.2.1 p.2.2.1)))
theorem yl_fBrk:∀p,(fun p:(Fa×(Sm)×(Int)×Unit)=>yc_fBrk p.1 p.2.1 p.2.2.1) p→(fun p:(Fa×(Sm)×(Int)×Unit)=>yb_fBrk p.1 p.2.1 p.2.2.1) p=false→lenL ((ya_fBrk).mem p).length ((fun p:(Fa×(Sm)×(Int)×Unit)=>Fa.memO (yv_fBrk p.1 p.2.1 p.2.2.1)) p)=true∧kdL ((ya_fBrk).mem p) ((fun p:(Fa×(Sm)×(Int)×Unit)=>Fa.memO (yv_fBrk p.1 p.2.1 p.2.2.1)) p)=true∧outQ ((fun p:(Fa×(Sm)×(Int)×Unit)=>Fa.memO (yv_fBrk p.1 p.2.1 p.2.2.1)) p) ((fun p:(Fa×(Sm)×(Int)×Unit)=>yr_fBrk p.1 p.2.1 p.2.2.1) p)∧∀q,some q∈(fun p:(Fa×(Sm)×(Int)×Unit)=>Fa.memO (yv_fBrk p.1 p.2.1 p.2.2.1)) p→okML ((fun p:(Fa×(Sm)×(Int)×Unit)=>Fa.memO (yv_fBrk p.1 p.2.1 p.2.2.1)) p).length q:=fun p _ _=>have h:=fa_out p.1 (yv_fBrk p.1 p.2.1 p.2.2.1);⟨h.1,h.2.1,rfl,h.2.2⟩
theorem yw_fBrk:∀p,(fun p:(Fa×(Sm)×(Int)×Unit)=>yc_fBrk p.1 p.2.1 p.2.2.1) p→(fun p:(Fa×(Sm)×(Int)×Unit)=>yb_fBrk p.1 p.2.1 p.2.2.1) p=true→((fun p:(Fa×(Sm)×(Int)×Unit)=>mlO (Fa.pan (yz_fBrk p.1 p.2.1 p.2.2.1))) p).length=((ya_fBrk).mem p).length∧kdL ((ya_fBrk).mem p) ((fun p:(Fa×(Sm)×(Int)×Unit)=>mlO (Fa.pan (yz_fBrk p.1 p.2.1 p.2.2.1))) p)=true∧∀q,some q∈(fun p:(Fa×(Sm)×(Int)×Unit)=>mlO (Fa.pan (yz_fBrk p.1 p.2.1 p.2.2.1))) p→okML ((fun p:(Fa×(Sm)×(Int)×Unit)=>mlO (Fa.pan (yz_fBrk p.1 p.2.1 p.2.2.1))) p).length q:=fun p _ _=>fa_pan p.1 (yz_fBrk p.1 p.2.1 p.2.2.1)
theorem yd_fBrk:∀p,(fun p:(Fa×(Sm)×(Int)×Unit)=>yc_fBrk p.1 p.2.1 p.2.2.1) p→(fun p:(Fa×(Sm)×(Int)×Unit)=>yb_fBrk p.1 p.2.1 p.2.2.1) p=true→lenL ((ya_fBrk).mem p).length ((fun p:(Fa×(Sm)×(Int)×Unit)=>Fa.memO (yv_fBrk p.1 p.2.1 p.2.2.1)) p)=true∧outQ ((fun p:(Fa×(Sm)×(Int)×Unit)=>Fa.memO (yv_fBrk p.1 p.2.1 p.2.2.1)) p) ((fun p:(Fa×(Sm)×(Int)×Unit)=>yr_fBrk p.1 p.2.1 p.2.2.1) p):=fun p _ _=>⟨(fa_out p.1 (yv_fBrk p.1 p.2.1 p.2.2.1)).1,rfl⟩
noncomputable def yg_fBrk {X:Ctx} {w0:World} (h:yq_fBrk):Sy.Spec Try.prog X w0:=specL' 70 Try.call70 (ya_fBrk) (fun p:(Fa×(Sm)×(Int)×Unit)=>yc_fBrk p.1 p.2.1 p.2.2.1) (fun p:(Fa×(Sm)×(Int)×Unit)=>yb_fBrk p.1 p.2.1 p.2.2.1) (fun p:(Fa×(Sm)×(Int)×Unit)=>yr_fBrk p.1 p.2.1 p.2.2.1) (fun p:(Fa×(Sm)×(Int)×Unit)=>Fa.memO (yv_fBrk p.1 p.2.1 p.2.2.1)) (fun p:(Fa×(Sm)×(Int)×Unit)=>mlO (Fa.pan (yz_fBrk p.1 p.2.1 p.2.2.1))) (yl_fBrk) (yw_fBrk) (yd_fBrk) (fun _=>rfl) h
theorem yF_fBrk {X:Ctx} {w0:World} (h:yq_fBrk):(yg_fBrk (X:=X) (w0:=w0) h).f=70:=rfl
theorem yN_fBrk {X:Ctx} {w0:World} (h:yq_fBrk) (t:Nat) (args:List SV) (H:Hp):(yg_fBrk (X:=X) (w0:=w0) h).fn t args H=spL X ((ya_fBrk).d H args) t H (fun p:(Fa×(Sm)×(Int)×Unit)=>yc_fBrk p.1 p.2.1 p.2.2.1) (fun p:(Fa×(Sm)×(Int)×Unit)=>yb_fBrk p.1 p.2.1 p.2.2.1) (fun p:(Fa×(Sm)×(Int)×Unit)=>yr_fBrk p.1 p.2.1 p.2.2.1) (fun p:(Fa×(Sm)×(Int)×Unit)=>Fa.memO (yv_fBrk p.1 p.2.1 p.2.2.1)) (fun p:(Fa×(Sm)×(Int)×Unit)=>mlO (Fa.pan (yz_fBrk p.1 p.2.1 p.2.2.1))):=rfl
set_option maxRecDepth 20000 in set_option maxHeartbeats 4000000 in
theorem y_fBrk:yq_fBrk:=by
 rintro ⟨q,s,kd,_u⟩ w M I lab fz xs hc hA hl hx
 refine calls_toLM Try.func70 rfl (Fa.mem q) w M I lab fz (yb_fBrk q s kd) (Fa.pan (yz_fBrk q s kd)) (Fa.memO (yv_fBrk q s kd)) [yp_mFail] [] ((ya_fBrk).args ⟨q,s,kd,_u⟩) (yr_fBrk q s kd) xs hA hl hx (amFr_nm _ _ _ _) (Nat.le_of_ble_eq_true rfl) (Nat.le_refl _) rfl (fa_pnm _) ?_
 clear hx hl hA xs
 simp only[Try.f70]
 obtain⟨k0,x,y,e,f,cd,ar,th,el,no⟩:=s
 simp only[↓eB,seval,go_sem,amFr_d,amFr_a,amFr_m,frJ_eq,faD_p,frD_v,faK_some,faJ_some,mcD_v,mcR_d,vsD_v,fa_eta,Fa.mem,Fa.memO,Fa.pan,frC,lmH,lmO,chL,ML.ch,mlO_none,mlO_some,mlO_nil,updL,updX,nmX,xt,bumpL,ML.ren,rnC,renQ,renQC,vrQ,pnOL_t,pnOL_f,pnL_nil,pnL_none,pnL_some,specL'_f,specL'_fn,spL_some,fcN,cSp_e,cSp_d,cEx_e,cEx_d,cEx_n,cCd_e,cCd_d,cCd_n,cSs_e,cSs_d,flN_vs,vs_ren,↓e_fac4,sm_r,Sm.k,Sm.x,Sm.y,Sm.e,Sm.f,Sm.cd,Sm.ar,Sm.th,Sm.el,Sm.no,pairO_n,pairN_o,spFn_n,mMc_e,mMc_z,mMc_d',mcC,mcW,pg_eta,ms_eta,pnOf_t,pnOf_f,wkR_me,Ms.brk,Ms.exh,Ms.spd,yp_mFail,yb_mFail,yv_mFail,yb_fBrk,yz_fBrk,yv_fBrk]
 try simp only[impB,impN]
 repeat' first|exact ck|with_reducible apply And.intro|intro _
 all_goals first|exact trivial|(rename_i h;first|exact oI h|exact nah h)|(rename_i _ h _ g;exact sL h g)|decide|omega|(refine ret_with [] ?_;simp only[↓eB,seval,go_sem,bne,yr_fBrk,yb_fBrk,yv_fBrk,yz_fBrk,e_RESLP,amFr_d,amFr_a,amFr_m,frJ_eq,faD_p,frD_v,faK_some,faJ_some,mcD_v,mcR_d,vsD_v,fa_eta,Fa.mem,Fa.memO,Fa.pan,frC,lmH,lmO,chL,ML.ch,mlO_none,mlO_some,mlO_nil,updL,updX,nmX,xt,bumpL,ML.ren,rnC,renQ,renQC,vrQ,pnOL_t,pnOL_f,pnL_nil,pnL_none,pnL_some,specL'_f,specL'_fn,spL_some,fcN,cSp_e,cSp_d,cEx_e,cEx_d,cEx_n,cCd_e,cCd_d,cCd_n,cSs_e,cSs_d,flN_vs,vs_ren,↓e_fac4,sm_r,Sm.k,Sm.x,Sm.y,Sm.e,Sm.f,Sm.cd,Sm.ar,Sm.th,Sm.el,Sm.no,pairO_n,pairN_o,spFn_n,mMc_e,mMc_z,mMc_d',mcC,mcW,pg_eta,ms_eta,pnOf_t,pnOf_f,wkR_me,Ms.brk,Ms.exh,Ms.spd])
noncomputable def yp_fBrk {X:Ctx} {w0:World}:Sy.Spec Try.prog X w0:=yg_fBrk y_fBrk
end Go.Proofs.Ytjnnmindcbgjhab
