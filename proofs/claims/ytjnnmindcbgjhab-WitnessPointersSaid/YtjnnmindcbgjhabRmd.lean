/- Calls as statements, walked. No conditions but those in each statement. -/
import Derived.Test.YtjnnmindcbgjhabRmc
set_option linter.unusedVariables false
set_option linter.unusedSimpArgs false
namespace Go.Proofs.Ytjnnmindcbgjhab
open Go Go.Sy Go.RowKit
theorem ar_z {l:List Ar} {i:Nat} {x:Ar} (h:l[i]?=some x) (z:List D):(l.map Ar.r).getD i z=[.v (.bool x.p),.v (.string (bs x.s)),x.e.d]:=by simp[List.getD,h,Ar.r,dS]
theorem fn_z {l:List Fn} {i:Int} (h:0≤i∧i<(l.length:Int)) (z:List D):(l.map Fn.r).getD i.toNat z=[.v (.string (bs (l.getD i.toNat ⟨[],[],[],[]⟩).name)),.sl zVr ((l.getD i.toNat ⟨[],[],[],[]⟩).ps.map Vr.r),.sl zVr ((l.getD i.toNat ⟨[],[],[],[]⟩).ls.map Vr.r),.sl zSm ((l.getD i.toNat ⟨[],[],[],[]⟩).body.map Sm.r)]:=by
 have h1:i.toNat<l.length:=by omega
 simp[List.getD,h1,Fn.r,dS]
theorem vs_fz (k:Nat) (z:List D) (es:List (List D)) (vs:Vs):(vsC vs).map (fun p=>(p.1,p.2.map (fzC k z es)))=vsC vs:=map_self fun p hp=>by
 obtain⟨a,_,rfl⟩:=List.mem_map.1 hp
 rfl
theorem zFn_d:List.drop 1 zFn=[.v (.slice none 0 0),.v (.slice none 0 0),.v (.slice none 0 0)]:=rfl
theorem cVq_0:cVq.d (.one (.v (.slice none 0 0)))=some []:=codOf_le (e:=fun l:List Vr=>.one (.d (.sl zVr (l.map Vr.r)))) (a:=[]) (Or.inr ⟨rfl,rfl⟩)
theorem fn_0 (l:List Fn):(∀z,(l.map Fn.r).getD 0 z=z)∨∃(n:List UInt8) (ps ls:List Vr) (bd:List Sm),∀z,(l.map Fn.r).getD 0 z=[.v (.string (bs n)),.sl zVr (ps.map Vr.r),.sl zVr (ls.map Vr.r),.sl zSm (bd.map Sm.r)]:=by
 cases l with
 |nil=>exact .inl fun z=>rfl
 |cons f r=>exact .inr ⟨f.name,f.ps,f.ls,f.body,fun z=>rfl⟩
def apE (l:List Va):Ev (List Va)→Ev (List Va)
 | .ok r=>.ok (l++r)
 | .no k=>.no k
theorem apE_nil (e:Ev (List Va)):apE [] e=e:=by cases e<;>rfl
theorem ap_p {P:Pg} {m:Ms} {vs:Vs} {x:Ar} {r:List Ar} {l:List Va} (h:x.p=true):apE l (argF P m vs (x::r))=apE (l++[⟨true,0,(vget vs x.s).s⟩]) (argF P m vs r):=by
 simp only[argF]
 rw[if_pos h]
 cases argF P m vs r with
 |ok t=>simp[apE]
 |no k=>rfl
theorem ap_no {P:Pg} {m:Ms} {vs:Vs} {x:Ar} {r:List Ar} {l:List Va} {j:Int} (h:x.p=false) (he:evF P m vs x.e= .no j):apE l (argF P m vs (x::r))= .no j:=by
 simp only[argF]
 rw[if_neg (by rw[h];decide),he];rfl
theorem ap_ok {P:Pg} {m:Ms} {vs:Vs} {x:Ar} {r:List Ar} {l:List Va} {v:Int} (h:x.p=false) (he:evF P m vs x.e= .ok v):apE l (argF P m vs (x::r))=apE (l++[⟨false,v,[]⟩]) (argF P m vs r):=by
 simp only[argF]
 rw[if_neg (by rw[h];decide),he]
 dsimp only
 cases argF P m vs r with
 |ok t=>simp[apE]
 |no k=>rfl
theorem inv_no {st:Sm→Fa→Ro} {s:Sm} {q:Fa} {j:Int} (h:argF q.P q.m q.vs s.ar= .no j):invF st s q=q.brk s j:=by unfold invF;rw[h]
theorem inv_f {st:Sm→Fa→Ro} {s:Sm} {q:Fa} {l:List Va} (h:argF q.P q.m q.vs s.ar= .ok l) (hf:q.P.fi s.y=none):invF st s q=q.brk s 4:=by unfold invF;rw[h];dsimp only;rw[hf]
theorem inv_n {st:Sm→Fa→Ro} {s:Sm} {q:Fa} {l:List Va} {i:Int} {g:Fn} (h:argF q.P q.m q.vs s.ar= .ok l) (hf:q.P.fi s.y=some i) (hg:q.P.fs.getD i.toNat ⟨[],[],[],[]⟩=g) (hft:fitB g.ps l=false):invF st s q=q.brk s 4:=by
 unfold invF;rw[h];dsimp only;rw[hf];dsimp only;rw[hg,if_pos hft]
theorem inv_y {st:Sm→Fa→Ro} {s:Sm} {q:Fa} {l:List Va} {i:Int} {g:Fn} (h:argF q.P q.m q.vs s.ar= .ok l) (hf:q.P.fi s.y=some i) (hg:q.P.fs.getD i.toNat ⟨[],[],[],[]⟩=g) (hft:fitB g.ps l=true):invF st s q=invK s q (calF st q.P g l q.m):=by
 unfold invF;rw[h];dsimp only;rw[hf];dsimp only;rw[hg,if_neg (by rw[hft];decide)]
theorem asg_t (q:Fa) (s:Sm) (v:Int):(asgF q s v).t=false:=by
 unfold asgF
 split
 ·rfl
 ·split<;>rfl
def filV (l:List Va) (k:Nat):List Va:=l++List.replicate (k-l.length) va0
theorem fil_nil (k:Nat):(filV [] k).map Va.c=List.replicate k [.v (.bool false),.v (.int .i64 0),.v (.string (bs []))]:=by
 show (([]:List Va)++List.replicate (k-0) va0).map Va.c=_
 rw[List.nil_append,Nat.sub_zero,List.map_replicate];rfl
theorem fil_len {l:List Va} {k:Nat} (h:l.length≤k):(filV l k).length=k:=by
 unfold filV;rw[List.length_append,List.length_replicate];omega
theorem fil_all {l:List Va} {k:Nat} (h:l.length=k):filV l k=l:=by
 unfold filV;rw[h,Nat.sub_self];simp
theorem fil_set {l:List Va} {k:Nat} (h:l.length<k) (p:Bool) (n:Int) (s:List UInt8):((filV l k).map Va.c).set l.length [.v (.bool p),.v (.int .i64 n),.v (.string (bs s))]=(filV (l++[⟨p,n,s⟩]) k).map Va.c:=by
 have e:((filV l k).map Va.c).set l.length (Va.c ⟨p,n,s⟩)=((filV l k).set l.length ⟨p,n,s⟩).map Va.c:=(List.map_set (f:=Va.c) (a:=(⟨p,n,s⟩:Va))).symm
 have e2:(filV l k).set l.length ⟨p,n,s⟩=filV (l++[⟨p,n,s⟩]) k:=by
  unfold filV
  rw[List.set_append_right _ _ (Nat.le_refl _),Nat.sub_self]
  obtain⟨j,hj⟩:∃j,k-l.length=j+1:=⟨k-l.length-1,by omega⟩
  rw[hj,List.replicate_succ,List.set_cons_zero,List.length_append,show k-(l.length+[(⟨p,n,s⟩:Va)].length)=j by simp only[List.length_cons,List.length_nil];omega]
  simp
 rw[← e2];exact e
theorem fil_get {l:List Va} {k:Nat} (h:l.length<k) (z:List C):((filV l k).map Va.c).getD l.length z=[.v (.bool false),.v (.int .i64 0),.v (.string (bs []))]:=by
 have h1:(filV l k)[l.length]?=some va0:=by
  unfold filV
  rw[List.getElem?_append_right (Nat.le_refl _),Nat.sub_self,List.getElem?_replicate,if_pos (by omega)]
 rw[List.getD,List.getElem?_map,h1];rfl
theorem rep_nm (n:Nat) (a b c:Value):List.flatMap (fun l=>List.flatMap C.names l) (List.replicate n [C.v a,C.v b,C.v c])=[]:=List.flatMap_eq_nil_iff.2 fun r hr=>by
 rw[List.eq_of_mem_replicate hr];rfl
theorem va_nm (a:Va):∀c∈a.c,c.names=[]:=by
 intro c hc
 simp only[Va.c,List.mem_cons,List.not_mem_nil,or_false]at hc
 rcases hc with rfl|rfl|rfl<;>rfl
theorem fil_nm (l:List Va):List.flatMap (fun r=>List.flatMap C.names r) (l.map Va.c)=[]:=List.flatMap_eq_nil_iff.2 fun r hr=>by
 obtain⟨a,_,rfl⟩:=List.mem_map.1 hr
 exact List.flatMap_eq_nil_iff.2 (va_nm a)
theorem toDss_va (l:List Va):toDss (l.map Va.c)=some (l.map Va.r):=toDss_of Va.c (fun _=>rfl) l
abbrev yc_fInv (N:Nat) (n:Nat) (q:Fa) (s:Sm):Prop:=okT N s∧okMs N n q∧n≤1000000000
abbrev yb_fInv (N:Nat) (n:Nat) (q:Fa) (s:Sm):Bool:=(invF (stF n) s q).b
abbrev yv_fInv (N:Nat) (n:Nat) (q:Fa) (s:Sm):Fa:=(invF (stF n) s q).q
abbrev yz_fInv (N:Nat) (n:Nat) (q:Fa) (s:Sm):Fa:=(invF (stF n) s q).q
abbrev yr_fInv (N:Nat) (n:Nat) (q:Fa) (s:Sm):SV:=.tup []
theorem yt_fInv:∀b,∀v∈ArgC.e (acS (cSp) ac0) b,v.tupB=false:=by rintro ⟨x0,_⟩ v hv;simp only[acS_e,ac0_e,List.mem_cons,List.not_mem_nil,or_false]at hv;subst hv<;>first|rfl|exact ex_tup _|exact cd_tup _
noncomputable abbrev ya_fInv:ArgL (Fa×(Sm)×Unit):=amFr (acS (cSp) ac0) yt_fInv
abbrev yq_fInv (N:Nat) (n:Nat):Prop:=CallsL Try.prog 73 (ya_fInv).args (ya_fInv).mem (fun p:(Fa×(Sm)×Unit)=>yc_fInv N n p.1 p.2.1) (fun p:(Fa×(Sm)×Unit)=>yb_fInv N n p.1 p.2.1) (fun p:(Fa×(Sm)×Unit)=>yr_fInv N n p.1 p.2.1) (fun p:(Fa×(Sm)×Unit)=>Fa.memO (yv_fInv N n p.1 p.2.1)) (fun p:(Fa×(Sm)×Unit)=>mlO (Fa.pan (yz_fInv N n p.1 p.2.1)))
theorem yl_fInv (N:Nat) (n:Nat):∀p,(fun p:(Fa×(Sm)×Unit)=>yc_fInv N n p.1 p.2.1) p→(fun p:(Fa×(Sm)×Unit)=>yb_fInv N n p.1 p.2.1) p=false→lenL ((ya_fInv).mem p).length ((fun p:(Fa×(Sm)×Unit)=>Fa.memO (yv_fInv N n p.1 p.2.1)) p)=true∧kdL ((ya_fInv).mem p) ((fun p:(Fa×(Sm)×Unit)=>Fa.memO (yv_fInv N n p.1 p.2.1)) p)=true∧outQ ((fun p:(Fa×(Sm)×Unit)=>Fa.memO (yv_fInv N n p.1 p.2.1)) p) ((fun p:(Fa×(Sm)×Unit)=>yr_fInv N n p.1 p.2.1) p)∧∀q,some q∈(fun p:(Fa×(Sm)×Unit)=>Fa.memO (yv_fInv N n p.1 p.2.1)) p→okML ((fun p:(Fa×(Sm)×Unit)=>Fa.memO (yv_fInv N n p.1 p.2.1)) p).length q:=fun p _ _=>have h:=fa_out p.1 (yv_fInv N n p.1 p.2.1);⟨h.1,h.2.1,rfl,h.2.2⟩
theorem yw_fInv (N:Nat) (n:Nat):∀p,(fun p:(Fa×(Sm)×Unit)=>yc_fInv N n p.1 p.2.1) p→(fun p:(Fa×(Sm)×Unit)=>yb_fInv N n p.1 p.2.1) p=true→((fun p:(Fa×(Sm)×Unit)=>mlO (Fa.pan (yz_fInv N n p.1 p.2.1))) p).length=((ya_fInv).mem p).length∧kdL ((ya_fInv).mem p) ((fun p:(Fa×(Sm)×Unit)=>mlO (Fa.pan (yz_fInv N n p.1 p.2.1))) p)=true∧∀q,some q∈(fun p:(Fa×(Sm)×Unit)=>mlO (Fa.pan (yz_fInv N n p.1 p.2.1))) p→okML ((fun p:(Fa×(Sm)×Unit)=>mlO (Fa.pan (yz_fInv N n p.1 p.2.1))) p).length q:=fun p _ _=>fa_pan p.1 (yz_fInv N n p.1 p.2.1)
theorem yd_fInv (N:Nat) (n:Nat):∀p,(fun p:(Fa×(Sm)×Unit)=>yc_fInv N n p.1 p.2.1) p→(fun p:(Fa×(Sm)×Unit)=>yb_fInv N n p.1 p.2.1) p=true→lenL ((ya_fInv).mem p).length ((fun p:(Fa×(Sm)×Unit)=>Fa.memO (yv_fInv N n p.1 p.2.1)) p)=true∧outQ ((fun p:(Fa×(Sm)×Unit)=>Fa.memO (yv_fInv N n p.1 p.2.1)) p) ((fun p:(Fa×(Sm)×Unit)=>yr_fInv N n p.1 p.2.1) p):=fun p _ _=>⟨(fa_out p.1 (yv_fInv N n p.1 p.2.1)).1,rfl⟩
noncomputable def yg_fInv {X:Ctx} {w0:World} (N:Nat) (n:Nat) (h:yq_fInv N n):Sy.Spec Try.prog X w0:=specL' 73 Try.call73 (ya_fInv) (fun p:(Fa×(Sm)×Unit)=>yc_fInv N n p.1 p.2.1) (fun p:(Fa×(Sm)×Unit)=>yb_fInv N n p.1 p.2.1) (fun p:(Fa×(Sm)×Unit)=>yr_fInv N n p.1 p.2.1) (fun p:(Fa×(Sm)×Unit)=>Fa.memO (yv_fInv N n p.1 p.2.1)) (fun p:(Fa×(Sm)×Unit)=>mlO (Fa.pan (yz_fInv N n p.1 p.2.1))) (yl_fInv N n) (yw_fInv N n) (yd_fInv N n) (fun _=>rfl) h
theorem yF_fInv {X:Ctx} {w0:World} (N:Nat) (n:Nat) (h:yq_fInv N n):(yg_fInv (X:=X) (w0:=w0) N n h).f=73:=rfl
theorem yN_fInv {X:Ctx} {w0:World} (N:Nat) (n:Nat) (h:yq_fInv N n) (t:Nat) (args:List SV) (H:Hp):(yg_fInv (X:=X) (w0:=w0) N n h).fn t args H=spL X ((ya_fInv).d H args) t H (fun p:(Fa×(Sm)×Unit)=>yc_fInv N n p.1 p.2.1) (fun p:(Fa×(Sm)×Unit)=>yb_fInv N n p.1 p.2.1) (fun p:(Fa×(Sm)×Unit)=>yr_fInv N n p.1 p.2.1) (fun p:(Fa×(Sm)×Unit)=>Fa.memO (yv_fInv N n p.1 p.2.1)) (fun p:(Fa×(Sm)×Unit)=>mlO (Fa.pan (yz_fInv N n p.1 p.2.1))):=rfl
attribute [local go_sem] Fa.mem Fa.memO Fa.pan ML.ch ML.ren Sm.ar Sm.cd Sm.e Sm.el Sm.f Sm.k Sm.no Sm.th Sm.x Sm.y amFr_a amFr_d amFr_m bumpL cCd_d cCd_e cCd_n cEx_d cEx_e cEx_n cSp_d cSp_e cSs_d cSs_e chL faD_p faJ_some faK_some fa_eta fcN flN_vs frC frD_v frJ_eq lmH lmO mMc_d' mMc_e mMc_z mcC mcD_v mcR_d mcW mlO_nil mlO_none mlO_some ms_eta nmX pairN_o pairO_n pg_eta pnL_nil pnL_none pnL_some pnOL_f pnOL_t pnOf_f pnOf_t renQ renQC rnC sm_r spFn_n spL_some specL'_f specL'_fn updL updX vrQ vsD_v vs_ren wkR_me
set_option maxRecDepth 20000 in set_option maxHeartbeats 64000000 in
theorem y_fInv (N:Nat) (n:Nat) (hu:yq_mCall N n):yq_fInv N n:=by
 rintro ⟨q,s,_u⟩ w M I lab fz xs hc hA hl hx
 refine calls_toLM Try.func73 rfl (Fa.mem q) w M I lab fz (yb_fInv N n q s) (Fa.pan (yz_fInv N n q s)) (Fa.memO (yv_fInv N n q s)) [yp_fBrk,(yg_fEval N (y_fEval N)),yp_fAsg,yp_fits,(yg_mCall N n hu)] [(11,[.fz 15])] ((ya_fInv).args ⟨q,s,_u⟩) (yr_fInv N n q s) xs hA hl hx (amFr_nm _ _ _ _) (Nat.le_of_ble_eq_true rfl) (Nat.le_refl _) rfl (fa_pnm _) ?_
 clear hx hl hA xs
 simp only[Try.f73]
 obtain⟨hT,hM,hn⟩:=hc
 dsimp only at hT hM hn
 have hal:s.ar.length≤5000:=hT.k.l
 have had:∀a∈s.ar,a.e.dp<N:=hT.k.a
 obtain⟨k0,x0,y0,e0,f0,cd0,ar0,th0,el0,no0⟩:=s
 dsimp only[Sm.ar]at hal had
 simp only[↓eB,seval,go_sem,xt,↓e_fac4,mp_ci,mp_ai,mp_fi,mp_vs,Va.c,Option.isSome_some,Option.isSome_none,Ev.b,Ev.vl,evA,evW,va0,yp_fBrk,yF_fBrk,yN_fBrk,yb_fBrk,yv_fBrk,yz_fBrk,yF_fEval,yN_fEval,yr_fEval,yb_fEval,yv_fEval,yz_fEval,yp_fAsg,yF_fAsg,yN_fAsg,yr_fAsg,yb_fAsg,yv_fAsg,yz_fAsg,yp_fits,yr_fits,yg_mCall,yr_mCall,yb_mCall,yv_mCall,yb_fInv,yv_fInv,yz_fInv,cFn_e,cFn_d,cVas_e,cVas_d,cVq_e,cVq_d,rVa_e,rVa_z,zVaD_ln,zVr_ln2,decL_va,cSl,Fn.c]
 try simp only[impB,impN]
 repeat' (first|exact ck|with_reducible apply And.intro)
 all_goals try first|exact hal|decide|omega
 refine loop_ok (Y:=List Va) (fun l=>l.length≤ar0.length∧argF q.P q.m q.vs ar0=apE l (argF q.P q.m q.vs (ar0.drop l.length)))
  (fun l=>⟨[(0,true,.one (.p 0 0 0)),(1,true,.one (.dp [.v (.int .i64 k0),.v (.string (bs x0)),.v (.string (bs y0)),e0.d,f0.d,cd0.d,.sl zAr (ar0.map Ar.r),.sl zSm (th0.map Sm.r),.sl zSm (el0.map Sm.r),.v (.int .i64 no0)])),(4,true,.one (.s 15)),(19,true,.one (.d (.sl zAr (ar0.map Ar.r)))),(20,true,.one (.v (.int .i64 (ar0.length:Int)))),(21,true,.one (.v (.int .i64 (l.length:Int))))],[(0,.vec 0 zFr [frC q]),(1,.vec 0 zMc [mcC q.P q.m]),(2,.mp true (vsC q.vs)),(15,.vec 0 [.v (.bool false),.v (.int .i64 0),.v (.string (bs []))] ((filV l ar0.length).map Va.c))]⟩)
  (fun l=>ar0.length-l.length) [] ⟨Nat.zero_le _,(apE_nil _).symm⟩ ?_ ?_
 ·refine to_with [] ?_;simp only[↓eB,seval,go_sem,xt,↓e_fac4,fil_nil,rep_nm]
 ·rintro l ⟨hi,hJ⟩
  refine vc_ok [yp_fBrk,yg_fEval N (y_fEval N),yp_fAsg,yp_fits,yg_mCall N n hu] [(11,[.fz 15])] _ _ _ ?_
  have w1:IntKind.i64.wrap ((l.length:Int)+1)=((l.length+1:Nat):Int):=by rw[wrap_i64 (by omega) (by omega)];rfl
  have fl1:=fil_len hi
  cases hx:ar0[l.length]? with
  |some x=>
   have hlt:=(List.getElem?_eq_some_iff.1 hx).1
   have h1:=natI_lt hlt
   have h2:=ar_z hx
   have hfs:=fil_set hlt
   have hgt:=fil_get hlt
   have hxd:x.e.dp<N:=had x (List.mem_of_getElem? hx)
   rw[drop_get hx]at hJ
   cases hp:x.p with
   |true=>
    have hJ2:∀v,(vget q.vs x.s).s=v→argF q.P q.m q.vs ar0=apE (l++[⟨true,0,v⟩]) (argF q.P q.m q.vs (ar0.drop (l.length+1))):=fun v hv=>by rw[hJ,ap_p hp,hv]
    cases hv:mget q.vs x.s with
    |none=>
     have hv2:(vget q.vs x.s).s=[]:=by unfold vget;rw[hv];rfl
     simp only[↓eB,seval,go_sem,xt,↓e_fac4,mp_ci,mp_ai,mp_fi,mp_vs,Va.c,Option.isSome_some,Option.isSome_none,Ev.b,Ev.vl,evA,evW,va0,yp_fBrk,yF_fBrk,yN_fBrk,yb_fBrk,yv_fBrk,yz_fBrk,yF_fEval,yN_fEval,yr_fEval,yb_fEval,yv_fEval,yz_fEval,yp_fAsg,yF_fAsg,yN_fAsg,yr_fAsg,yb_fAsg,yv_fAsg,yz_fAsg,yp_fits,yr_fits,yg_mCall,yr_mCall,yb_mCall,yv_mCall,yb_fInv,yv_fInv,yz_fInv,cFn_e,cFn_d,cVas_e,cVas_d,cVq_e,cVq_d,rVa_e,rVa_z,zVaD_ln,zVr_ln2,decL_va,cSl,Fn.c,h1,h2,hp,hv,w1,hfs,hgt,fl1]
     try simp only[impB,impN]
     repeat' first|exact ck|with_reducible apply And.intro|intro _
     all_goals try first|exact hlt|(rename_i h;first|exact oI h|exact nah h)|(rename_i _ h _ g;exact sL h g)|decide|omega
     refine⟨l++[⟨true,0,[]⟩],⟨by rw[List.length_append];exact hlt,by rw[List.length_append];exact hJ2 _ hv2⟩,by rw[List.length_append];show ar0.length-(l.length+1)<_;omega,to_with [] ?_⟩
     simp only[↓eB,seval,go_sem,xt,↓e_fac4,List.length_append,fil_nm]
    |some u=>
     have hv2:(vget q.vs x.s).s=u.s:=by unfold vget;rw[hv];rfl
     simp only[↓eB,seval,go_sem,xt,↓e_fac4,mp_ci,mp_ai,mp_fi,mp_vs,Va.c,Option.isSome_some,Option.isSome_none,Ev.b,Ev.vl,evA,evW,va0,yp_fBrk,yF_fBrk,yN_fBrk,yb_fBrk,yv_fBrk,yz_fBrk,yF_fEval,yN_fEval,yr_fEval,yb_fEval,yv_fEval,yz_fEval,yp_fAsg,yF_fAsg,yN_fAsg,yr_fAsg,yb_fAsg,yv_fAsg,yz_fAsg,yp_fits,yr_fits,yg_mCall,yr_mCall,yb_mCall,yv_mCall,yb_fInv,yv_fInv,yz_fInv,cFn_e,cFn_d,cVas_e,cVas_d,cVq_e,cVq_d,rVa_e,rVa_z,zVaD_ln,zVr_ln2,decL_va,cSl,Fn.c,h1,h2,hp,hv,w1,hfs,hgt,fl1]
     try simp only[impB,impN]
     repeat' first|exact ck|with_reducible apply And.intro|intro _
     all_goals try first|exact hlt|(rename_i h;first|exact oI h|exact nah h)|(rename_i _ h _ g;exact sL h g)|decide|omega
     refine⟨l++[⟨true,0,u.s⟩],⟨by rw[List.length_append];exact hlt,by rw[List.length_append];exact hJ2 _ hv2⟩,by rw[List.length_append];show ar0.length-(l.length+1)<_;omega,to_with [] ?_⟩
     simp only[↓eB,seval,go_sem,xt,↓e_fac4,List.length_append,fil_nm]
   |false=>
    cases he:evF q.P q.m q.vs x.e with
    |no j=>
     have hA:argF q.P q.m q.vs ar0= .no j:=by rw[hJ,ap_no hp he]
     have hI:invF (stF n) (.mk k0 x0 y0 e0 f0 cd0 ar0 th0 el0 no0) q=q.brk (.mk k0 x0 y0 e0 f0 cd0 ar0 th0 el0 no0) j:=inv_no hA
     simp only[↓eB,seval,go_sem,xt,↓e_fac4,mp_ci,mp_ai,mp_fi,mp_vs,Va.c,Option.isSome_some,Option.isSome_none,Ev.b,Ev.vl,evA,evW,va0,yp_fBrk,yF_fBrk,yN_fBrk,yb_fBrk,yv_fBrk,yz_fBrk,yF_fEval,yN_fEval,yr_fEval,yb_fEval,yv_fEval,yz_fEval,yp_fAsg,yF_fAsg,yN_fAsg,yr_fAsg,yb_fAsg,yv_fAsg,yz_fAsg,yp_fits,yr_fits,yg_mCall,yr_mCall,yb_mCall,yv_mCall,yb_fInv,yv_fInv,yz_fInv,cFn_e,cFn_d,cVas_e,cVas_d,cVq_e,cVq_d,rVa_e,rVa_z,zVaD_ln,zVr_ln2,decL_va,cSl,Fn.c,h1,h2,hp,he,w1,hfs,hgt,fl1,hI,Fa.brk]
     try simp only[impB,impN]
     repeat' first|exact ck|with_reducible apply And.intro|intro _
     all_goals first|exact hlt|exact⟨hM.c,hxd⟩|exact hM.c|exact hxd|(rename_i h;first|exact oI h|exact nah h)|(rename_i _ h _ g;exact sL h g)|decide|omega|(refine ret_with [] ?_;simp only[↓eB,seval,go_sem,bne,yr_fInv,yb_fInv,yv_fInv,yz_fInv,e_RESLP,xt,↓e_fac4,Ev.b,Ev.vl,evA,evW,va0,yp_fBrk,yF_fBrk,yN_fBrk,yb_fBrk,yv_fBrk,yz_fBrk,yF_fEval,yN_fEval,yr_fEval,yb_fEval,yv_fEval,yz_fEval,yp_fAsg,yF_fAsg,yN_fAsg,yr_fAsg,yb_fAsg,yv_fAsg,yz_fAsg,yp_fits,yr_fits,yg_mCall,yr_mCall,yb_mCall,yv_mCall,cFn_e,cFn_d,cVas_e,cVas_d,cVq_e,cVq_d,rVa_e,rVa_z,zVaD_ln,zVr_ln2,decL_va,cSl,Fn.c,hI,Fa.brk])
    |ok v=>
     have hJ2:argF q.P q.m q.vs ar0=apE (l++[⟨false,v,[]⟩]) (argF q.P q.m q.vs (ar0.drop (l.length+1))):=by rw[hJ,ap_ok hp he]
     simp only[↓eB,seval,go_sem,xt,↓e_fac4,mp_ci,mp_ai,mp_fi,mp_vs,Va.c,Option.isSome_some,Option.isSome_none,Ev.b,Ev.vl,evA,evW,va0,yp_fBrk,yF_fBrk,yN_fBrk,yb_fBrk,yv_fBrk,yz_fBrk,yF_fEval,yN_fEval,yr_fEval,yb_fEval,yv_fEval,yz_fEval,yp_fAsg,yF_fAsg,yN_fAsg,yr_fAsg,yb_fAsg,yv_fAsg,yz_fAsg,yp_fits,yr_fits,yg_mCall,yr_mCall,yb_mCall,yv_mCall,yb_fInv,yv_fInv,yz_fInv,cFn_e,cFn_d,cVas_e,cVas_d,cVq_e,cVq_d,rVa_e,rVa_z,zVaD_ln,zVr_ln2,decL_va,cSl,Fn.c,h1,h2,hp,he,w1,hfs,hgt,fl1]
     try simp only[impB,impN]
     repeat' first|exact ck|with_reducible apply And.intro|intro _
     all_goals try first|exact hlt|exact⟨hM.c,hxd⟩|exact hM.c|exact hxd|(rename_i h;first|exact oI h|exact nah h)|(rename_i _ h _ g;exact sL h g)|decide|omega
     refine⟨l++[⟨false,v,[]⟩],⟨by rw[List.length_append];exact hlt,by rw[List.length_append];exact hJ2⟩,by rw[List.length_append];show ar0.length-(l.length+1)<_;omega,to_with [] ?_⟩
     simp only[↓eB,seval,go_sem,xt,↓e_fac4,List.length_append,fil_nm]
  |none=>
   have h2:=List.getElem?_eq_none_iff.1 hx
   have h1:=natI_ge h2
   have hll:l.length=ar0.length:=by omega
   rw[List.drop_eq_nil_of_le h2]at hJ
   have hA:argF q.P q.m q.vs ar0= .ok l:=by rw[hJ];show Ev.ok (l++[])=_;rw[List.append_nil]
   have hfull:filV l ar0.length=l:=fil_all hll
   have hl5:l.length≤5000:=by omega
   cases hf:q.P.fi y0 with
   |none=>
    have hI:invF (stF n) (.mk k0 x0 y0 e0 f0 cd0 ar0 th0 el0 no0) q=q.brk (.mk k0 x0 y0 e0 f0 cd0 ar0 th0 el0 no0) 4:=inv_f hA hf
    rcases fn_0 q.P.fs with h0|⟨n0,p0,l0,b0,h0⟩
    ·simp only[↓eB,seval,go_sem,xt,↓e_fac4,mp_ci,mp_ai,mp_fi,mp_vs,Va.c,Option.isSome_some,Option.isSome_none,Ev.b,Ev.vl,evA,evW,va0,yp_fBrk,yF_fBrk,yN_fBrk,yb_fBrk,yv_fBrk,yz_fBrk,yF_fEval,yN_fEval,yr_fEval,yb_fEval,yv_fEval,yz_fEval,yp_fAsg,yF_fAsg,yN_fAsg,yr_fAsg,yb_fAsg,yv_fAsg,yz_fAsg,yp_fits,yr_fits,yg_mCall,yr_mCall,yb_mCall,yv_mCall,yb_fInv,yv_fInv,yz_fInv,cFn_e,cFn_d,cVas_e,cVas_d,cVq_e,cVq_d,rVa_e,rVa_z,zVaD_ln,zVr_ln2,decL_va,cSl,Fn.c,h1,hf,hI,Fa.brk,hfull,h0,toDss_va,cVq_0,zFn_d]
     try simp only[impB,impN]
     repeat' first|exact ck|with_reducible apply And.intro|intro _
     all_goals first|exact hl5|(rename_i h;first|exact oI h|exact nah h)|(rename_i _ h _ g;exact sL h g)|decide|omega|(refine ret_with [] ?_;simp only[↓eB,seval,go_sem,bne,yr_fInv,yb_fInv,yv_fInv,yz_fInv,e_RESLP,xt,↓e_fac4,Ev.b,Ev.vl,evA,evW,va0,yp_fBrk,yF_fBrk,yN_fBrk,yb_fBrk,yv_fBrk,yz_fBrk,yF_fEval,yN_fEval,yr_fEval,yb_fEval,yv_fEval,yz_fEval,yp_fAsg,yF_fAsg,yN_fAsg,yr_fAsg,yb_fAsg,yv_fAsg,yz_fAsg,yp_fits,yr_fits,yg_mCall,yr_mCall,yb_mCall,yv_mCall,cFn_e,cFn_d,cVas_e,cVas_d,cVq_e,cVq_d,rVa_e,rVa_z,zVaD_ln,zVr_ln2,decL_va,cSl,Fn.c,hI,Fa.brk])
    ·simp only[↓eB,seval,go_sem,xt,↓e_fac4,mp_ci,mp_ai,mp_fi,mp_vs,Va.c,Option.isSome_some,Option.isSome_none,Ev.b,Ev.vl,evA,evW,va0,yp_fBrk,yF_fBrk,yN_fBrk,yb_fBrk,yv_fBrk,yz_fBrk,yF_fEval,yN_fEval,yr_fEval,yb_fEval,yv_fEval,yz_fEval,yp_fAsg,yF_fAsg,yN_fAsg,yr_fAsg,yb_fAsg,yv_fAsg,yz_fAsg,yp_fits,yr_fits,yg_mCall,yr_mCall,yb_mCall,yv_mCall,yb_fInv,yv_fInv,yz_fInv,cFn_e,cFn_d,cVas_e,cVas_d,cVq_e,cVq_d,rVa_e,rVa_z,zVaD_ln,zVr_ln2,decL_va,cSl,Fn.c,h1,hf,hI,Fa.brk,hfull,h0,toDss_va,cVq_0,zFn_d]
     try simp only[impB,impN]
     repeat' first|exact ck|with_reducible apply And.intro|intro _
     all_goals first|exact hl5|(rename_i h;first|exact oI h|exact nah h)|(rename_i _ h _ g;exact sL h g)|decide|omega|(refine ret_with [] ?_;simp only[↓eB,seval,go_sem,bne,yr_fInv,yb_fInv,yv_fInv,yz_fInv,e_RESLP,xt,↓e_fac4,Ev.b,Ev.vl,evA,evW,va0,yp_fBrk,yF_fBrk,yN_fBrk,yb_fBrk,yv_fBrk,yz_fBrk,yF_fEval,yN_fEval,yr_fEval,yb_fEval,yv_fEval,yz_fEval,yp_fAsg,yF_fAsg,yN_fAsg,yr_fAsg,yb_fAsg,yv_fAsg,yz_fAsg,yp_fits,yr_fits,yg_mCall,yr_mCall,yb_mCall,yv_mCall,cFn_e,cFn_d,cVas_e,cVas_d,cVq_e,cVq_d,rVa_e,rVa_z,zVaD_ln,zVr_ln2,decL_va,cSl,Fn.c,hI,Fa.brk])
   |some i=>
    have hi2:=Pg.fi_lt hf
    have hg:=fn_z hi2
    have hgm:q.P.fs.getD i.toNat ⟨[],[],[],[]⟩∈q.P.fs:=by
     have:i.toNat<q.P.fs.length:=by omega
     rw[List.getD,List.getElem?_eq_getElem this];exact List.getElem_mem this
    obtain⟨gF,gB⟩:=hM.p.f _ hgm
    obtain⟨g,hgE⟩:∃g,q.P.fs.getD i.toNat ⟨[],[],[],[]⟩=g:=⟨_,rfl⟩
    rw[hgE]at hg gF gB
    obtain⟨gn,gps,gls,gb⟩:=g
    have gp5:gps.length≤5000:=gF.1
    cases hft:fitB gps l with
    |false=>
     have hI:invF (stF n) (.mk k0 x0 y0 e0 f0 cd0 ar0 th0 el0 no0) q=q.brk (.mk k0 x0 y0 e0 f0 cd0 ar0 th0 el0 no0) 4:=inv_n hA hf hgE hft
     simp only[↓eB,seval,go_sem,xt,↓e_fac4,mp_ci,mp_ai,mp_fi,mp_vs,Va.c,Option.isSome_some,Option.isSome_none,Ev.b,Ev.vl,evA,evW,va0,yp_fBrk,yF_fBrk,yN_fBrk,yb_fBrk,yv_fBrk,yz_fBrk,yF_fEval,yN_fEval,yr_fEval,yb_fEval,yv_fEval,yz_fEval,yp_fAsg,yF_fAsg,yN_fAsg,yr_fAsg,yb_fAsg,yv_fAsg,yz_fAsg,yp_fits,yr_fits,yg_mCall,yr_mCall,yb_mCall,yv_mCall,yb_fInv,yv_fInv,yz_fInv,cFn_e,cFn_d,cVas_e,cVas_d,cVq_e,cVq_d,rVa_e,rVa_z,zVaD_ln,zVr_ln2,decL_va,cSl,Fn.c,h1,hf,hg,hft,hI,Fa.brk,hfull,toDss_va]
     try simp only[impB,impN]
     repeat' first|exact ck|with_reducible apply And.intro|intro _
     all_goals first|exact hl5|exact gp5|exact⟨gp5,hl5⟩|exact hi2.1|exact hi2.2|(rename_i h;first|exact oI h|exact nah h)|(rename_i _ h _ g;exact sL h g)|decide|omega|(refine ret_with [] ?_;simp only[↓eB,seval,go_sem,bne,yr_fInv,yb_fInv,yv_fInv,yz_fInv,e_RESLP,xt,↓e_fac4,Ev.b,Ev.vl,evA,evW,va0,yp_fBrk,yF_fBrk,yN_fBrk,yb_fBrk,yv_fBrk,yz_fBrk,yF_fEval,yN_fEval,yr_fEval,yb_fEval,yv_fEval,yz_fEval,yp_fAsg,yF_fAsg,yN_fAsg,yr_fAsg,yb_fAsg,yv_fAsg,yz_fAsg,yp_fits,yr_fits,yg_mCall,yr_mCall,yb_mCall,yv_mCall,cFn_e,cFn_d,cVas_e,cVas_d,cVq_e,cVq_d,rVa_e,rVa_z,zVaD_ln,zVr_ln2,decL_va,cSl,Fn.c,hI,Fa.brk])
    |true=>
     obtain⟨R,hR⟩:∃R,calF (stF n) q.P ⟨gn,gps,gls,gb⟩ l q.m=R:=⟨_,rfl⟩
     have hI:invF (stF n) (.mk k0 x0 y0 e0 f0 cd0 ar0 th0 el0 no0) q=invK (.mk k0 x0 y0 e0 f0 cd0 ar0 th0 el0 no0) q R:=by rw[← hR];exact inv_y hA hf hgE hft
     have hk:=kq_cal (kq_st n) q ⟨gn,gps,gls,gb⟩ l hM.l (by have h7:=hM.u;omega)
     rw[hR]at hk
     obtain⟨rb,rv,rm⟩:=R
     have hm2:okMs N n { q with m:=rm }:=hM.kq hk (by have h7:rm.fuel≤q.m.fuel:=hk.u;have:=hM.u;show rm.fuel<_;omega)
     have hm3:okMs N n ⟨[],0,q.P,q.m,[]⟩:=⟨hM.p,hM.c,hM.a,hM.l,hM.u⟩
     have hmC:okC q.P rm:=hm2.c
     cases rb with
     |true=>
      have hI2:invF (stF n) (.mk k0 x0 y0 e0 f0 cd0 ar0 th0 el0 no0) q=⟨true,false,{ q with m:=rm }⟩:=hI
      simp only[↓eB,seval,go_sem,xt,↓e_fac4,mp_ci,mp_ai,mp_fi,mp_vs,Va.c,Option.isSome_some,Option.isSome_none,Ev.b,Ev.vl,evA,evW,va0,yp_fBrk,yF_fBrk,yN_fBrk,yb_fBrk,yv_fBrk,yz_fBrk,yF_fEval,yN_fEval,yr_fEval,yb_fEval,yv_fEval,yz_fEval,yp_fAsg,yF_fAsg,yN_fAsg,yr_fAsg,yb_fAsg,yv_fAsg,yz_fAsg,yp_fits,yr_fits,yg_mCall,yr_mCall,yb_mCall,yv_mCall,yb_fInv,yv_fInv,yz_fInv,cFn_e,cFn_d,cVas_e,cVas_d,cVq_e,cVq_d,rVa_e,rVa_z,zVaD_ln,zVr_ln2,decL_va,cSl,Fn.c,h1,hf,hg,hft,hI2,hfull,toDss_va,vs_fz,hR]
      try simp only[impB,impN]
      repeat' first|exact ck|with_reducible apply And.intro|intro _
      all_goals first|exact hl5|exact gp5|exact⟨gp5,hl5⟩|exact hi2.1|exact hi2.2|exact hm3|exact⟨gF,gB⟩|exact gF|exact gB|exact hft|(rename_i h;first|exact oI h|exact nah h)|(rename_i _ h _ g;exact sL h g)|decide|omega|(refine ret_with [] ?_;simp only[↓eB,seval,go_sem,bne,yr_fInv,yb_fInv,yv_fInv,yz_fInv,e_RESLP,xt,↓e_fac4,Ev.b,Ev.vl,evA,evW,va0,yp_fBrk,yF_fBrk,yN_fBrk,yb_fBrk,yv_fBrk,yz_fBrk,yF_fEval,yN_fEval,yr_fEval,yb_fEval,yv_fEval,yz_fEval,yp_fAsg,yF_fAsg,yN_fAsg,yr_fAsg,yb_fAsg,yv_fAsg,yz_fAsg,yp_fits,yr_fits,yg_mCall,yr_mCall,yb_mCall,yv_mCall,cFn_e,cFn_d,cVas_e,cVas_d,cVq_e,cVq_d,rVa_e,rVa_z,zVaD_ln,zVr_ln2,decL_va,cSl,Fn.c,hI2])
     |false=>
      cases hx0:(x0==[]) with
      |true=>
       have hI2:invF (stF n) (.mk k0 x0 y0 e0 f0 cd0 ar0 th0 el0 no0) q=Fa.go { q with m:=rm }:=by rw[hI];unfold invK;rw[if_neg (by simp),if_pos (show ((Sm.mk k0 x0 y0 e0 f0 cd0 ar0 th0 el0 no0).x==[])=true from hx0)]
       simp only[↓eB,seval,go_sem,xt,↓e_fac4,mp_ci,mp_ai,mp_fi,mp_vs,Va.c,Option.isSome_some,Option.isSome_none,Ev.b,Ev.vl,evA,evW,va0,yp_fBrk,yF_fBrk,yN_fBrk,yb_fBrk,yv_fBrk,yz_fBrk,yF_fEval,yN_fEval,yr_fEval,yb_fEval,yv_fEval,yz_fEval,yp_fAsg,yF_fAsg,yN_fAsg,yr_fAsg,yb_fAsg,yv_fAsg,yz_fAsg,yp_fits,yr_fits,yg_mCall,yr_mCall,yb_mCall,yv_mCall,yb_fInv,yv_fInv,yz_fInv,cFn_e,cFn_d,cVas_e,cVas_d,cVq_e,cVq_d,rVa_e,rVa_z,zVaD_ln,zVr_ln2,decL_va,cSl,Fn.c,h1,hf,hg,hft,hI2,hfull,toDss_va,vs_fz,hR,hx0,bne,Fa.go]
       try simp only[impB,impN]
       repeat' first|exact ck|with_reducible apply And.intro|intro _
       all_goals first|exact hl5|exact gp5|exact⟨gp5,hl5⟩|exact hi2.1|exact hi2.2|exact hm3|exact⟨gF,gB⟩|exact gF|exact gB|exact hft|(rename_i h;first|exact oI h|exact nah h)|(rename_i _ h _ g;exact sL h g)|decide|omega|(refine ret_with [] ?_;simp only[↓eB,seval,go_sem,bne,yr_fInv,yb_fInv,yv_fInv,yz_fInv,e_RESLP,xt,↓e_fac4,Ev.b,Ev.vl,evA,evW,va0,yp_fBrk,yF_fBrk,yN_fBrk,yb_fBrk,yv_fBrk,yz_fBrk,yF_fEval,yN_fEval,yr_fEval,yb_fEval,yv_fEval,yz_fEval,yp_fAsg,yF_fAsg,yN_fAsg,yr_fAsg,yb_fAsg,yv_fAsg,yz_fAsg,yp_fits,yr_fits,yg_mCall,yr_mCall,yb_mCall,yv_mCall,cFn_e,cFn_d,cVas_e,cVas_d,cVq_e,cVq_d,rVa_e,rVa_z,zVaD_ln,zVr_ln2,decL_va,cSl,Fn.c,hI2,Fa.go])
      |false=>
       obtain⟨A,hAs⟩:∃A,asgF { q with m:=rm } (.mk k0 x0 y0 e0 f0 cd0 ar0 th0 el0 no0) rv=A:=⟨_,rfl⟩
       have hI2:invF (stF n) (.mk k0 x0 y0 e0 f0 cd0 ar0 th0 el0 no0) q=A:=by rw[hI,← hAs];unfold invK;rw[if_neg (by simp),if_neg (by rw[show ((Sm.mk k0 x0 y0 e0 f0 cd0 ar0 th0 el0 no0).x==[])=false from hx0];decide)]
       have hat:A.t=false:=by rw[← hAs];exact asg_t _ _ _
       obtain⟨ab,at1,aq⟩:=A
       cases ab with
       |true=>
        simp only[↓eB,seval,go_sem,xt,↓e_fac4,mp_ci,mp_ai,mp_fi,mp_vs,Va.c,Option.isSome_some,Option.isSome_none,Ev.b,Ev.vl,evA,evW,va0,yp_fBrk,yF_fBrk,yN_fBrk,yb_fBrk,yv_fBrk,yz_fBrk,yF_fEval,yN_fEval,yr_fEval,yb_fEval,yv_fEval,yz_fEval,yp_fAsg,yF_fAsg,yN_fAsg,yr_fAsg,yb_fAsg,yv_fAsg,yz_fAsg,yp_fits,yr_fits,yg_mCall,yr_mCall,yb_mCall,yv_mCall,yb_fInv,yv_fInv,yz_fInv,cFn_e,cFn_d,cVas_e,cVas_d,cVq_e,cVq_d,rVa_e,rVa_z,zVaD_ln,zVr_ln2,decL_va,cSl,Fn.c,h1,hf,hg,hft,hI2,hfull,toDss_va,vs_fz,hR,hx0,bne,hAs]
        try simp only[impB,impN]
        repeat' first|exact ck|with_reducible apply And.intro|intro _
        all_goals first|exact hl5|exact gp5|exact⟨gp5,hl5⟩|exact hi2.1|exact hi2.2|exact hm3|exact⟨gF,gB⟩|exact gF|exact gB|exact hft|(exact fun _=>hmC)|(rename_i h;first|exact oI h|exact nah h)|(rename_i _ h _ g;exact sL h g)|decide|omega|(refine ret_with [] ?_;simp only[↓eB,seval,go_sem,bne,yr_fInv,yb_fInv,yv_fInv,yz_fInv,e_RESLP,xt,↓e_fac4,Ev.b,Ev.vl,evA,evW,va0,yp_fBrk,yF_fBrk,yN_fBrk,yb_fBrk,yv_fBrk,yz_fBrk,yF_fEval,yN_fEval,yr_fEval,yb_fEval,yv_fEval,yz_fEval,yp_fAsg,yF_fAsg,yN_fAsg,yr_fAsg,yb_fAsg,yv_fAsg,yz_fAsg,yp_fits,yr_fits,yg_mCall,yr_mCall,yb_mCall,yv_mCall,cFn_e,cFn_d,cVas_e,cVas_d,cVq_e,cVq_d,rVa_e,rVa_z,zVaD_ln,zVr_ln2,decL_va,cSl,Fn.c,hI2])
       |false=>
        simp only[↓eB,seval,go_sem,xt,↓e_fac4,mp_ci,mp_ai,mp_fi,mp_vs,Va.c,Option.isSome_some,Option.isSome_none,Ev.b,Ev.vl,evA,evW,va0,yp_fBrk,yF_fBrk,yN_fBrk,yb_fBrk,yv_fBrk,yz_fBrk,yF_fEval,yN_fEval,yr_fEval,yb_fEval,yv_fEval,yz_fEval,yp_fAsg,yF_fAsg,yN_fAsg,yr_fAsg,yb_fAsg,yv_fAsg,yz_fAsg,yp_fits,yr_fits,yg_mCall,yr_mCall,yb_mCall,yv_mCall,yb_fInv,yv_fInv,yz_fInv,cFn_e,cFn_d,cVas_e,cVas_d,cVq_e,cVq_d,rVa_e,rVa_z,zVaD_ln,zVr_ln2,decL_va,cSl,Fn.c,h1,hf,hg,hft,hI2,hfull,toDss_va,vs_fz,hR,hx0,bne,hAs]
        try simp only[impB,impN]
        repeat' first|exact ck|with_reducible apply And.intro|intro _
        all_goals first|exact hl5|exact gp5|exact⟨gp5,hl5⟩|exact hi2.1|exact hi2.2|exact hm3|exact⟨gF,gB⟩|exact gF|exact gB|exact hft|(exact fun _=>hmC)|(rename_i h;first|exact oI h|exact nah h)|(rename_i _ h _ g;exact sL h g)|decide|omega|(refine ret_with [] ?_;simp only[↓eB,seval,go_sem,bne,yr_fInv,yb_fInv,yv_fInv,yz_fInv,e_RESLP,xt,↓e_fac4,Ev.b,Ev.vl,evA,evW,va0,yp_fBrk,yF_fBrk,yN_fBrk,yb_fBrk,yv_fBrk,yz_fBrk,yF_fEval,yN_fEval,yr_fEval,yb_fEval,yv_fEval,yz_fEval,yp_fAsg,yF_fAsg,yN_fAsg,yr_fAsg,yb_fAsg,yv_fAsg,yz_fAsg,yp_fits,yr_fits,yg_mCall,yr_mCall,yb_mCall,yv_mCall,cFn_e,cFn_d,cVas_e,cVas_d,cVq_e,cVq_d,rVa_e,rVa_z,zVaD_ln,zVr_ln2,decL_va,cSl,Fn.c,hI2])
end Go.Proofs.Ytjnnmindcbgjhab
