/- Calls, walked. No conditions but those in each statement. -/
import Derived.Test.YtjnnmindcbgjhabRmb
set_option linter.unusedVariables false
set_option linter.unusedSimpArgs false
namespace Go.Proofs.Ytjnnmindcbgjhab
open Go Go.Sy Go.RowKit
theorem vsC_nil:vsC []=[]:=rfl
theorem cal_out {st:Sm→Fa→Ro} {P:Pg} {g:Fn} {a:List Va} {m:Ms} (h:200≤m.deep):calF st P g a m=(true,0,m.exh):=by unfold calF;rw[if_pos h]
theorem cal_in {st:Sm→Fa→Ro} {P:Pg} {g:Fn} {a:List Va} {m:Ms} {r:Ro} (h:¬200≤m.deep) (hr:blF st g.body ⟨g.name,0,P,{ m with deep:=w64i (m.deep+1) },vsP g.ps a (vsL g.ls [])⟩=r):calF st P g a m=if r.b=true then (true,0,r.q.m) else (false,r.q.ret,{ r.q.m with deep:=w64i (r.q.m.deep-1) }):=by unfold calF;rw[if_neg h,hr]
abbrev yc_mCall (N:Nat) (n:Nat) (p:Pg×Ms) (g:Fn) (va:List Va):Prop:=okMs N n ⟨[],0,p.1,p.2,[]⟩∧(okF g∧∃m,okB N m g.body)∧fitB g.ps va=true∧n≤1000000000
abbrev yb_mCall (N:Nat) (n:Nat) (p:Pg×Ms) (g:Fn) (va:List Va):Bool:=(calF (stF n) p.1 g va p.2).1
abbrev yr_mCall (N:Nat) (n:Nat) (p:Pg×Ms) (g:Fn) (va:List Va):SV:=.one (.v (.int .i64 (calF (stF n) p.1 g va p.2).2.1))
abbrev yv_mCall (N:Nat) (n:Nat) (p:Pg×Ms) (g:Fn) (va:List Va):MV:=mcW p.1 (calF (stF n) p.1 g va p.2).2.2
noncomputable abbrev ya_mCall:ArgM ((Pg×Ms)×(Fn)×(List Va)×Unit):=(amP (mMc) (amD (cFn) (amD (cVas) am0)))
abbrev yq_mCall (N:Nat) (n:Nat):Prop:=CallsMP Try.prog 49 ((ya_mCall).args 0) (ya_mCall).mem (fun p:(Pg×Ms)×(Fn)×(List Va)×Unit=>yc_mCall N n p.1 p.2.1 p.2.2.1) (fun p:(Pg×Ms)×(Fn)×(List Va)×Unit=>yb_mCall N n p.1 p.2.1 p.2.2.1) (fun p:(Pg×Ms)×(Fn)×(List Va)×Unit=>yr_mCall N n p.1 p.2.1 p.2.2.1) (fun p:(Pg×Ms)×(Fn)×(List Va)×Unit=>[some (yv_mCall N n p.1 p.2.1 p.2.2.1)])
theorem yl_mCall (N:Nat) (n:Nat):∀p,(fun p:(Pg×Ms)×(Fn)×(List Va)×Unit=>yc_mCall N n p.1 p.2.1 p.2.2.1) p→((fun p:(Pg×Ms)×(Fn)×(List Va)×Unit=>[some (yv_mCall N n p.1 p.2.1 p.2.2.1)]) p).length=((ya_mCall).mem p).length:=by intro p _;rfl
theorem yo_mCall (N:Nat) (n:Nat):∀p,(fun p:(Pg×Ms)×(Fn)×(List Va)×Unit=>yc_mCall N n p.1 p.2.1 p.2.2.1) p→outV ((fun p:(Pg×Ms)×(Fn)×(List Va)×Unit=>[some (yv_mCall N n p.1 p.2.1 p.2.2.1)]) p).length ((fun p:(Pg×Ms)×(Fn)×(List Va)×Unit=>yr_mCall N n p.1 p.2.1 p.2.2.1) p)=true:=by intro p _;first|rfl|exact ex_out _ _|exact cd_out _ _|(simp[outV,outC,ex_out,cd_out];done)
theorem yn_mCall (N:Nat) (n:Nat):∀p,(fun p:(Pg×Ms)×(Fn)×(List Va)×Unit=>yc_mCall N n p.1 p.2.1 p.2.2.1) p→∀q,some q∈(fun p:(Pg×Ms)×(Fn)×(List Va)×Unit=>[some (yv_mCall N n p.1 p.2.1 p.2.2.1)]) p→∀r∈q.2,∀c∈r,c.names=[]:=by intro p _;exact mcW_nm _ _
noncomputable def yg_mCall {X:Ctx} {w0:World} (N:Nat) (n:Nat) (h:yq_mCall N n):Sy.Spec Try.prog X w0:=specMP 49 Try.call49 (ya_mCall) (fun p:(Pg×Ms)×(Fn)×(List Va)×Unit=>yc_mCall N n p.1 p.2.1 p.2.2.1) (fun p:(Pg×Ms)×(Fn)×(List Va)×Unit=>yb_mCall N n p.1 p.2.1 p.2.2.1) (fun p:(Pg×Ms)×(Fn)×(List Va)×Unit=>yr_mCall N n p.1 p.2.1 p.2.2.1) (fun p:(Pg×Ms)×(Fn)×(List Va)×Unit=>[some (yv_mCall N n p.1 p.2.1 p.2.2.1)]) (yl_mCall N n) (yo_mCall N n) (yn_mCall N n) h
attribute [local go_sem] Fa.mem Fa.memO Fa.pan ML.ch ML.ren Sm.ar Sm.cd Sm.e Sm.el Sm.f Sm.k Sm.no Sm.th Sm.x Sm.y amFr_a amFr_d amFr_m bumpL cCd_d cCd_e cCd_n cEx_d cEx_e cEx_n cSp_d cSp_e cSs_d cSs_e chL faD_p faJ_some faK_some fa_eta fcN flN_vs frC frD_v frJ_eq lmH lmO mMc_d' mMc_e mMc_z mcC mcD_v mcR_d mcW mlO_nil mlO_none mlO_some ms_eta nmX pairN_o pairO_n pg_eta pnL_nil pnL_none pnL_some pnOL_f pnOL_t pnOf_f pnOf_t renQ renQC rnC sm_r spFn_n spL_some specL'_f specL'_fn updL updX vrQ vsD_v vs_ren wkR_me
set_option maxRecDepth 20000 in set_option maxHeartbeats 32000000 in
theorem y_mCall (N:Nat) (n:Nat) (hu:yq_fBlock N n):yq_mCall N n:=by
 rintro ⟨p,g,va,_u⟩ w M I lab fz xs hc hA hl hx
 refine calls_toMP Try.func49 rfl _ w M I lab fz (yb_mCall N n p g va) (yv_mCall N n p g va) [yp_mExh,(yg_fBlock N n hu)] [] ((ya_mCall).args 0 ⟨p,g,va,_u⟩) (yr_mCall N n p g va) xs hA hl hx (fun v hv k hk=>Nat.lt_of_lt_of_eq ((ya_mCall).an 0 ⟨p,g,va,_u⟩ v hv k hk).2 (Nat.zero_add _)) (Nat.le_of_ble_eq_true rfl) (yn_mCall N n ⟨p,g,va,_u⟩ hc _ (List.mem_singleton.2 rfl)) ?_
 clear hx hl hA xs
 simp only[Try.f49]
 obtain⟨P,m⟩:=p
 obtain⟨gn,gps,gls,gb⟩:=g
 obtain⟨hM,⟨hF,mb,hB⟩,hft,hn⟩:=hc
 dsimp only at hM hF hB hft hn
 have hfl:=fitB_len hft
 have hF1:gps.length≤5000:=hF.1
 have hF2:gls.length≤5000:=hF.2
 cases hd:decide (200≤m.deep) with
 |true=>
  have h:=cal_out (st:=stF n) (P:=P) (g:=⟨gn,gps,gls,gb⟩) (a:=va) (of_decide_eq_true hd)
  simp only[↓eB,seval,go_sem,xt,↓e_fac4,mp_ci,mp_ai,mp_fi,mp_vs,Va.c,Option.isSome_some,Option.isSome_none,Ev.b,Ev.vl,evA,evW,va0,yp_mExh,yb_mExh,yv_mExh,yF_fBlock,yN_fBlock,yr_fBlock,yb_fBlock,yv_fBlock,yz_fBlock,yb_mCall,yv_mCall,cFn_e,cFn_d,cVas_e,cVas_d,cVq_e,cVq_d,Fn.c,hd,h]
  try simp only[impB,impN]
  repeat' first|exact ck|with_reducible apply And.intro|intro _
  all_goals first|exact trivial|(rename_i h;first|exact oI h|exact nah h)|(rename_i _ h _ g;exact sL h g)|decide|omega|(refine ret_with [] ?_;simp only[↓eB,seval,go_sem,bne,yr_mCall,yb_mCall,yv_mCall,e_RESMP,xt,↓e_fac4,Ev.b,Ev.vl,evA,evW,va0,yp_mExh,yb_mExh,yv_mExh,yF_fBlock,yN_fBlock,yr_fBlock,yb_fBlock,yv_fBlock,yz_fBlock,cFn_e,cFn_d,cVas_e,cVas_d,cVq_e,cVq_d,Fn.c,h])
 |false=>
 obtain⟨T,hT⟩:∃T,blF (stF n) gb ⟨gn,0,P,{ m with deep:=w64i (m.deep+1) },vsP gps va (vsL gls [])⟩=T:=⟨_,rfl⟩
 have h:=cal_in (st:=stF n) (P:=P) (g:=⟨gn,gps,gls,gb⟩) (a:=va) (m:=m) (of_decide_eq_false hd) hT
 simp only[↓eB,seval,go_sem,xt,↓e_fac4,mp_ci,mp_ai,mp_fi,mp_vs,Va.c,Option.isSome_some,Option.isSome_none,Ev.b,Ev.vl,evA,evW,va0,yp_mExh,yb_mExh,yv_mExh,yF_fBlock,yN_fBlock,yr_fBlock,yb_fBlock,yv_fBlock,yz_fBlock,yb_mCall,yv_mCall,cFn_e,cFn_d,cVas_e,cVas_d,cVq_e,cVq_d,Fn.c,hd]
 refine loop_ok (Y:=Nat×Vs) (fun z=>z.1≤gls.length∧vsL (gls.drop z.1) z.2=vsL gls [])
  (fun z=>⟨[(0,true,.one (.p 0 0 0)),(2,true,.one (.d (.sl zVaD (va.map Va.r)))),(4,true,.one (.p 4 0 0)),(6,true,.one (.v (.int .i64 0))),(7,true,.one (.p 31 0 0)),(33,true,.one (.d (.sl zVr (gls.map Vr.r)))),(34,true,.one (.v (.int .i64 (gls.length:Int)))),(35,true,.one (.v (.int .i64 (z.1:Int))))],[(0,.vec 0 zMc [mcC P ⟨m.fuel,w64i (m.deep+1),m.cs,m.ar,m.e,m.v,m.f,m.al,m.k⟩]),(4,.vec 0 fl4 [[.v (.string (bs gn)),.d (.sl zVr (gps.map Vr.r)),.d (.sl zVr (gls.map Vr.r)),.d (.sl zSm (gb.map Sm.r))]]),(29,.mp true (vsC z.2)),(31,.vec 0 fl4 [[.p 0 0 0,.v (.string (bs gn)),.s 29,.v (.int .i64 0)]])]⟩)
  (fun z=>gls.length-z.1) (0,[]) ⟨Nat.zero_le _,rfl⟩ ?_ ?_
 ·refine to_with [] ?_;simp only[↓eB,seval,go_sem,xt,↓e_fac4,fl4,vsC_nil]
 ·rintro ⟨i,vs⟩ ⟨hi,hJ⟩
  dsimp only at hi hJ
  refine vc_ok [yp_mExh,yg_fBlock N n hu] [] _ _ _ ?_
  have w1:IntKind.i64.wrap ((i:Int)+1)=((i+1:Nat):Int):=by rw[wrap_i64 (by omega) (by omega)];rfl
  cases hx:gls[i]? with
  |some x=>
   have hlt:=(List.getElem?_eq_some_iff.1 hx).1
   have h1:=natI_lt hlt
   have h2:=vr_z hx
   rw[drop_get hx]at hJ
   simp only[vsL]at hJ
   simp only[↓eB,seval,go_sem,xt,↓e_fac4,mp_ci,mp_ai,mp_fi,mp_vs,Va.c,Option.isSome_some,Option.isSome_none,Ev.b,Ev.vl,evA,evW,va0,yp_mExh,yb_mExh,yv_mExh,yF_fBlock,yN_fBlock,yr_fBlock,yb_fBlock,yv_fBlock,yz_fBlock,yb_mCall,yv_mCall,cFn_e,cFn_d,cVas_e,cVas_d,cVq_e,cVq_d,Fn.c,h1,h2,w1,fl4,mp_put]
   try simp only[impB,impN]
   repeat' first|exact ck|with_reducible apply And.intro|intro _
   all_goals try first|exact hlt|(rename_i h;first|exact oI h|exact nah h)|(rename_i _ h _ g;exact sL h g)|decide|omega
   refine⟨(i+1,mput vs x.s ⟨x.p,0,[]⟩),⟨hlt,hJ⟩,by dsimp only;omega,to_with [] ?_⟩
   simp only[↓eB,seval,go_sem,xt,↓e_fac4,fl4]
  |none=>
   have h2:=List.getElem?_eq_none_iff.1 hx
   have h1:=natI_ge h2
   rw[List.drop_eq_nil_of_le h2]at hJ
   have hJ':vs=vsL gls []:=hJ
   subst hJ'
   clear hJ hi w1 hx
   generalize vsL gls []=vs0 at*
   simp only[↓eB,seval,go_sem,xt,↓e_fac4,mp_ci,mp_ai,mp_fi,mp_vs,Va.c,Option.isSome_some,Option.isSome_none,Ev.b,Ev.vl,evA,evW,va0,yp_mExh,yb_mExh,yv_mExh,yF_fBlock,yN_fBlock,yr_fBlock,yb_fBlock,yv_fBlock,yz_fBlock,yb_mCall,yv_mCall,cFn_e,cFn_d,cVas_e,cVas_d,cVq_e,cVq_d,Fn.c,h1,fl4]
   refine loop_ok (Y:=Nat×Vs) (fun z=>z.1≤gps.length∧vsP (gps.drop z.1) (va.drop z.1) z.2=vsP gps va vs0)
    (fun z=>⟨[(0,true,.one (.p 0 0 0)),(2,true,.one (.d (.sl zVaD (va.map Va.r)))),(4,true,.one (.p 4 0 0)),(6,true,.one (.v (.int .i64 0))),(7,true,.one (.p 31 0 0)),(50,true,.one (.d (.sl zVr (gps.map Vr.r)))),(51,true,.one (.v (.int .i64 (gps.length:Int)))),(52,true,.one (.v (.int .i64 (z.1:Int))))],[(0,.vec 0 zMc [mcC P ⟨m.fuel,w64i (m.deep+1),m.cs,m.ar,m.e,m.v,m.f,m.al,m.k⟩]),(4,.vec 0 fl4 [[.v (.string (bs gn)),.d (.sl zVr (gps.map Vr.r)),.d (.sl zVr (gls.map Vr.r)),.d (.sl zSm (gb.map Sm.r))]]),(29,.mp true (vsC z.2)),(31,.vec 0 fl4 [[.p 0 0 0,.v (.string (bs gn)),.s 29,.v (.int .i64 0)]])]⟩)
    (fun z=>gps.length-z.1) (0,vs0) ⟨Nat.zero_le _,rfl⟩ ?_ ?_
   ·refine to_with [] ?_;simp only[↓eB,seval,go_sem,xt,↓e_fac4,fl4]
   ·rintro ⟨i,vs⟩ ⟨hi,hJ⟩
    dsimp only at hi hJ
    refine vc_ok [yp_mExh,yg_fBlock N n hu] [] _ _ _ ?_
    have w1:IntKind.i64.wrap ((i:Int)+1)=((i+1:Nat):Int):=by rw[wrap_i64 (by omega) (by omega)];rfl
    cases hx:gps[i]? with
    |some x=>
     have hlt:=(List.getElem?_eq_some_iff.1 hx).1
     have hlt2:i<va.length:=by omega
     have h1:=natI_lt hlt
     have h2:=vr_z hx
     obtain⟨y,hy⟩:∃y,va[i]?=some y:=⟨_,List.getElem?_eq_getElem hlt2⟩
     have h3:=va_z hy
     rw[drop_get hx,drop_get hy]at hJ
     simp only[vsP]at hJ
     cases hp:x.p with
     |true=>
      rw[hp]at hJ
      simp only[↓eB,seval,go_sem,xt,↓e_fac4,mp_ci,mp_ai,mp_fi,mp_vs,Va.c,Option.isSome_some,Option.isSome_none,Ev.b,Ev.vl,evA,evW,va0,yp_mExh,yb_mExh,yv_mExh,yF_fBlock,yN_fBlock,yr_fBlock,yb_fBlock,yv_fBlock,yz_fBlock,yb_mCall,yv_mCall,cFn_e,cFn_d,cVas_e,cVas_d,cVq_e,cVq_d,Fn.c,h1,h2,h3,hp,w1,fl4,mp_put]
      try simp only[impB,impN]
      repeat' first|exact ck|with_reducible apply And.intro|intro _
      all_goals try first|exact hlt|exact hlt2|(rename_i h;first|exact oI h|exact nah h)|(rename_i _ h _ g;exact sL h g)|decide|omega
      refine⟨(i+1,mput vs x.s ⟨true,0,y.s⟩),⟨hlt,hJ⟩,by dsimp only;omega,to_with [] ?_⟩
      simp only[↓eB,seval,go_sem,xt,↓e_fac4,fl4]
     |false=>
      rw[hp]at hJ
      simp only[↓eB,seval,go_sem,xt,↓e_fac4,mp_ci,mp_ai,mp_fi,mp_vs,Va.c,Option.isSome_some,Option.isSome_none,Ev.b,Ev.vl,evA,evW,va0,yp_mExh,yb_mExh,yv_mExh,yF_fBlock,yN_fBlock,yr_fBlock,yb_fBlock,yv_fBlock,yz_fBlock,yb_mCall,yv_mCall,cFn_e,cFn_d,cVas_e,cVas_d,cVq_e,cVq_d,Fn.c,h1,h2,h3,hp,w1,fl4,mp_put]
      try simp only[impB,impN]
      repeat' first|exact ck|with_reducible apply And.intro|intro _
      all_goals try first|exact hlt|exact hlt2|(rename_i h;first|exact oI h|exact nah h)|(rename_i _ h _ g;exact sL h g)|decide|omega
      refine⟨(i+1,mput vs x.s ⟨false,y.n,[]⟩),⟨hlt,hJ⟩,by dsimp only;omega,to_with [] ?_⟩
      simp only[↓eB,seval,go_sem,xt,↓e_fac4,fl4]
    |none=>
     have h2:=List.getElem?_eq_none_iff.1 hx
     have h1:=natI_ge h2
     rw[List.drop_eq_nil_of_le h2,List.drop_eq_nil_of_le (by omega)]at hJ
     have hJ':vs=vsP gps va vs0:=hJ
     rw[← hJ']at hT
     have hM1:okMs N n ⟨gn,0,P,{ m with deep:=w64i (m.deep+1) },vs⟩:=⟨hM.p,⟨hM.c.c,hM.c.a,hM.c.n,hM.c.k⟩,hM.a,hM.l,hM.u⟩
     have hk:=kq_bl (kq_st n) gb ⟨gn,0,P,{ m with deep:=w64i (m.deep+1) },vs⟩ hM1.l (by have h7:m.fuel<n:=hM.u;show m.fuel≤_;omega)
     rw[hT]at hk
     obtain⟨b,t,r⟩:=T
     have hP:r.P=P:=hk.P
     cases b with
     |true=>
      have h':calF (stF n) P ⟨gn,gps,gls,gb⟩ va m=(true,0,r.m):=h
      simp only[↓eB,seval,go_sem,xt,↓e_fac4,mp_ci,mp_ai,mp_fi,mp_vs,Va.c,Option.isSome_some,Option.isSome_none,Ev.b,Ev.vl,evA,evW,va0,yp_mExh,yb_mExh,yv_mExh,yF_fBlock,yN_fBlock,yr_fBlock,yb_fBlock,yv_fBlock,yz_fBlock,yb_mCall,yv_mCall,cFn_e,cFn_d,cVas_e,cVas_d,cVq_e,cVq_d,Fn.c,h1,h',hT,hP,fl4]
      try simp only[impB,impN]
      repeat' first|exact ck|with_reducible apply And.intro|intro _
      all_goals first|exact⟨⟨mb,hB⟩,hM1,hn⟩|exact⟨mb,hB⟩|exact hM1|(rename_i h;first|exact oI h|exact nah h)|(rename_i _ h _ g;exact sL h g)|decide|omega|(refine ret_with [] ?_;simp only[↓eB,seval,go_sem,bne,yr_mCall,yb_mCall,yv_mCall,e_RESMP,xt,↓e_fac4,Ev.b,Ev.vl,evA,evW,va0,yp_mExh,yb_mExh,yv_mExh,yF_fBlock,yN_fBlock,yr_fBlock,yb_fBlock,yv_fBlock,yz_fBlock,cFn_e,cFn_d,cVas_e,cVas_d,cVq_e,cVq_d,Fn.c,h',hP])
     |false=>
      have h':calF (stF n) P ⟨gn,gps,gls,gb⟩ va m=(false,r.ret,{ r.m with deep:=w64i (r.m.deep-1) }):=h
      simp only[↓eB,seval,go_sem,xt,↓e_fac4,mp_ci,mp_ai,mp_fi,mp_vs,Va.c,Option.isSome_some,Option.isSome_none,Ev.b,Ev.vl,evA,evW,va0,yp_mExh,yb_mExh,yv_mExh,yF_fBlock,yN_fBlock,yr_fBlock,yb_fBlock,yv_fBlock,yz_fBlock,yb_mCall,yv_mCall,cFn_e,cFn_d,cVas_e,cVas_d,cVq_e,cVq_d,Fn.c,h1,h',hT,hP,fl4]
      try simp only[impB,impN]
      repeat' first|exact ck|with_reducible apply And.intro|intro _
      all_goals first|exact⟨⟨mb,hB⟩,hM1,hn⟩|exact⟨mb,hB⟩|exact hM1|(rename_i h;first|exact oI h|exact nah h)|(rename_i _ h _ g;exact sL h g)|decide|omega|(refine ret_with [] ?_;simp only[↓eB,seval,go_sem,bne,yr_mCall,yb_mCall,yv_mCall,e_RESMP,xt,↓e_fac4,Ev.b,Ev.vl,evA,evW,va0,yp_mExh,yb_mExh,yv_mExh,yF_fBlock,yN_fBlock,yr_fBlock,yb_fBlock,yv_fBlock,yz_fBlock,cFn_e,cFn_d,cVas_e,cVas_d,cVq_e,cVq_d,Fn.c,h',hP])
end Go.Proofs.Ytjnnmindcbgjhab
