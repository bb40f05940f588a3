/- Statements, walked. No conditions but those in each statement. -/
import Derived.Test.YtjnnmindcbgjhabRmd
set_option linter.unusedVariables false
set_option linter.unusedSimpArgs false
namespace Go.Proofs.Ytjnnmindcbgjhab
open Go Go.Sy Go.RowKit
section
variable {n:Nat} {s:Sm} {q:Fa}
theorem st_11 (h:s.k=11):stF (n+1) s q=lpF (blF (stF n) s.th) s (n+1) q:=by simp only[stF];rw[if_pos h]
theorem st_out (h:s.k≠11) (ho:q.m.out=true):stF (n+1) s q=⟨true,false,{ q with m:=q.m.exh }⟩:=by simp only[stF];rw[if_neg h,if_pos ho]
theorem st_in (h:s.k≠11) (ho:q.m.out=false):stF (n+1) s q=smF (stF n) s { q with m:=q.m.spd }:=by simp only[stF];rw[if_neg h,if_neg (by rw[ho];decide)]
end
theorem dead_vs (q:Fa) (s:Sm):mget (Fa.dead q s).vs s.x=some va0:=put_get s.x va0 q.vs
theorem dead_g (q:Fa) (s:Sm) (z:List C):((Fa.dead q s).m.cs.map Nb.c).getD 0 z=[.v (.string (bs [])),.v (.int .i64 0)]:=rfl
theorem dead_l (q:Fa) (s:Sm):(Fa.dead q s).m.cs.length=1:=rfl
theorem dead_ga (q:Fa) (s:Sm) (z:List C):((Fa.dead q s).m.ar.map Na.c).getD 0 z=[.v (.string (bs [])),.ov zI [[.v (.int .i64 0)]]]:=rfl
theorem dead_la (q:Fa) (s:Sm):(Fa.dead q s).m.ar.length=1:=rfl
theorem dead_gi (z:List C):([[.v (.int .i64 0)]]:List (List C)).getD 0 z=[.v (.int .i64 0)]:=rfl
theorem dead_v2 (q:Fa) (k no:Int) (x y:List UInt8) (e f:Ex) (cd:Cd) (ar:List Ar) (th el:List Sm):mget (Fa.dead q (.mk k x y e f cd ar th el no)).vs x=some va0:=put_get x va0 q.vs
theorem asg_dd (q:Fa) (k no:Int) (x y:List UInt8) (e f:Ex) (cd:Cd) (ar:List Ar) (th el:List Sm) (v:Int):asgF (Fa.dead q (.mk k x y e f cd ar th el no)) (.mk k x y e f cd ar th el no) v=Fa.go { Fa.dead q (.mk k x y e f cd ar th el no) with vs:=mput (Fa.dead q (.mk k x y e f cd ar th el no)).vs x ⟨false,v,[]⟩ }:=asg_dead _ _ _
theorem va_sn:(some va0=(none:Option Va))=False:=by simp
theorem inv_t (st:Sm→Fa→Ro) (s:Sm) (q:Fa):(invF st s q).t=false:=by
 unfold invF
 split
 ·rfl
 ·split
  ·rfl
  ·dsimp only
   split
   ·rfl
   ·unfold invK
    split
    ·rfl
    ·split
     ·rfl
     ·exact asg_t _ _ _
theorem ci_z {l:List Int} {i:Nat} (h:i<l.length) (z:List C):(l.map cI).getD i z=[.v (.int .i64 (l.getD i 0))]:=by simp[List.getD,h,cI]
theorem fol_lt {q:Fa} {m:Ms} {x:List UInt8} {i:Int} (hc:okC q.P m) (h:folF { q with m:=m } x= .ok i):0≤i∧i<(m.cs.length:Int):=by
 unfold folF at h
 split at h
 ·cases h
 ·split at h
  ·rename_i j hj
   obtain rfl:j=i:=by cases h;rfl
   exact Pg.ci_lt hc hj
  ·cases h
theorem acc_lt {q:Fa} {m:Ms} {s:Sm} {v k:Int} (hc:okC q.P m) (h:accF { q with m:=m } s v= .ok k):(0≤k∧k<(m.ar.length:Int))∧0≤v∧v.toNat<(m.ar.getD k.toNat ⟨[],[]⟩).l.length:=by
 unfold accF at h
 split at h
 ·cases h
 ·rename_i j hj
  split at h
  ·cases h
  ·rename_i hn
   obtain rfl:j=k:=by cases h;rfl
   have hn2:¬(v<0∨((m.ar.getD j.toNat ⟨[],[]⟩).l.length:Int)≤v):=hn
   refine⟨Pg.ai_lt hc hj,?_,?_⟩<;>omega
attribute [local go_sem] Ev.b Ev.vl Fa.mem Fa.memO Fa.pan ML.ch ML.ren Sm.ar Sm.cd Sm.e Sm.el Sm.f Sm.k Sm.no Sm.th Sm.x Sm.y Va.c amFr_a amFr_d amFr_m bumpL cCd_d cCd_e cCd_n cEx_d cEx_e cEx_n cSp_d cSp_e cSs_d cSs_e chL evA evW faD_p faJ_some faK_some fa_eta fcN flN_vs frC frD_v frJ_eq lmH lmO mMc_d' mMc_e mMc_z mcC mcD_v mcR_d mcW mlO_nil mlO_none mlO_some mp_ai mp_ci mp_fi mp_vs ms_eta nmX pairN_o pairO_n pg_eta pnL_nil pnL_none pnL_some pnOL_f pnOL_t pnOf_f pnOf_t renQ renQC rnC sm_r spFn_n spL_some specL'_f specL'_fn updL updX va0 vrQ vsD_v vs_ren wkR_me yF_fAcc yF_fAsg yF_fBlock yF_fBrk yF_fCond yF_fEval yF_fFol yF_fInv yF_fLoop yN_fAcc yN_fAsg yN_fBlock yN_fBrk yN_fCond yN_fEval yN_fFol yN_fInv yN_fLoop yb_fAcc yb_fAsg yb_fBlock yb_fBrk yb_fCond yb_fEval yb_fFol yb_fInv yb_fLoop yb_fStmt yb_mSpd yp_fAcc yp_fAsg yp_fBrk yp_fFol yp_mSpd yr_fAcc yr_fAsg yr_fBlock yr_fBrk yr_fCond yr_fEval yr_fFol yr_fInv yr_fLoop yr_fStmt yv_fAcc yv_fAsg yv_fBlock yv_fBrk yv_fCond yv_fEval yv_fFol yv_fInv yv_fLoop yv_fStmt yv_mSpd yz_fAcc yz_fAsg yz_fBlock yz_fBrk yz_fCond yz_fEval yz_fFol yz_fInv yz_fLoop yz_fStmt
set_option maxRecDepth 20000 in set_option maxHeartbeats 64000000 in
theorem y_fStmtS (N:Nat) (n:Nat) (hI:yq_fInv N n) (hB:yq_fBlock N n) (hL:yq_fLoop N n):yq_fStmt N (n+1):=by
 rintro ⟨q,s,_u⟩ w M I lab fz xs hc hA hl hx
 refine calls_toLM Try.func63 rfl (Fa.mem q) w M I lab fz (yb_fStmt N (n+1) q s) (Fa.pan (yz_fStmt N (n+1) q s)) (Fa.memO (yv_fStmt N (n+1) q s)) [(yg_fLoop N n hL),yp_mSpd,(yg_fEval N (y_fEval N)),yp_fAsg,yp_fBrk,yp_fFol,yp_fAcc,(yg_fInv N n hI),(yg_fCond N false (y_fCond N false)),(yg_fBlock N n hB)] [] ((ya_fStmt).args ⟨q,s,_u⟩) (yr_fStmt N (n+1) q s) xs hA hl hx (amFr_nm _ _ _ _) (Nat.le_of_ble_eq_true rfl) (Nat.le_refl _) rfl (fa_pnm _) ?_
 clear hx hl hA xs
 simp only[Try.f63]
 obtain⟨hT,hM,hn⟩:=hc
 dsimp only at hT hM hn
 have he1:s.e.dp<N:=hT.k.e
 have hf1:s.f.dp<N:=hT.k.f
 have hd1:s.cd.dp<N:=hT.k.c
 obtain⟨mt,hth⟩:=hT.t
 obtain⟨me,hel⟩:=hT.e
 obtain⟨k0,x0,y0,e0,f0,cd0,ar0,th0,el0,no0⟩:=s
 dsimp only[Sm.e,Sm.f,Sm.cd,Sm.th,Sm.el]at he1 hf1 hd1 hth hel
 by_cases c11:k0=11
 ·subst c11
  have hS:=st_11 (n:=n) (q:=q) (show (Sm.mk 11 x0 y0 e0 f0 cd0 ar0 th0 el0 no0).k=11 from rfl)
  obtain⟨T,hTT⟩:∃T,lpF (blF (stF n) th0) (.mk 11 x0 y0 e0 f0 cd0 ar0 th0 el0 no0) (n+1) q=T:=⟨_,rfl⟩
  have hS2:stF (n+1) (.mk 11 x0 y0 e0 f0 cd0 ar0 th0 el0 no0) q=T:=hS.trans hTT
  obtain⟨b,t,r⟩:=T
  cases b with
  |true=>
   simp only[↓eB,seval,go_sem,xt,↓e_fac4,Option.isSome_some,Option.isSome_none,hS2,hTT]
   try simp only[impB,impN]
   repeat' first|exact ck|with_reducible apply And.intro|intro _
   all_goals first|exact⟨hT,hM,hn⟩|exact hT|exact hM|exact hn|(rename_i h;first|exact oI h|exact nah h)|(rename_i _ h _ g;exact sL h g)|decide|omega|(refine ret_with [] ?_;simp only[↓eB,seval,go_sem,bne,e_RESLP,xt,↓e_fac4,hS2])
  |false=>
   simp only[↓eB,seval,go_sem,xt,↓e_fac4,Option.isSome_some,Option.isSome_none,hS2,hTT]
   try simp only[impB,impN]
   repeat' first|exact ck|with_reducible apply And.intro|intro _
   all_goals first|exact⟨hT,hM,hn⟩|exact hT|exact hM|exact hn|(rename_i h;first|exact oI h|exact nah h)|(rename_i _ h _ g;exact sL h g)|decide|omega|(refine ret_with [] ?_;simp only[↓eB,seval,go_sem,bne,e_RESLP,xt,↓e_fac4,hS2])
 have d11:(k0==11)=false:=by simpa using c11
 cases ho:q.m.out with
 |true=>
  have hS:=st_out (n:=n) (q:=q) (s:=.mk k0 x0 y0 e0 f0 cd0 ar0 th0 el0 no0) c11 ho
  simp only[↓eB,seval,go_sem,xt,↓e_fac4,Option.isSome_some,Option.isSome_none,ho,hS,d11]
  try simp only[impB,impN]
  repeat' first|exact ck|with_reducible apply And.intro|intro _
  all_goals first|exact trivial|(rename_i h;first|exact oI h|exact nah h)|(rename_i _ h _ g;exact sL h g)|decide|omega|(refine ret_with [] ?_;simp only[↓eB,seval,go_sem,bne,e_RESLP,xt,↓e_fac4,hS,ho])
 |false=>
 have hS:=st_in (n:=n) (q:=q) (s:=.mk k0 x0 y0 e0 f0 cd0 ar0 th0 el0 no0) c11 ho
 have ks:=kq_spd ho hM.l (by have:=hM.u;omega)
 have ka:=kspd ho hM.l (by have:=hM.u;omega)
 have hMs:okMs N n { q with m:=q.m.spd }:=hM.kq ks (by show q.m.spd.fuel<_;have:=hM.u;omega)
 have hcs:okC q.P q.m.spd:=hMs.c
 have hla:∀a∈q.m.spd.ar,a.l.length≤1000000000:=hMs.a
 by_cases c0:k0=0
 ·subst c0
  cases he:evF q.P q.m.spd q.vs e0 with
  |no j=>
   have h:stF (n+1) (.mk 0 x0 y0 e0 f0 cd0 ar0 th0 el0 no0) q=Fa.brk { q with m:=q.m.spd } (.mk 0 x0 y0 e0 f0 cd0 ar0 th0 el0 no0) j:=by rw[hS];unfold smF;simp only[Sm.k,Sm.x,Sm.y,Sm.e,Sm.f,Sm.cd,Sm.ar,Sm.th,Sm.el,Int.reduceEq,↓reduceIte,he]
   simp only[↓eB,seval,go_sem,xt,↓e_fac4,Option.isSome_some,Option.isSome_none,ho,h,he,Fa.brk,asg_dd,dead_v2,va_sn,dead_g,dead_l,dead_ga,dead_la,dead_gi,Fa.go]
   try simp only[impB,impN]
   repeat' first|exact ck|with_reducible apply And.intro|intro _
   all_goals first|exact trivial|exact hcs|exact⟨hcs,he1⟩|exact⟨hcs,hf1⟩|exact⟨hcs,hd1⟩|exact he1|exact hf1|exact hd1|exact⟨hcs,hla⟩|exact hla|(exact hla _ (by assumption))|(exact fun _=>hcs)|(rename_i hd;exact nomatch (dead_vs _ _).symm.trans hd)|exact hMs|exact hT|exact hn|(rename_i h;first|exact oI h|exact nah h)|(rename_i _ h _ g;exact sL h g)|decide|omega|(refine ret_with [] ?_;simp only[↓eB,seval,go_sem,bne,e_RESLP,xt,↓e_fac4,h,Fa.brk])
  |ok v=>
   obtain⟨A,hA⟩:∃A,asgF { q with m:=q.m.spd } (.mk 0 x0 y0 e0 f0 cd0 ar0 th0 el0 no0) v=A:=⟨_,rfl⟩
   have h:stF (n+1) (.mk 0 x0 y0 e0 f0 cd0 ar0 th0 el0 no0) q=A:=by rw[hS];unfold smF;simp only[Sm.k,Sm.x,Sm.y,Sm.e,Sm.f,Sm.cd,Sm.ar,Sm.th,Sm.el,Int.reduceEq,↓reduceIte,he];exact hA
   have hAt:A.t=false:=by rw[← hA];exact asg_t _ _ _
   try dsimp only[Ms.cell,Ms.arr]at hA
   obtain⟨b,t,r⟩:=A
   obtain rfl:t=false:=hAt
   cases b with
   |true=>
    simp only[↓eB,seval,go_sem,xt,↓e_fac4,Option.isSome_some,Option.isSome_none,ho,h,hA,he]
    try simp only[impB,impN]
    repeat' first|exact ck|with_reducible apply And.intro|intro _
    all_goals first|exact trivial|exact hcs|exact⟨hcs,he1⟩|exact⟨hcs,hf1⟩|exact⟨hcs,hd1⟩|exact he1|exact hf1|exact hd1|exact⟨hcs,hla⟩|exact hla|(exact hla _ (by assumption))|(exact fun _=>hcs)|(rename_i hd;exact nomatch (dead_vs _ _).symm.trans hd)|exact hMs|exact hT|exact hn|(rename_i h;first|exact oI h|exact nah h)|(rename_i _ h _ g;exact sL h g)|decide|omega|(refine ret_with [] ?_;simp only[↓eB,seval,go_sem,bne,e_RESLP,xt,↓e_fac4,h])
   |false=>
    simp only[↓eB,seval,go_sem,xt,↓e_fac4,Option.isSome_some,Option.isSome_none,ho,h,hA,he]
    try simp only[impB,impN]
    repeat' first|exact ck|with_reducible apply And.intro|intro _
    all_goals first|exact trivial|exact hcs|exact⟨hcs,he1⟩|exact⟨hcs,hf1⟩|exact⟨hcs,hd1⟩|exact he1|exact hf1|exact hd1|exact⟨hcs,hla⟩|exact hla|(exact hla _ (by assumption))|(exact fun _=>hcs)|(rename_i hd;exact nomatch (dead_vs _ _).symm.trans hd)|exact hMs|exact hT|exact hn|(rename_i h;first|exact oI h|exact nah h)|(rename_i _ h _ g;exact sL h g)|decide|omega|(refine ret_with [] ?_;simp only[↓eB,seval,go_sem,bne,e_RESLP,xt,↓e_fac4,h])
 by_cases c1:k0=1
 ·subst c1
  cases hy:q.P.ci y0 with
  |none=>
   have h:stF (n+1) (.mk 1 x0 y0 e0 f0 cd0 ar0 th0 el0 no0) q=Fa.brk { q with m:=q.m.spd } (.mk 1 x0 y0 e0 f0 cd0 ar0 th0 el0 no0) 4:=by rw[hS];unfold smF;simp only[Sm.k,Sm.x,Sm.y,Sm.e,Sm.f,Sm.cd,Sm.ar,Sm.th,Sm.el,Int.reduceEq,↓reduceIte,hy]
   simp only[↓eB,seval,go_sem,xt,↓e_fac4,Option.isSome_some,Option.isSome_none,ho,h,hy,Fa.brk,asg_dd,dead_v2,va_sn,dead_g,dead_l,dead_ga,dead_la,dead_gi,Fa.go]
   try simp only[impB,impN]
   repeat' first|exact ck|with_reducible apply And.intro|intro _
   all_goals first|exact trivial|exact hcs|exact⟨hcs,he1⟩|exact⟨hcs,hf1⟩|exact⟨hcs,hd1⟩|exact he1|exact hf1|exact hd1|exact⟨hcs,hla⟩|exact hla|(exact hla _ (by assumption))|(exact fun _=>hcs)|(rename_i hd;exact nomatch (dead_vs _ _).symm.trans hd)|exact hMs|exact hT|exact hn|(rename_i h;first|exact oI h|exact nah h)|(rename_i _ h _ g;exact sL h g)|decide|omega|(refine ret_with [] ?_;simp only[↓eB,seval,go_sem,bne,e_RESLP,xt,↓e_fac4,h,Fa.brk])
  |some i=>
   have h:stF (n+1) (.mk 1 x0 y0 e0 f0 cd0 ar0 th0 el0 no0) q=Fa.go { { q with m:=q.m.spd } with vs:=mput q.vs x0 ⟨true,0,y0⟩ }:=by rw[hS];unfold smF;simp only[Sm.k,Sm.x,Sm.y,Sm.e,Sm.f,Sm.cd,Sm.ar,Sm.th,Sm.el,Int.reduceEq,↓reduceIte,hy]
   simp only[↓eB,seval,go_sem,xt,↓e_fac4,Option.isSome_some,Option.isSome_none,ho,h,hy,Fa.go,mp_put]
   try simp only[impB,impN]
   repeat' first|exact ck|with_reducible apply And.intro|intro _
   all_goals first|exact trivial|exact hcs|exact⟨hcs,he1⟩|exact⟨hcs,hf1⟩|exact⟨hcs,hd1⟩|exact he1|exact hf1|exact hd1|exact⟨hcs,hla⟩|exact hla|(exact hla _ (by assumption))|(exact fun _=>hcs)|(rename_i hd;exact nomatch (dead_vs _ _).symm.trans hd)|exact hMs|exact hT|exact hn|(rename_i h;first|exact oI h|exact nah h)|(rename_i _ h _ g;exact sL h g)|decide|omega|(refine ret_with [] ?_;simp only[↓eB,seval,go_sem,bne,e_RESLP,xt,↓e_fac4,h,Fa.go])
 by_cases c2:k0=2
 ·subst c2
  cases hv:mget q.vs y0 with
  |none=>
   have hv2:(vget q.vs y0).s=[]:=by unfold vget;rw[hv];rfl
   have h:stF (n+1) (.mk 2 x0 y0 e0 f0 cd0 ar0 th0 el0 no0) q=Fa.go { { q with m:=q.m.spd } with vs:=mput q.vs x0 ⟨true,0,[]⟩ }:=by rw[hS];unfold smF;simp only[Sm.k,Sm.x,Sm.y,Sm.e,Sm.f,Sm.cd,Sm.ar,Sm.th,Sm.el,Int.reduceEq,↓reduceIte,hv2]
   simp only[↓eB,seval,go_sem,xt,↓e_fac4,Option.isSome_some,Option.isSome_none,ho,h,hv,Fa.go,mp_put]
   try simp only[impB,impN]
   repeat' first|exact ck|with_reducible apply And.intro|intro _
   all_goals first|exact trivial|exact hcs|exact⟨hcs,he1⟩|exact⟨hcs,hf1⟩|exact⟨hcs,hd1⟩|exact he1|exact hf1|exact hd1|exact⟨hcs,hla⟩|exact hla|(exact hla _ (by assumption))|(exact fun _=>hcs)|(rename_i hd;exact nomatch (dead_vs _ _).symm.trans hd)|exact hMs|exact hT|exact hn|(rename_i h;first|exact oI h|exact nah h)|(rename_i _ h _ g;exact sL h g)|decide|omega|(refine ret_with [] ?_;simp only[↓eB,seval,go_sem,bne,e_RESLP,xt,↓e_fac4,h,Fa.go])
  |some u=>
   have hv2:(vget q.vs y0).s=u.s:=by unfold vget;rw[hv];rfl
   have h:stF (n+1) (.mk 2 x0 y0 e0 f0 cd0 ar0 th0 el0 no0) q=Fa.go { { q with m:=q.m.spd } with vs:=mput q.vs x0 ⟨true,0,u.s⟩ }:=by rw[hS];unfold smF;simp only[Sm.k,Sm.x,Sm.y,Sm.e,Sm.f,Sm.cd,Sm.ar,Sm.th,Sm.el,Int.reduceEq,↓reduceIte,hv2]
   simp only[↓eB,seval,go_sem,xt,↓e_fac4,Option.isSome_some,Option.isSome_none,ho,h,hv,Fa.go,mp_put]
   try simp only[impB,impN]
   repeat' first|exact ck|with_reducible apply And.intro|intro _
   all_goals first|exact trivial|exact hcs|exact⟨hcs,he1⟩|exact⟨hcs,hf1⟩|exact⟨hcs,hd1⟩|exact he1|exact hf1|exact hd1|exact⟨hcs,hla⟩|exact hla|(exact hla _ (by assumption))|(exact fun _=>hcs)|(rename_i hd;exact nomatch (dead_vs _ _).symm.trans hd)|exact hMs|exact hT|exact hn|(rename_i h;first|exact oI h|exact nah h)|(rename_i _ h _ g;exact sL h g)|decide|omega|(refine ret_with [] ?_;simp only[↓eB,seval,go_sem,bne,e_RESLP,xt,↓e_fac4,h,Fa.go])
 by_cases c3:k0=3
 ·subst c3
  have h:stF (n+1) (.mk 3 x0 y0 e0 f0 cd0 ar0 th0 el0 no0) q=Fa.go { { q with m:=q.m.spd } with vs:=mput q.vs x0 ⟨true,0,[]⟩ }:=by rw[hS];unfold smF;simp only[Sm.k,Sm.x,Sm.y,Sm.e,Sm.f,Sm.cd,Sm.ar,Sm.th,Sm.el,Int.reduceEq,↓reduceIte]
  simp only[↓eB,seval,go_sem,xt,↓e_fac4,Option.isSome_some,Option.isSome_none,ho,h,Fa.go,mp_put]
  try simp only[impB,impN]
  repeat' first|exact ck|with_reducible apply And.intro|intro _
  all_goals first|exact trivial|exact hcs|exact⟨hcs,he1⟩|exact⟨hcs,hf1⟩|exact⟨hcs,hd1⟩|exact he1|exact hf1|exact hd1|exact⟨hcs,hla⟩|exact hla|(exact hla _ (by assumption))|(exact fun _=>hcs)|(rename_i hd;exact nomatch (dead_vs _ _).symm.trans hd)|exact hMs|exact hT|exact hn|(rename_i h;first|exact oI h|exact nah h)|(rename_i _ h _ g;exact sL h g)|decide|omega|(refine ret_with [] ?_;simp only[↓eB,seval,go_sem,bne,e_RESLP,xt,↓e_fac4,h,Fa.go])
 by_cases c4:k0=4
 ·subst c4
  cases hf:folF { q with m:=q.m.spd } y0 with
  |no j=>
   have h:stF (n+1) (.mk 4 x0 y0 e0 f0 cd0 ar0 th0 el0 no0) q=Fa.brk { q with m:=q.m.spd } (.mk 4 x0 y0 e0 f0 cd0 ar0 th0 el0 no0) j:=by rw[hS];unfold smF;simp only[Sm.k,Sm.x,Sm.y,Sm.e,Sm.f,Sm.cd,Sm.ar,Sm.th,Sm.el,Int.reduceEq,↓reduceIte,hf]
   simp only[↓eB,seval,go_sem,xt,↓e_fac4,Option.isSome_some,Option.isSome_none,ho,h,hf,Fa.brk,asg_dd,dead_v2,va_sn,dead_g,dead_l,dead_ga,dead_la,dead_gi,Fa.go]
   try simp only[impB,impN]
   repeat' first|exact ck|with_reducible apply And.intro|intro _
   all_goals first|exact trivial|exact hcs|exact⟨hcs,he1⟩|exact⟨hcs,hf1⟩|exact⟨hcs,hd1⟩|exact he1|exact hf1|exact hd1|exact⟨hcs,hla⟩|exact hla|(exact hla _ (by assumption))|(exact fun _=>hcs)|(rename_i hd;exact nomatch (dead_vs _ _).symm.trans hd)|exact hMs|exact hT|exact hn|(rename_i h;first|exact oI h|exact nah h)|(rename_i _ h _ g;exact sL h g)|decide|omega|(refine ret_with [] ?_;simp only[↓eB,seval,go_sem,bne,e_RESLP,xt,↓e_fac4,h,Fa.brk])
  |ok i=>
   have hi:=fol_lt hcs hf
   have hg:=nb_get hi
   obtain⟨A,hA⟩:∃A,asgF { q with m:=q.m.spd } (.mk 4 x0 y0 e0 f0 cd0 ar0 th0 el0 no0) (q.m.spd.cell i)=A:=⟨_,rfl⟩
   have h:stF (n+1) (.mk 4 x0 y0 e0 f0 cd0 ar0 th0 el0 no0) q=A:=by rw[hS];unfold smF;simp only[Sm.k,Sm.x,Sm.y,Sm.e,Sm.f,Sm.cd,Sm.ar,Sm.th,Sm.el,Int.reduceEq,↓reduceIte,hf];exact hA
   have hAt:A.t=false:=by rw[← hA];exact asg_t _ _ _
   try dsimp only[Ms.cell,Ms.arr]at hA
   obtain⟨b,t,r⟩:=A
   obtain rfl:t=false:=hAt
   cases b with
   |true=>
    simp only[↓eB,seval,go_sem,xt,↓e_fac4,Option.isSome_some,Option.isSome_none,ho,h,hA,hf,hg,Ms.cell]
    try simp only[impB,impN]
    repeat' first|exact ck|with_reducible apply And.intro|intro _
    all_goals first|exact hi.1|exact hi.2|exact hcs|exact⟨hcs,he1⟩|exact⟨hcs,hf1⟩|exact⟨hcs,hd1⟩|exact he1|exact hf1|exact hd1|exact⟨hcs,hla⟩|exact hla|(exact hla _ (by assumption))|(exact fun _=>hcs)|(rename_i hd;exact nomatch (dead_vs _ _).symm.trans hd)|exact hMs|exact hT|exact hn|(rename_i h;first|exact oI h|exact nah h)|(rename_i _ h _ g;exact sL h g)|decide|omega|(refine ret_with [] ?_;simp only[↓eB,seval,go_sem,bne,e_RESLP,xt,↓e_fac4,h])
   |false=>
    simp only[↓eB,seval,go_sem,xt,↓e_fac4,Option.isSome_some,Option.isSome_none,ho,h,hA,hf,hg,Ms.cell]
    try simp only[impB,impN]
    repeat' first|exact ck|with_reducible apply And.intro|intro _
    all_goals first|exact hi.1|exact hi.2|exact hcs|exact⟨hcs,he1⟩|exact⟨hcs,hf1⟩|exact⟨hcs,hd1⟩|exact he1|exact hf1|exact hd1|exact⟨hcs,hla⟩|exact hla|(exact hla _ (by assumption))|(exact fun _=>hcs)|(rename_i hd;exact nomatch (dead_vs _ _).symm.trans hd)|exact hMs|exact hT|exact hn|(rename_i h;first|exact oI h|exact nah h)|(rename_i _ h _ g;exact sL h g)|decide|omega|(refine ret_with [] ?_;simp only[↓eB,seval,go_sem,bne,e_RESLP,xt,↓e_fac4,h])
 by_cases c5:k0=5
 ·subst c5
  cases he:evF q.P q.m.spd q.vs e0 with
  |no j=>
   have h:stF (n+1) (.mk 5 x0 y0 e0 f0 cd0 ar0 th0 el0 no0) q=Fa.brk { q with m:=q.m.spd } (.mk 5 x0 y0 e0 f0 cd0 ar0 th0 el0 no0) j:=by rw[hS];unfold smF;simp only[Sm.k,Sm.x,Sm.y,Sm.e,Sm.f,Sm.cd,Sm.ar,Sm.th,Sm.el,Int.reduceEq,↓reduceIte,he]
   simp only[↓eB,seval,go_sem,xt,↓e_fac4,Option.isSome_some,Option.isSome_none,ho,h,he,Fa.brk,asg_dd,dead_v2,va_sn,dead_g,dead_l,dead_ga,dead_la,dead_gi,Fa.go]
   try simp only[impB,impN]
   repeat' first|exact ck|with_reducible apply And.intro|intro _
   all_goals first|exact trivial|exact hcs|exact⟨hcs,he1⟩|exact⟨hcs,hf1⟩|exact⟨hcs,hd1⟩|exact he1|exact hf1|exact hd1|exact⟨hcs,hla⟩|exact hla|(exact hla _ (by assumption))|(exact fun _=>hcs)|(rename_i hd;exact nomatch (dead_vs _ _).symm.trans hd)|exact hMs|exact hT|exact hn|(rename_i h;first|exact oI h|exact nah h)|(rename_i _ h _ g;exact sL h g)|decide|omega|(refine ret_with [] ?_;simp only[↓eB,seval,go_sem,bne,e_RESLP,xt,↓e_fac4,h,Fa.brk])
  |ok v=>
   cases hf:folF { q with m:=q.m.spd } x0 with
   |no j=>
    have h:stF (n+1) (.mk 5 x0 y0 e0 f0 cd0 ar0 th0 el0 no0) q=Fa.brk { q with m:=q.m.spd } (.mk 5 x0 y0 e0 f0 cd0 ar0 th0 el0 no0) j:=by rw[hS];unfold smF;simp only[Sm.k,Sm.x,Sm.y,Sm.e,Sm.f,Sm.cd,Sm.ar,Sm.th,Sm.el,Int.reduceEq,↓reduceIte,he,hf]
    simp only[↓eB,seval,go_sem,xt,↓e_fac4,Option.isSome_some,Option.isSome_none,ho,h,he,hf,Fa.brk,asg_dd,dead_v2,va_sn,dead_g,dead_l,dead_ga,dead_la,dead_gi,Fa.go]
    try simp only[impB,impN]
    repeat' first|exact ck|with_reducible apply And.intro|intro _
    all_goals first|exact trivial|exact hcs|exact⟨hcs,he1⟩|exact⟨hcs,hf1⟩|exact⟨hcs,hd1⟩|exact he1|exact hf1|exact hd1|exact⟨hcs,hla⟩|exact hla|(exact hla _ (by assumption))|(exact fun _=>hcs)|(rename_i hd;exact nomatch (dead_vs _ _).symm.trans hd)|exact hMs|exact hT|exact hn|(rename_i h;first|exact oI h|exact nah h)|(rename_i _ h _ g;exact sL h g)|decide|omega|(refine ret_with [] ?_;simp only[↓eB,seval,go_sem,bne,e_RESLP,xt,↓e_fac4,h,Fa.brk])
   |ok i=>
    have hi:=fol_lt hcs hf
    have hg:=nb_get hi
    have h:stF (n+1) (.mk 5 x0 y0 e0 f0 cd0 ar0 th0 el0 no0) q=Fa.go { { q with m:=q.m.spd } with m:=q.m.spd.set i v }:=by rw[hS];unfold smF;simp only[Sm.k,Sm.x,Sm.y,Sm.e,Sm.f,Sm.cd,Sm.ar,Sm.th,Sm.el,Int.reduceEq,↓reduceIte,he,hf]
    simp only[↓eB,seval,go_sem,xt,↓e_fac4,Option.isSome_some,Option.isSome_none,ho,h,he,hf,hg,Fa.go,Ms.set,nb_set]
    try simp only[impB,impN]
    repeat' first|exact ck|with_reducible apply And.intro|intro _
    all_goals first|exact hi.1|exact hi.2|exact hcs|exact⟨hcs,he1⟩|exact⟨hcs,hf1⟩|exact⟨hcs,hd1⟩|exact he1|exact hf1|exact hd1|exact⟨hcs,hla⟩|exact hla|(exact hla _ (by assumption))|(exact fun _=>hcs)|(rename_i hd;exact nomatch (dead_vs _ _).symm.trans hd)|exact hMs|exact hT|exact hn|(rename_i h;first|exact oI h|exact nah h)|(rename_i _ h _ g;exact sL h g)|decide|omega|(refine ret_with [] ?_;simp only[↓eB,seval,go_sem,bne,e_RESLP,xt,↓e_fac4,h,Fa.go,Ms.set])
 by_cases c6:k0=6
 ·subst c6
  cases he:evF q.P q.m.spd q.vs e0 with
  |no j=>
   have h:stF (n+1) (.mk 6 x0 y0 e0 f0 cd0 ar0 th0 el0 no0) q=Fa.brk { q with m:=q.m.spd } (.mk 6 x0 y0 e0 f0 cd0 ar0 th0 el0 no0) j:=by rw[hS];unfold smF;simp only[Sm.k,Sm.x,Sm.y,Sm.e,Sm.f,Sm.cd,Sm.ar,Sm.th,Sm.el,Int.reduceEq,↓reduceIte,he]
   simp only[↓eB,seval,go_sem,xt,↓e_fac4,Option.isSome_some,Option.isSome_none,ho,h,he,Fa.brk,asg_dd,dead_v2,va_sn,dead_g,dead_l,dead_ga,dead_la,dead_gi,Fa.go]
   try simp only[impB,impN]
   repeat' first|exact ck|with_reducible apply And.intro|intro _
   all_goals first|exact trivial|exact hcs|exact⟨hcs,he1⟩|exact⟨hcs,hf1⟩|exact⟨hcs,hd1⟩|exact he1|exact hf1|exact hd1|exact⟨hcs,hla⟩|exact hla|(exact hla _ (by assumption))|(exact fun _=>hcs)|(rename_i hd;exact nomatch (dead_vs _ _).symm.trans hd)|exact hMs|exact hT|exact hn|(rename_i h;first|exact oI h|exact nah h)|(rename_i _ h _ g;exact sL h g)|decide|omega|(refine ret_with [] ?_;simp only[↓eB,seval,go_sem,bne,e_RESLP,xt,↓e_fac4,h,Fa.brk])
  |ok v=>
   cases hf:accF { q with m:=q.m.spd } (.mk 6 x0 y0 e0 f0 cd0 ar0 th0 el0 no0) v with
   |no j=>
    have h:stF (n+1) (.mk 6 x0 y0 e0 f0 cd0 ar0 th0 el0 no0) q=Fa.brk { q with m:=q.m.spd } (.mk 6 x0 y0 e0 f0 cd0 ar0 th0 el0 no0) j:=by rw[hS];unfold smF;simp only[Sm.k,Sm.x,Sm.y,Sm.e,Sm.f,Sm.cd,Sm.ar,Sm.th,Sm.el,Int.reduceEq,↓reduceIte,he,hf]
    simp only[↓eB,seval,go_sem,xt,↓e_fac4,Option.isSome_some,Option.isSome_none,ho,h,he,hf,Fa.brk,asg_dd,dead_v2,va_sn,dead_g,dead_l,dead_ga,dead_la,dead_gi,Fa.go]
    try simp only[impB,impN]
    repeat' first|exact ck|with_reducible apply And.intro|intro _
    all_goals first|exact trivial|exact hcs|exact⟨hcs,he1⟩|exact⟨hcs,hf1⟩|exact⟨hcs,hd1⟩|exact he1|exact hf1|exact hd1|exact⟨hcs,hla⟩|exact hla|(exact hla _ (by assumption))|(exact fun _=>hcs)|(rename_i hd;exact nomatch (dead_vs _ _).symm.trans hd)|exact hMs|exact hT|exact hn|(rename_i h;first|exact oI h|exact nah h)|(rename_i _ h _ g;exact sL h g)|decide|omega|(refine ret_with [] ?_;simp only[↓eB,seval,go_sem,bne,e_RESLP,xt,↓e_fac4,h,Fa.brk])
   |ok k=>
    obtain⟨hi,hv0,hv1⟩:=acc_lt hcs hf
    have hg:=na_get hi
    have hgi:=ci_z hv1
    obtain⟨A,hA⟩:∃A,asgF { q with m:=q.m.spd } (.mk 6 x0 y0 e0 f0 cd0 ar0 th0 el0 no0) ((q.m.spd.arr k).getD v.toNat 0)=A:=⟨_,rfl⟩
    have h:stF (n+1) (.mk 6 x0 y0 e0 f0 cd0 ar0 th0 el0 no0) q=A:=by rw[hS];unfold smF;simp only[Sm.k,Sm.x,Sm.y,Sm.e,Sm.f,Sm.cd,Sm.ar,Sm.th,Sm.el,Int.reduceEq,↓reduceIte,he,hf];exact hA
    have hAt:A.t=false:=by rw[← hA];exact asg_t _ _ _
    try dsimp only[Ms.cell,Ms.arr]at hA
    obtain⟨b,t,r⟩:=A
    obtain rfl:t=false:=hAt
    cases b with
    |true=>
     simp only[↓eB,seval,go_sem,xt,↓e_fac4,Option.isSome_some,Option.isSome_none,ho,h,hA,he,hf,hg,hgi,Ms.arr]
     try simp only[impB,impN]
     repeat' first|exact ck|with_reducible apply And.intro|intro _
     all_goals first|exact hi.1|exact hi.2|exact hv0|exact hv1|exact hcs|exact⟨hcs,he1⟩|exact⟨hcs,hf1⟩|exact⟨hcs,hd1⟩|exact he1|exact hf1|exact hd1|exact⟨hcs,hla⟩|exact hla|(exact hla _ (by assumption))|(exact fun _=>hcs)|(rename_i hd;exact nomatch (dead_vs _ _).symm.trans hd)|exact hMs|exact hT|exact hn|(rename_i h;first|exact oI h|exact nah h)|(rename_i _ h _ g;exact sL h g)|decide|omega|(refine ret_with [] ?_;simp only[↓eB,seval,go_sem,bne,e_RESLP,xt,↓e_fac4,h])
    |false=>
     simp only[↓eB,seval,go_sem,xt,↓e_fac4,Option.isSome_some,Option.isSome_none,ho,h,hA,he,hf,hg,hgi,Ms.arr]
     try simp only[impB,impN]
     repeat' first|exact ck|with_reducible apply And.intro|intro _
     all_goals first|exact hi.1|exact hi.2|exact hv0|exact hv1|exact hcs|exact⟨hcs,he1⟩|exact⟨hcs,hf1⟩|exact⟨hcs,hd1⟩|exact he1|exact hf1|exact hd1|exact⟨hcs,hla⟩|exact hla|(exact hla _ (by assumption))|(exact fun _=>hcs)|(rename_i hd;exact nomatch (dead_vs _ _).symm.trans hd)|exact hMs|exact hT|exact hn|(rename_i h;first|exact oI h|exact nah h)|(rename_i _ h _ g;exact sL h g)|decide|omega|(refine ret_with [] ?_;simp only[↓eB,seval,go_sem,bne,e_RESLP,xt,↓e_fac4,h])
 by_cases c7:k0=7
 ·subst c7
  cases he:evF q.P q.m.spd q.vs e0 with
  |no j=>
   have h:stF (n+1) (.mk 7 x0 y0 e0 f0 cd0 ar0 th0 el0 no0) q=Fa.brk { q with m:=q.m.spd } (.mk 7 x0 y0 e0 f0 cd0 ar0 th0 el0 no0) j:=by rw[hS];unfold smF;simp only[Sm.k,Sm.x,Sm.y,Sm.e,Sm.f,Sm.cd,Sm.ar,Sm.th,Sm.el,Int.reduceEq,↓reduceIte,he]
   simp only[↓eB,seval,go_sem,xt,↓e_fac4,Option.isSome_some,Option.isSome_none,ho,h,he,Fa.brk,asg_dd,dead_v2,va_sn,dead_g,dead_l,dead_ga,dead_la,dead_gi,Fa.go]
   try simp only[impB,impN]
   repeat' first|exact ck|with_reducible apply And.intro|intro _
   all_goals first|exact trivial|exact hcs|exact⟨hcs,he1⟩|exact⟨hcs,hf1⟩|exact⟨hcs,hd1⟩|exact he1|exact hf1|exact hd1|exact⟨hcs,hla⟩|exact hla|(exact hla _ (by assumption))|(exact fun _=>hcs)|(rename_i hd;exact nomatch (dead_vs _ _).symm.trans hd)|exact hMs|exact hT|exact hn|(rename_i h;first|exact oI h|exact nah h)|(rename_i _ h _ g;exact sL h g)|decide|omega|(refine ret_with [] ?_;simp only[↓eB,seval,go_sem,bne,e_RESLP,xt,↓e_fac4,h,Fa.brk])
  |ok v=>
   cases hff:evF q.P q.m.spd q.vs f0 with
   |no j=>
    have h:stF (n+1) (.mk 7 x0 y0 e0 f0 cd0 ar0 th0 el0 no0) q=Fa.brk { q with m:=q.m.spd } (.mk 7 x0 y0 e0 f0 cd0 ar0 th0 el0 no0) j:=by rw[hS];unfold smF;simp only[Sm.k,Sm.x,Sm.y,Sm.e,Sm.f,Sm.cd,Sm.ar,Sm.th,Sm.el,Int.reduceEq,↓reduceIte,he,hff]
    simp only[↓eB,seval,go_sem,xt,↓e_fac4,Option.isSome_some,Option.isSome_none,ho,h,he,hff,Fa.brk,asg_dd,dead_v2,va_sn,dead_g,dead_l,dead_ga,dead_la,dead_gi,Fa.go]
    try simp only[impB,impN]
    repeat' first|exact ck|with_reducible apply And.intro|intro _
    all_goals first|exact trivial|exact hcs|exact⟨hcs,he1⟩|exact⟨hcs,hf1⟩|exact⟨hcs,hd1⟩|exact he1|exact hf1|exact hd1|exact⟨hcs,hla⟩|exact hla|(exact hla _ (by assumption))|(exact fun _=>hcs)|(rename_i hd;exact nomatch (dead_vs _ _).symm.trans hd)|exact hMs|exact hT|exact hn|(rename_i h;first|exact oI h|exact nah h)|(rename_i _ h _ g;exact sL h g)|decide|omega|(refine ret_with [] ?_;simp only[↓eB,seval,go_sem,bne,e_RESLP,xt,↓e_fac4,h,Fa.brk])
   |ok u=>
   cases hf:accF { q with m:=q.m.spd } (.mk 7 x0 y0 e0 f0 cd0 ar0 th0 el0 no0) v with
   |no j=>
    have h:stF (n+1) (.mk 7 x0 y0 e0 f0 cd0 ar0 th0 el0 no0) q=Fa.brk { q with m:=q.m.spd } (.mk 7 x0 y0 e0 f0 cd0 ar0 th0 el0 no0) j:=by rw[hS];unfold smF;simp only[Sm.k,Sm.x,Sm.y,Sm.e,Sm.f,Sm.cd,Sm.ar,Sm.th,Sm.el,Int.reduceEq,↓reduceIte,he,hff,hf]
    simp only[↓eB,seval,go_sem,xt,↓e_fac4,Option.isSome_some,Option.isSome_none,ho,h,he,hff,hf,Fa.brk,asg_dd,dead_v2,va_sn,dead_g,dead_l,dead_ga,dead_la,dead_gi,Fa.go]
    try simp only[impB,impN]
    repeat' first|exact ck|with_reducible apply And.intro|intro _
    all_goals first|exact trivial|exact hcs|exact⟨hcs,he1⟩|exact⟨hcs,hf1⟩|exact⟨hcs,hd1⟩|exact he1|exact hf1|exact hd1|exact⟨hcs,hla⟩|exact hla|(exact hla _ (by assumption))|(exact fun _=>hcs)|(rename_i hd;exact nomatch (dead_vs _ _).symm.trans hd)|exact hMs|exact hT|exact hn|(rename_i h;first|exact oI h|exact nah h)|(rename_i _ h _ g;exact sL h g)|decide|omega|(refine ret_with [] ?_;simp only[↓eB,seval,go_sem,bne,e_RESLP,xt,↓e_fac4,h,Fa.brk])
   |ok k=>
    obtain⟨hi,hv0,hv1⟩:=acc_lt hcs hf
    have hg:=na_get hi
    have hgi:=ci_z hv1
    have h:stF (n+1) (.mk 7 x0 y0 e0 f0 cd0 ar0 th0 el0 no0) q=Fa.go { { q with m:=q.m.spd } with m:=q.m.spd.put k v u }:=by rw[hS];unfold smF;simp only[Sm.k,Sm.x,Sm.y,Sm.e,Sm.f,Sm.cd,Sm.ar,Sm.th,Sm.el,Int.reduceEq,↓reduceIte,he,hff,hf]
    simp only[↓eB,seval,go_sem,xt,↓e_fac4,Option.isSome_some,Option.isSome_none,ho,h,he,hff,hf,hg,hgi,Fa.go,Ms.put,Ms.arr,na_set,ci_set]
    try simp only[impB,impN]
    repeat' first|exact ck|with_reducible apply And.intro|intro _
    all_goals first|exact hi.1|exact hi.2|exact hv0|exact hv1|exact hcs|exact⟨hcs,he1⟩|exact⟨hcs,hf1⟩|exact⟨hcs,hd1⟩|exact he1|exact hf1|exact hd1|exact⟨hcs,hla⟩|exact hla|(exact hla _ (by assumption))|(exact fun _=>hcs)|(rename_i hd;exact nomatch (dead_vs _ _).symm.trans hd)|exact hMs|exact hT|exact hn|(rename_i h;first|exact oI h|exact nah h)|(rename_i _ h _ g;exact sL h g)|decide|omega|(refine ret_with [] ?_;simp only[↓eB,seval,go_sem,bne,e_RESLP,xt,↓e_fac4,h,Fa.go,Ms.put,Ms.arr])
 by_cases c8:k0=8
 ·subst c8
  obtain⟨A,hA⟩:∃A,invF (stF n) (.mk 8 x0 y0 e0 f0 cd0 ar0 th0 el0 no0) { q with m:=q.m.spd }=A:=⟨_,rfl⟩
  have h:stF (n+1) (.mk 8 x0 y0 e0 f0 cd0 ar0 th0 el0 no0) q=A:=by rw[hS];unfold smF;simp only[Sm.k,Sm.x,Sm.y,Sm.e,Sm.f,Sm.cd,Sm.ar,Sm.th,Sm.el,Int.reduceEq,↓reduceIte];exact hA
  have hAt:A.t=false:=by rw[← hA];exact inv_t _ _ _
  obtain⟨b,t,r⟩:=A
  obtain rfl:t=false:=hAt
  cases b with
  |true=>
   simp only[↓eB,seval,go_sem,xt,↓e_fac4,Option.isSome_some,Option.isSome_none,ho,h,hA]
   try simp only[impB,impN]
   repeat' first|exact ck|with_reducible apply And.intro|intro _
   all_goals first|exact⟨hT,hMs,by omega⟩|exact hcs|exact⟨hcs,he1⟩|exact⟨hcs,hf1⟩|exact⟨hcs,hd1⟩|exact he1|exact hf1|exact hd1|exact⟨hcs,hla⟩|exact hla|(exact hla _ (by assumption))|(exact fun _=>hcs)|(rename_i hd;exact nomatch (dead_vs _ _).symm.trans hd)|exact hMs|exact hT|exact hn|(rename_i h;first|exact oI h|exact nah h)|(rename_i _ h _ g;exact sL h g)|decide|omega|(refine ret_with [] ?_;simp only[↓eB,seval,go_sem,bne,e_RESLP,xt,↓e_fac4,h])
  |false=>
   simp only[↓eB,seval,go_sem,xt,↓e_fac4,Option.isSome_some,Option.isSome_none,ho,h,hA]
   try simp only[impB,impN]
   repeat' first|exact ck|with_reducible apply And.intro|intro _
   all_goals first|exact⟨hT,hMs,by omega⟩|exact hcs|exact⟨hcs,he1⟩|exact⟨hcs,hf1⟩|exact⟨hcs,hd1⟩|exact he1|exact hf1|exact hd1|exact⟨hcs,hla⟩|exact hla|(exact hla _ (by assumption))|(exact fun _=>hcs)|(rename_i hd;exact nomatch (dead_vs _ _).symm.trans hd)|exact hMs|exact hT|exact hn|(rename_i h;first|exact oI h|exact nah h)|(rename_i _ h _ g;exact sL h g)|decide|omega|(refine ret_with [] ?_;simp only[↓eB,seval,go_sem,bne,e_RESLP,xt,↓e_fac4,h])
 by_cases c9:k0=9
 ·subst c9
  cases he:evF q.P q.m.spd q.vs e0 with
  |no j=>
   have h:stF (n+1) (.mk 9 x0 y0 e0 f0 cd0 ar0 th0 el0 no0) q=Fa.brk { q with m:=q.m.spd } (.mk 9 x0 y0 e0 f0 cd0 ar0 th0 el0 no0) j:=by rw[hS];unfold smF;simp only[Sm.k,Sm.x,Sm.y,Sm.e,Sm.f,Sm.cd,Sm.ar,Sm.th,Sm.el,Int.reduceEq,↓reduceIte,he]
   simp only[↓eB,seval,go_sem,xt,↓e_fac4,Option.isSome_some,Option.isSome_none,ho,h,he,Fa.brk,asg_dd,dead_v2,va_sn,dead_g,dead_l,dead_ga,dead_la,dead_gi,Fa.go]
   try simp only[impB,impN]
   repeat' first|exact ck|with_reducible apply And.intro|intro _
   all_goals first|exact trivial|exact hcs|exact⟨hcs,he1⟩|exact⟨hcs,hf1⟩|exact⟨hcs,hd1⟩|exact he1|exact hf1|exact hd1|exact⟨hcs,hla⟩|exact hla|(exact hla _ (by assumption))|(exact fun _=>hcs)|(rename_i hd;exact nomatch (dead_vs _ _).symm.trans hd)|exact hMs|exact hT|exact hn|(rename_i h;first|exact oI h|exact nah h)|(rename_i _ h _ g;exact sL h g)|decide|omega|(refine ret_with [] ?_;simp only[↓eB,seval,go_sem,bne,e_RESLP,xt,↓e_fac4,h,Fa.brk])
  |ok v=>
   have h:stF (n+1) (.mk 9 x0 y0 e0 f0 cd0 ar0 th0 el0 no0) q=⟨false,true,{ { q with m:=q.m.spd } with ret:=v }⟩:=by rw[hS];unfold smF;simp only[Sm.k,Sm.x,Sm.y,Sm.e,Sm.f,Sm.cd,Sm.ar,Sm.th,Sm.el,Int.reduceEq,↓reduceIte,he]
   simp only[↓eB,seval,go_sem,xt,↓e_fac4,Option.isSome_some,Option.isSome_none,ho,h,he]
   try simp only[impB,impN]
   repeat' first|exact ck|with_reducible apply And.intro|intro _
   all_goals first|exact trivial|exact hcs|exact⟨hcs,he1⟩|exact⟨hcs,hf1⟩|exact⟨hcs,hd1⟩|exact he1|exact hf1|exact hd1|exact⟨hcs,hla⟩|exact hla|(exact hla _ (by assumption))|(exact fun _=>hcs)|(rename_i hd;exact nomatch (dead_vs _ _).symm.trans hd)|exact hMs|exact hT|exact hn|(rename_i h;first|exact oI h|exact nah h)|(rename_i _ h _ g;exact sL h g)|decide|omega|(refine ret_with [] ?_;simp only[↓eB,seval,go_sem,bne,e_RESLP,xt,↓e_fac4,h])
 by_cases c10:k0=10
 ·subst c10
  cases hcv:cdF q.P q.m.spd q.vs cd0 with
  |no j=>
   have h:stF (n+1) (.mk 10 x0 y0 e0 f0 cd0 ar0 th0 el0 no0) q=Fa.brk { q with m:=q.m.spd } (.mk 10 x0 y0 e0 f0 cd0 ar0 th0 el0 no0) j:=by rw[hS];unfold smF;simp only[Sm.k,Sm.x,Sm.y,Sm.e,Sm.f,Sm.cd,Sm.ar,Sm.th,Sm.el,Int.reduceEq,↓reduceIte,hcv]
   simp only[↓eB,seval,go_sem,xt,↓e_fac4,Option.isSome_some,Option.isSome_none,ho,h,hcv,Fa.brk,asg_dd,dead_v2,va_sn,dead_g,dead_l,dead_ga,dead_la,dead_gi,Fa.go]
   try simp only[impB,impN]
   repeat' first|exact ck|with_reducible apply And.intro|intro _
   all_goals first|exact trivial|exact hcs|exact⟨hcs,he1⟩|exact⟨hcs,hf1⟩|exact⟨hcs,hd1⟩|exact he1|exact hf1|exact hd1|exact⟨hcs,hla⟩|exact hla|(exact hla _ (by assumption))|(exact fun _=>hcs)|(rename_i hd;exact nomatch (dead_vs _ _).symm.trans hd)|exact hMs|exact hT|exact hn|(rename_i h;first|exact oI h|exact nah h)|(rename_i _ h _ g;exact sL h g)|decide|omega|(refine ret_with [] ?_;simp only[↓eB,seval,go_sem,bne,e_RESLP,xt,↓e_fac4,h,Fa.brk])
  |ok v=>
  cases v with
  |true=>
   obtain⟨T,hTT⟩:∃T,blF (stF n) th0 { q with m:=q.m.spd }=T:=⟨_,rfl⟩
   have h:stF (n+1) (.mk 10 x0 y0 e0 f0 cd0 ar0 th0 el0 no0) q=T:=by rw[hS];unfold smF;simp only[Sm.k,Sm.x,Sm.y,Sm.e,Sm.f,Sm.cd,Sm.ar,Sm.th,Sm.el,Int.reduceEq,↓reduceIte,hcv];exact hTT
   obtain⟨b,t,r⟩:=T
   cases b with
   |true=>
    simp only[↓eB,seval,go_sem,xt,↓e_fac4,Option.isSome_some,Option.isSome_none,ho,h,hcv,hTT]
    try simp only[impB,impN]
    repeat' first|exact ck|with_reducible apply And.intro|intro _
    all_goals first|exact⟨⟨_,hth⟩,hMs,by omega⟩|exact⟨_,hth⟩|exact hcs|exact⟨hcs,he1⟩|exact⟨hcs,hf1⟩|exact⟨hcs,hd1⟩|exact he1|exact hf1|exact hd1|exact⟨hcs,hla⟩|exact hla|(exact hla _ (by assumption))|(exact fun _=>hcs)|(rename_i hd;exact nomatch (dead_vs _ _).symm.trans hd)|exact hMs|exact hT|exact hn|(rename_i h;first|exact oI h|exact nah h)|(rename_i _ h _ g;exact sL h g)|decide|omega|(refine ret_with [] ?_;simp only[↓eB,seval,go_sem,bne,e_RESLP,xt,↓e_fac4,h])
   |false=>
    simp only[↓eB,seval,go_sem,xt,↓e_fac4,Option.isSome_some,Option.isSome_none,ho,h,hcv,hTT]
    try simp only[impB,impN]
    repeat' first|exact ck|with_reducible apply And.intro|intro _
    all_goals first|exact⟨⟨_,hth⟩,hMs,by omega⟩|exact⟨_,hth⟩|exact hcs|exact⟨hcs,he1⟩|exact⟨hcs,hf1⟩|exact⟨hcs,hd1⟩|exact he1|exact hf1|exact hd1|exact⟨hcs,hla⟩|exact hla|(exact hla _ (by assumption))|(exact fun _=>hcs)|(rename_i hd;exact nomatch (dead_vs _ _).symm.trans hd)|exact hMs|exact hT|exact hn|(rename_i h;first|exact oI h|exact nah h)|(rename_i _ h _ g;exact sL h g)|decide|omega|(refine ret_with [] ?_;simp only[↓eB,seval,go_sem,bne,e_RESLP,xt,↓e_fac4,h])
  |false=>
   obtain⟨T,hTT⟩:∃T,blF (stF n) el0 { q with m:=q.m.spd }=T:=⟨_,rfl⟩
   have h:stF (n+1) (.mk 10 x0 y0 e0 f0 cd0 ar0 th0 el0 no0) q=T:=by rw[hS];unfold smF;simp only[Sm.k,Sm.x,Sm.y,Sm.e,Sm.f,Sm.cd,Sm.ar,Sm.th,Sm.el,Int.reduceEq,↓reduceIte,hcv];exact hTT
   obtain⟨b,t,r⟩:=T
   cases b with
   |true=>
    simp only[↓eB,seval,go_sem,xt,↓e_fac4,Option.isSome_some,Option.isSome_none,ho,h,hcv,hTT]
    try simp only[impB,impN]
    repeat' first|exact ck|with_reducible apply And.intro|intro _
    all_goals first|exact⟨⟨_,hel⟩,hMs,by omega⟩|exact⟨_,hel⟩|exact hcs|exact⟨hcs,he1⟩|exact⟨hcs,hf1⟩|exact⟨hcs,hd1⟩|exact he1|exact hf1|exact hd1|exact⟨hcs,hla⟩|exact hla|(exact hla _ (by assumption))|(exact fun _=>hcs)|(rename_i hd;exact nomatch (dead_vs _ _).symm.trans hd)|exact hMs|exact hT|exact hn|(rename_i h;first|exact oI h|exact nah h)|(rename_i _ h _ g;exact sL h g)|decide|omega|(refine ret_with [] ?_;simp only[↓eB,seval,go_sem,bne,e_RESLP,xt,↓e_fac4,h])
   |false=>
    simp only[↓eB,seval,go_sem,xt,↓e_fac4,Option.isSome_some,Option.isSome_none,ho,h,hcv,hTT]
    try simp only[impB,impN]
    repeat' first|exact ck|with_reducible apply And.intro|intro _
    all_goals first|exact⟨⟨_,hel⟩,hMs,by omega⟩|exact⟨_,hel⟩|exact hcs|exact⟨hcs,he1⟩|exact⟨hcs,hf1⟩|exact⟨hcs,hd1⟩|exact he1|exact hf1|exact hd1|exact⟨hcs,hla⟩|exact hla|(exact hla _ (by assumption))|(exact fun _=>hcs)|(rename_i hd;exact nomatch (dead_vs _ _).symm.trans hd)|exact hMs|exact hT|exact hn|(rename_i h;first|exact oI h|exact nah h)|(rename_i _ h _ g;exact sL h g)|decide|omega|(refine ret_with [] ?_;simp only[↓eB,seval,go_sem,bne,e_RESLP,xt,↓e_fac4,h])
 by_cases c12:k0=12
 ·subst c12
  cases hcv:cdF q.P q.m.spd q.vs cd0 with
  |no j=>
   have h:stF (n+1) (.mk 12 x0 y0 e0 f0 cd0 ar0 th0 el0 no0) q=Fa.brk { q with m:=q.m.spd } (.mk 12 x0 y0 e0 f0 cd0 ar0 th0 el0 no0) j:=by rw[hS];unfold smF;simp only[Sm.k,Sm.x,Sm.y,Sm.e,Sm.f,Sm.cd,Sm.ar,Sm.th,Sm.el,Int.reduceEq,↓reduceIte,hcv]
   simp only[↓eB,seval,go_sem,xt,↓e_fac4,Option.isSome_some,Option.isSome_none,ho,h,hcv,Fa.brk,asg_dd,dead_v2,va_sn,dead_g,dead_l,dead_ga,dead_la,dead_gi,Fa.go]
   try simp only[impB,impN]
   repeat' first|exact ck|with_reducible apply And.intro|intro _
   all_goals first|exact trivial|exact hcs|exact⟨hcs,he1⟩|exact⟨hcs,hf1⟩|exact⟨hcs,hd1⟩|exact he1|exact hf1|exact hd1|exact⟨hcs,hla⟩|exact hla|(exact hla _ (by assumption))|(exact fun _=>hcs)|(rename_i hd;exact nomatch (dead_vs _ _).symm.trans hd)|exact hMs|exact hT|exact hn|(rename_i h;first|exact oI h|exact nah h)|(rename_i _ h _ g;exact sL h g)|decide|omega|(refine ret_with [] ?_;simp only[↓eB,seval,go_sem,bne,e_RESLP,xt,↓e_fac4,h,Fa.brk])
  |ok v=>
  cases v with
  |true=>
   have h:stF (n+1) (.mk 12 x0 y0 e0 f0 cd0 ar0 th0 el0 no0) q=Fa.go { q with m:=q.m.spd }:=by rw[hS];unfold smF;simp only[Sm.k,Sm.x,Sm.y,Sm.e,Sm.f,Sm.cd,Sm.ar,Sm.th,Sm.el,Int.reduceEq,↓reduceIte,hcv]
   simp only[↓eB,seval,go_sem,xt,↓e_fac4,Option.isSome_some,Option.isSome_none,ho,h,hcv,Fa.go]
   try simp only[impB,impN]
   repeat' first|exact ck|with_reducible apply And.intro|intro _
   all_goals first|exact trivial|exact hcs|exact⟨hcs,he1⟩|exact⟨hcs,hf1⟩|exact⟨hcs,hd1⟩|exact he1|exact hf1|exact hd1|exact⟨hcs,hla⟩|exact hla|(exact hla _ (by assumption))|(exact fun _=>hcs)|(rename_i hd;exact nomatch (dead_vs _ _).symm.trans hd)|exact hMs|exact hT|exact hn|(rename_i h;first|exact oI h|exact nah h)|(rename_i _ h _ g;exact sL h g)|decide|omega|(refine ret_with [] ?_;simp only[↓eB,seval,go_sem,bne,e_RESLP,xt,↓e_fac4,h,Fa.go])
  |false=>
   have h:stF (n+1) (.mk 12 x0 y0 e0 f0 cd0 ar0 th0 el0 no0) q=Fa.brk { q with m:=q.m.spd } (.mk 12 x0 y0 e0 f0 cd0 ar0 th0 el0 no0) 3:=by rw[hS];unfold smF;simp only[Sm.k,Sm.x,Sm.y,Sm.e,Sm.f,Sm.cd,Sm.ar,Sm.th,Sm.el,Int.reduceEq,↓reduceIte,hcv]
   simp only[↓eB,seval,go_sem,xt,↓e_fac4,Option.isSome_some,Option.isSome_none,ho,h,hcv,Fa.brk,asg_dd,dead_v2,va_sn,dead_g,dead_l,dead_ga,dead_la,dead_gi,Fa.go]
   try simp only[impB,impN]
   repeat' first|exact ck|with_reducible apply And.intro|intro _
   all_goals first|exact trivial|exact hcs|exact⟨hcs,he1⟩|exact⟨hcs,hf1⟩|exact⟨hcs,hd1⟩|exact he1|exact hf1|exact hd1|exact⟨hcs,hla⟩|exact hla|(exact hla _ (by assumption))|(exact fun _=>hcs)|(rename_i hd;exact nomatch (dead_vs _ _).symm.trans hd)|exact hMs|exact hT|exact hn|(rename_i h;first|exact oI h|exact nah h)|(rename_i _ h _ g;exact sL h g)|decide|omega|(refine ret_with [] ?_;simp only[↓eB,seval,go_sem,bne,e_RESLP,xt,↓e_fac4,h,Fa.brk])
 have d0:(k0==0)=false:=by simpa using c0
 have d1:(k0==1)=false:=by simpa using c1
 have d2:(k0==2)=false:=by simpa using c2
 have d3:(k0==3)=false:=by simpa using c3
 have d4:(k0==4)=false:=by simpa using c4
 have d5:(k0==5)=false:=by simpa using c5
 have d6:(k0==6)=false:=by simpa using c6
 have d7:(k0==7)=false:=by simpa using c7
 have d8:(k0==8)=false:=by simpa using c8
 have d9:(k0==9)=false:=by simpa using c9
 have d10:(k0==10)=false:=by simpa using c10
 have d12:(k0==12)=false:=by simpa using c12
 have h:stF (n+1) (.mk k0 x0 y0 e0 f0 cd0 ar0 th0 el0 no0) q=Fa.go { q with m:=q.m.spd }:=by
  rw[hS];unfold smF;simp only[Sm.k,c0,c1,c2,c3,c4,c5,c6,c7,c8,c9,c10,c12,if_false]
 simp only[↓eB,seval,go_sem,xt,↓e_fac4,Option.isSome_some,Option.isSome_none,ho,h,Fa.go,d11,d0,d1,d2,d3,d4,d5,d6,d7,d8,d9,d10,d12]
 try simp only[impB,impN]
 repeat' first|exact ck|with_reducible apply And.intro|intro _
 all_goals first|exact trivial|exact hcs|exact⟨hcs,he1⟩|exact⟨hcs,hf1⟩|exact⟨hcs,hd1⟩|exact he1|exact hf1|exact hd1|exact⟨hcs,hla⟩|exact hla|(exact hla _ (by assumption))|(exact fun _=>hcs)|(rename_i hd;exact nomatch (dead_vs _ _).symm.trans hd)|exact hMs|exact hT|exact hn|(rename_i h;first|exact oI h|exact nah h)|(rename_i _ h _ g;exact sL h g)|decide|omega|(refine ret_with [] ?_;simp only[↓eB,seval,go_sem,bne,e_RESLP,xt,↓e_fac4,h,Fa.go])
theorem y_fStmt (N:Nat):∀n,yq_fStmt N n
 |0=>fun p w M I lab fz xs hc=>absurd hc.2.1.u (by have:=hc.2.1.l;omega)
 |n+1=>y_fStmtS N n (y_fInv N n (y_mCall N n (y_fBlock N n (y_fStmt N n)))) (y_fBlock N n (y_fStmt N n)) (y_fLoop N n (y_fBlock N n (y_fStmt N n)))
end Go.Proofs.Ytjnnmindcbgjhab
