/- first, with each of its closures, walked. No conditions but those in each statement. -/
import Derived.Test.YtjnnmindcbgjhabRmf
set_option linter.unusedVariables false
set_option linter.unusedSimpArgs false
namespace Go.Proofs.Ytjnnmindcbgjhab
open Go Go.Sy Go.RowKit
theorem fst_s {s:List UInt8} {r:List (List UInt8)} {i:Nat} {es:List (List UInt8×Int)}:fstL (s::r) i es=fstL r (i+1) (if (mget es s).isSome=true then es else mput es s (i:Int)):=rfl
theorem mpI_nil:(List.map (fun p:List UInt8×Int=>(p.1,[C.v (.int .i64 p.2)])) [])=[]:=rfl
theorem pn_none:∀q,some q∈([none]:List (Option MV))→∀r∈q.2,∀c∈r,c.names=[]:=by intro q hq;simp at hq
theorem mpI_nm (es:List (List UInt8×Int)):List.flatMap (fun p=>List.flatMap C.names p.2) (es.map fun p=>(p.1,[C.v (.int .i64 p.2)]))=[]:=List.flatMap_eq_nil_iff.2 fun p hp=>by
 obtain⟨a,_,rfl⟩:=List.mem_map.1 hp
 rfl
theorem toVs_mp:∀es:List (List UInt8×Int),toVs (es.map fun p=>(p.1,[C.v (.int .i64 p.2)]))=some (mpI es)
 |[]=>rfl
 |(k,i)::r=>by
  have:=toVs_mp r
  simp only[List.map_cons,toVs,this];rfl
abbrev Cd_C1 (q:Int×Pg):Prop:=q.1=((q.2.fs.map Fn.name).length:Int)∧(q.2.fs.map Fn.name).length≤1000000
abbrev R_C1 (q:Int×Pg):SV:=.one (.d (.mp (mpI (fI (q.2.fs.map Fn.name)))))
abbrev M_C1 (q:Int×Pg):List (Option ML):=[some (.vec zPg [pgR q.2])]
attribute [local go_sem] Fa.mem Fa.memO Fa.pan ML.ch ML.ren Sm.ar Sm.cd Sm.e Sm.el Sm.f Sm.k Sm.no Sm.th Sm.x Sm.y amFn_a amFn_d amFn_m amFr_a amFr_d amFr_m bumpL cCd_d cCd_e cCd_n cEx_d cEx_e cEx_n cSp_d cSp_e cSs_d cSs_e chL faD_p faJ_some faK_some fa_eta fcN flN_vs fnJ_v fnK_v frC frD_v frJ_eq lmH lmO mPg_d mPg_e mPg_z mSt_d mSt_e mSt_z mcD_v mcR_d mlO_nil mlO_none mlO_some nmX pairN_o pairO_n pgR pnL_nil pnL_none pnL_some pnOL_f pnOL_t renQ renQC rnC sm_r spFn_n spL_some specL'_f specL'_fn stR updL updX vrQ vsD_v vs_ren
set_option maxRecDepth 20000 in
set_option maxHeartbeats 16000000 in
theorem y_firstC1:CallsL Try.prog 31 (amFn 32 mPg).args (amFn 32 mPg).mem Cd_C1 (fun _=>false) R_C1 M_C1 (fun _=>mlO [none]):=by
 rintro ⟨n,pp⟩ w M I lab fz xs ⟨hc1,hc2⟩ hA hl hx
 dsimp only at hc1 hc2
 refine calls_toLM Try.func31 rfl [.vec zPg [pgR pp]] w M I lab fz false [none] (M_C1 (n,pp)) [yp_kC1] [(9,[.fzm 9])] ((amFn 32 mPg).args (n,pp)) (R_C1 (n,pp)) xs hA hl hx ?_ (Nat.le_of_ble_eq_true rfl) (Nat.le_refl _) rfl pn_none ?_
 ·intro v hv k hk
  simp only[amFn_a,List.mem_cons,List.not_mem_nil,or_false]at hv
  rcases hv with rfl|rfl
  ·cases hk
  ·simp only[SV.names,C.names,List.flatMap_cons,List.flatMap_nil,List.append_nil,capN,List.mem_singleton]at hk
   subst hk;show 0<1;decide
 clear hx hl hA xs
 subst hc1
 simp only[Try.f31]
 obtain⟨L,hL⟩:∃L,pp.fs.map Fn.name=L:=⟨_,rfl⟩
 have hlen:pp.fs.length=L.length:=by rw[← hL];simp
 rw[hL]at hc2
 simp only[↓eB,seval,go_sem,xt,↓e_fac4,yp_kC1,yr_kC1,mp_get2,mp_put2,Option.isSome_some,Option.isSome_none,hL]
 refine loop_ok (Y:=Nat×List (List UInt8×Int)) (fun z=>z.1≤L.length∧fstL (L.drop z.1) z.1 z.2=fI L)
  (fun z=>⟨[(1,true,.one (.fn 32 [.p 0 0 0])),(5,true,.one (.s 9)),(10,true,.one (.v (.int .i64 (L.length:Int)))),(11,true,.one (.v (.int .i64 (z.1:Int))))],[(0,.vec 0 zPg [pgR pp]),(9,.mp false (z.2.map fun p=>(p.1,[C.v (.int .i64 p.2)])))]⟩)
  (fun z=>L.length-z.1) (0,[]) ⟨Nat.zero_le _,rfl⟩ ?_ ?_
 ·refine to_with [] ?_;simp only[↓eB,seval,go_sem,xt,↓e_fac4,mpI_nil]
 ·rintro ⟨i,es⟩ ⟨hi,hJ⟩
  dsimp only at hi hJ
  refine vc_ok [yp_kC1] [(9,[.fzm 9])] _ _ _ ?_
  have w1:IntKind.i64.wrap ((i:Int)+1)=((i+1:Nat):Int):=by rw[wrap_i64 (by omega) (by omega)];rfl
  cases hx:L[i]? with
  |none=>
   have h2:=List.getElem?_eq_none_iff.1 hx
   have h1:=natI_ge h2
   rw[List.drop_eq_nil_of_le h2]at hJ
   have hJ':es=fI L:=hJ
   subst hJ'
   simp only[↓eB,seval,go_sem,xt,↓e_fac4,yp_kC1,yr_kC1,mp_get2,mp_put2,Option.isSome_some,Option.isSome_none,h1,hL,toVs_mp]
   try simp only[impB,impN]
   repeat' first|exact ck|with_reducible apply And.intro|intro _
   all_goals first|exact trivial|(rename_i h;first|exact oI h|exact nah h)|(rename_i _ h _ g;exact sL h g)|decide|omega|(refine ret_with [] ?_;simp only[↓eB,seval,go_sem,bne,R_C1,M_C1,e_RESLP,xt,↓e_fac4,hL])
  |some s=>
   have hlt:=(List.getElem?_eq_some_iff.1 hx).1
   have h1:=natI_lt hlt
   have hs:L.getD i []=s:=by simp[List.getD,hx]
   have hb:(0:Int)≤(i:Int)∧(i:Int)<(pp.fs.length:Int):=by rw[hlen];omega
   rw[drop_get hx,fst_s]at hJ
   cases hm:mget es s with
   |some j=>
    rw[hm]at hJ
    have hJ2:fstL (L.drop (i+1)) (i+1) es=fI L:=hJ
    simp only[↓eB,seval,go_sem,xt,↓e_fac4,yp_kC1,yr_kC1,mp_get2,mp_put2,Option.isSome_some,Option.isSome_none,h1,hL,hs,hm,w1]
    try simp only[impB,impN]
    repeat' first|exact ck|with_reducible apply And.intro|intro _
    all_goals try first|exact hb|exact hb.1|exact hb.2|(rename_i h;first|exact oI h|exact nah h)|(rename_i _ h _ g;exact sL h g)|decide|omega
    refine⟨(i+1,es),⟨hlt,hJ2⟩,by dsimp only;omega,to_with [] ?_⟩
    simp only[↓eB,seval,go_sem,xt,↓e_fac4,mpI_nm]
   |none=>
    rw[hm]at hJ
    have hJ2:fstL (L.drop (i+1)) (i+1) (mput es s (i:Int))=fI L:=hJ
    simp only[↓eB,seval,go_sem,xt,↓e_fac4,yp_kC1,yr_kC1,mp_get2,mp_put2,Option.isSome_some,Option.isSome_none,h1,hL,hs,hm,w1]
    try simp only[impB,impN]
    repeat' first|exact ck|with_reducible apply And.intro|intro _
    all_goals try first|exact hb|exact hb.1|exact hb.2|(rename_i h;first|exact oI h|exact nah h)|(rename_i _ h _ g;exact sL h g)|decide|omega
    refine⟨(i+1,mput es s (i:Int)),⟨hlt,hJ2⟩,by dsimp only;omega,to_with [] ?_⟩
    simp only[↓eB,seval,go_sem,xt,↓e_fac4,mpI_nm]
abbrev Cd_C2 (q:Int×Pg):Prop:=q.1=((q.2.g.c).length:Int)∧(q.2.g.c).length≤1000000
abbrev R_C2 (q:Int×Pg):SV:=.one (.d (.mp (mpI (fI (q.2.g.c)))))
abbrev M_C2 (q:Int×Pg):List (Option ML):=[some (.vec zPg [pgR q.2])]
set_option maxRecDepth 20000 in
set_option maxHeartbeats 16000000 in
theorem y_firstC2:CallsL Try.prog 31 (amFn 33 mPg).args (amFn 33 mPg).mem Cd_C2 (fun _=>false) R_C2 M_C2 (fun _=>mlO [none]):=by
 rintro ⟨n,⟨⟨L,pa⟩,pfs⟩⟩ w M I lab fz xs ⟨hc1,hc2⟩ hA hl hx
 dsimp only at hc1 hc2
 refine calls_toLM Try.func31 rfl [.vec zPg [pgR (⟨⟨L,pa⟩,pfs⟩:Pg)]] w M I lab fz false [none] (M_C2 (n,(⟨⟨L,pa⟩,pfs⟩:Pg))) [yp_kC2] [(9,[.fzm 9])] ((amFn 33 mPg).args (n,(⟨⟨L,pa⟩,pfs⟩:Pg))) (R_C2 (n,(⟨⟨L,pa⟩,pfs⟩:Pg))) xs hA hl hx ?_ (Nat.le_of_ble_eq_true rfl) (Nat.le_refl _) rfl pn_none ?_
 ·intro v hv k hk
  simp only[amFn_a,List.mem_cons,List.not_mem_nil,or_false]at hv
  rcases hv with rfl|rfl
  ·cases hk
  ·simp only[SV.names,C.names,List.flatMap_cons,List.flatMap_nil,List.append_nil,capN,List.mem_singleton]at hk
   subst hk;show 0<1;decide
 clear hx hl hA xs
 subst hc1
 simp only[Try.f31]
 have hL:(⟨⟨L,pa⟩,pfs⟩:Pg).g.c=L:=rfl
 have hlen:(⟨⟨L,pa⟩,pfs⟩:Pg).g.c.length=L.length:=rfl
 simp only[↓eB,seval,go_sem,xt,↓e_fac4,yp_kC2,yr_kC2,mp_get2,mp_put2,Option.isSome_some,Option.isSome_none,hL]
 refine loop_ok (Y:=Nat×List (List UInt8×Int)) (fun z=>z.1≤L.length∧fstL (L.drop z.1) z.1 z.2=fI L)
  (fun z=>⟨[(1,true,.one (.fn 33 [.p 0 0 0])),(5,true,.one (.s 9)),(10,true,.one (.v (.int .i64 (L.length:Int)))),(11,true,.one (.v (.int .i64 (z.1:Int))))],[(0,.vec 0 zPg [pgR (⟨⟨L,pa⟩,pfs⟩:Pg)]),(9,.mp false (z.2.map fun p=>(p.1,[C.v (.int .i64 p.2)])))]⟩)
  (fun z=>L.length-z.1) (0,[]) ⟨Nat.zero_le _,rfl⟩ ?_ ?_
 ·refine to_with [] ?_;simp only[↓eB,seval,go_sem,xt,↓e_fac4,mpI_nil]
 ·rintro ⟨i,es⟩ ⟨hi,hJ⟩
  dsimp only at hi hJ
  refine vc_ok [yp_kC2] [(9,[.fzm 9])] _ _ _ ?_
  have w1:IntKind.i64.wrap ((i:Int)+1)=((i+1:Nat):Int):=by rw[wrap_i64 (by omega) (by omega)];rfl
  cases hx:L[i]? with
  |none=>
   have h2:=List.getElem?_eq_none_iff.1 hx
   have h1:=natI_ge h2
   rw[List.drop_eq_nil_of_le h2]at hJ
   have hJ':es=fI L:=hJ
   subst hJ'
   simp only[↓eB,seval,go_sem,xt,↓e_fac4,yp_kC2,yr_kC2,mp_get2,mp_put2,Option.isSome_some,Option.isSome_none,h1,hL,toVs_mp]
   try simp only[impB,impN]
   repeat' first|exact ck|with_reducible apply And.intro|intro _
   all_goals first|exact trivial|(rename_i h;first|exact oI h|exact nah h)|(rename_i _ h _ g;exact sL h g)|decide|omega|(refine ret_with [] ?_;simp only[↓eB,seval,go_sem,bne,R_C2,M_C2,e_RESLP,xt,↓e_fac4,hL])
  |some s=>
   have hlt:=(List.getElem?_eq_some_iff.1 hx).1
   have h1:=natI_lt hlt
   have hs:L.getD i []=s:=by simp[List.getD,hx]
   have hb:(0:Int)≤(i:Int)∧(i:Int)<((⟨⟨L,pa⟩,pfs⟩:Pg).g.c.length:Int):=by rw[hlen];omega
   rw[drop_get hx,fst_s]at hJ
   cases hm:mget es s with
   |some j=>
    rw[hm]at hJ
    have hJ2:fstL (L.drop (i+1)) (i+1) es=fI L:=hJ
    simp only[↓eB,seval,go_sem,xt,↓e_fac4,yp_kC2,yr_kC2,mp_get2,mp_put2,Option.isSome_some,Option.isSome_none,h1,hL,hs,hm,w1]
    try simp only[impB,impN]
    repeat' first|exact ck|with_reducible apply And.intro|intro _
    all_goals try first|exact hb|exact hb.1|exact hb.2|(rename_i h;first|exact oI h|exact nah h)|(rename_i _ h _ g;exact sL h g)|decide|omega
    refine⟨(i+1,es),⟨hlt,hJ2⟩,by dsimp only;omega,to_with [] ?_⟩
    simp only[↓eB,seval,go_sem,xt,↓e_fac4,mpI_nm]
   |none=>
    rw[hm]at hJ
    have hJ2:fstL (L.drop (i+1)) (i+1) (mput es s (i:Int))=fI L:=hJ
    simp only[↓eB,seval,go_sem,xt,↓e_fac4,yp_kC2,yr_kC2,mp_get2,mp_put2,Option.isSome_some,Option.isSome_none,h1,hL,hs,hm,w1]
    try simp only[impB,impN]
    repeat' first|exact ck|with_reducible apply And.intro|intro _
    all_goals try first|exact hb|exact hb.1|exact hb.2|(rename_i h;first|exact oI h|exact nah h)|(rename_i _ h _ g;exact sL h g)|decide|omega
    refine⟨(i+1,mput es s (i:Int)),⟨hlt,hJ2⟩,by dsimp only;omega,to_with [] ?_⟩
    simp only[↓eB,seval,go_sem,xt,↓e_fac4,mpI_nm]
abbrev Cd_C3 (q:Int×Pg):Prop:=q.1=((q.2.g.a.map Gy.s).length:Int)∧(q.2.g.a.map Gy.s).length≤1000000
abbrev R_C3 (q:Int×Pg):SV:=.one (.d (.mp (mpI (fI (q.2.g.a.map Gy.s)))))
abbrev M_C3 (q:Int×Pg):List (Option ML):=[some (.vec zPg [pgR q.2])]
set_option maxRecDepth 20000 in
set_option maxHeartbeats 16000000 in
theorem y_firstC3:CallsL Try.prog 31 (amFn 34 mPg).args (amFn 34 mPg).mem Cd_C3 (fun _=>false) R_C3 M_C3 (fun _=>mlO [none]):=by
 rintro ⟨n,pp⟩ w M I lab fz xs ⟨hc1,hc2⟩ hA hl hx
 dsimp only at hc1 hc2
 refine calls_toLM Try.func31 rfl [.vec zPg [pgR pp]] w M I lab fz false [none] (M_C3 (n,pp)) [yp_kC3] [(9,[.fzm 9])] ((amFn 34 mPg).args (n,pp)) (R_C3 (n,pp)) xs hA hl hx ?_ (Nat.le_of_ble_eq_true rfl) (Nat.le_refl _) rfl pn_none ?_
 ·intro v hv k hk
  simp only[amFn_a,List.mem_cons,List.not_mem_nil,or_false]at hv
  rcases hv with rfl|rfl
  ·cases hk
  ·simp only[SV.names,C.names,List.flatMap_cons,List.flatMap_nil,List.append_nil,capN,List.mem_singleton]at hk
   subst hk;show 0<1;decide
 clear hx hl hA xs
 subst hc1
 simp only[Try.f31]
 obtain⟨L,hL⟩:∃L,pp.g.a.map Gy.s=L:=⟨_,rfl⟩
 have hlen:pp.g.a.length=L.length:=by rw[← hL];simp
 rw[hL]at hc2
 simp only[↓eB,seval,go_sem,xt,↓e_fac4,yp_kC3,yr_kC3,mp_get2,mp_put2,Option.isSome_some,Option.isSome_none,hL]
 refine loop_ok (Y:=Nat×List (List UInt8×Int)) (fun z=>z.1≤L.length∧fstL (L.drop z.1) z.1 z.2=fI L)
  (fun z=>⟨[(1,true,.one (.fn 34 [.p 0 0 0])),(5,true,.one (.s 9)),(10,true,.one (.v (.int .i64 (L.length:Int)))),(11,true,.one (.v (.int .i64 (z.1:Int))))],[(0,.vec 0 zPg [pgR pp]),(9,.mp false (z.2.map fun p=>(p.1,[C.v (.int .i64 p.2)])))]⟩)
  (fun z=>L.length-z.1) (0,[]) ⟨Nat.zero_le _,rfl⟩ ?_ ?_
 ·refine to_with [] ?_;simp only[↓eB,seval,go_sem,xt,↓e_fac4,mpI_nil]
 ·rintro ⟨i,es⟩ ⟨hi,hJ⟩
  dsimp only at hi hJ
  refine vc_ok [yp_kC3] [(9,[.fzm 9])] _ _ _ ?_
  have w1:IntKind.i64.wrap ((i:Int)+1)=((i+1:Nat):Int):=by rw[wrap_i64 (by omega) (by omega)];rfl
  cases hx:L[i]? with
  |none=>
   have h2:=List.getElem?_eq_none_iff.1 hx
   have h1:=natI_ge h2
   rw[List.drop_eq_nil_of_le h2]at hJ
   have hJ':es=fI L:=hJ
   subst hJ'
   simp only[↓eB,seval,go_sem,xt,↓e_fac4,yp_kC3,yr_kC3,mp_get2,mp_put2,Option.isSome_some,Option.isSome_none,h1,hL,toVs_mp]
   try simp only[impB,impN]
   repeat' first|exact ck|with_reducible apply And.intro|intro _
   all_goals first|exact trivial|(rename_i h;first|exact oI h|exact nah h)|(rename_i _ h _ g;exact sL h g)|decide|omega|(refine ret_with [] ?_;simp only[↓eB,seval,go_sem,bne,R_C3,M_C3,e_RESLP,xt,↓e_fac4,hL])
  |some s=>
   have hlt:=(List.getElem?_eq_some_iff.1 hx).1
   have h1:=natI_lt hlt
   have hs:L.getD i []=s:=by simp[List.getD,hx]
   have hb:(0:Int)≤(i:Int)∧(i:Int)<(pp.g.a.length:Int):=by rw[hlen];omega
   rw[drop_get hx,fst_s]at hJ
   cases hm:mget es s with
   |some j=>
    rw[hm]at hJ
    have hJ2:fstL (L.drop (i+1)) (i+1) es=fI L:=hJ
    simp only[↓eB,seval,go_sem,xt,↓e_fac4,yp_kC3,yr_kC3,mp_get2,mp_put2,Option.isSome_some,Option.isSome_none,h1,hL,hs,hm,w1]
    try simp only[impB,impN]
    repeat' first|exact ck|with_reducible apply And.intro|intro _
    all_goals try first|exact hb|exact hb.1|exact hb.2|(rename_i h;first|exact oI h|exact nah h)|(rename_i _ h _ g;exact sL h g)|decide|omega
    refine⟨(i+1,es),⟨hlt,hJ2⟩,by dsimp only;omega,to_with [] ?_⟩
    simp only[↓eB,seval,go_sem,xt,↓e_fac4,mpI_nm]
   |none=>
    rw[hm]at hJ
    have hJ2:fstL (L.drop (i+1)) (i+1) (mput es s (i:Int))=fI L:=hJ
    simp only[↓eB,seval,go_sem,xt,↓e_fac4,yp_kC3,yr_kC3,mp_get2,mp_put2,Option.isSome_some,Option.isSome_none,h1,hL,hs,hm,w1]
    try simp only[impB,impN]
    repeat' first|exact ck|with_reducible apply And.intro|intro _
    all_goals try first|exact hb|exact hb.1|exact hb.2|(rename_i h;first|exact oI h|exact nah h)|(rename_i _ h _ g;exact sL h g)|decide|omega
    refine⟨(i+1,mput es s (i:Int)),⟨hlt,hJ2⟩,by dsimp only;omega,to_with [] ?_⟩
    simp only[↓eB,seval,go_sem,xt,↓e_fac4,mpI_nm]
abbrev Cd_S1 (q:Int×Sta):Prop:=q.1=((q.2.cs.map Nb.s).length:Int)∧(q.2.cs.map Nb.s).length≤1000000
abbrev R_S1 (q:Int×Sta):SV:=.one (.d (.mp (mpI (fI (q.2.cs.map Nb.s)))))
abbrev M_S1 (q:Int×Sta):List (Option ML):=[some (.vec zSta [stR q.2])]
set_option maxRecDepth 20000 in
set_option maxHeartbeats 16000000 in
theorem y_firstS1:CallsL Try.prog 31 (amFn 43 mSt).args (amFn 43 mSt).mem Cd_S1 (fun _=>false) R_S1 M_S1 (fun _=>mlO [none]):=by
 rintro ⟨n,pp⟩ w M I lab fz xs ⟨hc1,hc2⟩ hA hl hx
 dsimp only at hc1 hc2
 refine calls_toLM Try.func31 rfl [.vec zSta [stR pp]] w M I lab fz false [none] (M_S1 (n,pp)) [yp_kS1] [(9,[.fzm 9])] ((amFn 43 mSt).args (n,pp)) (R_S1 (n,pp)) xs hA hl hx ?_ (Nat.le_of_ble_eq_true rfl) (Nat.le_refl _) rfl pn_none ?_
 ·intro v hv k hk
  simp only[amFn_a,List.mem_cons,List.not_mem_nil,or_false]at hv
  rcases hv with rfl|rfl
  ·cases hk
  ·simp only[SV.names,C.names,List.flatMap_cons,List.flatMap_nil,List.append_nil,capN,List.mem_singleton]at hk
   subst hk;show 0<1;decide
 clear hx hl hA xs
 subst hc1
 simp only[Try.f31]
 obtain⟨L,hL⟩:∃L,pp.cs.map Nb.s=L:=⟨_,rfl⟩
 have hlen:pp.cs.length=L.length:=by rw[← hL];simp
 rw[hL]at hc2
 simp only[↓eB,seval,go_sem,xt,↓e_fac4,yp_kS1,yr_kS1,mp_get2,mp_put2,Option.isSome_some,Option.isSome_none,hL]
 refine loop_ok (Y:=Nat×List (List UInt8×Int)) (fun z=>z.1≤L.length∧fstL (L.drop z.1) z.1 z.2=fI L)
  (fun z=>⟨[(1,true,.one (.fn 43 [.p 0 0 0])),(5,true,.one (.s 9)),(10,true,.one (.v (.int .i64 (L.length:Int)))),(11,true,.one (.v (.int .i64 (z.1:Int))))],[(0,.vec 0 zSta [stR pp]),(9,.mp false (z.2.map fun p=>(p.1,[C.v (.int .i64 p.2)])))]⟩)
  (fun z=>L.length-z.1) (0,[]) ⟨Nat.zero_le _,rfl⟩ ?_ ?_
 ·refine to_with [] ?_;simp only[↓eB,seval,go_sem,xt,↓e_fac4,mpI_nil]
 ·rintro ⟨i,es⟩ ⟨hi,hJ⟩
  dsimp only at hi hJ
  refine vc_ok [yp_kS1] [(9,[.fzm 9])] _ _ _ ?_
  have w1:IntKind.i64.wrap ((i:Int)+1)=((i+1:Nat):Int):=by rw[wrap_i64 (by omega) (by omega)];rfl
  cases hx:L[i]? with
  |none=>
   have h2:=List.getElem?_eq_none_iff.1 hx
   have h1:=natI_ge h2
   rw[List.drop_eq_nil_of_le h2]at hJ
   have hJ':es=fI L:=hJ
   subst hJ'
   simp only[↓eB,seval,go_sem,xt,↓e_fac4,yp_kS1,yr_kS1,mp_get2,mp_put2,Option.isSome_some,Option.isSome_none,h1,hL,toVs_mp]
   try simp only[impB,impN]
   repeat' first|exact ck|with_reducible apply And.intro|intro _
   all_goals first|exact trivial|(rename_i h;first|exact oI h|exact nah h)|(rename_i _ h _ g;exact sL h g)|decide|omega|(refine ret_with [] ?_;simp only[↓eB,seval,go_sem,bne,R_S1,M_S1,e_RESLP,xt,↓e_fac4,hL])
  |some s=>
   have hlt:=(List.getElem?_eq_some_iff.1 hx).1
   have h1:=natI_lt hlt
   have hs:L.getD i []=s:=by simp[List.getD,hx]
   have hb:(0:Int)≤(i:Int)∧(i:Int)<(pp.cs.length:Int):=by rw[hlen];omega
   rw[drop_get hx,fst_s]at hJ
   cases hm:mget es s with
   |some j=>
    rw[hm]at hJ
    have hJ2:fstL (L.drop (i+1)) (i+1) es=fI L:=hJ
    simp only[↓eB,seval,go_sem,xt,↓e_fac4,yp_kS1,yr_kS1,mp_get2,mp_put2,Option.isSome_some,Option.isSome_none,h1,hL,hs,hm,w1]
    try simp only[impB,impN]
    repeat' first|exact ck|with_reducible apply And.intro|intro _
    all_goals try first|exact hb|exact hb.1|exact hb.2|(rename_i h;first|exact oI h|exact nah h)|(rename_i _ h _ g;exact sL h g)|decide|omega
    refine⟨(i+1,es),⟨hlt,hJ2⟩,by dsimp only;omega,to_with [] ?_⟩
    simp only[↓eB,seval,go_sem,xt,↓e_fac4,mpI_nm]
   |none=>
    rw[hm]at hJ
    have hJ2:fstL (L.drop (i+1)) (i+1) (mput es s (i:Int))=fI L:=hJ
    simp only[↓eB,seval,go_sem,xt,↓e_fac4,yp_kS1,yr_kS1,mp_get2,mp_put2,Option.isSome_some,Option.isSome_none,h1,hL,hs,hm,w1]
    try simp only[impB,impN]
    repeat' first|exact ck|with_reducible apply And.intro|intro _
    all_goals try first|exact hb|exact hb.1|exact hb.2|(rename_i h;first|exact oI h|exact nah h)|(rename_i _ h _ g;exact sL h g)|decide|omega
    refine⟨(i+1,mput es s (i:Int)),⟨hlt,hJ2⟩,by dsimp only;omega,to_with [] ?_⟩
    simp only[↓eB,seval,go_sem,xt,↓e_fac4,mpI_nm]
abbrev Cd_S2 (q:Int×Sta):Prop:=q.1=((q.2.ar.map Na.s).length:Int)∧(q.2.ar.map Na.s).length≤1000000
abbrev R_S2 (q:Int×Sta):SV:=.one (.d (.mp (mpI (fI (q.2.ar.map Na.s)))))
abbrev M_S2 (q:Int×Sta):List (Option ML):=[some (.vec zSta [stR q.2])]
set_option maxRecDepth 20000 in
set_option maxHeartbeats 16000000 in
theorem y_firstS2:CallsL Try.prog 31 (amFn 44 mSt).args (amFn 44 mSt).mem Cd_S2 (fun _=>false) R_S2 M_S2 (fun _=>mlO [none]):=by
 rintro ⟨n,pp⟩ w M I lab fz xs ⟨hc1,hc2⟩ hA hl hx
 dsimp only at hc1 hc2
 refine calls_toLM Try.func31 rfl [.vec zSta [stR pp]] w M I lab fz false [none] (M_S2 (n,pp)) [yp_kS2] [(9,[.fzm 9])] ((amFn 44 mSt).args (n,pp)) (R_S2 (n,pp)) xs hA hl hx ?_ (Nat.le_of_ble_eq_true rfl) (Nat.le_refl _) rfl pn_none ?_
 ·intro v hv k hk
  simp only[amFn_a,List.mem_cons,List.not_mem_nil,or_false]at hv
  rcases hv with rfl|rfl
  ·cases hk
  ·simp only[SV.names,C.names,List.flatMap_cons,List.flatMap_nil,List.append_nil,capN,List.mem_singleton]at hk
   subst hk;show 0<1;decide
 clear hx hl hA xs
 subst hc1
 simp only[Try.f31]
 obtain⟨L,hL⟩:∃L,pp.ar.map Na.s=L:=⟨_,rfl⟩
 have hlen:pp.ar.length=L.length:=by rw[← hL];simp
 rw[hL]at hc2
 simp only[↓eB,seval,go_sem,xt,↓e_fac4,yp_kS2,yr_kS2,mp_get2,mp_put2,Option.isSome_some,Option.isSome_none,hL]
 refine loop_ok (Y:=Nat×List (List UInt8×Int)) (fun z=>z.1≤L.length∧fstL (L.drop z.1) z.1 z.2=fI L)
  (fun z=>⟨[(1,true,.one (.fn 44 [.p 0 0 0])),(5,true,.one (.s 9)),(10,true,.one (.v (.int .i64 (L.length:Int)))),(11,true,.one (.v (.int .i64 (z.1:Int))))],[(0,.vec 0 zSta [stR pp]),(9,.mp false (z.2.map fun p=>(p.1,[C.v (.int .i64 p.2)])))]⟩)
  (fun z=>L.length-z.1) (0,[]) ⟨Nat.zero_le _,rfl⟩ ?_ ?_
 ·refine to_with [] ?_;simp only[↓eB,seval,go_sem,xt,↓e_fac4,mpI_nil]
 ·rintro ⟨i,es⟩ ⟨hi,hJ⟩
  dsimp only at hi hJ
  refine vc_ok [yp_kS2] [(9,[.fzm 9])] _ _ _ ?_
  have w1:IntKind.i64.wrap ((i:Int)+1)=((i+1:Nat):Int):=by rw[wrap_i64 (by omega) (by omega)];rfl
  cases hx:L[i]? with
  |none=>
   have h2:=List.getElem?_eq_none_iff.1 hx
   have h1:=natI_ge h2
   rw[List.drop_eq_nil_of_le h2]at hJ
   have hJ':es=fI L:=hJ
   subst hJ'
   simp only[↓eB,seval,go_sem,xt,↓e_fac4,yp_kS2,yr_kS2,mp_get2,mp_put2,Option.isSome_some,Option.isSome_none,h1,hL,toVs_mp]
   try simp only[impB,impN]
   repeat' first|exact ck|with_reducible apply And.intro|intro _
   all_goals first|exact trivial|(rename_i h;first|exact oI h|exact nah h)|(rename_i _ h _ g;exact sL h g)|decide|omega|(refine ret_with [] ?_;simp only[↓eB,seval,go_sem,bne,R_S2,M_S2,e_RESLP,xt,↓e_fac4,hL])
  |some s=>
   have hlt:=(List.getElem?_eq_some_iff.1 hx).1
   have h1:=natI_lt hlt
   have hs:L.getD i []=s:=by simp[List.getD,hx]
   have hb:(0:Int)≤(i:Int)∧(i:Int)<(pp.ar.length:Int):=by rw[hlen];omega
   rw[drop_get hx,fst_s]at hJ
   cases hm:mget es s with
   |some j=>
    rw[hm]at hJ
    have hJ2:fstL (L.drop (i+1)) (i+1) es=fI L:=hJ
    simp only[↓eB,seval,go_sem,xt,↓e_fac4,yp_kS2,yr_kS2,mp_get2,mp_put2,Option.isSome_some,Option.isSome_none,h1,hL,hs,hm,w1]
    try simp only[impB,impN]
    repeat' first|exact ck|with_reducible apply And.intro|intro _
    all_goals try first|exact hb|exact hb.1|exact hb.2|(rename_i h;first|exact oI h|exact nah h)|(rename_i _ h _ g;exact sL h g)|decide|omega
    refine⟨(i+1,es),⟨hlt,hJ2⟩,by dsimp only;omega,to_with [] ?_⟩
    simp only[↓eB,seval,go_sem,xt,↓e_fac4,mpI_nm]
   |none=>
    rw[hm]at hJ
    have hJ2:fstL (L.drop (i+1)) (i+1) (mput es s (i:Int))=fI L:=hJ
    simp only[↓eB,seval,go_sem,xt,↓e_fac4,yp_kS2,yr_kS2,mp_get2,mp_put2,Option.isSome_some,Option.isSome_none,h1,hL,hs,hm,w1]
    try simp only[impB,impN]
    repeat' first|exact ck|with_reducible apply And.intro|intro _
    all_goals try first|exact hb|exact hb.1|exact hb.2|(rename_i h;first|exact oI h|exact nah h)|(rename_i _ h _ g;exact sL h g)|decide|omega
    refine⟨(i+1,mput es s (i:Int)),⟨hlt,hJ2⟩,by dsimp only;omega,to_with [] ?_⟩
    simp only[↓eB,seval,go_sem,xt,↓e_fac4,mpI_nm]
end Go.Proofs.Ytjnnmindcbgjhab
