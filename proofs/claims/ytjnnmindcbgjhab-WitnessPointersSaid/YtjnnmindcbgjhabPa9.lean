/- One more of a list; functions, walked. No conditions but those in each statement. -/
import Derived.Test.YtjnnmindcbgjhabPa8
import Derived.Test.YtjnnmindcbgjhabPp
set_option linter.unusedVariables false
set_option linter.unusedSimpArgs false
namespace Go.Proofs.Ytjnnmindcbgjhab
open Go Go.Sy Go.RowKit
noncomputable def mVr:RowM Vr:=rowMOf zVc Vr.c rowsV.nm
theorem mVr_z:mVr.z=zVc:=rfl
theorem mVr_e:mVr.e=Vr.c:=rfl
theorem vrc_inj (a b:Vr) (h:a.c=b.c):a=b:=by
 obtain⟨x,no⟩:=a
 obtain⟨x',no'⟩:=b
 simp only[Vr.c,List.cons.injEq,C.v.injEq,Value.bool.injEq,Value.string.injEq,true_and,and_true]at h
 rw[bs_inj h.1,h.2]
theorem mVr_dec:∀l:List Vr,decM mVr.d (l.map Vr.c)=some l
 |[]=>rfl
 |a::l=>by
  have h:mVr.d a.c=some a:=rowMOf_d vrc_inj a
  simp only[List.map_cons,decM,h,mVr_dec l]
theorem mem_nm3 (p:Pr) (l:List Vr):∀q,some q∈[some ((zPr,[p.c]):MV),none,some ((zVc,l.map Vr.c):MV)]→∀r∈q.2,∀c∈r,c.names=[]:=by
 intro q hq r hr c hc
 simp only[List.mem_cons,List.not_mem_nil,or_false,Option.some.injEq,reduceCtorEq,false_or]at hq
 rcases hq with rfl|rfl
 ·simp only[List.mem_singleton]at hr;subst hr;exact prc_nm p c hc
 ·obtain⟨v,_,rfl⟩:=List.mem_map.1 hr
  exact rowsV.nm v c hc
abbrev yc_more (p:Pr) (l:List Vr) (ptr:Bool) (most:Int):Prop:=okP p∧l.length≤4096
abbrev yr_more (p:Pr) (l:List Vr) (ptr:Bool) (most:Int):SV:=.one (.s 2)
abbrev ym_more (p:Pr) (l:List Vr) (ptr:Bool) (most:Int):List (Option MV):=[some (zPr,[(morP l most p).c]),none,some (zVc,(morL l ptr most p).map Vr.c)]
noncomputable abbrev ya_more:ArgM ((Pr)×(List Vr)×(Bool)×(Int)×Unit):=(amP (mPr) (amS (mVr) (amD (cBool) (amD (cInt .i64) am0))))
abbrev yq_more:Prop:=CallsM Try.prog 24 ((ya_more).args 0) (ya_more).mem (fun p:(Pr)×(List Vr)×(Bool)×(Int)×Unit=>yc_more p.1 p.2.1 p.2.2.1 p.2.2.2.1) (fun p:(Pr)×(List Vr)×(Bool)×(Int)×Unit=>yr_more p.1 p.2.1 p.2.2.1 p.2.2.2.1) (fun p:(Pr)×(List Vr)×(Bool)×(Int)×Unit=>ym_more p.1 p.2.1 p.2.2.1 p.2.2.2.1)
theorem yl_more:∀p,(fun p:(Pr)×(List Vr)×(Bool)×(Int)×Unit=>yc_more p.1 p.2.1 p.2.2.1 p.2.2.2.1) p→lenM ((ya_more).mem p).length ((fun p:(Pr)×(List Vr)×(Bool)×(Int)×Unit=>ym_more p.1 p.2.1 p.2.2.1 p.2.2.2.1) p)=true:=by intro p _;rfl
theorem yo_more:∀p,(fun p:(Pr)×(List Vr)×(Bool)×(Int)×Unit=>yc_more p.1 p.2.1 p.2.2.1 p.2.2.2.1) p→outV ((fun p:(Pr)×(List Vr)×(Bool)×(Int)×Unit=>ym_more p.1 p.2.1 p.2.2.1 p.2.2.2.1) p).length ((fun p:(Pr)×(List Vr)×(Bool)×(Int)×Unit=>yr_more p.1 p.2.1 p.2.2.1 p.2.2.2.1) p)=true:=by intro p _;first|rfl|exact ex_out _ _|exact cd_out _ _|(simp[outV,outC,ex_out,cd_out];done)
theorem yn_more:∀p,(fun p:(Pr)×(List Vr)×(Bool)×(Int)×Unit=>yc_more p.1 p.2.1 p.2.2.1 p.2.2.2.1) p→∀q,some q∈(fun p:(Pr)×(List Vr)×(Bool)×(Int)×Unit=>ym_more p.1 p.2.1 p.2.2.1 p.2.2.2.1) p→∀r∈q.2,∀c∈r,c.names=[]:=by intro p _;exact mem_nm3 _ _
attribute [local go_sem] Pr.c zTk
set_option maxRecDepth 20000 in set_option maxHeartbeats 8000000 in
theorem y_more:yq_more:=by
 rintro ⟨p,l,ptr,most,_u⟩ w M I lab fz xs hc hA hl hx
 refine calls_toML Try.func24 rfl ((ya_more).mem ⟨p,l,ptr,most,_u⟩) w M I lab fz [yp_named,yp_fail,yp_name] [] ((ya_more).args 0 ⟨p,l,ptr,most,_u⟩) ((fun p:(Pr)×(List Vr)×(Bool)×(Int)×Unit=>ym_more p.1 p.2.1 p.2.2.1 p.2.2.2.1) ⟨p,l,ptr,most,_u⟩) ((fun p:(Pr)×(List Vr)×(Bool)×(Int)×Unit=>yr_more p.1 p.2.1 p.2.2.1 p.2.2.2.1) ⟨p,l,ptr,most,_u⟩) xs hA hl hx (fun v hv k hk=>by have:=(ya_more).an 0 ⟨p,l,ptr,most,_u⟩ v hv k hk;omega) (Nat.le_of_ble_eq_true rfl) (Nat.le_of_ble_eq_true rfl) ?_
 clear hx hl hA xs
 simp only[Try.f24]
 obtain⟨hc1,hc2⟩:=hc
 dsimp only at hc1 hc2
 have hI:=hc1.i
 cases hb:morB l most p with
 |true=>
  have hr1:morL l ptr most p=l:=by unfold morL;rw[if_pos hb]
  have hr2:morP l most p=failP 53 p:=by unfold morP;rw[if_pos hb]
  simp only[morB]at hb
  simp only[↓eB,seval,go_sem,yp_is,yr_is,yp_named,yr_named,yp_open,yp_fail,yp_want,yp_name,yp_take,mPr_e,mPr_z,mPr_d,tk_at,Tok.r,cPt_d,ptR,rPr_d,mPr_d',rPr_d',pr_eta,mVr_z,mVr_e,hb]
  try simp only[impB,impN]
  repeat' first|exact ck|with_reducible apply And.intro|intro _
  all_goals first|exact hI|exact hc1|(rename_i h;first|exact oI h|exact nah h)|(rename_i _ h _ g;exact sL h g)|decide|omega|(refine ret_with [.mv 1 2] ?_;simp only[↓eB,seval,go_sem,bne,yr_more,ym_more,hr1,hr2,rowsV.mv,rowsV.fn])
 |false=>
  have hr1:morL l ptr most p=l++[⟨namS p,ptr⟩]:=by unfold morL;rw[if_neg (by rw[hb];decide)]
  have hr2:morP l most p=namP p:=by unfold morP;rw[if_neg (by rw[hb];decide)]
  simp only[morB]at hb
  simp only[↓eB,seval,go_sem,yp_is,yr_is,yp_named,yr_named,yp_open,yp_fail,yp_want,yp_name,yp_take,mPr_e,mPr_z,mPr_d,tk_at,Tok.r,cPt_d,ptR,rPr_d,mPr_d',rPr_d',pr_eta,mVr_z,mVr_e,hb,zVc,rowsV.fn]
  try simp only[impB,impN]
  repeat' first|exact ck|with_reducible apply And.intro|intro _
  all_goals first|exact hI|exact hc1|(rename_i h;first|exact oI h|exact nah h)|(rename_i _ h _ g;exact sL h g)|decide|omega|(refine ret_with [.mv 26 2] ?_;simp only[↓eB,seval,go_sem,bne,yr_more,ym_more,hr1,hr2,rowsV.mv,rowsV.fn,List.map_append,List.flatMap_append,Vr.c,zVc])
noncomputable def yp_more {X:Ctx} {w0:World}:Sy.Spec Try.prog X w0:=specM 24 Try.call24 (ya_more) (fun p:(Pr)×(List Vr)×(Bool)×(Int)×Unit=>yc_more p.1 p.2.1 p.2.2.1 p.2.2.2.1) (fun p:(Pr)×(List Vr)×(Bool)×(Int)×Unit=>yr_more p.1 p.2.1 p.2.2.1 p.2.2.2.1) (fun p:(Pr)×(List Vr)×(Bool)×(Int)×Unit=>ym_more p.1 p.2.1 p.2.2.1 p.2.2.2.1) yl_more yo_more yn_more y_more
noncomputable def ypTok {X:Ctx} {w0:World}:Sy.Spec Try.prog X w0:=specD 17 Try.call17 (acS cStr ac0) (fun p=>smallB p.1) (fun p=>.tup [.inl (.d (.sl zTk ((rxT p.1).1.map Tok.r))),.inl (.v (.int .i64 (rxT p.1).2.1)),.inl (.v (.int .i64 (rxT p.1).2.2))]) (by intro p;rfl) y_rTok'
abbrev z4r:List C:=[.v (.bool false),.v (.bool false),.v (.bool false),.v (.bool false)]
abbrev cNr:C:=.v (.slice none 0 0)
abbrev fSt (nm c1 c2 c3:C) (q:Pr) (se:List (Nat×Bool×SV)) (ex:List (Nat×Ch)):St:=⟨(2,true,.one (.p 2 0 0))::(8,true,.one (.p 26 0 0))::(9,true,.one (.p 9 0 0))::se,(2,.vec 0 z4r [[.v (.string (bs [])),cNr,cNr,cNr]])::(9,.vec 0 z4r [[nm,c1,c2,c3]])::(26,.vec 0 zPr [q.c])::ex⟩
abbrev yc_Func (s:List UInt8):Prop:=smallB s
abbrev yr_Func (s:List UInt8):SV:=.tup [.inr (funF s).1.c,.inl (.v (.int .i64 (funF s).2.1)),.inl (.v (.int .i64 (funF s).2.2))]
set_option maxRecDepth 20000 in set_option maxHeartbeats 16000000 in
theorem y_Func:CallsY Try.prog 10 (acS (cStr) ac0) (fun p:(List UInt8×Unit)=>yc_Func p.1) (fun p:(List UInt8×Unit)=>yr_Func p.1):=by
 rintro ⟨s,_u⟩ w fz xs hc hfz hl hx
 refine calls_triL Try.func10 rfl w fz (acS (cStr) ac0) (fun p:(List UInt8×Unit)=>yr_Func p.1) _ xs hfz hl hx (Nat.le_of_ble_eq_true rfl) ?_
 clear hx hl hfz xs
 simp only[Try.f10]
 have hs:smallB s:=hc
 have hok:=p0_ok s (s.length:Int)
 refine tri_next [ypTok] [] ?_
 simp only[↓eB,seval,go_sem]
 refine tri_next [ypTok] [] ?_
 simp only[↓eB,seval,go_sem,ypTok,mPr_e,mPr_z,mPr_d,tk_at,Tok.r,cPt_d,ptR,rPr_d,mPr_d',rPr_d',pr_eta,mVr_z,mVr_e]
 refine⟨hs,?_⟩
 refine tri_next [ypTok] [] ?_
 simp only[↓eB,seval,go_sem,mPr_e,mPr_z,mPr_d,tk_at,Tok.r,cPt_d,ptR,rPr_d,mPr_d',rPr_d',pr_eta,mVr_z,mVr_e]
 simp only[impB,impN]
 refine⟨fun he=>?_,fun he=>?_⟩
 ·have hr:funF s=(fn0,(rxT s).2.1,(rxT s).2.2):=by unfold funF;rw[if_pos he]
  refine ret_with [] ?_;simp only[↓eB,seval,go_sem,bne,yr_Func,hr,Fn.c]
 have hr0:funF s=if (fp6 (rxT s).1 (s.length:Int)).e != 0 then (fn0,(fp6 (rxT s).1 (s.length:Int)).at',(fp6 (rxT s).1 (s.length:Int)).e) else (⟨namS (hdP (rxT s).1 (s.length:Int)),(fp3 (rxT s).1 (s.length:Int)).1,(fp4 (rxT s).1 (s.length:Int)).1,(fp5 (rxT s).1 (s.length:Int)).1⟩,0,0):=by
  unfold funF;rw[if_neg (by rw[he];decide)]
 have h1:=hdP_nx s (s.length:Int)
 have h2:=h1.trans (nam_nx h1.ok)
 have h3:=hd2_nx s (s.length:Int)
 generalize hT:(rxT s).1=T at hok hr0 h1 h2 h3
 generalize hn:(s.length:Int)=N at hok hr0 h1 h2 h3
 refine tri_next [yp_take,yp_want,yp_name,yp_is,yp_named,yp_open,yp_fail,yp_more,sBody] [] ?_
 simp only[↓eB,seval,go_sem,yp_is,yr_is,yp_named,yr_named,yp_open,yp_fail,yp_want,yp_name,yp_take,mPr_e,mPr_z,mPr_d,tk_at,Tok.r,cPt_d,ptR,rPr_d,mPr_d',rPr_d',pr_eta,mVr_z,mVr_e,yp_more,hn]
 refine tri_next [yp_take,yp_want,yp_name,yp_is,yp_named,yp_open,yp_fail,yp_more,sBody] [] ?_
 simp only[↓eB,seval,go_sem,yp_is,yr_is,yp_named,yr_named,yp_open,yp_fail,yp_want,yp_name,yp_take,mPr_e,mPr_z,mPr_d,tk_at,Tok.r,cPt_d,ptR,rPr_d,mPr_d',rPr_d',pr_eta,mVr_z,mVr_e,yp_more]
 refine tri_next [yp_take,yp_want,yp_name,yp_is,yp_named,yp_open,yp_fail,yp_more,sBody] [] ?_
 simp only[↓eB,seval,go_sem,yp_is,yr_is,yp_named,yr_named,yp_open,yp_fail,yp_want,yp_name,yp_take,mPr_e,mPr_z,mPr_d,tk_at,Tok.r,cPt_d,ptR,rPr_d,mPr_d',rPr_d',pr_eta,mVr_z,mVr_e,yp_more]
 refine⟨hok,?_⟩
 refine tri_next [yp_take,yp_want,yp_name,yp_is,yp_named,yp_open,yp_fail,yp_more,sBody] [] ?_
 simp only[↓eB,seval,go_sem,yp_is,yr_is,yp_named,yr_named,yp_open,yp_fail,yp_want,yp_name,yp_take,mPr_e,mPr_z,mPr_d,tk_at,Tok.r,cPt_d,ptR,rPr_d,mPr_d',rPr_d',pr_eta,mVr_z,mVr_e,yp_more]
 refine⟨h1.ok,?_⟩
 refine tri_next [yp_take,yp_want,yp_name,yp_is,yp_named,yp_open,yp_fail,yp_more,sBody] [] ?_
 simp only[↓eB,seval,go_sem,yp_is,yr_is,yp_named,yr_named,yp_open,yp_fail,yp_want,yp_name,yp_take,mPr_e,mPr_z,mPr_d,tk_at,Tok.r,cPt_d,ptR,rPr_d,mPr_d',rPr_d',pr_eta,mVr_z,mVr_e,yp_more]
 refine⟨h2.ok,?_⟩
 refine tri_cut (Y:=List Vr×Pr) (fun y=>y=fp3 T N) (fun y=>fSt (.v (.string (bs (namS (hdP T N))))) (.s 1000) cNr cNr y.2 [] [(1000,.vec 0 zVc (y.1.map Vr.c))]) [yp_take,yp_want,yp_name,yp_is,yp_named,yp_open,yp_fail,yp_more,sBody] [] ?_ ?_
 ·cases i0:isT [41] (hd2 T N) with
  |true=>
   have j0:=i0
   simp only[hd2,hdP,p0]at j0
   simp only[↓eB,seval,go_sem,yp_is,yr_is,yp_named,yr_named,yp_open,yp_fail,yp_want,yp_name,yp_take,mPr_e,mPr_z,mPr_d,tk_at,Tok.r,cPt_d,ptR,rPr_d,mPr_d',rPr_d',pr_eta,mVr_z,mVr_e,yp_more,takP,j0,adv]
   refine⟨h3.ok,([],adv (hd2 T N)),by simp[fp3,parW,i0],?_⟩
   refine to_with [.nilr 9 0 1 1000 zVc] ?_;simp only[↓eB,seval,go_sem,zVc,hd2,hdP,p0,adv]
  |false=>
   have j0:=i0
   simp only[hd2,hdP,p0]at j0
   simp only[↓eB,seval,go_sem,yp_is,yr_is,yp_named,yr_named,yp_open,yp_fail,yp_want,yp_name,yp_take,mPr_e,mPr_z,mPr_d,tk_at,Tok.r,cPt_d,ptR,rPr_d,mPr_d',rPr_d',pr_eta,mVr_z,mVr_e,yp_more,takP,j0]
   refine⟨h3.ok,?_⟩
   refine loop_ok (Y:=Nat×List Vr×Pr) (fun y=>okP y.2.2∧(y.2.2.e=0→(y.2.2.l.length:Int)+1≤y.2.2.i+(y.1:Int))∧(y.2.2.e=0→(y.2.1.length:Int)≤y.2.2.i)∧parL y.1 y.2.1 y.2.2=fp3 T N)
    (fun y=>fSt (.v (.string (bs (namS (hdP T N))))) (.s 1000) cNr cNr y.2.2 [] [(1000,.vec 0 zVc (y.2.1.map Vr.c))])
    (fun y=>y.1) ((hd2 T N).l.length+1,[],hd2 T N) ⟨h3.ok,fun _=>by have:=h3.ok.1;simp only;omega,fun _=>by simpa using h3.ok.1,by simp[fp3,parW,i0]⟩ ?_ ?_
   ·refine to_with [.nilr 9 0 1 1000 zVc] ?_;simp only[↓eB,seval,go_sem,zVc,hd2,hdP,p0]
   ·rintro ⟨k,l,q⟩ ⟨g1,g2,g3,g4⟩
    refine vc_ok [yp_take,yp_want,yp_name,yp_is,yp_named,yp_open,yp_fail,yp_more,sBody] [] _ _ _ ?_
    dsimp only at g1 g2 g3 g4
    cases he:(q.e==0) with
    |false=>
     have hr2:(l,q)=fp3 T N:=by rw[← g4];cases k<;>simp[parL,he]
     simp only[↓eB,seval,go_sem,yp_is,yr_is,yp_named,yr_named,yp_open,yp_fail,yp_want,yp_name,yp_take,mPr_e,mPr_z,mPr_d,tk_at,Tok.r,cPt_d,ptR,rPr_d,mPr_d',rPr_d',pr_eta,mVr_z,mVr_e,yp_more,he]
     refine⟨(l,q),hr2,?_⟩
     refine to_with [] ?_;simp only[↓eB,seval,go_sem,zVc,rowsV.fn]
    |true=>
     have he0:q.e=0:=by simpa using he
     obtain⟨k',rfl⟩:∃k',k=k'+1:=⟨k-1,by have:=g2 he0;have:=g1.2.1;omega⟩
     simp only[parL,he,if_true]at g4
     have ht:=tak_nx (t:=[42]) g1
     have hm:=ht.trans (mor_nx (l:=l) (most:=6) ht.ok)
     have hle:l.length≤4096:=by have:=g3 he0;have:=g1.2.1;have:=g1.2.2.1;omega
     have hml:=morL_len l (isT [42] q) 6 (takP [42] q)
     cases it:isT [41] (morP l 6 (takP [42] q)) with
     |true=>
      rw[if_pos it]at g4
      have e41:takP [41] (morP l 6 (takP [42] q))=adv (morP l 6 (takP [42] q)):=takP_t it
      simp only[↓eB,seval,go_sem,yp_is,yr_is,yp_named,yr_named,yp_open,yp_fail,yp_want,yp_name,yp_take,mPr_e,mPr_z,mPr_d,tk_at,Tok.r,cPt_d,ptR,rPr_d,mPr_d',rPr_d',pr_eta,mVr_z,mVr_e,yp_more,he,it,zVc,mVr_dec,e41]
      try simp only[impB,impN]
      repeat' first|exact ck|with_reducible apply And.intro|intro _
      all_goals try first|exact g1|exact ht.ok|exact hle|exact hm.ok|(rename_i h;first|exact oI h|exact nah h)|(rename_i _ h _ g;exact sL h g)|decide|omega
      refine⟨(morL l (isT [42] q) 6 (takP [42] q),adv (morP l 6 (takP [42] q))),g4,to_trans (t:=fSt (.v (.string (bs (namS (hdP T N))))) (.s 47) cNr cNr (adv (morP l 6 (takP [42] q))) [] [(47,.vec 0 zVc ((morL l (isT [42] q) 6 (takP [42] q)).map Vr.c))]) ?_ ?_⟩
      ·refine to_with [] ?_;simp only[↓eB,seval,go_sem,zVc,rowsV.fn,adv]
      ·refine to_with [.mv 47 1000] ?_;simp only[↓eB,seval,go_sem,zVc,rowsV.fn,rowsV.mv]
     |false=>
      rw[if_neg (by rw[it];decide)]at g4
      have hw:=wan_nx (t:=[44]) hm.ok
      have e41:takP [41] (morP l 6 (takP [42] q))=morP l 6 (takP [42] q):=takP_f it
      simp only[↓eB,seval,go_sem,yp_is,yr_is,yp_named,yr_named,yp_open,yp_fail,yp_want,yp_name,yp_take,mPr_e,mPr_z,mPr_d,tk_at,Tok.r,cPt_d,ptR,rPr_d,mPr_d',rPr_d',pr_eta,mVr_z,mVr_e,yp_more,he,it,zVc,mVr_dec,e41]
      try simp only[impB,impN]
      repeat' first|exact ck|with_reducible apply And.intro|intro _
      all_goals try first|exact g1|exact ht.ok|exact hle|exact hm.ok|(rename_i h;first|exact oI h|exact nah h)|(rename_i _ h _ g;exact sL h g)|decide|omega
      refine⟨(k',morL l (isT [42] q) 6 (takP [42] q),wanP [44] (morP l 6 (takP [42] q))),⟨hw.ok,?_,?_,g4⟩,Nat.lt_succ_self _,to_trans (t:=fSt (.v (.string (bs (namS (hdP T N))))) (.s 47) cNr cNr (wanP [44] (morP l 6 (takP [42] q))) [] [(47,.vec 0 zVc ((morL l (isT [42] q) 6 (takP [42] q)).map Vr.c))]) ?_ ?_⟩
      ·exact fun hw0=>by have h5:=g2 he0;have hi1:=hm.i;have e:=wan_i hm.ok hw0;dsimp only;rw[hw.l,hm.l];omega
      ·exact fun hw0=>by have h5:=g3 he0;have hi1:=hm.i;have e:=wan_i hm.ok hw0;dsimp only;omega
      ·refine to_with [] ?_;simp only[↓eB,seval,go_sem,zVc,rowsV.fn]
      ·refine to_with [.mv 47 1000] ?_;simp only[↓eB,seval,go_sem,zVc,rowsV.fn,rowsV.mv]
 rintro ⟨ps,q⟩ hy
 obtain⟨hps,hq⟩:ps=(fp3 T N).1∧q=(fp3 T N).2:=⟨congrArg (·.1) hy,congrArg (·.2) hy⟩
 have hqk:okP q:=by rw[hq];exact(parW_nx h3.ok).ok
 have hqI:=hqk.i
 refine tri_cut (Y:=Pr) (fun y=>y=opeP q) (fun y=>fSt (.v (.string (bs (namS (hdP T N))))) (.s 1000) cNr cNr y [] [(1000,.vec 0 zVc (ps.map Vr.c))]) [yp_take,yp_want,yp_name,yp_is,yp_named,yp_open,yp_fail,yp_more,sBody] [] ?_ ?_
 ·cases i1:isT [123] q with
  |false=>
   have e1:opeP q=failP 51 q:=by unfold opeP;rw[if_neg (by rw[i1];decide)]
   simp only[↓eB,seval,go_sem,yp_is,yr_is,yp_named,yr_named,yp_open,yp_fail,yp_want,yp_name,yp_take,mPr_e,mPr_z,mPr_d,tk_at,Tok.r,cPt_d,ptR,rPr_d,mPr_d',rPr_d',pr_eta,mVr_z,mVr_e,i1,zVc]
   try simp only[impB,impN]
   repeat' first|exact ck|with_reducible apply And.intro|intro _
   all_goals try first|exact hqI|exact hqk|(rename_i h;first|exact oI h|exact nah h)|(rename_i _ h _ g;exact sL h g)|decide|omega
   refine⟨_,rfl,?_⟩
   rw[e1]
   refine to_with [] ?_;simp only[↓eB,seval,go_sem,zVc,rowsV.fn]
  |true=>
  cases ob:opnB q with
  |false=>
   have e1:opeP q=failP 51 (opnP q):=by unfold opeP;rw[if_pos i1,if_neg (by rw[ob];decide)]
   have ho:=(opn_no hqk ob).ok
   have hoI:=ho.i
   simp only[↓eB,seval,go_sem,yp_is,yr_is,yp_named,yr_named,yp_open,yp_fail,yp_want,yp_name,yp_take,mPr_e,mPr_z,mPr_d,tk_at,Tok.r,cPt_d,ptR,rPr_d,mPr_d',rPr_d',pr_eta,mVr_z,mVr_e,i1,ob,zVc]
   try simp only[impB,impN]
   repeat' first|exact ck|with_reducible apply And.intro|intro _
   all_goals try first|exact hqI|exact hqk|exact ho|exact hoI|(rename_i h;first|exact oI h|exact nah h)|(rename_i _ h _ g;exact sL h g)|decide|omega
   refine⟨_,rfl,?_⟩
   rw[e1]
   refine to_with [] ?_;simp only[↓eB,seval,go_sem,zVc,rowsV.fn]
  |true=>
   have e1:opeP q=adv (opnP q):=by unfold opeP;rw[if_pos i1,if_pos ob]
   simp only[↓eB,seval,go_sem,yp_is,yr_is,yp_named,yr_named,yp_open,yp_fail,yp_want,yp_name,yp_take,mPr_e,mPr_z,mPr_d,tk_at,Tok.r,cPt_d,ptR,rPr_d,mPr_d',rPr_d',pr_eta,mVr_z,mVr_e,i1,ob,zVc]
   try simp only[impB,impN]
   repeat' first|exact ck|with_reducible apply And.intro|intro _
   all_goals try first|exact hqI|exact hqk|(rename_i h;first|exact oI h|exact nah h)|(rename_i _ h _ g;exact sL h g)|decide|omega
   refine⟨_,rfl,?_⟩
   rw[e1]
   refine to_with [] ?_;simp only[↓eB,seval,go_sem,zVc,rowsV.fn,adv]
 rintro q2 hq2
 have hk2:okP q2:=by
  rw[hq2];unfold opeP
  split
  ·rename_i hi
   split
   ·rename_i hb;exact(opn_adv hqk hb (isT_e hi).2).ok
   ·rename_i hb;exact(fail_nx 51 (opn_no hqk (by simpa using hb)).ok).ok
  ·exact(fail_nx 51 hqk).ok
 refine tri_cut (Y:=List Vr×Pr) (fun y=>y=locW q2) (fun y=>fSt (.v (.string (bs (namS (hdP T N))))) (.s 1000) (.s 1001) cNr y.2 [] [(1000,.vec 0 zVc (ps.map Vr.c)),(1001,.vec 0 zVc (y.1.map Vr.c))]) [yp_take,yp_want,yp_name,yp_is,yp_named,yp_open,yp_fail,yp_more,sBody] [] ?_ ?_
 ·simp only[↓eB,seval,go_sem,yp_is,yr_is,yp_named,yr_named,yp_open,yp_fail,yp_want,yp_name,yp_take,mPr_e,mPr_z,mPr_d,tk_at,Tok.r,cPt_d,ptR,rPr_d,mPr_d',rPr_d',pr_eta,mVr_z,mVr_e,zVc]
  refine loop_ok (Y:=Nat×List Vr×Pr) (fun y=>okP y.2.2∧((y.2.2.l.length:Int)≤y.2.2.i+(y.1:Int))∧((y.2.1.length:Int)≤y.2.2.i)∧locL y.1 y.2.1 y.2.2=locW q2)
    (fun y=>fSt (.v (.string (bs (namS (hdP T N))))) (.s 1000) (.s 1001) cNr y.2.2 [] [(1000,.vec 0 zVc (ps.map Vr.c)),(1001,.vec 0 zVc (y.2.1.map Vr.c))])
    (fun y=>y.1) (q2.l.length,[],q2) ⟨hk2,by have:=hk2.1;simp only;omega,by simpa using hk2.1,rfl⟩ ?_ ?_
  ·refine to_with [.nilr 9 0 2 1001 zVc] ?_;simp only[↓eB,seval,go_sem,zVc,rowsV.fn]
  ·rintro ⟨k,l,r⟩ ⟨g1,g2,g3,g4⟩
   refine vc_ok [yp_take,yp_want,yp_name,yp_is,yp_named,yp_open,yp_fail,yp_more,sBody] [] _ _ _ ?_
   dsimp only at g1 g2 g3 g4
   have hrI:=g1.i
   cases hl:locB r with
   |false=>
    have hr2:(l,r)=locW q2:=by rw[← g4];cases k<;>simp[locL,hl]
    unfold locB at hl
    simp only[↓eB,seval,go_sem,yp_is,yr_is,yp_named,yr_named,yp_open,yp_fail,yp_want,yp_name,yp_take,mPr_e,mPr_z,mPr_d,tk_at,Tok.r,cPt_d,ptR,rPr_d,mPr_d',rPr_d',pr_eta,mVr_z,mVr_e,yp_more,hl,zVc]
    try simp only[impB,impN]
    repeat' first|exact ck|with_reducible apply And.intro|intro _
    all_goals try first|exact hrI|(rename_i h;first|exact oI h|exact nah h)|(rename_i _ h _ g;exact sL h g)|decide|omega
    refine⟨(l,r),hr2,?_⟩
    refine to_with [] ?_;simp only[↓eB,seval,go_sem,zVc,rowsV.fn]
   |true=>
    have hlt:=(locB_e hl).2
    have ha:=adv_nx g1 hlt (locB_e hl).1
    have hai:=adv_i g1 hlt
    obtain⟨k',rfl⟩:∃k',k=k'+1:=⟨k-1,by omega⟩
    simp only[locL,hl,if_true]at g4
    have hm:=ha.trans (mor_nx (l:=l) (most:=20) ha.ok)
    have hm2:=mor_nx (l:=l) (most:=20) ha.ok
    have hle:l.length≤4096:=by have:=g1.2.1;have:=g1.2.2.1;omega
    have hml:=morL_len l (isT tPtr r) 20 (adv r)
    have hw:=wan_nx (t:=[59]) hm.ok
    unfold locB at hl
    simp only[↓eB,seval,go_sem,yp_is,yr_is,yp_named,yr_named,yp_open,yp_fail,yp_want,yp_name,yp_take,mPr_e,mPr_z,mPr_d,tk_at,Tok.r,cPt_d,ptR,rPr_d,mPr_d',rPr_d',pr_eta,mVr_z,mVr_e,yp_more,hl,zVc,mVr_dec]
    try simp only[impB,impN]
    repeat' first|exact ck|with_reducible apply And.intro|intro _
    all_goals try first|exact hrI|exact ha.ok|exact hle|exact hm.ok|(rename_i h;first|exact oI h|exact nah h)|(rename_i _ h _ g;exact sL h g)|decide|omega
    refine⟨(k',morL l (isT tPtr r) 20 (adv r),wanP [59] (morP l 20 (adv r))),⟨hw.ok,?_,?_,g4⟩,Nat.lt_succ_self _,to_trans (t:=fSt (.v (.string (bs (namS (hdP T N))))) (.s 1000) (.s 87) cNr (wanP [59] (morP l 20 (adv r))) [] [(1000,.vec 0 zVc (ps.map Vr.c)),(87,.vec 0 zVc ((morL l (isT tPtr r) 20 (adv r)).map Vr.c))]) ?_ ?_⟩
    ·have hi1:=hm2.i;have hi2:=hw.i;dsimp only;rw[hw.l,hm.l];omega
    ·have hi1:=hm2.i;have hi2:=hw.i;dsimp only;omega
    ·refine to_with [] ?_;simp only[↓eB,seval,go_sem,zVc,rowsV.fn,adv]
    ·refine to_with [.mv 87 1001] ?_;simp only[↓eB,seval,go_sem,zVc,rowsV.fn,rowsV.mv]
 rintro ⟨ls,q3⟩ hy3
 have hk3:okP q3:=by
  have e:q3=(locW q2).2:=congrArg (·.2) hy3
  rw[e];exact(locL_nx _ _ _ hk2).ok
 have hd3:=dp41 hk3
 have hb3:=stmtsW_nx (stm_nx 41) hk3
 refine tri_next [yp_take,yp_want,yp_name,yp_is,yp_named,yp_open,yp_fail,yp_more,sBody] [] ?_
 simp only[↓eB,seval,go_sem,yp_is,yr_is,yp_named,yr_named,yp_open,yp_fail,yp_want,yp_name,yp_take,mPr_e,mPr_z,mPr_d,tk_at,Tok.r,cPt_d,ptR,rPr_d,mPr_d',rPr_d',pr_eta,mVr_z,mVr_e,yp_more,yg_stmts,zVc]
 refine⟨⟨hk3,hd3⟩,?_⟩
 generalize hbd:stmtsW (stmF 41) q3=B at hb3
 obtain⟨bd,q4⟩:=B
 dsimp only at hb3 ⊢
 have f4:fp4 T N=(ls,q3):=by unfold fp4;rw[← hq,← hq2,← hy3]
 have f5:fp5 T N=(bd,q4):=by unfold fp5;rw[f4];exact hbd
 have f6:fp6 T N=endP q4:=by unfold fp6;rw[f5]
 have hk4:=hb3.ok
 have hI4:=hk4.i
 refine tri_cut (Y:=Pr) (fun y=>y=endP q4) (fun y=>fSt (.v (.string (bs (namS (hdP T N))))) (.s 1000) (.s 1001) (smS bd) y [] [(1000,.vec 0 zVc (ps.map Vr.c)),(1001,.vec 0 zVc (ls.map Vr.c))]) [yp_take,yp_want,yp_name,yp_is,yp_named,yp_open,yp_fail,yp_more,sBody] [] ?_ ?_
 ·cases hb:(q4.e==0&&decide (q4.i<(q4.l.length:Int))) with
  |true=>
   have e1:endP q4=failP 51 q4:=by unfold endP;rw[if_pos hb]
   simp only[↓eB,seval,go_sem,yp_is,yr_is,yp_named,yr_named,yp_open,yp_fail,yp_want,yp_name,yp_take,mPr_e,mPr_z,mPr_d,tk_at,Tok.r,cPt_d,ptR,rPr_d,mPr_d',rPr_d',pr_eta,mVr_z,mVr_e,yp_more,hb,zVc]
   try simp only[impB,impN]
   repeat' first|exact ck|with_reducible apply And.intro|intro _
   all_goals try first|exact hI4|exact hk4|(rename_i h;first|exact oI h|exact nah h)|(rename_i _ h _ g;exact sL h g)|decide|omega
   refine⟨_,rfl,?_⟩
   rw[e1]
   refine to_with [] ?_;simp only[↓eB,seval,go_sem,zVc,rowsV.fn,smS]
  |false=>
   have e1:endP q4=q4:=by unfold endP;rw[if_neg (by rw[hb];decide)]
   simp only[↓eB,seval,go_sem,yp_is,yr_is,yp_named,yr_named,yp_open,yp_fail,yp_want,yp_name,yp_take,mPr_e,mPr_z,mPr_d,tk_at,Tok.r,cPt_d,ptR,rPr_d,mPr_d',rPr_d',pr_eta,mVr_z,mVr_e,yp_more,hb,zVc]
   try simp only[impB,impN]
   repeat' first|exact ck|with_reducible apply And.intro|intro _
   all_goals try first|exact hI4|exact hk4|(rename_i h;first|exact oI h|exact nah h)|(rename_i _ h _ g;exact sL h g)|decide|omega
   refine⟨_,rfl,?_⟩
   rw[e1]
   refine to_with [] ?_;simp only[↓eB,seval,go_sem,zVc,rowsV.fn,smS]
 rintro q5 hq5
 rw[f6,← hq5,f4,f5,← hps]at hr0
 refine tri_next [yp_take,yp_want,yp_name,yp_is,yp_named,yp_open,yp_fail,yp_more,sBody] [] ?_
 simp only[↓eB,seval,go_sem,yp_is,yr_is,yp_named,yr_named,yp_open,yp_fail,yp_want,yp_name,yp_take,mPr_e,mPr_z,mPr_d,tk_at,Tok.r,cPt_d,ptR,rPr_d,mPr_d',rPr_d',pr_eta,mVr_z,mVr_e,yp_more,zVc]
 simp only[impB,impN]
 refine⟨fun he5=>?_,fun he5=>?_⟩
 ·have hr:funF s=(fn0,q5.at',q5.e):=by rw[hr0,if_pos he5]
  try simp only[impB,impN]
  repeat' first|exact ck|with_reducible apply And.intro|intro _
  all_goals try first|(rename_i h;first|exact oI h|exact nah h)|(rename_i _ h _ g;exact sL h g)|decide|omega
  refine ret_with [] ?_;simp only[↓eB,seval,go_sem,bne,yr_Func,hr,Fn.c]
 ·have hr:funF s=(⟨namS (hdP T N),ps,ls,bd⟩,0,0):=by rw[hr0,if_neg (by rw[he5];decide)]
  refine vc_ok [yp_take,yp_want,yp_name,yp_is,yp_named,yp_open,yp_fail,yp_more,sBody] [] _ _ _ ?_
  simp only[↓eB,seval,go_sem,yp_is,yr_is,yp_named,yr_named,yp_open,yp_fail,yp_want,yp_name,yp_take,mPr_e,mPr_z,mPr_d,tk_at,Tok.r,cPt_d,ptR,rPr_d,mPr_d',rPr_d',pr_eta,mVr_z,mVr_e,yp_more,zVc]
  refine ret_with [.fz 1000,.fz 1001] ?_;simp only[↓eB,seval,go_sem,bne,yr_Func,hr,Fn.c,smS,rowsV.ds,rowsV.fz,zVc,zVr]
theorem yn_Func:∀p:(List UInt8×Unit),((fun p:(List UInt8×Unit)=>yr_Func p.1) p).names=[]:=by intro p;first|rfl|simp[SV.names,C.names]
noncomputable def yp_Func {X:Ctx} {w0:World}:Sy.Spec Try.prog X w0:=specD 10 Try.call10 (acS (cStr) ac0) (fun p:(List UInt8×Unit)=>yc_Func p.1) (fun p:(List UInt8×Unit)=>yr_Func p.1) yn_Func y_Func
end Go.Proofs.Ytjnnmindcbgjhab
