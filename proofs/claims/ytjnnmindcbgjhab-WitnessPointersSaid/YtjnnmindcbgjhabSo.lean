/- A statement's row while it is read. No conditions but those in each statement. -/
import Derived.Test.YtjnnmindcbgjhabAt
import Derived.Test.YtjnnmindcbgjhabPa4
set_option linter.unusedVariables false
set_option linter.unusedSimpArgs false
namespace Go.Proofs.Ytjnnmindcbgjhab
open Go Go.Sy Go.RowKit
abbrev arS (l:List Ar):C:=.d (.sl zAr (l.map Ar.r))
def arO:Option (List Ar)→C
 |none=>.v (.slice none 0 0)
 |some l=>arS l
structure Sf where
 x:List UInt8
 no:Int
def Sf.c (s:Sf):List C:=[.v (.int .i64 0),.v (.string (bs s.x)),.v (.string (bs [])),.v (.pointer none),.v (.pointer none),.v (.pointer none),.v (.slice none 0 0),.v (.slice none 0 0),.v (.slice none 0 0),.v (.int .i64 s.no)]
def valC (s:Sf) (v:VR):List C:=[.v (.int .i64 v.k),.v (.string (bs s.x)),.v (.string (bs v.y)),exC v.e,.v (.pointer none),.v (.pointer none),arO v.a,.v (.slice none 0 0),.v (.slice none 0 0),.v (.int .i64 s.no)]
theorem sf_nm (s:Sf):∀c∈s.c,c.names=[]:=by
 intro c hc
 simp only[Sf.c,List.mem_cons,List.not_mem_nil,or_false]at hc
 rcases hc with rfl|rfl|rfl|rfl|rfl|rfl|rfl|rfl|rfl|rfl<;>rfl
theorem arO_names (o:Option (List Ar)):(arO o).names=[]:=by cases o<;>rfl
theorem arO_stor (o:Option (List Ar)):C.stor (arO o)=true:=by cases o<;>rfl
theorem arO_noVw (o:Option (List Ar)):noVwC (arO o)=true:=by cases o<;>rfl
theorem arO_ldc (k u:Nat) (p:List (Nat×Nat)) (i j:Nat) (o:Option (List Ar)) (r:List C):ldc k u p i j (arO o::r)=arO o::ldc k u p i (j+1) r:=by cases o<;>rfl
theorem arO_le (o:Option (List Ar)):leC (arO o) (.d (.sl zAr ((o.getD []).map Ar.r)))=True:=by
 cases o with
 |none=>exact leC_nil _
 |some l=>exact leC_same _
theorem arO_none:arO none= .v (.slice none 0 0):=rfl
theorem arO_some (l:List Ar):arO (some l)= .d (.sl zAr (l.map Ar.r)):=rfl
theorem sf_inj (a b:Sf) (h:a.c=b.c):a=b:=by
 obtain⟨x,no⟩:=a
 obtain⟨x',no'⟩:=b
 simp only[Sf.c,List.cons.injEq,C.v.injEq,Value.int.injEq,Value.string.injEq,true_and,and_true]at h
 rw[bs_inj h.1,h.2]
noncomputable def mSf:RowM Sf:=rowMOf zSc Sf.c sf_nm
theorem mSf_z:mSf.z=zSc:=rfl
theorem mSf_e:mSf.e=Sf.c:=rfl
theorem mSf_d (x:List UInt8) (no:Int):mSf.d [.v (.int .i64 0),.v (.string (bs x)),.v (.string (bs [])),.v (.pointer none),.v (.pointer none),.v (.pointer none),.v (.slice none 0 0),.v (.slice none 0 0),.v (.slice none 0 0),.v (.int .i64 no)]=some ⟨x,no⟩:=rowMOf_d sf_inj ⟨x,no⟩
end Go.Proofs.Ytjnnmindcbgjhab
namespace Go.Proofs.Ytjnnmindcbgjhab
open Go Go.Sy Go.RowKit
abbrev yc_args (p:Pr):Prop:=okP p
abbrev yr_args (p:Pr):SV:=.one (arS (argW p).1)
abbrev ym_args (p:Pr):List (Option MV):=[some (zPr,[(argW p).2.c])]
noncomputable abbrev ya_args:ArgM ((Pr)×Unit):=(amP (mPr) am0)
abbrev yq_args:Prop:=CallsM Try.prog 53 ((ya_args).args 0) (ya_args).mem (fun p:(Pr)×Unit=>yc_args p.1) (fun p:(Pr)×Unit=>yr_args p.1) (fun p:(Pr)×Unit=>ym_args p.1)
theorem yl_args:∀p,(fun p:(Pr)×Unit=>yc_args p.1) p→lenM ((ya_args).mem p).length ((fun p:(Pr)×Unit=>ym_args p.1) p)=true:=by intro p _;rfl
theorem yo_args:∀p,(fun p:(Pr)×Unit=>yc_args p.1) p→outV ((fun p:(Pr)×Unit=>ym_args p.1) p).length ((fun p:(Pr)×Unit=>yr_args p.1) p)=true:=by intro p _;first|rfl|exact ex_out _ _|exact cd_out _ _|(simp[outV,outC,ex_out,cd_out];done)
theorem yn_args:∀p,(fun p:(Pr)×Unit=>yc_args p.1) p→∀q,some q∈(fun p:(Pr)×Unit=>ym_args p.1) p→∀r∈q.2,∀c∈r,c.names=[]:=by intro p _;exact mem_nm _
attribute [local go_sem] Pr.c zTk
set_option maxRecDepth 20000 in set_option maxHeartbeats 4000000 in
theorem y_args:yq_args:=by
 rintro ⟨p,_u⟩ w M I lab fz xs hc hA hl hx
 refine calls_toML Try.func53 rfl ((ya_args).mem ⟨p,_u⟩) w M I lab fz [yp_take,yp_want,sSum] [] ((ya_args).args 0 ⟨p,_u⟩) ((fun p:(Pr)×Unit=>ym_args p.1) ⟨p,_u⟩) ((fun p:(Pr)×Unit=>yr_args p.1) ⟨p,_u⟩) xs hA hl hx (fun v hv k hk=>by have:=(ya_args).an 0 ⟨p,_u⟩ v hv k hk;omega) (Nat.le_of_ble_eq_true rfl) (Nat.le_of_ble_eq_true rfl) ?_
 clear hx hl hA xs
 simp only[Try.f53]
 have hc1:okP p:=hc
 cases i0:isT [41] p with
 |true=>
  have hr:argW p=([],adv p):=by simp[argW,i0]
  simp only[↓eB,seval,go_sem,yp_is,yr_is,yp_named,yr_named,yp_open,yp_fail,yp_want,yp_name,yp_take,yg_sum,yg_cond,mPr_e,mPr_z,mPr_d,tk_at,Tok.r,cPt_d,ptR,rPr_d,mPr_d',rPr_d',pr_eta,i0,takP]
  try simp only[impB,impN]
  repeat' first|exact ck|with_reducible apply And.intro|intro _
  all_goals first|exact hc1|(rename_i h;first|exact oI h|exact nah h)|(rename_i _ h _ g;exact sL h g)|decide|omega|(refine ret_with [] ?_;simp only[↓eB,seval,go_sem,bne,yr_args,ym_args,hr,arS,adv])
 |false=>
 have hr:argW p=argL (p.l.length+1) [] p:=by simp[argW,i0]
 simp only[↓eB,seval,go_sem,yp_is,yr_is,yp_named,yr_named,yp_open,yp_fail,yp_want,yp_name,yp_take,yg_sum,yg_cond,mPr_e,mPr_z,mPr_d,tk_at,Tok.r,cPt_d,ptR,rPr_d,mPr_d',rPr_d',pr_eta,i0,takP]
 refine⟨hc1,?_⟩
 refine loop_ok (Y:=Nat×List Ar×Pr) (fun y=>okP y.2.2∧(y.2.2.e=0→(y.2.2.l.length:Int)+1≤y.2.2.i+(y.1:Int))∧(y.2.2.e=0→(y.2.1.length:Int)≤y.2.2.i)∧argL y.1 y.2.1 y.2.2=argW p)
  (fun y=>⟨[(0,true,.one (.p 0 0 0)),(3,true,.one (.s 1000))],[(0,.vec 0 zPr [y.2.2.c]),(1000,.vec 0 zAc (y.2.1.map Ar.c))]⟩)
  (fun y=>y.1) (p.l.length+1,[],p) ⟨hc1,fun _=>by have:=hc1.1;simp only;omega,fun _=>by simpa using hc1.1,hr.symm⟩ ?_ ?_
 ·refine to_with [.nil 3 1000 zAc] ?_;simp only[↓eB,seval,go_sem,zAc]
 ·rintro ⟨k,l,q⟩ ⟨h1,h2,h3,h4⟩
  refine vc_ok [yp_take,yp_want,sSum] [] _ _ _ ?_
  dsimp only at h1 h2 h3 h4
  cases he:(q.e==0) with
  |false=>
   have hr2:argW p=([],q):=by rw[← h4];cases k<;>simp[argL,he]
   simp only[↓eB,seval,go_sem,yp_is,yr_is,yp_named,yr_named,yp_open,yp_fail,yp_want,yp_name,yp_take,yg_sum,yg_cond,mPr_e,mPr_z,mPr_d,tk_at,Tok.r,cPt_d,ptR,rPr_d,mPr_d',rPr_d',pr_eta,he]
   try simp only[impB,impN]
   repeat' first|exact ck|with_reducible apply And.intro|intro _
   all_goals first|exact h1|(rename_i h;first|exact oI h|exact nah h)|(rename_i _ h _ g;exact sL h g)|decide|omega|(refine ret_with [] ?_;simp only[↓eB,seval,go_sem,bne,yr_args,ym_args,hr2,arS])
  |true=>
   have he0:q.e=0:=by simpa using he
   obtain⟨k',rfl⟩:∃k',k=k'+1:=⟨k-1,by have:=h2 he0;have:=h1.2.1;omega⟩
   simp only[argL,he,if_true]at h4
   have hs:=exS_nx h1
   have hle:l.length≤4096:=by have:=h3 he0;have:=h1.2.1;have:=h1.2.2.1;omega
   have hd:=dp41 h1
   cases it:isT [41] (exS q).2 with
   |true=>
    rw[if_pos it]at h4
    have hb:=isT_adv hs.ok it
    simp only[↓eB,seval,go_sem,yp_is,yr_is,yp_named,yr_named,yp_open,yp_fail,yp_want,yp_name,yp_take,yg_sum,yg_cond,mPr_e,mPr_z,mPr_d,tk_at,Tok.r,cPt_d,ptR,rPr_d,mPr_d',rPr_d',pr_eta,he,it,takP,adv,zAc,rowsA.fn]
    try simp only[impB,impN]
    repeat' first|exact ck|with_reducible apply And.intro|intro _
    all_goals first|exact h1|exact hd|exact hs.ok|(rename_i h;first|exact oI h|exact nah h)|(rename_i _ h _ g;exact sL h g)|decide|omega|(refine ret_with [.fz 16] ?_;simp only[↓eB,seval,go_sem,bne,yr_args,ym_args,← h4,arS,adv,zAr,rowsA.ds1,List.map_append,Ar.r])
   |false=>
    rw[if_neg (by rw[it];decide)]at h4
    have hw:=wan_nx (t:=[44]) hs.ok
    simp only[↓eB,seval,go_sem,yp_is,yr_is,yp_named,yr_named,yp_open,yp_fail,yp_want,yp_name,yp_take,yg_sum,yg_cond,mPr_e,mPr_z,mPr_d,tk_at,Tok.r,cPt_d,ptR,rPr_d,mPr_d',rPr_d',pr_eta,he,it,takP,zAc,rowsA.fn]
    try simp only[impB,impN]
    repeat' first|exact ck|with_reducible apply And.intro|intro _
    all_goals try first|exact h1|exact hd|exact hs.ok|(rename_i h;first|exact oI h|exact nah h)|(rename_i _ h _ g;exact sL h g)|decide|omega
    refine⟨(k',l++[⟨false,[],(exS q).1⟩],wanP [44] (exS q).2),⟨hw.ok,?_,?_,h4⟩,Nat.lt_succ_self _,
     to_trans (t:=⟨[(0,true,.one (.p 0 0 0)),(3,true,.one (.s 16))],[(0,.vec 0 zPr [(wanP [44] (exS q).2).c]),(16,.vec 0 zAc ((l++[(⟨false,[],(exS q).1⟩:Ar)]).map Ar.c))]⟩) (to_with [] ?_) (to_with [.mv 16 1000] ?_)⟩
    ·exact fun hw0=>by have h5:=h2 he0;have hi1:=hs.i;have e:=wan_i hs.ok hw0;dsimp only;rw[hw.l,hs.l];omega
    ·exact fun hw0=>by have h5:=h3 he0;have hi1:=hs.i;have e:=wan_i hs.ok hw0;simp only[List.length_append,List.length_cons,List.length_nil];omega
    ·simp only[↓eB,seval,go_sem,zAc,rowsA.fn,List.flatMap_append,List.map_append,Ar.c]
    ·simp only[↓eB,seval,go_sem,zAc,rowsA.fn,rowsA.mv]
noncomputable def yp_args {X:Ctx} {w0:World}:Sy.Spec Try.prog X w0:=specM 53 Try.call53 (ya_args) (fun p:(Pr)×Unit=>yc_args p.1) (fun p:(Pr)×Unit=>yr_args p.1) (fun p:(Pr)×Unit=>ym_args p.1) yl_args yo_args yn_args y_args
end Go.Proofs.Ytjnnmindcbgjhab
namespace Go.Proofs.Ytjnnmindcbgjhab
open Go Go.Sy Go.RowKit
theorem mem_nm2 (p:Pr) (s:Sf) (v:VR):∀q,some q∈[some ((zPr,[p.c]):MV),some ((zSc,[valC s v]):MV)]→∀r∈q.2,∀c∈r,c.names=[]:=by
 intro q hq r hr c hc
 simp only[List.mem_cons,List.not_mem_nil,or_false,Option.some.injEq]at hq
 rcases hq with rfl|rfl
 ·simp only[List.mem_singleton]at hr;subst hr;exact prc_nm p c hc
 ·simp only[List.mem_singleton]at hr;subst hr
  simp only[valC,List.mem_cons,List.not_mem_nil,or_false]at hc
  rcases hc with rfl|rfl|rfl|rfl|rfl|rfl|rfl|rfl|rfl|rfl<;>first|rfl|exact ex_names _|exact arO_names _
abbrev yc_value (p:Pr) (s:Sf):Prop:=okP p
abbrev yr_value (p:Pr) (s:Sf):SV:=.tup []
abbrev ym_value (p:Pr) (s:Sf):List (Option MV):=[some (zPr,[(valF p).2.c]),some (zSc,[valC s (valF p).1])]
noncomputable abbrev ya_value:ArgM ((Pr)×(Sf)×Unit):=(amP (mPr) (amP (mSf) am0))
abbrev yq_value:Prop:=CallsM Try.prog 54 ((ya_value).args 0) (ya_value).mem (fun p:(Pr)×(Sf)×Unit=>yc_value p.1 p.2.1) (fun p:(Pr)×(Sf)×Unit=>yr_value p.1 p.2.1) (fun p:(Pr)×(Sf)×Unit=>ym_value p.1 p.2.1)
theorem yl_value:∀p,(fun p:(Pr)×(Sf)×Unit=>yc_value p.1 p.2.1) p→lenM ((ya_value).mem p).length ((fun p:(Pr)×(Sf)×Unit=>ym_value p.1 p.2.1) p)=true:=by intro p _;rfl
theorem yo_value:∀p,(fun p:(Pr)×(Sf)×Unit=>yc_value p.1 p.2.1) p→outV ((fun p:(Pr)×(Sf)×Unit=>ym_value p.1 p.2.1) p).length ((fun p:(Pr)×(Sf)×Unit=>yr_value p.1 p.2.1) p)=true:=by intro p _;first|rfl|exact ex_out _ _|exact cd_out _ _|(simp[outV,outC,ex_out,cd_out];done)
theorem yn_value:∀p,(fun p:(Pr)×(Sf)×Unit=>yc_value p.1 p.2.1) p→∀q,some q∈(fun p:(Pr)×(Sf)×Unit=>ym_value p.1 p.2.1) p→∀r∈q.2,∀c∈r,c.names=[]:=by intro p _;exact mem_nm2 _ _ _
attribute [local go_sem] Pr.c Sf.c Tok.r cPt_d mPr_d mPr_d' mPr_e mPr_z mSf_e mSf_z pr_eta ptR rPr_d rPr_d' takP tk_at yg_cond yg_sum yp_args yp_fail yp_is yp_name yp_named yp_open yp_take yp_want yr_is yr_named zTk
set_option maxRecDepth 20000 in set_option maxHeartbeats 8000000 in
theorem y_value:yq_value:=by
 rintro ⟨p,s,_u⟩ w M I lab fz xs hc hA hl hx
 refine calls_toML Try.func54 rfl ((ya_value).mem ⟨p,s,_u⟩) w M I lab fz [yp_take,yp_named,yp_name,yp_want,yp_args,sSum] [] ((ya_value).args 0 ⟨p,s,_u⟩) ((fun p:(Pr)×(Sf)×Unit=>ym_value p.1 p.2.1) ⟨p,s,_u⟩) ((fun p:(Pr)×(Sf)×Unit=>yr_value p.1 p.2.1) ⟨p,s,_u⟩) xs hA hl hx (fun v hv k hk=>by have:=(ya_value).an 0 ⟨p,s,_u⟩ v hv k hk;omega) (Nat.le_of_ble_eq_true rfl) (Nat.le_of_ble_eq_true rfl) ?_
 clear hx hl hA xs
 simp only[Try.f54]
 have hc1:okP p:=hc
 have hI:=hc1.i
 have hdp:=dp41 hc1
 cases i0:isT tNull p with
 |true=>
  have hr:valF p=(⟨3,[],.nil,none⟩,adv p):=by simp[valF,i0]
  simp only[↓eB,seval,go_sem,i0]
  try simp only[impB,impN]
  repeat' first|exact ck|with_reducible apply And.intro|intro _
  all_goals first|exact hI|exact hc1|(rename_i h;first|exact oI h|exact nah h)|(rename_i _ h _ g;exact sL h g)|decide|omega|(refine ret_with [] ?_;simp only[↓eB,seval,go_sem,bne,yr_value,ym_value,hr,arS,adv,valC,arO_none,ex_nil,zSc])
 |false=>
 cases i1:isT [38] p with
 |true=>
  have hr:valF p=(⟨1,namS (adv p),.nil,none⟩,namP (adv p)):=by simp[valF,i0,i1]
  have ha:=isT_adv hc1 i1
  simp only[↓eB,seval,go_sem,i0,i1,adv]
  try simp only[impB,impN]
  repeat' first|exact ck|with_reducible apply And.intro|intro _
  all_goals first|exact hI|exact hc1|exact ha.ok|(rename_i h;first|exact oI h|exact nah h)|(rename_i _ h _ g;exact sL h g)|decide|omega|(refine ret_with [] ?_;simp only[↓eB,seval,go_sem,bne,yr_value,ym_value,hr,arS,adv,valC,arO_none,ex_nil,zSc])
 |false=>
 cases i2:isT [42] p with
 |true=>
  have hr:valF p=(⟨4,namS (adv p),.nil,none⟩,namP (adv p)):=by simp[valF,i0,i1,i2]
  have ha:=isT_adv hc1 i2
  simp only[↓eB,seval,go_sem,i0,i1,i2,adv]
  try simp only[impB,impN]
  repeat' first|exact ck|with_reducible apply And.intro|intro _
  all_goals first|exact hI|exact hc1|exact ha.ok|(rename_i h;first|exact oI h|exact nah h)|(rename_i _ h _ g;exact sL h g)|decide|omega|(refine ret_with [] ?_;simp only[↓eB,seval,go_sem,bne,yr_value,ym_value,hr,arS,adv,valC,arO_none,ex_nil,zSc])
 |false=>
 have n5:IntKind.i64.wrap (p.i+1)=p.i+1:=by obtain⟨h1,h2,h3,_⟩:=hc1;exact wrap_i64 (by omega) (by omega)
 have q0:(0≤p.i+1)=True:=by have:=hc1.1;simp;omega
 cases i3:ahB [91] p with
 |true=>
  have hr:valF p=(⟨6,namS p,(exS (adv (namP p))).1,none⟩,wanP [93] (exS (adv (namP p))).2):=by simp[valF,i0,i1,i2,i3]
  obtain⟨hna,z1,_,z2⟩:=ahB_e hc1 i3
  have z0:decide (p.i+1<(p.l.length:Int))=true:=by simp[z1]
  have z0':(p.i+1<(p.l.length:Int))=True:=by simp[z1]
  have ha:=ahB_nx hc1 i3
  have hs:=exS_nx ha.ok
  have hd:=dp41 ha.ok
  simp only[↓eB,seval,go_sem,i0,i1,i2,hna,n5,q0,z0,z0',z2]
  try simp only[impB,impN]
  repeat' first|exact ck|with_reducible apply And.intro|intro _
  all_goals first|exact hI|exact hc1|exact ha.ok|exact hs.ok|exact hd|(rename_i h;first|exact oI h|exact nah h)|(rename_i _ h _ g;exact sL h g)|decide|omega|(refine ret_with [] ?_;simp only[↓eB,seval,go_sem,bne,yr_value,ym_value,hr,arS,adv,valC,arO_none,ex_nil,zSc])
 |false=>
 have g3:=i3
 unfold ahB tkA at g3
 simp only[w64i,n5]at g3
 cases i4:ahB [40] p with
 |true=>
  have hr:valF p=(⟨8,namS p,.nil,some (argW (adv (namP p))).1⟩,(argW (adv (namP p))).2):=by simp[valF,i0,i1,i2,i3,i4]
  obtain⟨hna,z1,_,z2⟩:=ahB_e hc1 i4
  have z0:decide (p.i+1<(p.l.length:Int))=true:=by simp[z1]
  have z0':(p.i+1<(p.l.length:Int))=True:=by simp[z1]
  have z3:((p.l.getD (p.i+1).toNat tk0).t==[91])=false:=by rw[hna,z0]at g3;simpa using g3
  have ha:=ahB_nx hc1 i4
  simp only[↓eB,seval,go_sem,i0,i1,i2,hna,n5,q0,z0,z0',z2,z3]
  try simp only[impB,impN]
  repeat' first|exact ck|with_reducible apply And.intro|intro _
  all_goals first|exact hI|exact hc1|exact ha.ok|(rename_i h;first|exact oI h|exact nah h)|(rename_i _ h _ g;exact sL h g)|decide|omega|(refine ret_with [] ?_;simp only[↓eB,seval,go_sem,bne,yr_value,ym_value,hr,arS,adv,valC,arO_some,ex_nil,zSc])
 |false=>
 have hr:valF p=(⟨0,[],(exS p).1,none⟩,(exS p).2):=by simp[valF,i0,i1,i2,i3,i4]
 have g4:=i4
 unfold ahB tkA at g4
 simp only[w64i,n5]at g4
 simp only[↓eB,seval,go_sem,i0,i1,i2,g3,g4,n5,q0]
 try simp only[impB,impN]
 repeat' first|exact ck|with_reducible apply And.intro|intro _
 all_goals first|exact hI|exact hc1|exact hdp|(assumption)|(simp only[Bool.and_eq_true,decide_eq_true_eq]at *;omega)|(rename_i h;first|exact oI h|exact nah h)|(rename_i _ h _ g;exact sL h g)|decide|omega|(refine ret_with [] ?_;simp only[↓eB,seval,go_sem,bne,yr_value,ym_value,hr,arS,adv,valC,arO_none,ex_nil,zSc])
noncomputable def yp_value {X:Ctx} {w0:World}:Sy.Spec Try.prog X w0:=specM 54 Try.call54 (ya_value) (fun p:(Pr)×(Sf)×Unit=>yc_value p.1 p.2.1) (fun p:(Pr)×(Sf)×Unit=>yr_value p.1 p.2.1) (fun p:(Pr)×(Sf)×Unit=>ym_value p.1 p.2.1) yl_value yo_value yn_value y_value
end Go.Proofs.Ytjnnmindcbgjhab
namespace Go.Proofs.Ytjnnmindcbgjhab
open Go Go.Sy Go.RowKit
abbrev smS (l:List Sm):C:=.d (.sl zSm (l.map Sm.r))
theorem sm_out (n:Nat) (s:Sm):outV n (.agg s.c)=true:=by
 show s.c.all (outC n)=true
 unfold Sm.c
 simp only[List.all_cons,List.all_nil,ex_out,cd_out,Bool.and_true]
 rfl
end Go.Proofs.Ytjnnmindcbgjhab
