/- One more of a list; functions, walked. No conditions but those in each statement. -/
import Derived.Test.YtapedeoheilnnaaGreatPa8
set_option linter.all false
set_option maxRecDepth 20000
set_option maxHeartbeats 16000000
namespace Go.Proofs.YtapedeoheilnnaaGreat
open Go Go.Sy Go.RowKit
noncomputable def mVr:RowM Vr:=MH zVc Vr.c DM.nm
theorem F7:mVr.z=zVc:=rfl
theorem F8:mVr.e=Vr.c:=rfl
theorem su(a b:Vr)(h:a.c=b.c):a=b:=by
 obtain⟨x,no⟩:=a
 obtain⟨x',no'⟩:=b
 simp only[Vr.c,List.cons.injEq,C.v.injEq,Value.bool.injEq,Value.string.injEq,true_and,and_true]at h
 rw[bs_inj h.1,h.2]
theorem T4:∀l:List Vr,PO mVr.d (l.map Vr.c)=some l
 |[]=>rfl
 |a::l=>by
  have h:mVr.d a.c=some a:=J9 su a
  simp only[List.map_cons,PO,h,T4 l]
theorem sw(p:Pr)(l:List Vr):∀q,some q∈[some ((zPr,[p.c]):MV),none,some ((zVc,l.map Vr.c):MV)]->∀r∈q.2,∀c∈r,c.names=[]:=by
 intro q hq r hr c hc
 simp only[List.mem_cons,List.not_mem_nil,or_false,jS,reduceCtorEq,false_or]at hq
 rcases hq with rfl|rfl
 .simp only[List.mem_singleton]at hr;subst hr;exact WA p c hc
 obtain⟨v,_,rfl⟩:=List.mem_map.1 hr
 exact DM.nm v c hc
abbrev sx(p:Pr)(l:List Vr)(ptr:Bool)(most:Int):Prop:=okP p/\l.length<=4096
abbrev T5(p:Pr)(l:List Vr)(ptr:Bool)(most:Int):SV:=.one (.s 2)
abbrev T6(p:Pr)(l:List Vr)(ptr:Bool)(most:Int):List (Option MV):=[some (zPr,[(GN l most p).c]),none,some (zVc,(Iq l ptr most p).map Vr.c)]
noncomputable abbrev NL:ArgM ((Pr)×(List Vr)×(Bool)×(Int)×Unit):=(amP (mPr) (amS (mVr) (amD (gP) (amD (cInt .i64) am0))))
abbrev sy:Prop:=Bv Tryz.prog 63 ((NL).args 0) (NL).mem (λp:(Pr)×(List Vr)×(Bool)×(Int)×Unit=>sx p.1 p.2.1 p.2.2.1 p.2.2.2.1) (λp:(Pr)×(List Vr)×(Bool)×(Int)×Unit=>T5 p.1 p.2.1 p.2.2.1 p.2.2.2.1) (λp:(Pr)×(List Vr)×(Bool)×(Int)×Unit=>T6 p.1 p.2.1 p.2.2.1 p.2.2.2.1)
attribute [local go_sem] Pr.c zTk
attribute[local go_sem] Tok.r Ak Aq AP Ap Ao F8 F7 AQ ptR An AO Ah A9 AS AG A7 AL A6 AC BR AM in
theorem yK:sy:=by
 rintro ⟨p,l,ptr,most,_u⟩ w M I lab fz xs hc hA hl hx
 refine Aa Tryz.func63 rfl ((NL).mem ⟨p,l,ptr,most,_u⟩) w M I lab fz [A7,A9,AG] [] ((NL).args 0 ⟨p,l,ptr,most,_u⟩) ((λp:(Pr)×(List Vr)×(Bool)×(Int)×Unit=>T6 p.1 p.2.1 p.2.2.1 p.2.2.2.1) ⟨p,l,ptr,most,_u⟩) ((λp:(Pr)×(List Vr)×(Bool)×(Int)×Unit=>T5 p.1 p.2.1 p.2.2.1 p.2.2.2.1) ⟨p,l,ptr,most,_u⟩) xs hA hl hx (λv hv k hk=>by have:=(NL).an 0 ⟨p,l,ptr,most,_u⟩ v hv k hk;omega) (jN rfl) (jN rfl) ?_
 clear hx hl hA xs
 simp only[Tryz.f63]
 obtain⟨hc1,hc2⟩:=hc
 dsimp only at hc1 hc2
 have hI:=hc1.i
 cases hb:ZX l most p with
 |true=>
  have hr1:Iq l ptr most p=l:=by unfold Iq;rw[if_pos hb]
  have hr2:GN l most p=D6 53 p:=by unfold GN;rw[if_pos hb]
  simp only[ZX]at hb
  simp only[seval,go_sem,hb]
  try simp only[A2,A3]
  repeat' first|exact ck|with_reducible apply And.intro|intro _
  all_goals first|exact hI|exact hc1|exact KZ|(refine A1 [.mv 1 2] ?_;simp only[seval,go_sem,bne,T5,T6,hr1,hr2,DM.mv,DM.fn])
 |false=>
 have hr1:Iq l ptr most p=l++[⟨Dy p,ptr⟩]:=by unfold Iq;rw[if_neg (by rw[hb];decide)]
 have hr2:GN l most p=C4 p:=by unfold GN;rw[if_neg (by rw[hb];decide)]
 simp only[ZX]at hb
 simp only[seval,go_sem,hb,zVc,DM.fn]
 try simp only[A2,A3]
 repeat' first|exact ck|with_reducible apply And.intro|intro _
 all_goals first|exact hI|exact hc1|exact KZ|(refine A1 [.mv 26 2] ?_;simp only[seval,go_sem,bne,T5,T6,hr1,hr2,DM.mv,DM.fn,List.map_append,List.flatMap_append,Vr.c,zVc])
noncomputable def CU{X:Ctx}{w0:World}:Sy.Spec Tryz.prog X w0:=Cl 63 Tryz.call63 (NL) _ _ _ KF1 KF0 (id (by intro p _;exact sw _ _)) yK
noncomputable def ypTok{X:Ctx}{w0:World}:Sy.Spec Tryz.prog X w0:=E2 56 Tryz.call56 (acS cStr ac0) (λp=>Dr p.1) (λp=>.tup [.inl (.d (.sl zTk ((rxT p.1).1.map Tok.r))),.inl (.v (.int .i64 (rxT p.1).2.1)),.inl (.v (.int .i64 (rxT p.1).2.2))]) (by intro p;rfl) rh
abbrev z4r:List C:=[.v (.bool false),.v (.bool false),.v (.bool false),.v (.bool false)]
abbrev cNr:C:=.v (.slice none 0 0)
abbrev fSt(nm c1 c2 c3:C)(q:Pr)(se:List (Nat×Bool×SV))(ex:List (Nat×Ch)):St:=⟨(2,true,.one (.p 2 0 0))::(8,true,.one (.p 26 0 0))::(9,true,.one (.p 9 0 0))::se,(2,.vec 0 z4r [[.v (.string (bs [])),cNr,cNr,cNr]])::(9,.vec 0 z4r [[nm,c1,c2,c3]])::(26,.vec 0 zPr [q.c])::ex⟩
abbrev tA(s:List UInt8):Prop:=Dr s
abbrev Pe(s:List UInt8):SV:=.tup [.inr (GO s).1.c,.inl (.v (.int .i64 (GO s).2.1)),.inl (.v (.int .i64 (GO s).2.2))]
theorem yL:Cu Tryz.prog 42 (acS (cStr) ac0) (λp:(List UInt8×Unit)=>tA p.1) (λp:(List UInt8×Unit)=>Pe p.1):=by
 rintro ⟨s,_u⟩ w fz xs hc hfz hl hx
 refine fC Tryz.func42 rfl w fz (acS (cStr) ac0) (λp:(List UInt8×Unit)=>Pe p.1) _ xs hfz hl hx (jN rfl) ?_
 clear hx hl hfz xs
 simp only[Tryz.f42]
 have hs:Dr s:=hc
 have hok:=fB s (s.length:Int)
 refine HW [ypTok] [] ?_
 simp only[seval,go_sem]
 refine HW [ypTok] [] ?_
 simp only[seval,go_sem,ypTok,Ap,Ao,Aq,Ah,Tok.r,Ak,ptR,An,AP,AO,AQ,F7,F8]
 refine⟨hs,?_⟩
 refine HW [ypTok] [] ?_
 simp only[seval,go_sem,Ap,Ao,Aq,Ah,Tok.r,Ak,ptR,An,AP,AO,AQ,F7,F8]
 simp only[A2,A3]
 refine⟨λhe=>?_,λhe=>?_⟩
 .have hr:GO s=(fn0,(rxT s).2.1,(rxT s).2.2):=by unfold GO;rw[if_pos he]
  refine A1 [] ?_;simp only[seval,go_sem,bne,Pe,hr,Fn.c]
 have hr0:GO s=if (fp6 (rxT s).1 (s.length:Int)).e != 0 then (fn0,(fp6 (rxT s).1 (s.length:Int)).at',(fp6 (rxT s).1 (s.length:Int)).e) else (⟨Dy (hdP (rxT s).1 (s.length:Int)),(fp3 (rxT s).1 (s.length:Int)).1,(fp4 (rxT s).1 (s.length:Int)).1,(fp5 (rxT s).1 (s.length:Int)).1⟩,0,0):=by
  unfold GO;rw[if_neg (by rw[he];decide)]
 have h1:=iU s (s.length:Int)
 have h2:=h1.trans (FX h1.ok)
 have h3:=ZY s (s.length:Int)
 generalize hT:(rxT s).1=T at hok hr0 h1 h2 h3
 generalize hn:(s.length:Int)=N at hok hr0 h1 h2 h3
 refine HW [A6,AC,AG,AS,A7,AL,A9,CU,Iz] [] ?_
 simp only[seval,go_sem,AS,BR,A7,AM,AL,A9,AC,AG,A6,Ap,Ao,Aq,Ah,Tok.r,Ak,ptR,An,AP,AO,AQ,F7,F8,CU,hn]
 refine HW [A6,AC,AG,AS,A7,AL,A9,CU,Iz] [] ?_
 simp only[seval,go_sem,AS,BR,A7,AM,AL,A9,AC,AG,A6,Ap,Ao,Aq,Ah,Tok.r,Ak,ptR,An,AP,AO,AQ,F7,F8,CU]
 refine HW [A6,AC,AG,AS,A7,AL,A9,CU,Iz] [] ?_
 simp only[seval,go_sem,AS,BR,A7,AM,AL,A9,AC,AG,A6,Ap,Ao,Aq,Ah,Tok.r,Ak,ptR,An,AP,AO,AQ,F7,F8,CU]
 refine⟨hok,?_⟩
 refine HW [A6,AC,AG,AS,A7,AL,A9,CU,Iz] [] ?_
 simp only[seval,go_sem,AS,BR,A7,AM,AL,A9,AC,AG,A6,Ap,Ao,Aq,Ah,Tok.r,Ak,ptR,An,AP,AO,AQ,F7,F8,CU]
 refine⟨h1.ok,?_⟩
 refine HW [A6,AC,AG,AS,A7,AL,A9,CU,Iz] [] ?_
 simp only[seval,go_sem,AS,BR,A7,AM,AL,A9,AC,AG,A6,Ap,Ao,Aq,Ah,Tok.r,Ak,ptR,An,AP,AO,AQ,F7,F8,CU]
 refine⟨h2.ok,?_⟩
 refine T3 (Y:=List Vr×Pr) (λy=>y=fp3 T N) (λy=>fSt (.v (.string (bs (Dy (hdP T N))))) (.s 1000) cNr cNr y.2 [] [(1000,.vec 0 zVc (y.1.map Vr.c))]) [A6,AC,AG,AS,A7,AL,A9,CU,Iz] [] ?_ ?_
 .cases i0:isT [41] (hd2 T N) with
  |true=>
   have j0:=i0
   simp only[hd2,hdP,p0]at j0
   simp only[seval,go_sem,AS,BR,A7,AM,AL,A9,AC,AG,A6,Ap,Ao,Aq,Ah,Tok.r,Ak,ptR,An,AP,AO,AQ,F7,F8,CU,Bi,j0,adv]
   refine⟨h3.ok,([],adv (hd2 T N)),by simp[fp3,UJ,i0],?_⟩
   refine A4 [.nilr 9 0 1 1000 zVc] ?_;simp only[seval,go_sem,zVc,hd2,hdP,p0,adv]
  |false=>
  have j0:=i0
  simp only[hd2,hdP,p0]at j0
  simp only[seval,go_sem,AS,BR,A7,AM,AL,A9,AC,AG,A6,Ap,Ao,Aq,Ah,Tok.r,Ak,ptR,An,AP,AO,AQ,F7,F8,CU,Bi,j0]
  refine⟨h3.ok,?_⟩
  refine AK (Y:=Nat×List Vr×Pr) (λy=>okP y.2.2/\(y.2.2.e=0->(y.2.2.l.length:Int)+1<=y.2.2.i+(y.1:Int))/\(y.2.2.e=0->(y.2.1.length:Int)<=y.2.2.i)/\Qt y.1 y.2.1 y.2.2=fp3 T N)
   (λy=>fSt (.v (.string (bs (Dy (hdP T N))))) (.s 1000) cNr cNr y.2.2 [] [(1000,.vec 0 zVc (y.2.1.map Vr.c))])
   (λy=>y.1) ((hd2 T N).l.length+1,[],hd2 T N) ⟨h3.ok,λ_=>by have:=h3.ok.1;simp only;omega,λ_=>by simpa using h3.ok.1,by simp[fp3,UJ,i0]⟩ ?_ ?_
  .refine A4 [.nilr 9 0 1 1000 zVc] ?_;simp only[seval,go_sem,zVc,hd2,hdP,p0]
  rintro ⟨k,l,q⟩ ⟨g1,g2,g3,g4⟩
  refine AZ [A6,AC,AG,AS,A7,AL,A9,CU,Iz] [] _ _ _ ?_
  dsimp only at g1 g2 g3 g4
  cases he:(q.e==0) with
  |false=>
   have hr2:(l,q)=fp3 T N:=by rw[<- g4];cases k<;>simp[Qt,he]
   simp only[seval,go_sem,AS,BR,A7,AM,AL,A9,AC,AG,A6,Ap,Ao,Aq,Ah,Tok.r,Ak,ptR,An,AP,AO,AQ,F7,F8,CU,he]
   refine⟨(l,q),hr2,?_⟩
   refine A4 [] ?_;simp only[seval,go_sem,zVc,DM.fn]
  |true=>
  have he0:q.e=0:=by simpa using he
  obtain⟨k',rfl⟩:∃k',k=k'+1:=⟨k-1,by have:=g2 he0;have:=g1.2.1;omega⟩
  simp only[Qt,he,if_true]at g4
  have ht:=gx (t:=[42]) g1
  have hm:=ht.trans (S9 (l:=l) (most:=6) ht.ok)
  have hle:l.length<=4096:=by have:=g3 he0;have:=g1.2.1;have:=g1.2.2.1;omega
  have hml:=Qs l (isT [42] q) 6 (Bi [42] q)
  cases it:isT [41] (GN l 6 (Bi [42] q)) with
  |true=>
   rw[if_pos it]at g4
   have e41:Bi [41] (GN l 6 (Bi [42] q))=adv (GN l 6 (Bi [42] q)):=gz it
   simp only[seval,go_sem,AS,BR,A7,AM,AL,A9,AC,AG,A6,Ap,Ao,Aq,Ah,Tok.r,Ak,ptR,An,AP,AO,AQ,F7,F8,CU,he,it,zVc,T4,e41]
   try simp only[A2,A3]
   repeat' first|exact ck|with_reducible apply And.intro|intro _
   all_goals try first|exact g1|exact ht.ok|exact hle|exact hm.ok|exact KZ
   refine⟨(Iq l (isT [42] q) 6 (Bi [42] q),adv (GN l 6 (Bi [42] q))),g4,CJ (t:=fSt (.v (.string (bs (Dy (hdP T N))))) (.s 47) cNr cNr (adv (GN l 6 (Bi [42] q))) [] [(47,.vec 0 zVc ((Iq l (isT [42] q) 6 (Bi [42] q)).map Vr.c))]) ?_ ?_⟩
   .refine A4 [] ?_;simp only[seval,go_sem,zVc,DM.fn,adv]
   refine A4 [.mv 47 1000] ?_;simp only[seval,go_sem,zVc,DM.fn,DM.mv]
  |false=>
  rw[if_neg (by rw[it];decide)]at g4
  have hw:=Ae (t:=[44]) hm.ok
  have e41:Bi [41] (GN l 6 (Bi [42] q))=GN l 6 (Bi [42] q):=hX it
  simp only[seval,go_sem,AS,BR,A7,AM,AL,A9,AC,AG,A6,Ap,Ao,Aq,Ah,Tok.r,Ak,ptR,An,AP,AO,AQ,F7,F8,CU,he,it,zVc,T4,e41]
  try simp only[A2,A3]
  repeat' first|exact ck|with_reducible apply And.intro|intro _
  all_goals try first|exact g1|exact ht.ok|exact hle|exact hm.ok|exact KZ
  refine⟨(k',Iq l (isT [42] q) 6 (Bi [42] q),BW [44] (GN l 6 (Bi [42] q))),⟨hw.ok,?_,?_,g4⟩,Nat.lt_succ_self _,CJ (t:=fSt (.v (.string (bs (Dy (hdP T N))))) (.s 47) cNr cNr (BW [44] (GN l 6 (Bi [42] q))) [] [(47,.vec 0 zVc ((Iq l (isT [42] q) 6 (Bi [42] q)).map Vr.c))]) ?_ ?_⟩
  .exact λhw0=>by have h5:=g2 he0;have hi1:=hm.i;have e:=V2 hm.ok hw0;dsimp only;rw[hw.l,hm.l];omega
  .exact λhw0=>by have h5:=g3 he0;have hi1:=hm.i;have e:=V2 hm.ok hw0;dsimp only;omega
  .refine A4 [] ?_;simp only[seval,go_sem,zVc,DM.fn]
  refine A4 [.mv 47 1000] ?_;simp only[seval,go_sem,zVc,DM.fn,DM.mv]
 rintro ⟨ps,q⟩ hy
 obtain⟨hps,hq⟩:ps=(fp3 T N).1/\q=(fp3 T N).2:=⟨congrArg (·.1) hy,congrArg (·.2) hy⟩
 have hqk:okP q:=by rw[hq];exact(Wo h3.ok).ok
 have hqI:=hqk.i
 refine T3 (Y:=Pr) (λy=>y=KN q) (λy=>fSt (.v (.string (bs (Dy (hdP T N))))) (.s 1000) cNr cNr y [] [(1000,.vec 0 zVc (ps.map Vr.c))]) [A6,AC,AG,AS,A7,AL,A9,CU,Iz] [] ?_ ?_
 .cases i1:isT [123] q with
  |false=>
   have e1:KN q=D6 51 q:=by unfold KN;rw[if_neg (by rw[i1];decide)]
   simp only[seval,go_sem,AS,BR,A7,AM,AL,A9,AC,AG,A6,Ap,Ao,Aq,Ah,Tok.r,Ak,ptR,An,AP,AO,AQ,F7,F8,i1,zVc]
   try simp only[A2,A3]
   repeat' first|exact ck|with_reducible apply And.intro|intro _
   all_goals try first|exact hqI|exact hqk|exact KZ
   refine⟨_,rfl,?_⟩
   rw[e1]
   refine A4 [] ?_;simp only[seval,go_sem,zVc,DM.fn]
  |true=>
  cases ob:FU q with
  |false=>
   have e1:KN q=D6 51 (C9 q):=by unfold KN;rw[if_pos i1,if_neg (by rw[ob];decide)]
   have ho:=(L3 hqk ob).ok
   have hoI:=ho.i
   simp only[seval,go_sem,AS,BR,A7,AM,AL,A9,AC,AG,A6,Ap,Ao,Aq,Ah,Tok.r,Ak,ptR,An,AP,AO,AQ,F7,F8,i1,ob,zVc]
   try simp only[A2,A3]
   repeat' first|exact ck|with_reducible apply And.intro|intro _
   all_goals try first|exact hqI|exact hqk|exact ho|exact hoI|exact KZ
   refine⟨_,rfl,?_⟩
   rw[e1]
   refine A4 [] ?_;simp only[seval,go_sem,zVc,DM.fn]
  |true=>
  have e1:KN q=adv (C9 q):=by unfold KN;rw[if_pos i1,if_pos ob]
  simp only[seval,go_sem,AS,BR,A7,AM,AL,A9,AC,AG,A6,Ap,Ao,Aq,Ah,Tok.r,Ak,ptR,An,AP,AO,AQ,F7,F8,i1,ob,zVc]
  try simp only[A2,A3]
  repeat' first|exact ck|with_reducible apply And.intro|intro _
  all_goals try first|exact hqI|exact hqk|exact KZ
  refine⟨_,rfl,?_⟩
  rw[e1]
  refine A4 [] ?_;simp only[seval,go_sem,zVc,DM.fn,adv]
 rintro q2 hq2
 have hk2:okP q2:=by
  rw[hq2];unfold KN
  split
  .rename_i hi
   split
   .rename_i hb;exact(EY hqk hb (B6 hi).2).ok
   rename_i hb;exact(FP 51 (L3 hqk (by simpa using hb)).ok).ok
  exact(FP 51 hqk).ok
 refine T3 (Y:=List Vr×Pr) (λy=>y=Wn q2) (λy=>fSt (.v (.string (bs (Dy (hdP T N))))) (.s 1000) (.s 1001) cNr y.2 [] [(1000,.vec 0 zVc (ps.map Vr.c)),(1001,.vec 0 zVc (y.1.map Vr.c))]) [A6,AC,AG,AS,A7,AL,A9,CU,Iz] [] ?_ ?_
 .simp only[seval,go_sem,AS,BR,A7,AM,AL,A9,AC,AG,A6,Ap,Ao,Aq,Ah,Tok.r,Ak,ptR,An,AP,AO,AQ,F7,F8,zVc]
  refine AK (Y:=Nat×List Vr×Pr) (λy=>okP y.2.2/\((y.2.2.l.length:Int)<=y.2.2.i+(y.1:Int))/\((y.2.1.length:Int)<=y.2.2.i)/\PB y.1 y.2.1 y.2.2=Wn q2)
    (λy=>fSt (.v (.string (bs (Dy (hdP T N))))) (.s 1000) (.s 1001) cNr y.2.2 [] [(1000,.vec 0 zVc (ps.map Vr.c)),(1001,.vec 0 zVc (y.2.1.map Vr.c))])
    (λy=>y.1) (q2.l.length,[],q2) ⟨hk2,by have:=hk2.1;simp only;omega,by simpa using hk2.1,rfl⟩ ?_ ?_
  .refine A4 [.nilr 9 0 2 1001 zVc] ?_;simp only[seval,go_sem,zVc,DM.fn]
  rintro ⟨k,l,r⟩ ⟨g1,g2,g3,g4⟩
  refine AZ [A6,AC,AG,AS,A7,AL,A9,CU,Iz] [] _ _ _ ?_
  dsimp only at g1 g2 g3 g4
  have hrI:=g1.i
  cases hl:Wm r with
  |false=>
   have hr2:(l,r)=Wn q2:=by rw[<- g4];cases k<;>simp[PB,hl]
   unfold Wm at hl
   simp only[seval,go_sem,AS,BR,A7,AM,AL,A9,AC,AG,A6,Ap,Ao,Aq,Ah,Tok.r,Ak,ptR,An,AP,AO,AQ,F7,F8,CU,hl,zVc]
   try simp only[A2,A3]
   repeat' first|exact ck|with_reducible apply And.intro|intro _
   all_goals try first|exact hrI|exact KZ
   refine⟨(l,r),hr2,?_⟩
   refine A4 [] ?_;simp only[seval,go_sem,zVc,DM.fn]
  |true=>
  have hlt:=(VK hl).2
  have ha:=En g1 hlt (VK hl).1
  have hai:=Iw g1 hlt
  obtain⟨k',rfl⟩:∃k',k=k'+1:=⟨k-1,by omega⟩
  simp only[PB,hl,if_true]at g4
  have hm:=ha.trans (S9 (l:=l) (most:=20) ha.ok)
  have hm2:=S9 (l:=l) (most:=20) ha.ok
  have hle:l.length<=4096:=by have:=g1.2.1;have:=g1.2.2.1;omega
  have hml:=Qs l (isT tPtr r) 20 (adv r)
  have hw:=Ae (t:=[59]) hm.ok
  unfold Wm at hl
  simp only[seval,go_sem,AS,BR,A7,AM,AL,A9,AC,AG,A6,Ap,Ao,Aq,Ah,Tok.r,Ak,ptR,An,AP,AO,AQ,F7,F8,CU,hl,zVc,T4]
  try simp only[A2,A3]
  repeat' first|exact ck|with_reducible apply And.intro|intro _
  all_goals try first|exact hrI|exact ha.ok|exact hle|exact hm.ok|exact KZ
  refine⟨(k',Iq l (isT tPtr r) 20 (adv r),BW [59] (GN l 20 (adv r))),⟨hw.ok,?_,?_,g4⟩,Nat.lt_succ_self _,CJ (t:=fSt (.v (.string (bs (Dy (hdP T N))))) (.s 1000) (.s 87) cNr (BW [59] (GN l 20 (adv r))) [] [(1000,.vec 0 zVc (ps.map Vr.c)),(87,.vec 0 zVc ((Iq l (isT tPtr r) 20 (adv r)).map Vr.c))]) ?_ ?_⟩
  .have hi1:=hm2.i;have hi2:=hw.i;dsimp only;rw[hw.l,hm.l];omega
  .have hi1:=hm2.i;have hi2:=hw.i;dsimp only;omega
  .refine A4 [] ?_;simp only[seval,go_sem,zVc,DM.fn,adv]
  refine A4 [.mv 87 1001] ?_;simp only[seval,go_sem,zVc,DM.fn,DM.mv]
 rintro ⟨ls,q3⟩ hy3
 have hk3:okP q3:=by
  have e:q3=(Wn q2).2:=congrArg (·.2) hy3
  rw[e];exact(T1 _ _ _ hk2).ok
 have hd3:=K0 hk3
 have hb3:=Y8 (L2 41) hk3
 refine HW [A6,AC,AG,AS,A7,AL,A9,CU,Iz] [] ?_
 simp only[seval,go_sem,AS,BR,A7,AM,AL,A9,AC,AG,A6,Ap,Ao,Aq,Ah,Tok.r,Ak,ptR,An,AP,AO,AQ,F7,F8,CU,R9,zVc]
 refine⟨⟨hk3,hd3⟩,?_⟩
 generalize hbd:stmtsW (CT 41) q3=B at hb3
 obtain⟨bd,q4⟩:=B
 dsimp only at hb3 ⊢
 have f4:fp4 T N=(ls,q3):=by unfold fp4;rw[<- hq,<- hq2,<- hy3]
 have f5:fp5 T N=(bd,q4):=by unfold fp5;rw[f4];exact hbd
 have f6:fp6 T N=SA q4:=by unfold fp6;rw[f5]
 have hk4:=hb3.ok
 have hI4:=hk4.i
 refine T3 (Y:=Pr) (λy=>y=SA q4) (λy=>fSt (.v (.string (bs (Dy (hdP T N))))) (.s 1000) (.s 1001) (smS bd) y [] [(1000,.vec 0 zVc (ps.map Vr.c)),(1001,.vec 0 zVc (ls.map Vr.c))]) [A6,AC,AG,AS,A7,AL,A9,CU,Iz] [] ?_ ?_
 .cases hb:(q4.e==0&&decide (q4.i<(q4.l.length:Int))) with
  |true=>
   have e1:SA q4=D6 51 q4:=by unfold SA;rw[if_pos hb]
   simp only[seval,go_sem,AS,BR,A7,AM,AL,A9,AC,AG,A6,Ap,Ao,Aq,Ah,Tok.r,Ak,ptR,An,AP,AO,AQ,F7,F8,CU,hb,zVc]
   try simp only[A2,A3]
   repeat' first|exact ck|with_reducible apply And.intro|intro _
   all_goals try first|exact hI4|exact hk4|exact KZ
   refine⟨_,rfl,?_⟩
   rw[e1]
   refine A4 [] ?_;simp only[seval,go_sem,zVc,DM.fn,smS]
  |false=>
  have e1:SA q4=q4:=by unfold SA;rw[if_neg (by rw[hb];decide)]
  simp only[seval,go_sem,AS,BR,A7,AM,AL,A9,AC,AG,A6,Ap,Ao,Aq,Ah,Tok.r,Ak,ptR,An,AP,AO,AQ,F7,F8,CU,hb,zVc]
  try simp only[A2,A3]
  repeat' first|exact ck|with_reducible apply And.intro|intro _
  all_goals try first|exact hI4|exact hk4|exact KZ
  refine⟨_,rfl,?_⟩
  rw[e1]
  refine A4 [] ?_;simp only[seval,go_sem,zVc,DM.fn,smS]
 rintro q5 hq5
 rw[f6,<- hq5,f4,f5,<- hps]at hr0
 refine HW [A6,AC,AG,AS,A7,AL,A9,CU,Iz] [] ?_
 simp only[seval,go_sem,AS,BR,A7,AM,AL,A9,AC,AG,A6,Ap,Ao,Aq,Ah,Tok.r,Ak,ptR,An,AP,AO,AQ,F7,F8,CU,zVc]
 simp only[A2,A3]
 refine⟨λhe5=>?_,λhe5=>?_⟩
 .have hr:GO s=(fn0,q5.at',q5.e):=by rw[hr0,if_pos he5]
  try simp only[A2,A3]
  repeat' first|exact ck|with_reducible apply And.intro|intro _
  all_goals try first|exact KZ
  refine A1 [] ?_;simp only[seval,go_sem,bne,Pe,hr,Fn.c]
 have hr:GO s=(⟨Dy (hdP T N),ps,ls,bd⟩,0,0):=by rw[hr0,if_neg (by rw[he5];decide)]
 refine AZ [A6,AC,AG,AS,A7,AL,A9,CU,Iz] [] _ _ _ ?_
 simp only[seval,go_sem,AS,BR,A7,AM,AL,A9,AC,AG,A6,Ap,Ao,Aq,Ah,Tok.r,Ak,ptR,An,AP,AO,AQ,F7,F8,CU,zVc]
 refine A1 [.fz 1000,.fz 1001] ?_;simp only[seval,go_sem,bne,Pe,hr,Fn.c,smS,DM.ds,DM.fz,zVc,zVr]
noncomputable def Ga{X:Ctx}{w0:World}:Sy.Spec Tryz.prog X w0:=E2 42 Tryz.call42 (acS (cStr) ac0) _ _ KF7 yL
end Go.Proofs.YtapedeoheilnnaaGreat
