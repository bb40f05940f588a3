/- One more of a list; functions, walked. No conditions but those in each statement. -/
import Derived.Test.YtbiepiggmagfcaaGreatDoorPp
import Derived.Test.YtbiepiggmagfcaaGreatDoorMc4
set_option linter.unusedVariables false
set_option linter.unusedSimpArgs false
set_option maxRecDepth 20000
set_option maxHeartbeats 16000000
namespace Go.Proofs.YtbiepiggmagfcaaGreatDoor
open Go Go.Sy Go.RowKit
noncomputable def mVr:RowM Vr:=KB zVc Vr.c BR.nm
theorem A2V:mVr.z=zVc:=rfl
theorem A2W:mVr.e=Vr.c:=rfl
theorem po (a b:Vr) (h:a.c=b.c):a=b:=by
 obtain⟨x,no⟩:=a
 obtain⟨x',no'⟩:=b
 simp only[Vr.c,List.cons.injEq,C.v.injEq,Value.bool.injEq,Value.string.injEq,true_and,and_true]at h
 rw[bs_inj h.1,h.2]
theorem QQ:∀l:List Vr,QB mVr.d (l.map Vr.c)=some l
 |[]=>rfl
 |a::l=>by
  have h:mVr.d a.c=some a:=Fs po a
  simp only[List.map_cons,QB,h,QQ l]
theorem pp (p:Pr) (l:List Vr):∀q,some q∈[some ((zPr,[p.c]):MV),none,some ((zVc,l.map Vr.c):MV)]→∀r∈q.2,∀c∈r,c.names=[]:=by
 intro q hq r hr c hc
 simp only[List.mem_cons,List.not_mem_nil,or_false,jS,reduceCtorEq,false_or]at hq
 rcases hq with rfl|rfl
 ·simp only[List.mem_singleton]at hr;subst hr;exact S9 p c hc
 ·obtain⟨v,_,rfl⟩:=List.mem_map.1 hr
  exact BR.nm v c hc
abbrev NA (p:Pr) (l:List Vr) (ptr:Bool) (most:Int):Prop:=okP p∧l.length≤4096
abbrev Kv (p:Pr) (l:List Vr) (ptr:Bool) (most:Int):SV:=.one (.s 2)
abbrev HO (p:Pr) (l:List Vr) (ptr:Bool) (most:Int):List (Option MV):=[some (zPr,[(Ce l most p).c]),none,some (zVc,(Dc l ptr most p).map Vr.c)]
noncomputable abbrev Il:ArgM ((Pr)×(List Vr)×(Bool)×(Int)×Unit):=(amP (mPr) (amS (mVr) (amD (Om) (amD (cInt .i64) am0))))
abbrev pq:Prop:=BD Tryz.prog 33 ((Il).args 0) (Il).mem (fun p:(Pr)×(List Vr)×(Bool)×(Int)×Unit=>NA p.1 p.2.1 p.2.2.1 p.2.2.2.1) (fun p:(Pr)×(List Vr)×(Bool)×(Int)×Unit=>Kv p.1 p.2.1 p.2.2.1 p.2.2.2.1) (fun p:(Pr)×(List Vr)×(Bool)×(Int)×Unit=>HO p.1 p.2.1 p.2.2.1 p.2.2.2.1)
theorem pr:∀p,(fun p:(Pr)×(List Vr)×(Bool)×(Int)×Unit=>NA p.1 p.2.1 p.2.2.1 p.2.2.2.1) p→BA ((Il).mem p).length ((fun p:(Pr)×(List Vr)×(Bool)×(Int)×Unit=>HO p.1 p.2.1 p.2.2.1 p.2.2.2.1) p)=true:=by intro p _;rfl
theorem pu:∀p,(fun p:(Pr)×(List Vr)×(Bool)×(Int)×Unit=>NA p.1 p.2.1 p.2.2.1 p.2.2.2.1) p→AQ ((fun p:(Pr)×(List Vr)×(Bool)×(Int)×Unit=>HO p.1 p.2.1 p.2.2.1 p.2.2.2.1) p).length ((fun p:(Pr)×(List Vr)×(Bool)×(Int)×Unit=>Kv p.1 p.2.1 p.2.2.1 p.2.2.2.1) p)=true:=by intro p _;first|rfl|exact AK _ _|exact AL _ _|(simp[AQ,Bn,AK,AL];done)
theorem pv:∀p,(fun p:(Pr)×(List Vr)×(Bool)×(Int)×Unit=>NA p.1 p.2.1 p.2.2.1 p.2.2.2.1) p→∀q,some q∈(fun p:(Pr)×(List Vr)×(Bool)×(Int)×Unit=>HO p.1 p.2.1 p.2.2.1 p.2.2.2.1) p→∀r∈q.2,∀c∈r,c.names=[]:=by intro p _;exact pp _ _
attribute [local go_sem] Pr.c Tok.r Ke KQ Ju KP KO A2W A2V Ji ptR KN Jt Kb Av Bo BV Au BW Ap BE GG D1 zTk zVc
theorem wW:pq:=by
 rintro ⟨p,l,ptr,most,_u⟩ w M I lab fz xs hc hA hl hx
 refine AJ Tryz.func33 rfl _ w M I lab fz [Au,Av,BV] [] _ _ _ xs hA hl hx (fun v hv k hk=>by have:=(Il).an 0 ⟨p,l,ptr,most,_u⟩ v hv k hk;omega) (jN rfl) (jN rfl) ?_
 clear hx hl hA xs
 simp only[Tryz.f33]
 obtain⟨hc1,hc2⟩:=hc
 dsimp only at hc1 hc2
 have hI:=hc1.i
 cases hb:O7 l most p with
 |true=>
  have hr1:Dc l ptr most p=l:=by unfold Dc;rw[if_pos hb]
  have hr2:Ce l most p=BG 53 p:=by unfold Ce;rw[if_pos hb]
  simp only[O7]at hb
  simp only[↓eB,seval,go_sem,hb]
  try simp only[A1,A2]
  repeat' first|exact ck|with_reducible apply And.intro|intro _
  all_goals first|exact hI|exact hc1|(rename_i h;first|exact oI h|exact nah h)|(rename_i _ h _ g;exact sL h g)|decide|omega|(refine A0 [.mv 1 2] ?_;simp only[↓eB,seval,go_sem,bne,Kv,HO,hr1,hr2,BR.mv,BR.fn])
 |false=>
  have hr1:Dc l ptr most p=l++[⟨Bi p,ptr⟩]:=by unfold Dc;rw[if_neg (by rw[hb];decide)]
  have hr2:Ce l most p=Ai p:=by unfold Ce;rw[if_neg (by rw[hb];decide)]
  simp only[O7]at hb
  simp only[↓eB,seval,go_sem,hb,BR.fn]
  try simp only[A1,A2]
  repeat' first|exact ck|with_reducible apply And.intro|intro _
  all_goals first|exact hI|exact hc1|(rename_i h;first|exact oI h|exact nah h)|(rename_i _ h _ g;exact sL h g)|decide|omega|(refine A0 [.mv 26 2] ?_;simp only[↓eB,seval,go_sem,bne,Kv,HO,hr1,hr2,BR.mv,BR.fn,List.map_append,List.flatMap_append,Vr.c])
noncomputable def Ct {X:Ctx} {w0:World}:Sy.Spec Tryz.prog X w0:=Be 33 Tryz.call33 (Il) (fun p:(Pr)×(List Vr)×(Bool)×(Int)×Unit=>NA p.1 p.2.1 p.2.2.1 p.2.2.2.1) (fun p:(Pr)×(List Vr)×(Bool)×(Int)×Unit=>Kv p.1 p.2.1 p.2.2.1 p.2.2.2.1) (fun p:(Pr)×(List Vr)×(Bool)×(Int)×Unit=>HO p.1 p.2.1 p.2.2.1 p.2.2.2.1) pr pu pv wW
theorem wX {t:List UInt8} {p:Pr} (h:isT t p=true):B4 t p=adv p:=by unfold B4;rw[if_pos h]
theorem wY {t:List UInt8} {p:Pr} (h:isT t p=false):B4 t p=p:=by unfold B4;rw[if_neg (by rw[h];decide)]
noncomputable def WC {X:Ctx} {w0:World}:Sy.Spec Tryz.prog X w0:=Am 29 Tryz.call29 (acS cStr ac0) (fun p=>Dr p.1) (fun p=>.tup [.inl (.d (.sl zTk ((rxT p.1).1.map Tok.r))),.inl (.v (.int .i64 (rxT p.1).2.1)),.inl (.v (.int .i64 (rxT p.1).2.2))]) (by intro p;rfl) sE
abbrev z4:List C:=[.v (.bool false),.v (.bool false),.v (.bool false),.v (.bool false)]
abbrev cN:C:=.v (.slice none 0 0)
abbrev fSt (nm c1 c2 c3:C) (q:Pr) (se:List (Nat×Bool×SV)) (ex:List (Nat×Ch)):St:=⟨(2,true,.one (.p 2 0 0))::(8,true,.one (.p 26 0 0))::(9,true,.one (.p 9 0 0))::se,(2,.vec 0 z4 [[.v (.string (bs [])),cN,cN,cN]])::(9,.vec 0 z4 [[nm,c1,c2,c3]])::(26,.vec 0 zPr [q.c])::ex⟩
abbrev ZJ (s:List UInt8):Prop:=Dr s
abbrev Im (s:List UInt8):SV:=.tup [.inr (funF s).1.c,.inl (.v (.int .i64 (funF s).2.1)),.inl (.v (.int .i64 (funF s).2.2))]
attribute[local go_sem] Ct in
theorem wZ:AP Tryz.prog 10 (acS (cStr) ac0) (fun p:(List UInt8×Unit)=>ZJ p.1) (fun p:(List UInt8×Unit)=>Im p.1):=by
 rintro ⟨s,_u⟩ w fz xs hc hfz hl hx
 refine bN Tryz.func10 rfl w fz (acS (cStr) ac0) (fun p:(List UInt8×Unit)=>Im p.1) _ xs hfz hl hx (jN rfl) ?_
 clear hx hl hfz xs
 simp only[Tryz.f10]
 have hs:Dr s:=hc
 have hok:=bk s (s.length:Int)
 refine E6 [WC] [] ?_
 simp only[↓eB,seval,go_sem]
 refine E6 [WC] [] ?_
 simp only[↓eB,seval,go_sem,WC]
 refine⟨hs,?_⟩
 refine E6 [WC] [] ?_
 simp only[↓eB,seval,go_sem]
 simp only[A1,A2]
 refine⟨fun he=>?_,fun he=>?_⟩
 ·have hr:funF s=(fn0,(rxT s).2.1,(rxT s).2.2):=by unfold funF;rw[if_pos he]
  refine A0 [] ?_;simp only[↓eB,seval,go_sem,bne,Im,hr,Fn.c]
 have hr0:funF s=if (fp6 (rxT s).1 (s.length:Int)).e != 0 then (fn0,(fp6 (rxT s).1 (s.length:Int)).at',(fp6 (rxT s).1 (s.length:Int)).e) else (⟨Bi (hdP (rxT s).1 (s.length:Int)),(fp3 (rxT s).1 (s.length:Int)).1,(fp4 (rxT s).1 (s.length:Int)).1,(fp5 (rxT s).1 (s.length:Int)).1⟩,0,0):=by
  unfold funF;rw[if_neg (by rw[he];decide)]
 have h1:=fZ s (s.length:Int)
 have h2:=h1.trans (DO h1.ok)
 have h3:=fb s (s.length:Int)
 generalize hT:(rxT s).1=T at hok hr0 h1 h2 h3
 generalize hn:(s.length:Int)=N at hok hr0 h1 h2 h3
 refine E6 [Ap,BE,BV,Bo,Au,BW,Av,Ct,FD] [] ?_
 simp only[↓eB,seval,go_sem,hn]
 refine E6 [Ap,BE,BV,Bo,Au,BW,Av,Ct,FD] [] ?_
 simp only[↓eB,seval,go_sem]
 refine E6 [Ap,BE,BV,Bo,Au,BW,Av,Ct,FD] [] ?_
 simp only[↓eB,seval,go_sem]
 refine⟨hok,?_⟩
 refine E6 [Ap,BE,BV,Bo,Au,BW,Av,Ct,FD] [] ?_
 simp only[↓eB,seval,go_sem]
 refine⟨h1.ok,?_⟩
 refine E6 [Ap,BE,BV,Bo,Au,BW,Av,Ct,FD] [] ?_
 simp only[↓eB,seval,go_sem]
 refine⟨h2.ok,?_⟩
 refine QH (Y:=List Vr×Pr) (fun y=>y=fp3 T N) (fun y=>fSt (.v (.string (bs (Bi (hdP T N))))) (.s 1000) cN cN y.2 [] [(1000,.vec 0 zVc (y.1.map Vr.c))]) [Ap,BE,BV,Bo,Au,BW,Av,Ct,FD] [] ?_ ?_
 ·cases i0:isT [41] (hd2 T N) with
  |true=>
   have j0:=i0
   simp only[hd2,hdP,p0]at j0
   simp only[↓eB,seval,go_sem,B4,j0,adv]
   refine⟨h3.ok,([],adv (hd2 T N)),by simp[fp3,O9,i0],?_⟩
   refine A4 [.nilr 9 0 1 1000 zVc] ?_;simp only[↓eB,seval,go_sem,hd2,hdP,p0,adv]
  |false=>
   have j0:=i0
   simp only[hd2,hdP,p0]at j0
   simp only[↓eB,seval,go_sem,B4,j0]
   refine⟨h3.ok,?_⟩
   refine AH (Y:=Nat×List Vr×Pr) (fun y=>okP y.2.2∧(y.2.2.e=0→(y.2.2.l.length:Int)+1≤y.2.2.i+(y.1:Int))∧(y.2.2.e=0→(y.2.1.length:Int)≤y.2.2.i)∧KG y.1 y.2.1 y.2.2=fp3 T N)
    (fun y=>fSt (.v (.string (bs (Bi (hdP T N))))) (.s 1000) cN cN y.2.2 [] [(1000,.vec 0 zVc (y.2.1.map Vr.c))])
    (fun y=>y.1) ((hd2 T N).l.length+1,[],hd2 T N) ⟨h3.ok,fun _=>by have:=h3.ok.1;simp only;omega,fun _=>by simpa using h3.ok.1,by simp[fp3,O9,i0]⟩ ?_ ?_
   ·refine A4 [.nilr 9 0 1 1000 zVc] ?_;simp only[↓eB,seval,go_sem,hd2,hdP,p0]
   ·rintro ⟨k,l,q⟩ ⟨g1,g2,g3,g4⟩
    refine Ab [Ap,BE,BV,Bo,Au,BW,Av,Ct,FD] [] _ _ _ ?_
    dsimp only at g1 g2 g3 g4
    cases he:(q.e==0) with
    |false=>
     have hr2:(l,q)=fp3 T N:=by rw[← g4];cases k<;>simp[KG,he]
     simp only[↓eB,seval,go_sem,he]
     refine⟨(l,q),hr2,?_⟩
     refine A4 [] ?_;simp only[↓eB,seval,go_sem,BR.fn]
    |true=>
     have he0:q.e=0:=by simpa using he
     obtain⟨k',rfl⟩:∃k',k=k'+1:=⟨k-1,by have:=g2 he0;have:=g1.2.1;omega⟩
     simp only[KG,he,if_true]at g4
     have ht:=fU (t:=[42]) g1
     have hm:=ht.trans (PT (l:=l) (most:=6) ht.ok)
     have hle:l.length≤4096:=by have:=g3 he0;have:=g1.2.1;have:=g1.2.2.1;omega
     have hml:=O8 l (isT [42] q) 6 (B4 [42] q)
     cases it:isT [41] (Ce l 6 (B4 [42] q)) with
     |true=>
      rw[if_pos it]at g4
      have e41:B4 [41] (Ce l 6 (B4 [42] q))=adv (Ce l 6 (B4 [42] q)):=wX it
      simp only[↓eB,seval,go_sem,he,it,QQ,e41]
      try simp only[A1,A2]
      repeat' first|exact ck|with_reducible apply And.intro|intro _
      all_goals try first|exact g1|exact ht.ok|exact hle|exact hm.ok|(rename_i h;first|exact oI h|exact nah h)|(rename_i _ h _ g;exact sL h g)|decide|omega
      refine⟨(Dc l (isT [42] q) 6 (B4 [42] q),adv (Ce l 6 (B4 [42] q))),g4,BP (t:=fSt (.v (.string (bs (Bi (hdP T N))))) (.s 47) cN cN (adv (Ce l 6 (B4 [42] q))) [] [(47,.vec 0 zVc ((Dc l (isT [42] q) 6 (B4 [42] q)).map Vr.c))]) ?_ ?_⟩
      ·refine A4 [] ?_;simp only[↓eB,seval,go_sem,BR.fn,adv]
      ·refine A4 [.mv 47 1000] ?_;simp only[↓eB,seval,go_sem,BR.fn,BR.mv]
     |false=>
      rw[if_neg (by rw[it];decide)]at g4
      have hw:=Ae (t:=[44]) hm.ok
      have e41:B4 [41] (Ce l 6 (B4 [42] q))=Ce l 6 (B4 [42] q):=wY it
      simp only[↓eB,seval,go_sem,he,it,QQ,e41]
      try simp only[A1,A2]
      repeat' first|exact ck|with_reducible apply And.intro|intro _
      all_goals try first|exact g1|exact ht.ok|exact hle|exact hm.ok|(rename_i h;first|exact oI h|exact nah h)|(rename_i _ h _ g;exact sL h g)|decide|omega
      refine⟨(k',Dc l (isT [42] q) 6 (B4 [42] q),AD [44] (Ce l 6 (B4 [42] q))),⟨hw.ok,?_,?_,g4⟩,Nat.lt_succ_self _,BP (t:=fSt (.v (.string (bs (Bi (hdP T N))))) (.s 47) cN cN (AD [44] (Ce l 6 (B4 [42] q))) [] [(47,.vec 0 zVc ((Dc l (isT [42] q) 6 (B4 [42] q)).map Vr.c))]) ?_ ?_⟩
      ·exact fun hw0=>by have h5:=g2 he0;have hi1:=hm.i;have e:=Sd hm.ok hw0;dsimp only;rw[hw.l,hm.l];omega
      ·exact fun hw0=>by have h5:=g3 he0;have hi1:=hm.i;have e:=Sd hm.ok hw0;dsimp only;omega
      ·refine A4 [] ?_;simp only[↓eB,seval,go_sem,BR.fn]
      ·refine A4 [.mv 47 1000] ?_;simp only[↓eB,seval,go_sem,BR.fn,BR.mv]
 rintro ⟨ps,q⟩ hy
 obtain⟨hps,hq⟩:ps=(fp3 T N).1∧q=(fp3 T N).2:=⟨congrArg (·.1) hy,congrArg (·.2) hy⟩
 have hqk:okP q:=by rw[hq];exact(ZY h3.ok).ok
 have hqI:=hqk.i
 refine QH (Y:=Pr) (fun y=>y=EQ q) (fun y=>fSt (.v (.string (bs (Bi (hdP T N))))) (.s 1000) cN cN y [] [(1000,.vec 0 zVc (ps.map Vr.c))]) [Ap,BE,BV,Bo,Au,BW,Av,Ct,FD] [] ?_ ?_
 ·cases i1:isT [123] q with
  |false=>
   have e1:EQ q=BG 51 q:=by unfold EQ;rw[if_neg (by rw[i1];decide)]
   simp only[↓eB,seval,go_sem,i1]
   try simp only[A1,A2]
   repeat' first|exact ck|with_reducible apply And.intro|intro _
   all_goals try first|exact hqI|exact hqk|(rename_i h;first|exact oI h|exact nah h)|(rename_i _ h _ g;exact sL h g)|decide|omega
   refine⟨_,rfl,?_⟩
   rw[e1]
   refine A4 [] ?_;simp only[↓eB,seval,go_sem,BR.fn]
  |true=>
  cases ob:C7 q with
  |false=>
   have e1:EQ q=BG 51 (AG q):=by unfold EQ;rw[if_pos i1,if_neg (by rw[ob];decide)]
   have ho:=(Js hqk ob).ok
   have hoI:=ho.i
   simp only[↓eB,seval,go_sem,i1,ob]
   try simp only[A1,A2]
   repeat' first|exact ck|with_reducible apply And.intro|intro _
   all_goals try first|exact hqI|exact hqk|exact ho|exact hoI|(rename_i h;first|exact oI h|exact nah h)|(rename_i _ h _ g;exact sL h g)|decide|omega
   refine⟨_,rfl,?_⟩
   rw[e1]
   refine A4 [] ?_;simp only[↓eB,seval,go_sem,BR.fn]
  |true=>
   have e1:EQ q=adv (AG q):=by unfold EQ;rw[if_pos i1,if_pos ob]
   simp only[↓eB,seval,go_sem,i1,ob]
   try simp only[A1,A2]
   repeat' first|exact ck|with_reducible apply And.intro|intro _
   all_goals try first|exact hqI|exact hqk|(rename_i h;first|exact oI h|exact nah h)|(rename_i _ h _ g;exact sL h g)|decide|omega
   refine⟨_,rfl,?_⟩
   rw[e1]
   refine A4 [] ?_;simp only[↓eB,seval,go_sem,BR.fn,adv]
 rintro q2 hq2
 have hk2:okP q2:=by
  rw[hq2];unfold EQ
  split
  ·rename_i hi
   split
   ·rename_i hb;exact(DH hqk hb (Aa hi).2).ok
   ·rename_i hb;exact(DG 51 (Js hqk (by simpa using hb)).ok).ok
  ·exact(DG 51 hqk).ok
 refine QH (Y:=List Vr×Pr) (fun y=>y=RM q2) (fun y=>fSt (.v (.string (bs (Bi (hdP T N))))) (.s 1000) (.s 1001) cN y.2 [] [(1000,.vec 0 zVc (ps.map Vr.c)),(1001,.vec 0 zVc (y.1.map Vr.c))]) [Ap,BE,BV,Bo,Au,BW,Av,Ct,FD] [] ?_ ?_
 ·simp only[↓eB,seval,go_sem]
  refine AH (Y:=Nat×List Vr×Pr) (fun y=>okP y.2.2∧((y.2.2.l.length:Int)≤y.2.2.i+(y.1:Int))∧((y.2.1.length:Int)≤y.2.2.i)∧Hv y.1 y.2.1 y.2.2=RM q2)
    (fun y=>fSt (.v (.string (bs (Bi (hdP T N))))) (.s 1000) (.s 1001) cN y.2.2 [] [(1000,.vec 0 zVc (ps.map Vr.c)),(1001,.vec 0 zVc (y.2.1.map Vr.c))])
    (fun y=>y.1) (q2.l.length,[],q2) ⟨hk2,by have:=hk2.1;simp only;omega,by simpa using hk2.1,rfl⟩ ?_ ?_
  ·refine A4 [.nilr 9 0 2 1001 zVc] ?_;simp only[↓eB,seval,go_sem,BR.fn]
  ·rintro ⟨k,l,r⟩ ⟨g1,g2,g3,g4⟩
   refine Ab [Ap,BE,BV,Bo,Au,BW,Av,Ct,FD] [] _ _ _ ?_
   dsimp only at g1 g2 g3 g4
   have hrI:=g1.i
   cases hl:Lb r with
   |false=>
    have hr2:(l,r)=RM q2:=by rw[← g4];cases k<;>simp[Hv,hl]
    unfold Lb at hl
    simp only[↓eB,seval,go_sem,hl]
    try simp only[A1,A2]
    repeat' first|exact ck|with_reducible apply And.intro|intro _
    all_goals try first|exact hrI|(rename_i h;first|exact oI h|exact nah h)|(rename_i _ h _ g;exact sL h g)|decide|omega
    refine⟨(l,r),hr2,?_⟩
    refine A4 [] ?_;simp only[↓eB,seval,go_sem,BR.fn]
   |true=>
    have hlt:=(Sh hl).2
    have ha:=C8 g1 hlt (Sh hl).1
    have hai:=DF g1 hlt
    obtain⟨k',rfl⟩:∃k',k=k'+1:=⟨k-1,by omega⟩
    simp only[Hv,hl,if_true]at g4
    have hm:=ha.trans (PT (l:=l) (most:=20) ha.ok)
    have hm2:=PT (l:=l) (most:=20) ha.ok
    have hle:l.length≤4096:=by have:=g1.2.1;have:=g1.2.2.1;omega
    have hml:=O8 l (isT tPtr r) 20 (adv r)
    have hw:=Ae (t:=[59]) hm.ok
    unfold Lb at hl
    simp only[↓eB,seval,go_sem,hl,QQ]
    try simp only[A1,A2]
    repeat' first|exact ck|with_reducible apply And.intro|intro _
    all_goals try first|exact hrI|exact ha.ok|exact hle|exact hm.ok|(rename_i h;first|exact oI h|exact nah h)|(rename_i _ h _ g;exact sL h g)|decide|omega
    refine⟨(k',Dc l (isT tPtr r) 20 (adv r),AD [59] (Ce l 20 (adv r))),⟨hw.ok,?_,?_,g4⟩,Nat.lt_succ_self _,BP (t:=fSt (.v (.string (bs (Bi (hdP T N))))) (.s 1000) (.s 87) cN (AD [59] (Ce l 20 (adv r))) [] [(1000,.vec 0 zVc (ps.map Vr.c)),(87,.vec 0 zVc ((Dc l (isT tPtr r) 20 (adv r)).map Vr.c))]) ?_ ?_⟩
    ·have hi1:=hm2.i;have hi2:=hw.i;dsimp only;rw[hw.l,hm.l];omega
    ·have hi1:=hm2.i;have hi2:=hw.i;dsimp only;omega
    ·refine A4 [] ?_;simp only[↓eB,seval,go_sem,BR.fn,adv]
    ·refine A4 [.mv 87 1001] ?_;simp only[↓eB,seval,go_sem,BR.fn,BR.mv]
 rintro ⟨ls,q3⟩ hy3
 have hk3:okP q3:=by
  have e:q3=(RM q2).2:=congrArg (·.2) hy3
  rw[e];exact(UH _ _ _ hk2).ok
 have hd3:=Ij hk3
 have hb3:=V8 (Jv 41) hk3
 refine E6 [Ap,BE,BV,Bo,Au,BW,Av,Ct,FD] [] ?_
 simp only[↓eB,seval,go_sem,O3]
 refine⟨⟨hk3,hd3⟩,?_⟩
 generalize hbd:stmtsW (AW 41) q3=B at hb3
 obtain⟨bd,q4⟩:=B
 dsimp only at hb3 ⊢
 have f4:fp4 T N=(ls,q3):=by unfold fp4;rw[← hq,← hq2,← hy3]
 have f5:fp5 T N=(bd,q4):=by unfold fp5;rw[f4];exact hbd
 have f6:fp6 T N=PU q4:=by unfold fp6;rw[f5]
 have hk4:=hb3.ok
 have hI4:=hk4.i
 refine QH (Y:=Pr) (fun y=>y=PU q4) (fun y=>fSt (.v (.string (bs (Bi (hdP T N))))) (.s 1000) (.s 1001) (smS bd) y [] [(1000,.vec 0 zVc (ps.map Vr.c)),(1001,.vec 0 zVc (ls.map Vr.c))]) [Ap,BE,BV,Bo,Au,BW,Av,Ct,FD] [] ?_ ?_
 ·cases hb:(q4.e==0&&decide (q4.i<(q4.l.length:Int))) with
  |true=>
   have e1:PU q4=BG 51 q4:=by unfold PU;rw[if_pos hb]
   simp only[↓eB,seval,go_sem,hb]
   try simp only[A1,A2]
   repeat' first|exact ck|with_reducible apply And.intro|intro _
   all_goals try first|exact hI4|exact hk4|(rename_i h;first|exact oI h|exact nah h)|(rename_i _ h _ g;exact sL h g)|decide|omega
   refine⟨_,rfl,?_⟩
   rw[e1]
   refine A4 [] ?_;simp only[↓eB,seval,go_sem,BR.fn,smS]
  |false=>
   have e1:PU q4=q4:=by unfold PU;rw[if_neg (by rw[hb];decide)]
   simp only[↓eB,seval,go_sem,hb]
   try simp only[A1,A2]
   repeat' first|exact ck|with_reducible apply And.intro|intro _
   all_goals try first|exact hI4|exact hk4|(rename_i h;first|exact oI h|exact nah h)|(rename_i _ h _ g;exact sL h g)|decide|omega
   refine⟨_,rfl,?_⟩
   rw[e1]
   refine A4 [] ?_;simp only[↓eB,seval,go_sem,BR.fn,smS]
 rintro q5 hq5
 rw[f6,← hq5,f4,f5,← hps]at hr0
 refine E6 [Ap,BE,BV,Bo,Au,BW,Av,Ct,FD] [] ?_
 simp only[↓eB,seval,go_sem]
 simp only[A1,A2]
 refine⟨fun he5=>?_,fun he5=>?_⟩
 ·have hr:funF s=(fn0,q5.at',q5.e):=by rw[hr0,if_pos he5]
  try simp only[A1,A2]
  repeat' first|exact ck|with_reducible apply And.intro|intro _
  all_goals try first|(rename_i h;first|exact oI h|exact nah h)|(rename_i _ h _ g;exact sL h g)|decide|omega
  refine A0 [] ?_;simp only[↓eB,seval,go_sem,bne,Im,hr,Fn.c]
 ·have hr:funF s=(⟨Bi (hdP T N),ps,ls,bd⟩,0,0):=by rw[hr0,if_neg (by rw[he5];decide)]
  refine Ab [Ap,BE,BV,Bo,Au,BW,Av,Ct,FD] [] _ _ _ ?_
  simp only[↓eB,seval,go_sem]
  refine A0 [.fz 1000,.fz 1001] ?_;simp only[↓eB,seval,go_sem,bne,Im,hr,Fn.c,smS,BR.ds,BR.fz,zVr]
theorem pw:∀p:(List UInt8×Unit),((fun p:(List UInt8×Unit)=>Im p.1) p).names=[]:=by intro p;first|rfl|simp[SV.names,C.names]
noncomputable def QR {X:Ctx} {w0:World}:Sy.Spec Tryz.prog X w0:=Am 10 Tryz.call10 (acS (cStr) ac0) (fun p:(List UInt8×Unit)=>ZJ p.1) (fun p:(List UInt8×Unit)=>Im p.1) pw wZ
end Go.Proofs.YtbiepiggmagfcaaGreatDoor
