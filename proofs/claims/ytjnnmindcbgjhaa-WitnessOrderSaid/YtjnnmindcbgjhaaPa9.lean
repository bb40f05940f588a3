/- One more of a list; functions, walked. No conditions but those in each statement. -/
import Derived.Test.YtjnnmindcbgjhaaPa8
set_option linter.unusedVariables false
set_option linter.unusedSimpArgs false
set_option maxRecDepth 20000
set_option maxHeartbeats 16000000
namespace Go.Proofs.Ytjnnmindcbgjhaa
open Go Go.Sy Go.RowKit
noncomputable def mVr:RowM Vr:=Mv zVc Vr.c CR.nm
theorem Dz:mVr.z=zVc:=rfl
theorem E0:mVr.e=Vr.c:=rfl
theorem kD (a b:Vr) (h:a.c=b.c):a=b:=by
 obtain⟨x,no⟩:=a
 obtain⟨x',no'⟩:=b
 simp only[Vr.c,List.cons.injEq,C.v.injEq,Value.bool.injEq,Value.string.injEq,true_and,and_true]at h
 rw[bs_inj h.1,h.2]
theorem QV:∀l:List Vr,QI mVr.d (l.map Vr.c)=some l
 |[]=>rfl
 |a::l=>by
  have h:mVr.d a.c=some a:=Kv kD a
  simp only[List.map_cons,QI,h,QV l]
theorem kE (p:Pr) (l:List Vr):∀q,some q∈[some ((zPr,[p.c]):MV),none,some ((zVc,l.map Vr.c):MV)]→∀r∈q.2,∀c∈r,c.names=[]:=by
 intro q hq r hr c hc
 simp only[List.mem_cons,List.not_mem_nil,or_false,jS,reduceCtorEq,false_or]at hq
 rcases hq with rfl|rfl
 ·simp only[List.mem_singleton]at hr;subst hr;exact S9 p c hc
 ·obtain⟨v,_,rfl⟩:=List.mem_map.1 hr
  exact CR.nm v c hc
abbrev O6 (p:Pr) (l:List Vr) (ptr:Bool) (most:Int):Prop:=okP p∧l.length≤4096
abbrev Lu (p:Pr) (l:List Vr) (ptr:Bool) (most:Int):SV:=.one (.s 2)
abbrev Jb (p:Pr) (l:List Vr) (ptr:Bool) (most:Int):List (Option MV):=[some (zPr,[(EO l most p).c]),none,some (zVc,(G4 l ptr most p).map Vr.c)]
noncomputable abbrev KL:ArgM ((Pr)×(List Vr)×(Bool)×(Int)×Unit):=(amP (mPr) (amS (mVr) (amD (Zn) (amD (cInt .i64) am0))))
abbrev kF:Prop:=Cq Try.prog 60 ((KL).args 0) (KL).mem (fun p:(Pr)×(List Vr)×(Bool)×(Int)×Unit=>O6 p.1 p.2.1 p.2.2.1 p.2.2.2.1) (fun p:(Pr)×(List Vr)×(Bool)×(Int)×Unit=>Lu p.1 p.2.1 p.2.2.1 p.2.2.2.1) (fun p:(Pr)×(List Vr)×(Bool)×(Int)×Unit=>Jb p.1 p.2.1 p.2.2.1 p.2.2.2.1)
theorem kG:∀p,(fun p:(Pr)×(List Vr)×(Bool)×(Int)×Unit=>O6 p.1 p.2.1 p.2.2.1 p.2.2.2.1) p→DY ((KL).mem p).length ((fun p:(Pr)×(List Vr)×(Bool)×(Int)×Unit=>Jb p.1 p.2.1 p.2.2.1 p.2.2.2.1) p)=true:=by intro p _;rfl
theorem kH:∀p,(fun p:(Pr)×(List Vr)×(Bool)×(Int)×Unit=>O6 p.1 p.2.1 p.2.2.1 p.2.2.2.1) p→BF ((fun p:(Pr)×(List Vr)×(Bool)×(Int)×Unit=>Jb p.1 p.2.1 p.2.2.1 p.2.2.2.1) p).length ((fun p:(Pr)×(List Vr)×(Bool)×(Int)×Unit=>Lu p.1 p.2.1 p.2.2.1 p.2.2.2.1) p)=true:=by intro p _;first|rfl|exact Ak _ _|exact Al _ _|(simp[BF,CV,Ak,Al];done)
theorem kI:∀p,(fun p:(Pr)×(List Vr)×(Bool)×(Int)×Unit=>O6 p.1 p.2.1 p.2.2.1 p.2.2.2.1) p→∀q,some q∈(fun p:(Pr)×(List Vr)×(Bool)×(Int)×Unit=>Jb p.1 p.2.1 p.2.2.1 p.2.2.2.1) p→∀r∈q.2,∀c∈r,c.names=[]:=by intro p _;exact kE _ _
attribute [local go_sem] Pr.c zTk
attribute[local go_sem] Tok.r Aa Ag AQ Af Ae E0 Dz AO ptR Ad AP AZ AC AR AH A8 AM A7 AG As AN in
theorem sE:kF:=by
 rintro ⟨p,l,ptr,most,_u⟩ w M I lab fz xs hc hA hl hx
 refine BQ Try.func60 rfl ((KL).mem ⟨p,l,ptr,most,_u⟩) w M I lab fz [A8,AC,AH] [] ((KL).args 0 ⟨p,l,ptr,most,_u⟩) ((fun p:(Pr)×(List Vr)×(Bool)×(Int)×Unit=>Jb p.1 p.2.1 p.2.2.1 p.2.2.2.1) ⟨p,l,ptr,most,_u⟩) ((fun p:(Pr)×(List Vr)×(Bool)×(Int)×Unit=>Lu p.1 p.2.1 p.2.2.1 p.2.2.2.1) ⟨p,l,ptr,most,_u⟩) xs hA hl hx (fun v hv k hk=>by have:=(KL).an 0 ⟨p,l,ptr,most,_u⟩ v hv k hk;omega) (jN rfl) (jN rfl) ?_
 clear hx hl hA xs
 simp only[Try.f60]
 obtain⟨hc1,hc2⟩:=hc
 dsimp only at hc1 hc2
 have hI:=hc1.i
 cases hb:Oz l most p with
 |true=>
  have hr1:G4 l ptr most p=l:=by unfold G4;rw[if_pos hb]
  have hr2:EO l most p=C7 53 p:=by unfold EO;rw[if_pos hb]
  simp only[Oz]at hb
  simp only[↓eB,seval,go_sem,hb]
  try simp only[A3,A4]
  repeat' first|exact ck|with_reducible apply And.intro|intro _
  all_goals first|exact hI|exact hc1|(rename_i h;first|exact oI h|exact nah h)|(rename_i _ h _ g;exact sL h g)|decide|omega|(refine A0 [.mv 1 2] ?_;simp only[↓eB,seval,go_sem,bne,Lu,Jb,hr1,hr2,CR.mv,CR.fn])
 |false=>
  have hr1:G4 l ptr most p=l++[⟨CY p,ptr⟩]:=by unfold G4;rw[if_neg (by rw[hb];decide)]
  have hr2:EO l most p=BE p:=by unfold EO;rw[if_neg (by rw[hb];decide)]
  simp only[Oz]at hb
  simp only[↓eB,seval,go_sem,hb,zVc,CR.fn]
  try simp only[A3,A4]
  repeat' first|exact ck|with_reducible apply And.intro|intro _
  all_goals first|exact hI|exact hc1|(rename_i h;first|exact oI h|exact nah h)|(rename_i _ h _ g;exact sL h g)|decide|omega|(refine A0 [.mv 26 2] ?_;simp only[↓eB,seval,go_sem,bne,Lu,Jb,hr1,hr2,CR.mv,CR.fn,List.map_append,List.flatMap_append,Vr.c,zVc])
noncomputable def Bo {X:Ctx} {w0:World}:Sy.Spec Try.prog X w0:=DT 60 Try.call60 (KL) (fun p:(Pr)×(List Vr)×(Bool)×(Int)×Unit=>O6 p.1 p.2.1 p.2.2.1 p.2.2.2.1) (fun p:(Pr)×(List Vr)×(Bool)×(Int)×Unit=>Lu p.1 p.2.1 p.2.2.1 p.2.2.2.1) (fun p:(Pr)×(List Vr)×(Bool)×(Int)×Unit=>Jb p.1 p.2.1 p.2.2.1 p.2.2.2.1) kG kH kI sE
noncomputable def ypTok {X:Ctx} {w0:World}:Sy.Spec Try.prog X w0:=DG 53 Try.call53 (acS cStr ac0) (fun p=>Ed p.1) (fun p=>.tup [.inl (.d (.sl zTk ((rxT p.1).1.map Tok.r))),.inl (.v (.int .i64 (rxT p.1).2.1)),.inl (.v (.int .i64 (rxT p.1).2.2))]) (by intro p;rfl) jp
abbrev z4r:List C:=[.v (.bool false),.v (.bool false),.v (.bool false),.v (.bool false)]
abbrev cNr:C:=.v (.slice none 0 0)
abbrev fSt (nm c1 c2 c3:C) (q:Pr) (se:List (Nat×Bool×SV)) (ex:List (Nat×Ch)):St:=⟨(2,true,.one (.p 2 0 0))::(8,true,.one (.p 26 0 0))::(9,true,.one (.p 9 0 0))::se,(2,.vec 0 z4r [[.v (.string (bs [])),cNr,cNr,cNr]])::(9,.vec 0 z4r [[nm,c1,c2,c3]])::(26,.vec 0 zPr [q.c])::ex⟩
abbrev Xo (s:List UInt8):Prop:=Ed s
abbrev KM (s:List UInt8):SV:=.tup [.inr (GI s).1.c,.inl (.v (.int .i64 (GI s).2.1)),.inl (.v (.int .i64 (GI s).2.2))]
theorem sF:Cg Try.prog 39 (acS (cStr) ac0) (fun p:(List UInt8×Unit)=>Xo p.1) (fun p:(List UInt8×Unit)=>KM p.1):=by
 rintro ⟨s,_u⟩ w fz xs hc hfz hl hx
 refine Z2 Try.func39 rfl w fz (acS (cStr) ac0) (fun p:(List UInt8×Unit)=>KM p.1) _ xs hfz hl hx (jN rfl) ?_
 clear hx hl hfz xs
 simp only[Try.f39]
 have hs:Ed s:=hc
 have hok:=V2 s (s.length:Int)
 refine G5 [ypTok] [] ?_
 simp only[↓eB,seval,go_sem]
 refine G5 [ypTok] [] ?_
 simp only[↓eB,seval,go_sem,ypTok,Af,Ae,Ag,AZ,Tok.r,Aa,ptR,Ad,AQ,AP,AO,Dz,E0]
 refine⟨hs,?_⟩
 refine G5 [ypTok] [] ?_
 simp only[↓eB,seval,go_sem,Af,Ae,Ag,AZ,Tok.r,Aa,ptR,Ad,AQ,AP,AO,Dz,E0]
 simp only[A3,A4]
 refine⟨fun he=>?_,fun he=>?_⟩
 ·have hr:GI s=(fn0,(rxT s).2.1,(rxT s).2.2):=by unfold GI;rw[if_pos he]
  refine A0 [] ?_;simp only[↓eB,seval,go_sem,bne,KM,hr,Fn.c]
 have hr0:GI s=if (fp6 (rxT s).1 (s.length:Int)).e != 0 then (fn0,(fp6 (rxT s).1 (s.length:Int)).at',(fp6 (rxT s).1 (s.length:Int)).e) else (⟨CY (hdP (rxT s).1 (s.length:Int)),(fp3 (rxT s).1 (s.length:Int)).1,(fp4 (rxT s).1 (s.length:Int)).1,(fp5 (rxT s).1 (s.length:Int)).1⟩,0,0):=by
  unfold GI;rw[if_neg (by rw[he];decide)]
 have h1:=bD s (s.length:Int)
 have h2:=h1.trans (Fj h1.ok)
 have h3:=sB s (s.length:Int)
 generalize hT:(rxT s).1=T at hok hr0 h1 h2 h3
 generalize hn:(s.length:Int)=N at hok hr0 h1 h2 h3
 refine G5 [A7,AG,AH,AR,A8,AM,AC,Bo,Hd] [] ?_
 simp only[↓eB,seval,go_sem,AR,As,A8,AN,AM,AC,AG,AH,A7,Af,Ae,Ag,AZ,Tok.r,Aa,ptR,Ad,AQ,AP,AO,Dz,E0,Bo,hn]
 refine G5 [A7,AG,AH,AR,A8,AM,AC,Bo,Hd] [] ?_
 simp only[↓eB,seval,go_sem,AR,As,A8,AN,AM,AC,AG,AH,A7,Af,Ae,Ag,AZ,Tok.r,Aa,ptR,Ad,AQ,AP,AO,Dz,E0,Bo]
 refine G5 [A7,AG,AH,AR,A8,AM,AC,Bo,Hd] [] ?_
 simp only[↓eB,seval,go_sem,AR,As,A8,AN,AM,AC,AG,AH,A7,Af,Ae,Ag,AZ,Tok.r,Aa,ptR,Ad,AQ,AP,AO,Dz,E0,Bo]
 refine⟨hok,?_⟩
 refine G5 [A7,AG,AH,AR,A8,AM,AC,Bo,Hd] [] ?_
 simp only[↓eB,seval,go_sem,AR,As,A8,AN,AM,AC,AG,AH,A7,Af,Ae,Ag,AZ,Tok.r,Aa,ptR,Ad,AQ,AP,AO,Dz,E0,Bo]
 refine⟨h1.ok,?_⟩
 refine G5 [A7,AG,AH,AR,A8,AM,AC,Bo,Hd] [] ?_
 simp only[↓eB,seval,go_sem,AR,As,A8,AN,AM,AC,AG,AH,A7,Af,Ae,Ag,AZ,Tok.r,Aa,ptR,Ad,AQ,AP,AO,Dz,E0,Bo]
 refine⟨h2.ok,?_⟩
 refine QU (Y:=List Vr×Pr) (fun y=>y=fp3 T N) (fun y=>fSt (.v (.string (bs (CY (hdP T N))))) (.s 1000) cNr cNr y.2 [] [(1000,.vec 0 zVc (y.1.map Vr.c))]) [A7,AG,AH,AR,A8,AM,AC,Bo,Hd] [] ?_ ?_
 ·cases i0:isT [41] (hd2 T N) with
  |true=>
   have j0:=i0
   simp only[hd2,hdP,p0]at j0
   simp only[↓eB,seval,go_sem,AR,As,A8,AN,AM,AC,AG,AH,A7,Af,Ae,Ag,AZ,Tok.r,Aa,ptR,Ad,AQ,AP,AO,Dz,E0,Bo,Az,j0,adv]
   refine⟨h3.ok,([],adv (hd2 T N)),by simp[fp3,RG,i0],?_⟩
   refine A2 [.nilr 9 0 1 1000 zVc] ?_;simp only[↓eB,seval,go_sem,zVc,hd2,hdP,p0,adv]
  |false=>
   have j0:=i0
   simp only[hd2,hdP,p0]at j0
   simp only[↓eB,seval,go_sem,AR,As,A8,AN,AM,AC,AG,AH,A7,Af,Ae,Ag,AZ,Tok.r,Aa,ptR,Ad,AQ,AP,AO,Dz,E0,Bo,Az,j0]
   refine⟨h3.ok,?_⟩
   refine Ac (Y:=Nat×List Vr×Pr) (fun y=>okP y.2.2∧(y.2.2.e=0→(y.2.2.l.length:Int)+1≤y.2.2.i+(y.1:Int))∧(y.2.2.e=0→(y.2.1.length:Int)≤y.2.2.i)∧NY y.1 y.2.1 y.2.2=fp3 T N)
    (fun y=>fSt (.v (.string (bs (CY (hdP T N))))) (.s 1000) cNr cNr y.2.2 [] [(1000,.vec 0 zVc (y.2.1.map Vr.c))])
    (fun y=>y.1) ((hd2 T N).l.length+1,[],hd2 T N) ⟨h3.ok,fun _=>by have:=h3.ok.1;simp only;omega,fun _=>by simpa using h3.ok.1,by simp[fp3,RG,i0]⟩ ?_ ?_
   ·refine A2 [.nilr 9 0 1 1000 zVc] ?_;simp only[↓eB,seval,go_sem,zVc,hd2,hdP,p0]
   ·rintro ⟨k,l,q⟩ ⟨g1,g2,g3,g4⟩
    refine Aq [A7,AG,AH,AR,A8,AM,AC,Bo,Hd] [] _ _ _ ?_
    dsimp only at g1 g2 g3 g4
    cases he:(q.e==0) with
    |false=>
     have hr2:(l,q)=fp3 T N:=by rw[← g4];cases k<;>simp[NY,he]
     simp only[↓eB,seval,go_sem,AR,As,A8,AN,AM,AC,AG,AH,A7,Af,Ae,Ag,AZ,Tok.r,Aa,ptR,Ad,AQ,AP,AO,Dz,E0,Bo,he]
     refine⟨(l,q),hr2,?_⟩
     refine A2 [] ?_;simp only[↓eB,seval,go_sem,zVc,CR.fn]
    |true=>
     have he0:q.e=0:=by simpa using he
     obtain⟨k',rfl⟩:∃k',k=k'+1:=⟨k-1,by have:=g2 he0;have:=g1.2.1;omega⟩
     simp only[NY,he,if_true]at g4
     have ht:=bN (t:=[42]) g1
     have hm:=ht.trans (Pl (l:=l) (most:=6) ht.ok)
     have hle:l.length≤4096:=by have:=g3 he0;have:=g1.2.1;have:=g1.2.2.1;omega
     have hml:=Vg l (isT [42] q) 6 (Az [42] q)
     cases it:isT [41] (EO l 6 (Az [42] q)) with
     |true=>
      rw[if_pos it]at g4
      have e41:Az [41] (EO l 6 (Az [42] q))=adv (EO l 6 (Az [42] q)):=bQ it
      simp only[↓eB,seval,go_sem,AR,As,A8,AN,AM,AC,AG,AH,A7,Af,Ae,Ag,AZ,Tok.r,Aa,ptR,Ad,AQ,AP,AO,Dz,E0,Bo,he,it,zVc,QV,e41]
      try simp only[A3,A4]
      repeat' first|exact ck|with_reducible apply And.intro|intro _
      all_goals try first|exact g1|exact ht.ok|exact hle|exact hm.ok|(rename_i h;first|exact oI h|exact nah h)|(rename_i _ h _ g;exact sL h g)|decide|omega
      refine⟨(G4 l (isT [42] q) 6 (Az [42] q),adv (EO l 6 (Az [42] q))),g4,B4 (t:=fSt (.v (.string (bs (CY (hdP T N))))) (.s 47) cNr cNr (adv (EO l 6 (Az [42] q))) [] [(47,.vec 0 zVc ((G4 l (isT [42] q) 6 (Az [42] q)).map Vr.c))]) ?_ ?_⟩
      ·refine A2 [] ?_;simp only[↓eB,seval,go_sem,zVc,CR.fn,adv]
      ·refine A2 [.mv 47 1000] ?_;simp only[↓eB,seval,go_sem,zVc,CR.fn,CR.mv]
     |false=>
      rw[if_neg (by rw[it];decide)]at g4
      have hw:=BH (t:=[44]) hm.ok
      have e41:Az [41] (EO l 6 (Az [42] q))=EO l 6 (Az [42] q):=bR it
      simp only[↓eB,seval,go_sem,AR,As,A8,AN,AM,AC,AG,AH,A7,Af,Ae,Ag,AZ,Tok.r,Aa,ptR,Ad,AQ,AP,AO,Dz,E0,Bo,he,it,zVc,QV,e41]
      try simp only[A3,A4]
      repeat' first|exact ck|with_reducible apply And.intro|intro _
      all_goals try first|exact g1|exact ht.ok|exact hle|exact hm.ok|(rename_i h;first|exact oI h|exact nah h)|(rename_i _ h _ g;exact sL h g)|decide|omega
      refine⟨(k',G4 l (isT [42] q) 6 (Az [42] q),AX [44] (EO l 6 (Az [42] q))),⟨hw.ok,?_,?_,g4⟩,Nat.lt_succ_self _,B4 (t:=fSt (.v (.string (bs (CY (hdP T N))))) (.s 47) cNr cNr (AX [44] (EO l 6 (Az [42] q))) [] [(47,.vec 0 zVc ((G4 l (isT [42] q) 6 (Az [42] q)).map Vr.c))]) ?_ ?_⟩
      ·exact fun hw0=>by have h5:=g2 he0;have hi1:=hm.i;have e:=SK hm.ok hw0;dsimp only;rw[hw.l,hm.l];omega
      ·exact fun hw0=>by have h5:=g3 he0;have hi1:=hm.i;have e:=SK hm.ok hw0;dsimp only;omega
      ·refine A2 [] ?_;simp only[↓eB,seval,go_sem,zVc,CR.fn]
      ·refine A2 [.mv 47 1000] ?_;simp only[↓eB,seval,go_sem,zVc,CR.fn,CR.mv]
 rintro ⟨ps,q⟩ hy
 obtain⟨hps,hq⟩:ps=(fp3 T N).1∧q=(fp3 T N).2:=⟨congrArg (·.1) hy,congrArg (·.2) hy⟩
 have hqk:okP q:=by rw[hq];exact(kC h3.ok).ok
 have hqI:=hqk.i
 refine QU (Y:=Pr) (fun y=>y=Hs q) (fun y=>fSt (.v (.string (bs (CY (hdP T N))))) (.s 1000) cNr cNr y [] [(1000,.vec 0 zVc (ps.map Vr.c))]) [A7,AG,AH,AR,A8,AM,AC,Bo,Hd] [] ?_ ?_
 ·cases i1:isT [123] q with
  |false=>
   have e1:Hs q=C7 51 q:=by unfold Hs;rw[if_neg (by rw[i1];decide)]
   simp only[↓eB,seval,go_sem,AR,As,A8,AN,AM,AC,AG,AH,A7,Af,Ae,Ag,AZ,Tok.r,Aa,ptR,Ad,AQ,AP,AO,Dz,E0,i1,zVc]
   try simp only[A3,A4]
   repeat' first|exact ck|with_reducible apply And.intro|intro _
   all_goals try first|exact hqI|exact hqk|(rename_i h;first|exact oI h|exact nah h)|(rename_i _ h _ g;exact sL h g)|decide|omega
   refine⟨_,rfl,?_⟩
   rw[e1]
   refine A2 [] ?_;simp only[↓eB,seval,go_sem,zVc,CR.fn]
  |true=>
  cases ob:DH q with
  |false=>
   have e1:Hs q=C7 51 (Ai q):=by unfold Hs;rw[if_pos i1,if_neg (by rw[ob];decide)]
   have ho:=(MT hqk ob).ok
   have hoI:=ho.i
   simp only[↓eB,seval,go_sem,AR,As,A8,AN,AM,AC,AG,AH,A7,Af,Ae,Ag,AZ,Tok.r,Aa,ptR,Ad,AQ,AP,AO,Dz,E0,i1,ob,zVc]
   try simp only[A3,A4]
   repeat' first|exact ck|with_reducible apply And.intro|intro _
   all_goals try first|exact hqI|exact hqk|exact ho|exact hoI|(rename_i h;first|exact oI h|exact nah h)|(rename_i _ h _ g;exact sL h g)|decide|omega
   refine⟨_,rfl,?_⟩
   rw[e1]
   refine A2 [] ?_;simp only[↓eB,seval,go_sem,zVc,CR.fn]
  |true=>
   have e1:Hs q=adv (Ai q):=by unfold Hs;rw[if_pos i1,if_pos ob]
   simp only[↓eB,seval,go_sem,AR,As,A8,AN,AM,AC,AG,AH,A7,Af,Ae,Ag,AZ,Tok.r,Aa,ptR,Ad,AQ,AP,AO,Dz,E0,i1,ob,zVc]
   try simp only[A3,A4]
   repeat' first|exact ck|with_reducible apply And.intro|intro _
   all_goals try first|exact hqI|exact hqk|(rename_i h;first|exact oI h|exact nah h)|(rename_i _ h _ g;exact sL h g)|decide|omega
   refine⟨_,rfl,?_⟩
   rw[e1]
   refine A2 [] ?_;simp only[↓eB,seval,go_sem,zVc,CR.fn,adv]
 rintro q2 hq2
 have hk2:okP q2:=by
  rw[hq2];unfold Hs
  split
  ·rename_i hi
   split
   ·rename_i hb;exact(Fg hqk hb (BB hi).2).ok
   ·rename_i hb;exact(Ff 51 (MT hqk (by simpa using hb)).ok).ok
  ·exact(Ff 51 hqk).ok
 refine QU (Y:=List Vr×Pr) (fun y=>y=TP q2) (fun y=>fSt (.v (.string (bs (CY (hdP T N))))) (.s 1000) (.s 1001) cNr y.2 [] [(1000,.vec 0 zVc (ps.map Vr.c)),(1001,.vec 0 zVc (y.1.map Vr.c))]) [A7,AG,AH,AR,A8,AM,AC,Bo,Hd] [] ?_ ?_
 ·simp only[↓eB,seval,go_sem,AR,As,A8,AN,AM,AC,AG,AH,A7,Af,Ae,Ag,AZ,Tok.r,Aa,ptR,Ad,AQ,AP,AO,Dz,E0,zVc]
  refine Ac (Y:=Nat×List Vr×Pr) (fun y=>okP y.2.2∧((y.2.2.l.length:Int)≤y.2.2.i+(y.1:Int))∧((y.2.1.length:Int)≤y.2.2.i)∧MS y.1 y.2.1 y.2.2=TP q2)
    (fun y=>fSt (.v (.string (bs (CY (hdP T N))))) (.s 1000) (.s 1001) cNr y.2.2 [] [(1000,.vec 0 zVc (ps.map Vr.c)),(1001,.vec 0 zVc (y.2.1.map Vr.c))])
    (fun y=>y.1) (q2.l.length,[],q2) ⟨hk2,by have:=hk2.1;simp only;omega,by simpa using hk2.1,rfl⟩ ?_ ?_
  ·refine A2 [.nilr 9 0 2 1001 zVc] ?_;simp only[↓eB,seval,go_sem,zVc,CR.fn]
  ·rintro ⟨k,l,r⟩ ⟨g1,g2,g3,g4⟩
   refine Aq [A7,AG,AH,AR,A8,AM,AC,Bo,Hd] [] _ _ _ ?_
   dsimp only at g1 g2 g3 g4
   have hrI:=g1.i
   cases hl:MR r with
   |false=>
    have hr2:(l,r)=TP q2:=by rw[← g4];cases k<;>simp[MS,hl]
    unfold MR at hl
    simp only[↓eB,seval,go_sem,AR,As,A8,AN,AM,AC,AG,AH,A7,Af,Ae,Ag,AZ,Tok.r,Aa,ptR,Ad,AQ,AP,AO,Dz,E0,Bo,hl,zVc]
    try simp only[A3,A4]
    repeat' first|exact ck|with_reducible apply And.intro|intro _
    all_goals try first|exact hrI|(rename_i h;first|exact oI h|exact nah h)|(rename_i _ h _ g;exact sL h g)|decide|omega
    refine⟨(l,r),hr2,?_⟩
    refine A2 [] ?_;simp only[↓eB,seval,go_sem,zVc,CR.fn]
   |true=>
    have hlt:=(SH hl).2
    have ha:=DI g1 hlt (SH hl).1
    have hai:=Ek g1 hlt
    obtain⟨k',rfl⟩:∃k',k=k'+1:=⟨k-1,by omega⟩
    simp only[MS,hl,if_true]at g4
    have hm:=ha.trans (Pl (l:=l) (most:=20) ha.ok)
    have hm2:=Pl (l:=l) (most:=20) ha.ok
    have hle:l.length≤4096:=by have:=g1.2.1;have:=g1.2.2.1;omega
    have hml:=Vg l (isT tPtr r) 20 (adv r)
    have hw:=BH (t:=[59]) hm.ok
    unfold MR at hl
    simp only[↓eB,seval,go_sem,AR,As,A8,AN,AM,AC,AG,AH,A7,Af,Ae,Ag,AZ,Tok.r,Aa,ptR,Ad,AQ,AP,AO,Dz,E0,Bo,hl,zVc,QV]
    try simp only[A3,A4]
    repeat' first|exact ck|with_reducible apply And.intro|intro _
    all_goals try first|exact hrI|exact ha.ok|exact hle|exact hm.ok|(rename_i h;first|exact oI h|exact nah h)|(rename_i _ h _ g;exact sL h g)|decide|omega
    refine⟨(k',G4 l (isT tPtr r) 20 (adv r),AX [59] (EO l 20 (adv r))),⟨hw.ok,?_,?_,g4⟩,Nat.lt_succ_self _,B4 (t:=fSt (.v (.string (bs (CY (hdP T N))))) (.s 1000) (.s 87) cNr (AX [59] (EO l 20 (adv r))) [] [(1000,.vec 0 zVc (ps.map Vr.c)),(87,.vec 0 zVc ((G4 l (isT tPtr r) 20 (adv r)).map Vr.c))]) ?_ ?_⟩
    ·have hi1:=hm2.i;have hi2:=hw.i;dsimp only;rw[hw.l,hm.l];omega
    ·have hi1:=hm2.i;have hi2:=hw.i;dsimp only;omega
    ·refine A2 [] ?_;simp only[↓eB,seval,go_sem,zVc,CR.fn,adv]
    ·refine A2 [.mv 87 1001] ?_;simp only[↓eB,seval,go_sem,zVc,CR.fn,CR.mv]
 rintro ⟨ls,q3⟩ hy3
 have hk3:okP q3:=by
  have e:q3=(TP q2).2:=congrArg (·.2) hy3
  rw[e];exact(Xm _ _ _ hk2).ok
 have hd3:=KR hk3
 have hb3:=UN (Nt 41) hk3
 refine G5 [A7,AG,AH,AR,A8,AM,AC,Bo,Hd] [] ?_
 simp only[↓eB,seval,go_sem,AR,As,A8,AN,AM,AC,AG,AH,A7,Af,Ae,Ag,AZ,Tok.r,Aa,ptR,Ad,AQ,AP,AO,Dz,E0,Bo,PC,zVc]
 refine⟨⟨hk3,hd3⟩,?_⟩
 generalize hbd:GH (B6 41) q3=B at hb3
 obtain⟨bd,q4⟩:=B
 dsimp only at hb3 ⊢
 have f4:fp4 T N=(ls,q3):=by unfold fp4;rw[← hq,← hq2,← hy3]
 have f5:fp5 T N=(bd,q4):=by unfold fp5;rw[f4];exact hbd
 have f6:fp6 T N=Pm q4:=by unfold fp6;rw[f5]
 have hk4:=hb3.ok
 have hI4:=hk4.i
 refine QU (Y:=Pr) (fun y=>y=Pm q4) (fun y=>fSt (.v (.string (bs (CY (hdP T N))))) (.s 1000) (.s 1001) (smS bd) y [] [(1000,.vec 0 zVc (ps.map Vr.c)),(1001,.vec 0 zVc (ls.map Vr.c))]) [A7,AG,AH,AR,A8,AM,AC,Bo,Hd] [] ?_ ?_
 ·cases hb:(q4.e==0&&decide (q4.i<(q4.l.length:Int))) with
  |true=>
   have e1:Pm q4=C7 51 q4:=by unfold Pm;rw[if_pos hb]
   simp only[↓eB,seval,go_sem,AR,As,A8,AN,AM,AC,AG,AH,A7,Af,Ae,Ag,AZ,Tok.r,Aa,ptR,Ad,AQ,AP,AO,Dz,E0,Bo,hb,zVc]
   try simp only[A3,A4]
   repeat' first|exact ck|with_reducible apply And.intro|intro _
   all_goals try first|exact hI4|exact hk4|(rename_i h;first|exact oI h|exact nah h)|(rename_i _ h _ g;exact sL h g)|decide|omega
   refine⟨_,rfl,?_⟩
   rw[e1]
   refine A2 [] ?_;simp only[↓eB,seval,go_sem,zVc,CR.fn,smS]
  |false=>
   have e1:Pm q4=q4:=by unfold Pm;rw[if_neg (by rw[hb];decide)]
   simp only[↓eB,seval,go_sem,AR,As,A8,AN,AM,AC,AG,AH,A7,Af,Ae,Ag,AZ,Tok.r,Aa,ptR,Ad,AQ,AP,AO,Dz,E0,Bo,hb,zVc]
   try simp only[A3,A4]
   repeat' first|exact ck|with_reducible apply And.intro|intro _
   all_goals try first|exact hI4|exact hk4|(rename_i h;first|exact oI h|exact nah h)|(rename_i _ h _ g;exact sL h g)|decide|omega
   refine⟨_,rfl,?_⟩
   rw[e1]
   refine A2 [] ?_;simp only[↓eB,seval,go_sem,zVc,CR.fn,smS]
 rintro q5 hq5
 rw[f6,← hq5,f4,f5,← hps]at hr0
 refine G5 [A7,AG,AH,AR,A8,AM,AC,Bo,Hd] [] ?_
 simp only[↓eB,seval,go_sem,AR,As,A8,AN,AM,AC,AG,AH,A7,Af,Ae,Ag,AZ,Tok.r,Aa,ptR,Ad,AQ,AP,AO,Dz,E0,Bo,zVc]
 simp only[A3,A4]
 refine⟨fun he5=>?_,fun he5=>?_⟩
 ·have hr:GI s=(fn0,q5.at',q5.e):=by rw[hr0,if_pos he5]
  try simp only[A3,A4]
  repeat' first|exact ck|with_reducible apply And.intro|intro _
  all_goals try first|(rename_i h;first|exact oI h|exact nah h)|(rename_i _ h _ g;exact sL h g)|decide|omega
  refine A0 [] ?_;simp only[↓eB,seval,go_sem,bne,KM,hr,Fn.c]
 ·have hr:GI s=(⟨CY (hdP T N),ps,ls,bd⟩,0,0):=by rw[hr0,if_neg (by rw[he5];decide)]
  refine Aq [A7,AG,AH,AR,A8,AM,AC,Bo,Hd] [] _ _ _ ?_
  simp only[↓eB,seval,go_sem,AR,As,A8,AN,AM,AC,AG,AH,A7,Af,Ae,Ag,AZ,Tok.r,Aa,ptR,Ad,AQ,AP,AO,Dz,E0,Bo,zVc]
  refine A0 [.fz 1000,.fz 1001] ?_;simp only[↓eB,seval,go_sem,bne,KM,hr,Fn.c,smS,CR.ds,CR.fz,zVc,zVr]
theorem kJ:∀p:(List UInt8×Unit),((fun p:(List UInt8×Unit)=>KM p.1) p).names=[]:=by intro p;first|rfl|simp[SV.names,C.names]
noncomputable def FJ {X:Ctx} {w0:World}:Sy.Spec Try.prog X w0:=DG 39 Try.call39 (acS (cStr) ac0) (fun p:(List UInt8×Unit)=>Xo p.1) (fun p:(List UInt8×Unit)=>KM p.1) kJ sF
end Go.Proofs.Ytjnnmindcbgjhaa
