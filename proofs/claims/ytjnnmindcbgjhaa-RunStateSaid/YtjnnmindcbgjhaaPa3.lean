/- Products and sums, walked. No conditions but those in each statement. -/
import Derived.Test.YtjnnmindcbgjhaaPm
set_option linter.unusedVariables false
set_option linter.unusedSimpArgs false
set_option maxRecDepth 20000
set_option maxHeartbeats 4000000
namespace Go.Proofs.Ytjnnmindcbgjhaa
open Go Go.Sy Go.RowKit
abbrev Tj (f:Nat) (p:Pr):Prop:=okP p∧dpU f p
abbrev JC (f:Nat) (p:Pr):SV:=.one (exC (unF f p).1)
abbrev HS (f:Nat) (p:Pr):List (Option MV):=[some (zPr,[(unF f p).2.c])]
noncomputable abbrev Q0:ArgM ((Pr)×Unit):=(amP (mPr) am0)
abbrev Rl (f:Nat):Prop:=Bt Try.prog 107 ((Q0).args 0) (Q0).mem (fun p:(Pr)×Unit=>Tj f p.1) (fun p:(Pr)×Unit=>JC f p.1) (fun p:(Pr)×Unit=>HS f p.1)
theorem A12 (f:Nat):∀p,(fun p:(Pr)×Unit=>Tj f p.1) p→Cn ((Q0).mem p).length ((fun p:(Pr)×Unit=>HS f p.1) p)=true:=by intro p _;rfl
theorem A13 (f:Nat):∀p,(fun p:(Pr)×Unit=>Tj f p.1) p→Av ((fun p:(Pr)×Unit=>HS f p.1) p).length ((fun p:(Pr)×Unit=>JC f p.1) p)=true:=by intro p _;first|rfl|exact AO _ _|exact AP _ _|(simp[Av,C0,AO,AP];done)
theorem A14 (f:Nat):∀p,(fun p:(Pr)×Unit=>Tj f p.1) p→∀q,some q∈(fun p:(Pr)×Unit=>HS f p.1) p→∀r∈q.2,∀c∈r,c.names=[]:=by intro p _;exact Fq _
noncomputable def OA {X:Ctx} {w0:World} (f:Nat) (h:Rl f):Sy.Spec Try.prog X w0:=Ca 107 Try.call107 (Q0) (fun p:(Pr)×Unit=>Tj f p.1) (fun p:(Pr)×Unit=>JC f p.1) (fun p:(Pr)×Unit=>HS f p.1) (A12 f) (A13 f) (A14 f) h
abbrev P1 (f:Nat) (p:Pr):Prop:=okP p∧dpU f p
abbrev Mj (f:Nat) (p:Pr):SV:=.one (exC (FW (unF f) p).1)
abbrev KF (f:Nat) (p:Pr):List (Option MV):=[some (zPr,[(FW (unF f) p).2.c])]
noncomputable abbrev LF:ArgM ((Pr)×Unit):=(amP (mPr) am0)
abbrev ZC (f:Nat):Prop:=Bt Try.prog 104 ((LF).args 0) (LF).mem (fun p:(Pr)×Unit=>P1 f p.1) (fun p:(Pr)×Unit=>Mj f p.1) (fun p:(Pr)×Unit=>KF f p.1)
theorem nE (f:Nat):∀p,(fun p:(Pr)×Unit=>P1 f p.1) p→Cn ((LF).mem p).length ((fun p:(Pr)×Unit=>KF f p.1) p)=true:=by intro p _;rfl
theorem nG (f:Nat):∀p,(fun p:(Pr)×Unit=>P1 f p.1) p→Av ((fun p:(Pr)×Unit=>KF f p.1) p).length ((fun p:(Pr)×Unit=>Mj f p.1) p)=true:=by intro p _;first|rfl|exact AO _ _|exact AP _ _|(simp[Av,C0,AO,AP];done)
theorem nH (f:Nat):∀p,(fun p:(Pr)×Unit=>P1 f p.1) p→∀q,some q∈(fun p:(Pr)×Unit=>KF f p.1) p→∀r∈q.2,∀c∈r,c.names=[]:=by intro p _;exact Fq _
noncomputable def P2 {X:Ctx} {w0:World} (f:Nat) (h:ZC f):Sy.Spec Try.prog X w0:=Ca 104 Try.call104 (LF) (fun p:(Pr)×Unit=>P1 f p.1) (fun p:(Pr)×Unit=>Mj f p.1) (fun p:(Pr)×Unit=>KF f p.1) (nE f) (nG f) (nH f) h
attribute [local go_sem] Pr.c zTk
theorem dJ (f:Nat) (hu:Rl f):ZC f:=by
 rintro ⟨p,_u⟩ w M I lab fz xs hc hA hl hx
 refine An Try.func104 rfl ((LF).mem ⟨p,_u⟩) w M I lab fz [AV,(OA f hu)] [] ((LF).args 0 ⟨p,_u⟩) ((fun p:(Pr)×Unit=>KF f p.1) ⟨p,_u⟩) ((fun p:(Pr)×Unit=>Mj f p.1) ⟨p,_u⟩) xs hA hl hx (fun v hv k hk=>by have:=(LF).an 0 ⟨p,_u⟩ v hv k hk;omega) (jN rfl) (jN rfl) ?_
 clear hx hl hA xs
 simp only[Try.f104]
 simp only[↓eB,seval,go_sem,AV,OA,Ah,Ag,Ai,Ac,Tok.r,Ad,ptR,Af,AS,AR,AQ,Ay]
 obtain⟨hc1,hc2⟩:=hc
 have hu0:=KX f p hc1
 refine⟨⟨hc1,hc2⟩,?_⟩
 refine AU (Y:=Nat×Ex×Pr) (fun y=>okP y.2.2∧dpU f y.2.2∧(y.2.2.l.length:Int)≤y.2.2.i+(y.1:Int)∧JD (unF f) y.1 y.2.1 y.2.2=FW (unF f) p)
  (fun y=>⟨[(0,true,.one (.p 0 0 0)),(3,true,.one (exC y.2.1))],[(0,.vec 0 zPr [y.2.2.c])]⟩)
  (fun y=>y.1) (p.l.length,(unF f p).1,(unF f p).2) ⟨hu0.ok,by show dpU f _;unfold dpU;rw[hu0.d];exact hc2,by have:=hu0.ok.1;simp only[hu0.l];omega,by show JD _ _ _ _=FW _ _;rfl⟩ (A2 [] ?_) ?_
 ·simp only[↓eB,seval,go_sem]
 ·rintro ⟨k,a,q⟩ ⟨h1,h2,h3,h4⟩
  refine Ak [AV,OA f hu] [] _ _ _ ?_
  dsimp only at h1 h2 h3 h4
  have hI:=h1.i
  cases he:(q.e==0) with
  |false=>
   have hr:(a,q)=FW (unF f) p:=by
    rw[← h4];cases k<;>simp[JD,he]
   simp only[↓eB,seval,go_sem,he,AV,Ah,Ag,Ai,Ac,Tok.r,Ad,ptR,Af,AS,AR,AQ]
   refine A0 [] ?_;simp only[↓eB,seval,go_sem,bne,Mj,KF,← hr]
  |true=>
   cases i0:isT [42] q with
   |true=>
    obtain⟨k',rfl⟩:∃k',k=k'+1:=⟨k-1,by have:=(BB i0).2;omega⟩
    simp only[JD,he,i0,if_true,if_false,jB]at h4
    have ha:=Dh h1 (BB i0).2 (BB i0).1
    have hu1:=KX f _ ha.ok
    have hai:=IV h1 (BB i0).2
    simp only[↓eB,seval,go_sem,he,i0,AV,Ay,OA,Ah,Ag,Ai,Ac,Tok.r,Ad,ptR,Af,AS,AR,AQ]
    refine⟨hI,⟨ha.ok,h2⟩,(k',Ex.mk 4 0 [] a (unF f (adv q)).1,(unF f (adv q)).2),⟨hu1.ok,by show dpU f _;unfold dpU;rw[hu1.d];exact h2,?_,h4⟩,Nat.lt_succ_self _,A2 [.fz 34] ?_⟩
    ·dsimp only;have hi1:=hu1.i;rw[hai]at hi1;rw[hu1.l];show (q.l.length:Int)≤_;omega
    ·simp only[↓eB,seval,go_sem,adv,DL,AZ,G9]
   |false=>
    cases i1:isT [47] q with
    |true=>
     obtain⟨k',rfl⟩:∃k',k=k'+1:=⟨k-1,by have:=(BB i1).2;omega⟩
     simp only[JD,he,i0,i1,if_true,if_false,jB]at h4
     have ha:=Dh h1 (BB i1).2 (BB i1).1
     have hu1:=KX f _ ha.ok
     have hai:=IV h1 (BB i1).2
     simp only[↓eB,seval,go_sem,he,i0,i1,AV,Ay,OA,Ah,Ag,Ai,Ac,Tok.r,Ad,ptR,Af,AS,AR,AQ]
     refine⟨hI,hI,⟨ha.ok,h2⟩,(k',Ex.mk 5 0 [] a (unF f (adv q)).1,(unF f (adv q)).2),⟨hu1.ok,by show dpU f _;unfold dpU;rw[hu1.d];exact h2,?_,h4⟩,Nat.lt_succ_self _,A2 [.fz 34] ?_⟩
     ·dsimp only;have hi1:=hu1.i;rw[hai]at hi1;rw[hu1.l];show (q.l.length:Int)≤_;omega
     ·simp only[↓eB,seval,go_sem,adv,DL,AZ,G9]
    |false=>
     cases i2:isT [37] q with
     |true=>
      obtain⟨k',rfl⟩:∃k',k=k'+1:=⟨k-1,by have:=(BB i2).2;omega⟩
      simp only[JD,he,i0,i1,i2,if_true,if_false,jB]at h4
      have ha:=Dh h1 (BB i2).2 (BB i2).1
      have hu1:=KX f _ ha.ok
      have hai:=IV h1 (BB i2).2
      simp only[↓eB,seval,go_sem,he,i0,i1,i2,AV,Ay,OA,Ah,Ag,Ai,Ac,Tok.r,Ad,ptR,Af,AS,AR,AQ]
      refine⟨hI,hI,hI,⟨ha.ok,h2⟩,(k',Ex.mk 6 0 [] a (unF f (adv q)).1,(unF f (adv q)).2),⟨hu1.ok,by show dpU f _;unfold dpU;rw[hu1.d];exact h2,?_,h4⟩,Nat.lt_succ_self _,A2 [.fz 34] ?_⟩
      ·dsimp only;have hi1:=hu1.i;rw[hai]at hi1;rw[hu1.l];show (q.l.length:Int)≤_;omega
      ·simp only[↓eB,seval,go_sem,adv,DL,AZ,G9]
     |false=>
      have hr:(a,q)=FW (unF f) p:=by
       rw[← h4];cases k<;>simp[JD,he,i0,i1,i2]
      simp only[↓eB,seval,go_sem,he,i0,i1,i2,AV,Ay,Ah,Ag,Ai,Ac,Tok.r,Ad,ptR,Af,AS,AR,AQ]
      refine⟨hI,hI,hI,?_⟩
      refine A0 [] ?_;simp only[↓eB,seval,go_sem,bne,Mj,KF,← hr]
abbrev Qw (f:Nat) (p:Pr):Prop:=okP p∧dpU f p
abbrev P3 (f:Nat) (p:Pr):SV:=.one (exC (KW (unF f) p).1)
abbrev M7 (f:Nat) (p:Pr):List (Option MV):=[some (zPr,[(KW (unF f) p).2.c])]
noncomputable abbrev NL:ArgM ((Pr)×Unit):=(amP (mPr) am0)
abbrev X9 (f:Nat):Prop:=Bt Try.prog 86 ((NL).args 0) (NL).mem (fun p:(Pr)×Unit=>Qw f p.1) (fun p:(Pr)×Unit=>P3 f p.1) (fun p:(Pr)×Unit=>M7 f p.1)
theorem uc (f:Nat):∀p,(fun p:(Pr)×Unit=>Qw f p.1) p→Cn ((NL).mem p).length ((fun p:(Pr)×Unit=>M7 f p.1) p)=true:=by intro p _;rfl
theorem ud (f:Nat):∀p,(fun p:(Pr)×Unit=>Qw f p.1) p→Av ((fun p:(Pr)×Unit=>M7 f p.1) p).length ((fun p:(Pr)×Unit=>P3 f p.1) p)=true:=by intro p _;first|rfl|exact AO _ _|exact AP _ _|(simp[Av,C0,AO,AP];done)
theorem ue (f:Nat):∀p,(fun p:(Pr)×Unit=>Qw f p.1) p→∀q,some q∈(fun p:(Pr)×Unit=>M7 f p.1) p→∀r∈q.2,∀c∈r,c.names=[]:=by intro p _;exact Fq _
noncomputable def Cv {X:Ctx} {w0:World} (f:Nat) (h:X9 f):Sy.Spec Try.prog X w0:=Ca 86 Try.call86 (NL) (fun p:(Pr)×Unit=>Qw f p.1) (fun p:(Pr)×Unit=>P3 f p.1) (fun p:(Pr)×Unit=>M7 f p.1) (uc f) (ud f) (ue f) h
theorem kz (f:Nat) (hu:Rl f):X9 f:=by
 rintro ⟨p,_u⟩ w M I lab fz xs hc hA hl hx
 refine An Try.func86 rfl ((NL).mem ⟨p,_u⟩) w M I lab fz [AV,(P2 f (dJ f hu))] [] ((NL).args 0 ⟨p,_u⟩) ((fun p:(Pr)×Unit=>M7 f p.1) ⟨p,_u⟩) ((fun p:(Pr)×Unit=>P3 f p.1) ⟨p,_u⟩) xs hA hl hx (fun v hv k hk=>by have:=(NL).an 0 ⟨p,_u⟩ v hv k hk;omega) (jN rfl) (jN rfl) ?_
 clear hx hl hA xs
 simp only[Try.f86]
 simp only[↓eB,seval,go_sem,AV,P2,Ah,Ag,Ai,Ac,Tok.r,Ad,ptR,Af,AS,AR,AQ,Ay]
 obtain⟨hc1,hc2⟩:=hc
 have hu0:=Jt (KX f) p hc1
 refine⟨⟨hc1,hc2⟩,?_⟩
 refine AU (Y:=Nat×Ex×Pr) (fun y=>okP y.2.2∧dpU f y.2.2∧(y.2.2.l.length:Int)≤y.2.2.i+(y.1:Int)∧NM (unF f) y.1 y.2.1 y.2.2=KW (unF f) p)
  (fun y=>⟨[(0,true,.one (.p 0 0 0)),(3,true,.one (exC y.2.1))],[(0,.vec 0 zPr [y.2.2.c])]⟩)
  (fun y=>y.1) (p.l.length,(FW (unF f) p).1,(FW (unF f) p).2) ⟨hu0.ok,by show dpU f _;unfold dpU;rw[hu0.d];exact hc2,by have:=hu0.ok.1;simp only[hu0.l];omega,by show NM _ _ _ _=KW _ _;rfl⟩ (A2 [] ?_) ?_
 ·simp only[↓eB,seval,go_sem]
 ·rintro ⟨k,a,q⟩ ⟨h1,h2,h3,h4⟩
  refine Ak [AV,P2 f (dJ f hu)] [] _ _ _ ?_
  dsimp only at h1 h2 h3 h4
  have hI:=h1.i
  cases he:(q.e==0) with
  |false=>
   have hr:(a,q)=KW (unF f) p:=by
    rw[← h4];cases k<;>simp[NM,he]
   simp only[↓eB,seval,go_sem,he,AV,Ah,Ag,Ai,Ac,Tok.r,Ad,ptR,Af,AS,AR,AQ]
   refine A0 [] ?_;simp only[↓eB,seval,go_sem,bne,P3,M7,← hr]
  |true=>
   cases i0:isT [45] q with
   |true=>
    obtain⟨k',rfl⟩:∃k',k=k'+1:=⟨k-1,by have:=(BB i0).2;omega⟩
    simp only[NM,he,i0,if_true,if_false,jB]at h4
    have ha:=Dh h1 (BB i0).2 (BB i0).1
    have hu1:=Jt (KX f) _ ha.ok
    have hai:=IV h1 (BB i0).2
    simp only[↓eB,seval,go_sem,he,i0,AV,Ay,P2,Ah,Ag,Ai,Ac,Tok.r,Ad,ptR,Af,AS,AR,AQ]
    refine⟨hI,⟨ha.ok,h2⟩,(k',Ex.mk 3 0 [] a (FW (unF f) (adv q)).1,(FW (unF f) (adv q)).2),⟨hu1.ok,by show dpU f _;unfold dpU;rw[hu1.d];exact h2,?_,h4⟩,Nat.lt_succ_self _,A2 [.fz 30] ?_⟩
    ·dsimp only;have hi1:=hu1.i;rw[hai]at hi1;rw[hu1.l];show (q.l.length:Int)≤_;omega
    ·simp only[↓eB,seval,go_sem,adv,DL,AZ,G9]
   |false=>
    cases i1:isT [43] q with
    |true=>
     obtain⟨k',rfl⟩:∃k',k=k'+1:=⟨k-1,by have:=(BB i1).2;omega⟩
     simp only[NM,he,i0,i1,if_true,if_false,jB]at h4
     have ha:=Dh h1 (BB i1).2 (BB i1).1
     have hu1:=Jt (KX f) _ ha.ok
     have hai:=IV h1 (BB i1).2
     simp only[↓eB,seval,go_sem,he,i0,i1,AV,Ay,P2,Ah,Ag,Ai,Ac,Tok.r,Ad,ptR,Af,AS,AR,AQ]
     refine⟨hI,hI,⟨ha.ok,h2⟩,(k',Ex.mk 2 0 [] a (FW (unF f) (adv q)).1,(FW (unF f) (adv q)).2),⟨hu1.ok,by show dpU f _;unfold dpU;rw[hu1.d];exact h2,?_,h4⟩,Nat.lt_succ_self _,A2 [.fz 30] ?_⟩
     ·dsimp only;have hi1:=hu1.i;rw[hai]at hi1;rw[hu1.l];show (q.l.length:Int)≤_;omega
     ·simp only[↓eB,seval,go_sem,adv,DL,AZ,G9]
    |false=>
     have hr:(a,q)=KW (unF f) p:=by
      rw[← h4];cases k<;>simp[NM,he,i0,i1]
     simp only[↓eB,seval,go_sem,he,i0,i1,AV,Ay,Ah,Ag,Ai,Ac,Tok.r,Ad,ptR,Af,AS,AR,AQ]
     refine⟨hI,hI,?_⟩
     refine A0 [] ?_;simp only[↓eB,seval,go_sem,bne,P3,M7,← hr]
attribute[local go_sem] Tok.r Ad Ai AS Ah Ag AQ ptR Af AR Ac Cv OA AC AV AH A8 Ig AM AG Ay AN GA in
theorem A15 (f:Nat) (hu:Rl f) (hs:X9 f):Rl (f+1):=by
 rintro ⟨p,_u⟩ w M I lab fz xs hc hA hl hx
 refine An Try.func107 rfl ((Q0).mem ⟨p,_u⟩) w M I lab fz [AV,A8,AM,AC,AG,AH,Ig,(OA f hu),(Cv f hs)] [] ((Q0).args 0 ⟨p,_u⟩) ((fun p:(Pr)×Unit=>HS (f+1) p.1) ⟨p,_u⟩) ((fun p:(Pr)×Unit=>JC (f+1) p.1) ⟨p,_u⟩) xs hA hl hx (fun v hv k hk=>by have:=(Q0).an 0 ⟨p,_u⟩ v hv k hk;omega) (jN rfl) (jN rfl) ?_
 clear hx hl hA xs
 simp only[Try.f107]
 obtain⟨hc1,hc2⟩:=hc
 have hI:=hc1.i
 cases ho1:(p.e != 0) with
 |true=>
  have hr:unF (f+1) p=(.nil,CJ 51 p):=by simp[unF,outB,ho1]
  simp only[↓eB,seval,go_sem,ho1]
  try simp only[A3,A4]
  repeat' first|exact ck|with_reducible apply And.intro|intro _
  all_goals first|exact hI|exact hc1|(exact ha.ok)|(exact hd)|(exact hs2.ok)|(exact hsm)|(rename_i h;first|exact oI h|exact nah h)|(rename_i _ h _ g;exact sL h g)|decide|omega|(refine A0 [] ?_;simp only[↓eB,seval,go_sem,bne,JC,HS,hr,AZ])
 |false=>
 cases ho2:decide ((p.l.length:Int)≤p.i) with
 |true=>
  have hr:unF (f+1) p=(.nil,CJ 51 p):=by simp[unF,outB,ho1,ho2]
  simp only[↓eB,seval,go_sem,ho1,ho2]
  try simp only[A3,A4]
  repeat' first|exact ck|with_reducible apply And.intro|intro _
  all_goals first|exact hI|exact hc1|(exact ha.ok)|(exact hd)|(exact hs2.ok)|(exact hsm)|(rename_i h;first|exact oI h|exact nah h)|(rename_i _ h _ g;exact sL h g)|decide|omega|(refine A0 [] ?_;simp only[↓eB,seval,go_sem,bne,JC,HS,hr,AZ])
 |false=>
 have ho:outB p=false:=by unfold outB;rw[ho1,ho2];rfl
 have he:p.e=0:=by simpa using ho1
 have hlt:p.i<(p.l.length:Int):=by simpa using ho2
 have hlt':(p.i<(p.l.length:Int))=True:=by simp[hlt]
 have h0':(0≤p.i)=True:=by simp[hc1.1]
 cases i0:isT [45] p with
 |true=>
  cases ob:Es p with
  |false=>
   have hr:unF (f+1) p=(.nil,Bm p):=by simp[unF,ho,i0,ob]
   simp only[↓eB,seval,go_sem,ho1,ho2,i0,ob]
   try simp only[A3,A4]
   repeat' first|exact ck|with_reducible apply And.intro|intro _
   all_goals first|exact hI|exact hc1|(exact ha.ok)|(exact hd)|(exact hs2.ok)|(exact hsm)|(rename_i h;first|exact oI h|exact nah h)|(rename_i _ h _ g;exact sL h g)|decide|omega|(refine A0 [] ?_;simp only[↓eB,seval,go_sem,bne,JC,HS,hr,AZ])
  |true=>
   have hr:unF (f+1) p=(.mk 7 0 [] (unF f (adv (Bm p))).1 .nil,shut (unF f (adv (Bm p))).2):=by simp[unF,ho,i0,ob]
   have ha:=Fl hc1 ob hlt
   have hd:dpU f (adv (Bm p)):=by
    have h3:=(Q4 hc1 ob).2.2
    show 41≤(Bm p).deep+(f:Int)
    rw[h3];have:41≤p.deep+((f+1:Nat):Int):=hc2;simp only;omega
   simp only[↓eB,seval,go_sem,ho1,ho2,i0,ob]
   try simp only[A3,A4]
   repeat' first|exact ck|with_reducible apply And.intro|intro _
   all_goals first|exact hI|exact hc1|(exact ha.ok)|(exact hd)|(exact hs2.ok)|(exact hsm)|(rename_i h;first|exact oI h|exact nah h)|(rename_i _ h _ g;exact sL h g)|decide|omega|(refine A0 [.fz 51] ?_;simp only[↓eB,seval,go_sem,bne,JC,HS,hr,AZ,DL,G9,shut,adv])
 |false=>
 cases i1:isT [40] p with
 |true=>
  cases ob:Es p with
  |false=>
   have hr:unF (f+1) p=(.nil,Bm p):=by simp[unF,ho,i0,i1,ob]
   simp only[↓eB,seval,go_sem,ho1,ho2,i0,i1,ob]
   try simp only[A3,A4]
   repeat' first|exact ck|with_reducible apply And.intro|intro _
   all_goals first|exact hI|exact hc1|(exact ha.ok)|(exact hd)|(exact hs2.ok)|(exact hsm)|(rename_i h;first|exact oI h|exact nah h)|(rename_i _ h _ g;exact sL h g)|decide|omega|(refine A0 [] ?_;simp only[↓eB,seval,go_sem,bne,JC,HS,hr,AZ])
  |true=>
   have hr:unF (f+1) p=((KW (unF f) (adv (Bm p))).1,shut (B2 [41] (KW (unF f) (adv (Bm p))).2)):=by simp[unF,ho,i0,i1,ob]
   have ha:=Fl hc1 ob hlt
   have hd:dpU f (adv (Bm p)):=by
    have h3:=(Q4 hc1 ob).2.2
    show 41≤(Bm p).deep+(f:Int)
    rw[h3];have:41≤p.deep+((f+1:Nat):Int):=hc2;simp only;omega
   have hs2:=Uv (KX f) _ ha.ok
   simp only[↓eB,seval,go_sem,ho1,ho2,i0,i1,ob]
   try simp only[A3,A4]
   repeat' first|exact ck|with_reducible apply And.intro|intro _
   all_goals first|exact hI|exact hc1|(exact ha.ok)|(exact hd)|(exact hs2.ok)|(exact hsm)|(rename_i h;first|exact oI h|exact nah h)|(rename_i _ h _ g;exact sL h g)|decide|omega|(refine A0 [] ?_;simp only[↓eB,seval,go_sem,bne,JC,HS,hr,shut,adv])
 |false=>
 cases i2:((tk p).k==1) with
 |true=>
  have hr:unF (f+1) p=(.mk 0 (numW (tk p).t 0) [] .nil .nil,adv p):=by simp[unF,ho,i0,i1,i2]
  have e1:=ZM hc1 hlt
  have hsm:=um hc1 hlt
  simp only[tk]at i2 hsm
  simp only[w64i]at e1
  simp only[↓eB,seval,go_sem,ho1,ho2,i0,i1,i2,e1,hlt',h0']
  try simp only[A3,A4]
  repeat' first|exact ck|with_reducible apply And.intro|intro _
  all_goals first|exact hI|exact hc1|(exact ha.ok)|(exact hd)|(exact hs2.ok)|(exact hsm)|(rename_i h;first|exact oI h|exact nah h)|(rename_i _ h _ g;exact sL h g)|decide|omega|(refine A0 [.fz 111] ?_;simp only[↓eB,seval,go_sem,bne,JC,HS,hr,adv,AZ,DL,G9,tk])
 |false=>
 have i2':=i2
 simp only[tk]at i2'
 cases i3:nameB p with
 |true=>
  have hr:unF (f+1) p=(.mk 1 0 (Cz p) .nil .nil,BX p):=by simp[unF,ho,i0,i1,i2,i3]
  simp only[↓eB,seval,go_sem,ho1,ho2,i0,i1,i2',i3,hlt',h0']
  try simp only[A3,A4]
  repeat' first|exact ck|with_reducible apply And.intro|intro _
  all_goals first|exact hI|exact hc1|(exact ha.ok)|(exact hd)|(exact hs2.ok)|(exact hsm)|(rename_i h;first|exact oI h|exact nah h)|(rename_i _ h _ g;exact sL h g)|decide|omega|(refine A0 [.fz 118] ?_;simp only[↓eB,seval,go_sem,bne,JC,HS,hr,AZ,DL,G9])
 |false=>
  have hr:unF (f+1) p=(.nil,CJ 51 p):=by simp[unF,ho,i0,i1,i2,i3]
  simp only[↓eB,seval,go_sem,ho1,ho2,i0,i1,i2',i3,hlt',h0']
  try simp only[A3,A4]
  repeat' first|exact ck|with_reducible apply And.intro|intro _
  all_goals first|exact hI|exact hc1|(exact ha.ok)|(exact hd)|(exact hs2.ok)|(exact hsm)|(rename_i h;first|exact oI h|exact nah h)|(rename_i _ h _ g;exact sL h g)|decide|omega|(refine A0 [] ?_;simp only[↓eB,seval,go_sem,bne,JC,HS,hr,AZ])
theorem gh:∀f:Nat,Rl f
 |0=>by
  rintro ⟨p,_u⟩ w M I lab fz xs hc hA hl hx
  obtain⟨h1,h2⟩:=hc
  have h3:p.deep≤40:=h1.2.2.2.2.1
  have h4:41≤p.deep+((0:Nat):Int):=h2
  exact absurd h4 (by simp;omega)
 |f+1=>A15 f (gh f) (kz f (gh f))
end Go.Proofs.Ytjnnmindcbgjhaa
