/- Products and sums, walked. No conditions but those in each statement. -/
import Derived.Test.YtbiepiggmagfcaaGreatDoorPm
set_option linter.unusedVariables false
set_option linter.unusedSimpArgs false
set_option maxRecDepth 20000
set_option maxHeartbeats 4000000
namespace Go.Proofs.YtbiepiggmagfcaaGreatDoor
open Go Go.Sy Go.RowKit
abbrev SR (f:Nat) (p:Pr):Prop:=okP p∧dpU f p
abbrev G4 (f:Nat) (p:Pr):SV:=.one (exC (unF f p).1)
abbrev Ee (f:Nat) (p:Pr):List (Option MV):=[some (zPr,[(unF f p).2.c])]
noncomputable abbrev O2:ArgM ((Pr)×Unit):=(amP (mPr) am0)
abbrev QP (f:Nat):Prop:=BD Tryz.prog 137 ((O2).args 0) (O2).mem (fun p:(Pr)×Unit=>SR f p.1) (fun p:(Pr)×Unit=>G4 f p.1) (fun p:(Pr)×Unit=>Ee f p.1)
theorem A2R (f:Nat):∀p,(fun p:(Pr)×Unit=>SR f p.1) p→BA ((O2).mem p).length ((fun p:(Pr)×Unit=>Ee f p.1) p)=true:=by intro p _;rfl
theorem A2S (f:Nat):∀p,(fun p:(Pr)×Unit=>SR f p.1) p→AQ ((fun p:(Pr)×Unit=>Ee f p.1) p).length ((fun p:(Pr)×Unit=>G4 f p.1) p)=true:=by intro p _;first|rfl|exact AK _ _|exact AL _ _|(simp[AQ,Bn,AK,AL];done)
theorem A2T (f:Nat):∀p,(fun p:(Pr)×Unit=>SR f p.1) p→∀q,some q∈(fun p:(Pr)×Unit=>Ee f p.1) p→∀r∈q.2,∀c∈r,c.names=[]:=by intro p _;exact DY _
noncomputable def WA {X:Ctx} {w0:World} (f:Nat) (h:QP f):Sy.Spec Tryz.prog X w0:=Be 137 Tryz.call137 (O2) (fun p:(Pr)×Unit=>SR f p.1) (fun p:(Pr)×Unit=>G4 f p.1) (fun p:(Pr)×Unit=>Ee f p.1) (A2R f) (A2S f) (A2T f) h
abbrev N5 (f:Nat) (p:Pr):Prop:=okP p∧dpU f p
abbrev Ks (f:Nat) (p:Pr):SV:=.one (exC (CN (unF f) p).1)
abbrev HN (f:Nat) (p:Pr):List (Option MV):=[some (zPr,[(CN (unF f) p).2.c])]
noncomputable abbrev Ii:ArgM ((Pr)×Unit):=(amP (mPr) am0)
abbrev ZH (f:Nat):Prop:=BD Tryz.prog 119 ((Ii).args 0) (Ii).mem (fun p:(Pr)×Unit=>N5 f p.1) (fun p:(Pr)×Unit=>Ks f p.1) (fun p:(Pr)×Unit=>HN f p.1)
theorem pc (f:Nat):∀p,(fun p:(Pr)×Unit=>N5 f p.1) p→BA ((Ii).mem p).length ((fun p:(Pr)×Unit=>HN f p.1) p)=true:=by intro p _;rfl
theorem pd (f:Nat):∀p,(fun p:(Pr)×Unit=>N5 f p.1) p→AQ ((fun p:(Pr)×Unit=>HN f p.1) p).length ((fun p:(Pr)×Unit=>Ks f p.1) p)=true:=by intro p _;first|rfl|exact AK _ _|exact AL _ _|(simp[AQ,Bn,AK,AL];done)
theorem pf (f:Nat):∀p,(fun p:(Pr)×Unit=>N5 f p.1) p→∀q,some q∈(fun p:(Pr)×Unit=>HN f p.1) p→∀r∈q.2,∀c∈r,c.names=[]:=by intro p _;exact DY _
noncomputable def N6 {X:Ctx} {w0:World} (f:Nat) (h:ZH f):Sy.Spec Tryz.prog X w0:=Be 119 Tryz.call119 (Ii) (fun p:(Pr)×Unit=>N5 f p.1) (fun p:(Pr)×Unit=>Ks f p.1) (fun p:(Pr)×Unit=>HN f p.1) (pc f) (pd f) (pf f) h
attribute [local go_sem] Pr.c Tok.r Ke KQ Ju KP KO Ji ptR KN Jt Kb WA Av Bo BV Au VV BW BE GG D1 HW zTk
attribute[local go_sem] adv F2 Hg B3 in
theorem fH (f:Nat) (hu:QP f):ZH f:=by
 rintro ⟨p,_u⟩ w M I lab fz xs hc hA hl hx
 refine AJ Tryz.func119 rfl _ w M I lab fz [Bo,(WA f hu)] [] _ _ _ xs hA hl hx (fun v hv k hk=>by have:=(Ii).an 0 ⟨p,_u⟩ v hv k hk;omega) (jN rfl) (jN rfl) ?_
 clear hx hl hA xs
 simp only[Tryz.f119]
 simp only[↓eB,seval,go_sem]
 obtain⟨hc1,hc2⟩:=hc
 have hu0:=G7 f p hc1
 refine⟨⟨hc1,hc2⟩,?_⟩
 refine AH (Y:=Nat×Ex×Pr) (fun y=>okP y.2.2∧dpU f y.2.2∧(y.2.2.l.length:Int)≤y.2.2.i+(y.1:Int)∧DE (unF f) y.1 y.2.1 y.2.2=CN (unF f) p)
  (fun y=>⟨[(0,true,.one (.p 0 0 0)),(3,true,.one (exC y.2.1))],[(0,.vec 0 zPr [y.2.2.c])]⟩)
  (fun y=>y.1) (p.l.length,(unF f p).1,(unF f p).2) ⟨hu0.ok,by show dpU f _;unfold dpU;rw[hu0.d];exact hc2,by have:=hu0.ok.1;simp only[hu0.l];omega,by show DE _ _ _ _=CN _ _;rfl⟩ (A4 [] ?_) ?_
 ·simp only[↓eB,seval,go_sem]
 ·rintro ⟨k,a,q⟩ ⟨h1,h2,h3,h4⟩
  refine Ab [Bo,WA f hu] [] _ _ _ ?_
  dsimp only at h1 h2 h3 h4
  have hI:=h1.i
  cases he:(q.e==0) with
  |false=>
   have hr:(a,q)=CN (unF f) p:=by
    rw[← h4];cases k<;>simp[DE,he]
   simp only[↓eB,seval,go_sem,he]
   refine A0 [] ?_;simp only[↓eB,seval,go_sem,bne,Ks,HN,← hr]
  |true=>
   cases i0:isT [42] q with
   |true=>
    obtain⟨k',rfl⟩:∃k',k=k'+1:=⟨k-1,by have:=(Aa i0).2;omega⟩
    simp only[DE,he,i0,if_true,if_false,jB]at h4
    have ha:=C8 h1 (Aa i0).2 (Aa i0).1
    have hu1:=G7 f _ ha.ok
    have hai:=DF h1 (Aa i0).2
    simp only[↓eB,seval,go_sem,he,i0]
    refine⟨hI,⟨ha.ok,h2⟩,(k',Ex.mk 4 0 [] a (unF f (adv q)).1,(unF f (adv q)).2),⟨hu1.ok,by show dpU f _;unfold dpU;rw[hu1.d];exact h2,?_,h4⟩,Nat.lt_succ_self _,A4 [.fz 34] ?_⟩
    ·dsimp only;have hi1:=hu1.i;rw[hai]at hi1;rw[hu1.l];show (q.l.length:Int)≤_;omega
    ·simp only[↓eB,seval,go_sem]
   |false=>
    cases i1:isT [47] q with
    |true=>
     obtain⟨k',rfl⟩:∃k',k=k'+1:=⟨k-1,by have:=(Aa i1).2;omega⟩
     simp only[DE,he,i0,i1,if_true,if_false,jB]at h4
     have ha:=C8 h1 (Aa i1).2 (Aa i1).1
     have hu1:=G7 f _ ha.ok
     have hai:=DF h1 (Aa i1).2
     simp only[↓eB,seval,go_sem,he,i0,i1]
     refine⟨hI,hI,⟨ha.ok,h2⟩,(k',Ex.mk 5 0 [] a (unF f (adv q)).1,(unF f (adv q)).2),⟨hu1.ok,by show dpU f _;unfold dpU;rw[hu1.d];exact h2,?_,h4⟩,Nat.lt_succ_self _,A4 [.fz 34] ?_⟩
     ·dsimp only;have hi1:=hu1.i;rw[hai]at hi1;rw[hu1.l];show (q.l.length:Int)≤_;omega
     ·simp only[↓eB,seval,go_sem]
    |false=>
     cases i2:isT [37] q with
     |true=>
      obtain⟨k',rfl⟩:∃k',k=k'+1:=⟨k-1,by have:=(Aa i2).2;omega⟩
      simp only[DE,he,i0,i1,i2,if_true,if_false,jB]at h4
      have ha:=C8 h1 (Aa i2).2 (Aa i2).1
      have hu1:=G7 f _ ha.ok
      have hai:=DF h1 (Aa i2).2
      simp only[↓eB,seval,go_sem,he,i0,i1,i2]
      refine⟨hI,hI,hI,⟨ha.ok,h2⟩,(k',Ex.mk 6 0 [] a (unF f (adv q)).1,(unF f (adv q)).2),⟨hu1.ok,by show dpU f _;unfold dpU;rw[hu1.d];exact h2,?_,h4⟩,Nat.lt_succ_self _,A4 [.fz 34] ?_⟩
      ·dsimp only;have hi1:=hu1.i;rw[hai]at hi1;rw[hu1.l];show (q.l.length:Int)≤_;omega
      ·simp only[↓eB,seval,go_sem]
     |false=>
      have hr:(a,q)=CN (unF f) p:=by
       rw[← h4];cases k<;>simp[DE,he,i0,i1,i2]
      simp only[↓eB,seval,go_sem,he,i0,i1,i2]
      refine⟨hI,hI,hI,?_⟩
      refine A0 [] ?_;simp only[↓eB,seval,go_sem,bne,Ks,HN,← hr]
abbrev PF (f:Nat) (p:Pr):Prop:=okP p∧dpU f p
abbrev N7 (f:Nat) (p:Pr):SV:=.one (exC (EO (unF f) p).1)
abbrev Jp (f:Nat) (p:Pr):List (Option MV):=[some (zPr,[(EO (unF f) p).2.c])]
noncomputable abbrev LQ:ArgM ((Pr)×Unit):=(amP (mPr) am0)
abbrev We (f:Nat):Prop:=BD Tryz.prog 95 ((LQ).args 0) (LQ).mem (fun p:(Pr)×Unit=>PF f p.1) (fun p:(Pr)×Unit=>N7 f p.1) (fun p:(Pr)×Unit=>Jp f p.1)
theorem wQ (f:Nat):∀p,(fun p:(Pr)×Unit=>PF f p.1) p→BA ((LQ).mem p).length ((fun p:(Pr)×Unit=>Jp f p.1) p)=true:=by intro p _;rfl
theorem wR (f:Nat):∀p,(fun p:(Pr)×Unit=>PF f p.1) p→AQ ((fun p:(Pr)×Unit=>Jp f p.1) p).length ((fun p:(Pr)×Unit=>N7 f p.1) p)=true:=by intro p _;first|rfl|exact AK _ _|exact AL _ _|(simp[AQ,Bn,AK,AL];done)
theorem wS (f:Nat):∀p,(fun p:(Pr)×Unit=>PF f p.1) p→∀q,some q∈(fun p:(Pr)×Unit=>Jp f p.1) p→∀r∈q.2,∀c∈r,c.names=[]:=by intro p _;exact DY _
noncomputable def Jq {X:Ctx} {w0:World} (f:Nat) (h:We f):Sy.Spec Tryz.prog X w0:=Be 95 Tryz.call95 (LQ) (fun p:(Pr)×Unit=>PF f p.1) (fun p:(Pr)×Unit=>N7 f p.1) (fun p:(Pr)×Unit=>Jp f p.1) (wQ f) (wR f) (wS f) h
theorem nA (f:Nat) (hu:QP f):We f:=by
 rintro ⟨p,_u⟩ w M I lab fz xs hc hA hl hx
 refine AJ Tryz.func95 rfl _ w M I lab fz [Bo,(N6 f (fH f hu))] [] _ _ _ xs hA hl hx (fun v hv k hk=>by have:=(LQ).an 0 ⟨p,_u⟩ v hv k hk;omega) (jN rfl) (jN rfl) ?_
 clear hx hl hA xs
 simp only[Tryz.f95]
 simp only[↓eB,seval,go_sem,N6]
 obtain⟨hc1,hc2⟩:=hc
 have hu0:=Gs (G7 f) p hc1
 refine⟨⟨hc1,hc2⟩,?_⟩
 refine AH (Y:=Nat×Ex×Pr) (fun y=>okP y.2.2∧dpU f y.2.2∧(y.2.2.l.length:Int)≤y.2.2.i+(y.1:Int)∧FA (unF f) y.1 y.2.1 y.2.2=EO (unF f) p)
  (fun y=>⟨[(0,true,.one (.p 0 0 0)),(3,true,.one (exC y.2.1))],[(0,.vec 0 zPr [y.2.2.c])]⟩)
  (fun y=>y.1) (p.l.length,(CN (unF f) p).1,(CN (unF f) p).2) ⟨hu0.ok,by show dpU f _;unfold dpU;rw[hu0.d];exact hc2,by have:=hu0.ok.1;simp only[hu0.l];omega,by show FA _ _ _ _=EO _ _;rfl⟩ (A4 [] ?_) ?_
 ·simp only[↓eB,seval,go_sem]
 ·rintro ⟨k,a,q⟩ ⟨h1,h2,h3,h4⟩
  refine Ab [Bo,N6 f (fH f hu)] [] _ _ _ ?_
  dsimp only at h1 h2 h3 h4
  have hI:=h1.i
  cases he:(q.e==0) with
  |false=>
   have hr:(a,q)=EO (unF f) p:=by
    rw[← h4];cases k<;>simp[FA,he]
   simp only[↓eB,seval,go_sem,he]
   refine A0 [] ?_;simp only[↓eB,seval,go_sem,bne,N7,Jp,← hr]
  |true=>
   cases i0:isT [45] q with
   |true=>
    obtain⟨k',rfl⟩:∃k',k=k'+1:=⟨k-1,by have:=(Aa i0).2;omega⟩
    simp only[FA,he,i0,if_true,if_false,jB]at h4
    have ha:=C8 h1 (Aa i0).2 (Aa i0).1
    have hu1:=Gs (G7 f) _ ha.ok
    have hai:=DF h1 (Aa i0).2
    simp only[↓eB,seval,go_sem,he,i0,N6]
    refine⟨hI,⟨ha.ok,h2⟩,(k',Ex.mk 3 0 [] a (CN (unF f) (adv q)).1,(CN (unF f) (adv q)).2),⟨hu1.ok,by show dpU f _;unfold dpU;rw[hu1.d];exact h2,?_,h4⟩,Nat.lt_succ_self _,A4 [.fz 30] ?_⟩
    ·dsimp only;have hi1:=hu1.i;rw[hai]at hi1;rw[hu1.l];show (q.l.length:Int)≤_;omega
    ·simp only[↓eB,seval,go_sem,adv,Hg,B3,F2]
   |false=>
    cases i1:isT [43] q with
    |true=>
     obtain⟨k',rfl⟩:∃k',k=k'+1:=⟨k-1,by have:=(Aa i1).2;omega⟩
     simp only[FA,he,i0,i1,if_true,if_false,jB]at h4
     have ha:=C8 h1 (Aa i1).2 (Aa i1).1
     have hu1:=Gs (G7 f) _ ha.ok
     have hai:=DF h1 (Aa i1).2
     simp only[↓eB,seval,go_sem,he,i0,i1,N6]
     refine⟨hI,hI,⟨ha.ok,h2⟩,(k',Ex.mk 2 0 [] a (CN (unF f) (adv q)).1,(CN (unF f) (adv q)).2),⟨hu1.ok,by show dpU f _;unfold dpU;rw[hu1.d];exact h2,?_,h4⟩,Nat.lt_succ_self _,A4 [.fz 30] ?_⟩
     ·dsimp only;have hi1:=hu1.i;rw[hai]at hi1;rw[hu1.l];show (q.l.length:Int)≤_;omega
     ·simp only[↓eB,seval,go_sem,adv,Hg,B3,F2]
    |false=>
     have hr:(a,q)=EO (unF f) p:=by
      rw[← h4];cases k<;>simp[FA,he,i0,i1]
     simp only[↓eB,seval,go_sem,he,i0,i1]
     refine⟨hI,hI,?_⟩
     refine A0 [] ?_;simp only[↓eB,seval,go_sem,bne,N7,Jp,← hr]
theorem wU {p:Pr} (h:okP p) (hi:p.i<(p.l.length:Int)):Dr (tk p).t:=by
 obtain⟨h1,h2,h3,h4,h5,h8⟩:=h
 have hm:tk p∈p.l:=by
  unfold tk
  have:p.i.toNat<p.l.length:=by omega
  rw[List.getD,List.getElem?_eq_getElem this];exact List.getElem_mem this
 have:=h8 _ hm
 show _≤4294967296
 omega
attribute[local go_sem] Jq in
theorem A2U (f:Nat) (hu:QP f) (hs:We f):QP (f+1):=by
 rintro ⟨p,_u⟩ w M I lab fz xs hc hA hl hx
 refine AJ Tryz.func137 rfl _ w M I lab fz [Bo,Au,BW,Av,BE,BV,VV,(WA f hu),(Jq f hs)] [] _ _ _ xs hA hl hx (fun v hv k hk=>by have:=(O2).an 0 ⟨p,_u⟩ v hv k hk;omega) (jN rfl) (jN rfl) ?_
 clear hx hl hA xs
 simp only[Tryz.f137]
 obtain⟨hc1,hc2⟩:=hc
 have hI:=hc1.i
 cases ho1:(p.e != 0) with
 |true=>
  have hr:unF (f+1) p=(.nil,BG 51 p):=by simp[unF,outB,ho1]
  simp only[↓eB,seval,go_sem,ho1]
  try simp only[A1,A2]
  repeat' first|exact ck|with_reducible apply And.intro|intro _
  all_goals first|exact hI|exact hc1|(exact ha.ok)|(exact hd)|(exact hs2.ok)|(exact hsm)|(rename_i h;first|exact oI h|exact nah h)|(rename_i _ h _ g;exact sL h g)|decide|omega|(refine A0 [] ?_;simp only[↓eB,seval,go_sem,bne,G4,Ee,hr,B3])
 |false=>
 cases ho2:decide ((p.l.length:Int)≤p.i) with
 |true=>
  have hr:unF (f+1) p=(.nil,BG 51 p):=by simp[unF,outB,ho1,ho2]
  simp only[↓eB,seval,go_sem,ho1,ho2]
  try simp only[A1,A2]
  repeat' first|exact ck|with_reducible apply And.intro|intro _
  all_goals first|exact hI|exact hc1|(exact ha.ok)|(exact hd)|(exact hs2.ok)|(exact hsm)|(rename_i h;first|exact oI h|exact nah h)|(rename_i _ h _ g;exact sL h g)|decide|omega|(refine A0 [] ?_;simp only[↓eB,seval,go_sem,bne,G4,Ee,hr,B3])
 |false=>
 have ho:outB p=false:=by unfold outB;rw[ho1,ho2];rfl
 have he:p.e=0:=by simpa using ho1
 have hlt:p.i<(p.l.length:Int):=by simpa using ho2
 have hlt':(p.i<(p.l.length:Int))=True:=by simp[hlt]
 have h0':(0≤p.i)=True:=by simp[hc1.1]
 cases i0:isT [45] p with
 |true=>
  cases ob:C7 p with
  |false=>
   have hr:unF (f+1) p=(.nil,AG p):=by simp[unF,ho,i0,ob]
   simp only[↓eB,seval,go_sem,ho1,ho2,i0,ob]
   try simp only[A1,A2]
   repeat' first|exact ck|with_reducible apply And.intro|intro _
   all_goals first|exact hI|exact hc1|(exact ha.ok)|(exact hd)|(exact hs2.ok)|(exact hsm)|(rename_i h;first|exact oI h|exact nah h)|(rename_i _ h _ g;exact sL h g)|decide|omega|(refine A0 [] ?_;simp only[↓eB,seval,go_sem,bne,G4,Ee,hr,B3])
  |true=>
   have hr:unF (f+1) p=(.mk 7 0 [] (unF f (adv (AG p))).1 .nil,shut (unF f (adv (AG p))).2):=by simp[unF,ho,i0,ob]
   have ha:=DH hc1 ob hlt
   have hd:dpU f (adv (AG p)):=by
    have h3:=(MJ hc1 ob).2.2
    show 41≤(AG p).deep+(f:Int)
    rw[h3];have:41≤p.deep+((f+1:Nat):Int):=hc2;simp only;omega
   simp only[↓eB,seval,go_sem,ho1,ho2,i0,ob]
   try simp only[A1,A2]
   repeat' first|exact ck|with_reducible apply And.intro|intro _
   all_goals first|exact hI|exact hc1|(exact ha.ok)|(exact hd)|(exact hs2.ok)|(exact hsm)|(rename_i h;first|exact oI h|exact nah h)|(rename_i _ h _ g;exact sL h g)|decide|omega|(refine A0 [.fz 51] ?_;simp only[↓eB,seval,go_sem,bne,G4,Ee,hr,B3,Hg,F2,shut,adv])
 |false=>
 cases i1:isT [40] p with
 |true=>
  cases ob:C7 p with
  |false=>
   have hr:unF (f+1) p=(.nil,AG p):=by simp[unF,ho,i0,i1,ob]
   simp only[↓eB,seval,go_sem,ho1,ho2,i0,i1,ob]
   try simp only[A1,A2]
   repeat' first|exact ck|with_reducible apply And.intro|intro _
   all_goals first|exact hI|exact hc1|(exact ha.ok)|(exact hd)|(exact hs2.ok)|(exact hsm)|(rename_i h;first|exact oI h|exact nah h)|(rename_i _ h _ g;exact sL h g)|decide|omega|(refine A0 [] ?_;simp only[↓eB,seval,go_sem,bne,G4,Ee,hr,B3])
  |true=>
   have hr:unF (f+1) p=((EO (unF f) (adv (AG p))).1,shut (AD [41] (EO (unF f) (adv (AG p))).2)):=by simp[unF,ho,i0,i1,ob]
   have ha:=DH hc1 ob hlt
   have hd:dpU f (adv (AG p)):=by
    have h3:=(MJ hc1 ob).2.2
    show 41≤(AG p).deep+(f:Int)
    rw[h3];have:41≤p.deep+((f+1:Nat):Int):=hc2;simp only;omega
   have hs2:=Qb (G7 f) _ ha.ok
   simp only[↓eB,seval,go_sem,ho1,ho2,i0,i1,ob]
   try simp only[A1,A2]
   repeat' first|exact ck|with_reducible apply And.intro|intro _
   all_goals first|exact hI|exact hc1|(exact ha.ok)|(exact hd)|(exact hs2.ok)|(exact hsm)|(rename_i h;first|exact oI h|exact nah h)|(rename_i _ h _ g;exact sL h g)|decide|omega|(refine A0 [] ?_;simp only[↓eB,seval,go_sem,bne,G4,Ee,hr,shut,adv])
 |false=>
 cases i2:((tk p).k==1) with
 |true=>
  have hr:unF (f+1) p=(.mk 0 (Ci (tk p).t 0) [] .nil .nil,adv p):=by simp[unF,ho,i0,i1,i2]
  have e1:=ZS hc1 hlt
  have hsm:=wU hc1 hlt
  simp only[tk]at i2 hsm
  simp only[Ad]at e1
  simp only[↓eB,seval,go_sem,ho1,ho2,i0,i1,i2,e1,hlt',h0']
  try simp only[A1,A2]
  repeat' first|exact ck|with_reducible apply And.intro|intro _
  all_goals first|exact hI|exact hc1|(exact ha.ok)|(exact hd)|(exact hs2.ok)|(exact hsm)|(rename_i h;first|exact oI h|exact nah h)|(rename_i _ h _ g;exact sL h g)|decide|omega|(refine A0 [.fz 111] ?_;simp only[↓eB,seval,go_sem,bne,G4,Ee,hr,adv,B3,Hg,F2,tk])
 |false=>
 have i2':=i2
 simp only[tk]at i2'
 cases i3:nameB p with
 |true=>
  have hr:unF (f+1) p=(.mk 1 0 (Bi p) .nil .nil,Ai p):=by simp[unF,ho,i0,i1,i2,i3]
  simp only[↓eB,seval,go_sem,ho1,ho2,i0,i1,i2',i3,hlt',h0']
  try simp only[A1,A2]
  repeat' first|exact ck|with_reducible apply And.intro|intro _
  all_goals first|exact hI|exact hc1|(exact ha.ok)|(exact hd)|(exact hs2.ok)|(exact hsm)|(rename_i h;first|exact oI h|exact nah h)|(rename_i _ h _ g;exact sL h g)|decide|omega|(refine A0 [.fz 118] ?_;simp only[↓eB,seval,go_sem,bne,G4,Ee,hr,B3,Hg,F2])
 |false=>
  have hr:unF (f+1) p=(.nil,BG 51 p):=by simp[unF,ho,i0,i1,i2,i3]
  simp only[↓eB,seval,go_sem,ho1,ho2,i0,i1,i2',i3,hlt',h0']
  try simp only[A1,A2]
  repeat' first|exact ck|with_reducible apply And.intro|intro _
  all_goals first|exact hI|exact hc1|(exact ha.ok)|(exact hd)|(exact hs2.ok)|(exact hsm)|(rename_i h;first|exact oI h|exact nah h)|(rename_i _ h _ g;exact sL h g)|decide|omega|(refine A0 [] ?_;simp only[↓eB,seval,go_sem,bne,G4,Ee,hr,B3])
theorem jm:∀f:Nat,QP f
 |0=>by
  rintro ⟨p,_u⟩ w M I lab fz xs hc hA hl hx
  obtain⟨h1,h2⟩:=hc
  have h3:p.deep≤40:=h1.2.2.2.2.1
  have h4:41≤p.deep+((0:Nat):Int):=h2
  exact absurd h4 (by simp;omega)
 |f+1=>A2U f (jm f) (nA f (jm f))
abbrev exS:Pr→R Ex:=EO (unF 41)
theorem Ij {p:Pr} (h:okP p):dpU 41 p:=by
 have:=h.2.2.2.1
 show 41≤p.deep+((41:Nat):Int)
 simp;omega
end Go.Proofs.YtbiepiggmagfcaaGreatDoor
