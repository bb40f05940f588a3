/- Products and sums, walked. No conditions but those in each statement. -/
import Derived.Test.YtjnnmindcbgjhaaPm
set_option linter.unusedVariables false
set_option linter.unusedSimpArgs false
set_option maxRecDepth 20000
set_option maxHeartbeats 4000000
namespace Go.Proofs.Ytjnnmindcbgjhaa
open Go Go.Sy Go.RowKit
abbrev SF (f:Nat) (p:Pr):Prop:=okP p∧dpU f p
abbrev IM (f:Nat) (p:Pr):SV:=.one (exC (unF f p).1)
abbrev Gf (f:Nat) (p:Pr):List (Option MV):=[some (zPr,[(unF f p).2.c])]
noncomputable abbrev Oy:ArgM ((Pr)×Unit):=(amP (mPr) am0)
abbrev QT (f:Nat):Prop:=Cq Try.prog 107 ((Oy).args 0) (Oy).mem (fun p:(Pr)×Unit=>SF f p.1) (fun p:(Pr)×Unit=>IM f p.1) (fun p:(Pr)×Unit=>Gf f p.1)
theorem yj (f:Nat):∀p,(fun p:(Pr)×Unit=>SF f p.1) p→DY ((Oy).mem p).length ((fun p:(Pr)×Unit=>Gf f p.1) p)=true:=by intro p _;rfl
theorem yk (f:Nat):∀p,(fun p:(Pr)×Unit=>SF f p.1) p→BF ((fun p:(Pr)×Unit=>Gf f p.1) p).length ((fun p:(Pr)×Unit=>IM f p.1) p)=true:=by intro p _;first|rfl|exact Ak _ _|exact Al _ _|(simp[BF,CV,Ak,Al];done)
theorem ym (f:Nat):∀p,(fun p:(Pr)×Unit=>SF f p.1) p→∀q,some q∈(fun p:(Pr)×Unit=>Gf f p.1) p→∀r∈q.2,∀c∈r,c.names=[]:=by intro p _;exact FM _
noncomputable def NC {X:Ctx} {w0:World} (f:Nat) (h:QT f):Sy.Spec Try.prog X w0:=DT 107 Try.call107 (Oy) (fun p:(Pr)×Unit=>SF f p.1) (fun p:(Pr)×Unit=>IM f p.1) (fun p:(Pr)×Unit=>Gf f p.1) (yj f) (yk f) (ym f) h
abbrev O3 (f:Nat) (p:Pr):Prop:=okP p∧dpU f p
abbrev Lt (f:Nat) (p:Pr):SV:=.one (exC (Dd (unF f) p).1)
abbrev Ja (f:Nat) (p:Pr):List (Option MV):=[some (zPr,[(Dd (unF f) p).2.c])]
noncomputable abbrev KK:ArgM ((Pr)×Unit):=(amP (mPr) am0)
abbrev Xk (f:Nat):Prop:=Cq Try.prog 104 ((KK).args 0) (KK).mem (fun p:(Pr)×Unit=>O3 f p.1) (fun p:(Pr)×Unit=>Lt f p.1) (fun p:(Pr)×Unit=>Ja f p.1)
theorem jy (f:Nat):∀p,(fun p:(Pr)×Unit=>O3 f p.1) p→DY ((KK).mem p).length ((fun p:(Pr)×Unit=>Ja f p.1) p)=true:=by intro p _;rfl
theorem jz (f:Nat):∀p,(fun p:(Pr)×Unit=>O3 f p.1) p→BF ((fun p:(Pr)×Unit=>Ja f p.1) p).length ((fun p:(Pr)×Unit=>Lt f p.1) p)=true:=by intro p _;first|rfl|exact Ak _ _|exact Al _ _|(simp[BF,CV,Ak,Al];done)
theorem kA (f:Nat):∀p,(fun p:(Pr)×Unit=>O3 f p.1) p→∀q,some q∈(fun p:(Pr)×Unit=>Ja f p.1) p→∀r∈q.2,∀c∈r,c.names=[]:=by intro p _;exact FM _
noncomputable def O4 {X:Ctx} {w0:World} (f:Nat) (h:Xk f):Sy.Spec Try.prog X w0:=DT 104 Try.call104 (KK) (fun p:(Pr)×Unit=>O3 f p.1) (fun p:(Pr)×Unit=>Lt f p.1) (fun p:(Pr)×Unit=>Ja f p.1) (jy f) (jz f) (kA f) h
attribute [local go_sem] Pr.c zTk
theorem bA (f:Nat) (hu:QT f):Xk f:=by
 rintro ⟨p,_u⟩ w M I lab fz xs hc hA hl hx
 refine BQ Try.func104 rfl ((KK).mem ⟨p,_u⟩) w M I lab fz [AR,(NC f hu)] [] ((KK).args 0 ⟨p,_u⟩) ((fun p:(Pr)×Unit=>Ja f p.1) ⟨p,_u⟩) ((fun p:(Pr)×Unit=>Lt f p.1) ⟨p,_u⟩) xs hA hl hx (fun v hv k hk=>by have:=(KK).an 0 ⟨p,_u⟩ v hv k hk;omega) (jN rfl) (jN rfl) ?_
 clear hx hl hA xs
 simp only[Try.f104]
 simp only[↓eB,seval,go_sem,AR,NC,Af,Ae,Ag,AZ,Tok.r,Aa,ptR,Ad,AQ,AP,AO,As]
 obtain⟨hc1,hc2⟩:=hc
 have hu0:=IQ f p hc1
 refine⟨⟨hc1,hc2⟩,?_⟩
 refine Ac (Y:=Nat×Ex×Pr) (fun y=>okP y.2.2∧dpU f y.2.2∧(y.2.2.l.length:Int)≤y.2.2.i+(y.1:Int)∧Ej (unF f) y.1 y.2.1 y.2.2=Dd (unF f) p)
  (fun y=>⟨[(0,true,.one (.p 0 0 0)),(3,true,.one (exC y.2.1))],[(0,.vec 0 zPr [y.2.2.c])]⟩)
  (fun y=>y.1) (p.l.length,(unF f p).1,(unF f p).2) ⟨hu0.ok,by show dpU f _;unfold dpU;rw[hu0.d];exact hc2,by have:=hu0.ok.1;simp only[hu0.l];omega,by show Ej _ _ _ _=Dd _ _;rfl⟩ (A2 [] ?_) ?_
 ·simp only[↓eB,seval,go_sem]
 ·rintro ⟨k,a,q⟩ ⟨h1,h2,h3,h4⟩
  refine Aq [AR,NC f hu] [] _ _ _ ?_
  dsimp only at h1 h2 h3 h4
  have hI:=h1.i
  cases he:(q.e==0) with
  |false=>
   have hr:(a,q)=Dd (unF f) p:=by
    rw[← h4];cases k<;>simp[Ej,he]
   simp only[↓eB,seval,go_sem,he,AR,Af,Ae,Ag,AZ,Tok.r,Aa,ptR,Ad,AQ,AP,AO]
   refine A0 [] ?_;simp only[↓eB,seval,go_sem,bne,Lt,Ja,← hr]
  |true=>
   cases i0:isT [42] q with
   |true=>
    obtain⟨k',rfl⟩:∃k',k=k'+1:=⟨k-1,by have:=(BB i0).2;omega⟩
    simp only[Ej,he,i0,if_true,if_false,jB]at h4
    have ha:=DI h1 (BB i0).2 (BB i0).1
    have hu1:=IQ f _ ha.ok
    have hai:=Ek h1 (BB i0).2
    simp only[↓eB,seval,go_sem,he,i0,AR,As,NC,Af,Ae,Ag,AZ,Tok.r,Aa,ptR,Ad,AQ,AP,AO]
    refine⟨hI,⟨ha.ok,h2⟩,(k',Ex.mk 4 0 [] a (unF f (adv q)).1,(unF f (adv q)).2),⟨hu1.ok,by show dpU f _;unfold dpU;rw[hu1.d];exact h2,?_,h4⟩,Nat.lt_succ_self _,A2 [.fz 34] ?_⟩
    ·dsimp only;have hi1:=hu1.i;rw[hai]at hi1;rw[hu1.l];show (q.l.length:Int)≤_;omega
    ·simp only[↓eB,seval,go_sem,adv,DE,AV,Fe]
   |false=>
    cases i1:isT [47] q with
    |true=>
     obtain⟨k',rfl⟩:∃k',k=k'+1:=⟨k-1,by have:=(BB i1).2;omega⟩
     simp only[Ej,he,i0,i1,if_true,if_false,jB]at h4
     have ha:=DI h1 (BB i1).2 (BB i1).1
     have hu1:=IQ f _ ha.ok
     have hai:=Ek h1 (BB i1).2
     simp only[↓eB,seval,go_sem,he,i0,i1,AR,As,NC,Af,Ae,Ag,AZ,Tok.r,Aa,ptR,Ad,AQ,AP,AO]
     refine⟨hI,hI,⟨ha.ok,h2⟩,(k',Ex.mk 5 0 [] a (unF f (adv q)).1,(unF f (adv q)).2),⟨hu1.ok,by show dpU f _;unfold dpU;rw[hu1.d];exact h2,?_,h4⟩,Nat.lt_succ_self _,A2 [.fz 34] ?_⟩
     ·dsimp only;have hi1:=hu1.i;rw[hai]at hi1;rw[hu1.l];show (q.l.length:Int)≤_;omega
     ·simp only[↓eB,seval,go_sem,adv,DE,AV,Fe]
    |false=>
     cases i2:isT [37] q with
     |true=>
      obtain⟨k',rfl⟩:∃k',k=k'+1:=⟨k-1,by have:=(BB i2).2;omega⟩
      simp only[Ej,he,i0,i1,i2,if_true,if_false,jB]at h4
      have ha:=DI h1 (BB i2).2 (BB i2).1
      have hu1:=IQ f _ ha.ok
      have hai:=Ek h1 (BB i2).2
      simp only[↓eB,seval,go_sem,he,i0,i1,i2,AR,As,NC,Af,Ae,Ag,AZ,Tok.r,Aa,ptR,Ad,AQ,AP,AO]
      refine⟨hI,hI,hI,⟨ha.ok,h2⟩,(k',Ex.mk 6 0 [] a (unF f (adv q)).1,(unF f (adv q)).2),⟨hu1.ok,by show dpU f _;unfold dpU;rw[hu1.d];exact h2,?_,h4⟩,Nat.lt_succ_self _,A2 [.fz 34] ?_⟩
      ·dsimp only;have hi1:=hu1.i;rw[hai]at hi1;rw[hu1.l];show (q.l.length:Int)≤_;omega
      ·simp only[↓eB,seval,go_sem,adv,DE,AV,Fe]
     |false=>
      have hr:(a,q)=Dd (unF f) p:=by
       rw[← h4];cases k<;>simp[Ej,he,i0,i1,i2]
      simp only[↓eB,seval,go_sem,he,i0,i1,i2,AR,As,Af,Ae,Ag,AZ,Tok.r,Aa,ptR,Ad,AQ,AP,AO]
      refine⟨hI,hI,hI,?_⟩
      refine A0 [] ?_;simp only[↓eB,seval,go_sem,bne,Lt,Ja,← hr]
abbrev Pk (f:Nat) (p:Pr):Prop:=okP p∧dpU f p
abbrev O5 (f:Nat) (p:Pr):SV:=.one (exC (GJ (unF f) p).1)
abbrev LI (f:Nat) (p:Pr):List (Option MV):=[some (zPr,[(GJ (unF f) p).2.c])]
noncomputable abbrev MQ:ArgM ((Pr)×Unit):=(amP (mPr) am0)
abbrev Vf (f:Nat):Prop:=Cq Try.prog 86 ((MQ).args 0) (MQ).mem (fun p:(Pr)×Unit=>Pk f p.1) (fun p:(Pr)×Unit=>O5 f p.1) (fun p:(Pr)×Unit=>LI f p.1)
theorem ry (f:Nat):∀p,(fun p:(Pr)×Unit=>Pk f p.1) p→DY ((MQ).mem p).length ((fun p:(Pr)×Unit=>LI f p.1) p)=true:=by intro p _;rfl
theorem rz (f:Nat):∀p,(fun p:(Pr)×Unit=>Pk f p.1) p→BF ((fun p:(Pr)×Unit=>LI f p.1) p).length ((fun p:(Pr)×Unit=>O5 f p.1) p)=true:=by intro p _;first|rfl|exact Ak _ _|exact Al _ _|(simp[BF,CV,Ak,Al];done)
theorem sA (f:Nat):∀p,(fun p:(Pr)×Unit=>Pk f p.1) p→∀q,some q∈(fun p:(Pr)×Unit=>LI f p.1) p→∀r∈q.2,∀c∈r,c.names=[]:=by intro p _;exact FM _
noncomputable def Ct {X:Ctx} {w0:World} (f:Nat) (h:Vf f):Sy.Spec Try.prog X w0:=DT 86 Try.call86 (MQ) (fun p:(Pr)×Unit=>Pk f p.1) (fun p:(Pr)×Unit=>O5 f p.1) (fun p:(Pr)×Unit=>LI f p.1) (ry f) (rz f) (sA f) h
theorem iV (f:Nat) (hu:QT f):Vf f:=by
 rintro ⟨p,_u⟩ w M I lab fz xs hc hA hl hx
 refine BQ Try.func86 rfl ((MQ).mem ⟨p,_u⟩) w M I lab fz [AR,(O4 f (bA f hu))] [] ((MQ).args 0 ⟨p,_u⟩) ((fun p:(Pr)×Unit=>LI f p.1) ⟨p,_u⟩) ((fun p:(Pr)×Unit=>O5 f p.1) ⟨p,_u⟩) xs hA hl hx (fun v hv k hk=>by have:=(MQ).an 0 ⟨p,_u⟩ v hv k hk;omega) (jN rfl) (jN rfl) ?_
 clear hx hl hA xs
 simp only[Try.f86]
 simp only[↓eB,seval,go_sem,AR,O4,Af,Ae,Ag,AZ,Tok.r,Aa,ptR,Ad,AQ,AP,AO,As]
 obtain⟨hc1,hc2⟩:=hc
 have hu0:=J9 (IQ f) p hc1
 refine⟨⟨hc1,hc2⟩,?_⟩
 refine Ac (Y:=Nat×Ex×Pr) (fun y=>okP y.2.2∧dpU f y.2.2∧(y.2.2.l.length:Int)≤y.2.2.i+(y.1:Int)∧HZ (unF f) y.1 y.2.1 y.2.2=GJ (unF f) p)
  (fun y=>⟨[(0,true,.one (.p 0 0 0)),(3,true,.one (exC y.2.1))],[(0,.vec 0 zPr [y.2.2.c])]⟩)
  (fun y=>y.1) (p.l.length,(Dd (unF f) p).1,(Dd (unF f) p).2) ⟨hu0.ok,by show dpU f _;unfold dpU;rw[hu0.d];exact hc2,by have:=hu0.ok.1;simp only[hu0.l];omega,by show HZ _ _ _ _=GJ _ _;rfl⟩ (A2 [] ?_) ?_
 ·simp only[↓eB,seval,go_sem]
 ·rintro ⟨k,a,q⟩ ⟨h1,h2,h3,h4⟩
  refine Aq [AR,O4 f (bA f hu)] [] _ _ _ ?_
  dsimp only at h1 h2 h3 h4
  have hI:=h1.i
  cases he:(q.e==0) with
  |false=>
   have hr:(a,q)=GJ (unF f) p:=by
    rw[← h4];cases k<;>simp[HZ,he]
   simp only[↓eB,seval,go_sem,he,AR,Af,Ae,Ag,AZ,Tok.r,Aa,ptR,Ad,AQ,AP,AO]
   refine A0 [] ?_;simp only[↓eB,seval,go_sem,bne,O5,LI,← hr]
  |true=>
   cases i0:isT [45] q with
   |true=>
    obtain⟨k',rfl⟩:∃k',k=k'+1:=⟨k-1,by have:=(BB i0).2;omega⟩
    simp only[HZ,he,i0,if_true,if_false,jB]at h4
    have ha:=DI h1 (BB i0).2 (BB i0).1
    have hu1:=J9 (IQ f) _ ha.ok
    have hai:=Ek h1 (BB i0).2
    simp only[↓eB,seval,go_sem,he,i0,AR,As,O4,Af,Ae,Ag,AZ,Tok.r,Aa,ptR,Ad,AQ,AP,AO]
    refine⟨hI,⟨ha.ok,h2⟩,(k',Ex.mk 3 0 [] a (Dd (unF f) (adv q)).1,(Dd (unF f) (adv q)).2),⟨hu1.ok,by show dpU f _;unfold dpU;rw[hu1.d];exact h2,?_,h4⟩,Nat.lt_succ_self _,A2 [.fz 30] ?_⟩
    ·dsimp only;have hi1:=hu1.i;rw[hai]at hi1;rw[hu1.l];show (q.l.length:Int)≤_;omega
    ·simp only[↓eB,seval,go_sem,adv,DE,AV,Fe]
   |false=>
    cases i1:isT [43] q with
    |true=>
     obtain⟨k',rfl⟩:∃k',k=k'+1:=⟨k-1,by have:=(BB i1).2;omega⟩
     simp only[HZ,he,i0,i1,if_true,if_false,jB]at h4
     have ha:=DI h1 (BB i1).2 (BB i1).1
     have hu1:=J9 (IQ f) _ ha.ok
     have hai:=Ek h1 (BB i1).2
     simp only[↓eB,seval,go_sem,he,i0,i1,AR,As,O4,Af,Ae,Ag,AZ,Tok.r,Aa,ptR,Ad,AQ,AP,AO]
     refine⟨hI,hI,⟨ha.ok,h2⟩,(k',Ex.mk 2 0 [] a (Dd (unF f) (adv q)).1,(Dd (unF f) (adv q)).2),⟨hu1.ok,by show dpU f _;unfold dpU;rw[hu1.d];exact h2,?_,h4⟩,Nat.lt_succ_self _,A2 [.fz 30] ?_⟩
     ·dsimp only;have hi1:=hu1.i;rw[hai]at hi1;rw[hu1.l];show (q.l.length:Int)≤_;omega
     ·simp only[↓eB,seval,go_sem,adv,DE,AV,Fe]
    |false=>
     have hr:(a,q)=GJ (unF f) p:=by
      rw[← h4];cases k<;>simp[HZ,he,i0,i1]
     simp only[↓eB,seval,go_sem,he,i0,i1,AR,As,Af,Ae,Ag,AZ,Tok.r,Aa,ptR,Ad,AQ,AP,AO]
     refine⟨hI,hI,?_⟩
     refine A0 [] ?_;simp only[↓eB,seval,go_sem,bne,O5,LI,← hr]
attribute[local go_sem] Tok.r Aa Ag AQ Af Ae AO ptR Ad AP AZ Ct NC AC AR AH A8 Hq AM AG As AN Fi in
theorem yo (f:Nat) (hu:QT f) (hs:Vf f):QT (f+1):=by
 rintro ⟨p,_u⟩ w M I lab fz xs hc hA hl hx
 refine BQ Try.func107 rfl ((Oy).mem ⟨p,_u⟩) w M I lab fz [AR,A8,AM,AC,AG,AH,Hq,(NC f hu),(Ct f hs)] [] ((Oy).args 0 ⟨p,_u⟩) ((fun p:(Pr)×Unit=>Gf (f+1) p.1) ⟨p,_u⟩) ((fun p:(Pr)×Unit=>IM (f+1) p.1) ⟨p,_u⟩) xs hA hl hx (fun v hv k hk=>by have:=(Oy).an 0 ⟨p,_u⟩ v hv k hk;omega) (jN rfl) (jN rfl) ?_
 clear hx hl hA xs
 simp only[Try.f107]
 obtain⟨hc1,hc2⟩:=hc
 have hI:=hc1.i
 cases ho1:(p.e != 0) with
 |true=>
  have hr:unF (f+1) p=(.nil,C7 51 p):=by simp[unF,outB,ho1]
  simp only[↓eB,seval,go_sem,ho1]
  try simp only[A3,A4]
  repeat' first|exact ck|with_reducible apply And.intro|intro _
  all_goals first|exact hI|exact hc1|(exact ha.ok)|(exact hd)|(exact hs2.ok)|(exact hsm)|(rename_i h;first|exact oI h|exact nah h)|(rename_i _ h _ g;exact sL h g)|decide|omega|(refine A0 [] ?_;simp only[↓eB,seval,go_sem,bne,IM,Gf,hr,AV])
 |false=>
 cases ho2:decide ((p.l.length:Int)≤p.i) with
 |true=>
  have hr:unF (f+1) p=(.nil,C7 51 p):=by simp[unF,outB,ho1,ho2]
  simp only[↓eB,seval,go_sem,ho1,ho2]
  try simp only[A3,A4]
  repeat' first|exact ck|with_reducible apply And.intro|intro _
  all_goals first|exact hI|exact hc1|(exact ha.ok)|(exact hd)|(exact hs2.ok)|(exact hsm)|(rename_i h;first|exact oI h|exact nah h)|(rename_i _ h _ g;exact sL h g)|decide|omega|(refine A0 [] ?_;simp only[↓eB,seval,go_sem,bne,IM,Gf,hr,AV])
 |false=>
 have ho:outB p=false:=by unfold outB;rw[ho1,ho2];rfl
 have he:p.e=0:=by simpa using ho1
 have hlt:p.i<(p.l.length:Int):=by simpa using ho2
 have hlt':(p.i<(p.l.length:Int))=True:=by simp[hlt]
 have h0':(0≤p.i)=True:=by simp[hc1.1]
 cases i0:isT [45] p with
 |true=>
  cases ob:DH p with
  |false=>
   have hr:unF (f+1) p=(.nil,Ai p):=by simp[unF,ho,i0,ob]
   simp only[↓eB,seval,go_sem,ho1,ho2,i0,ob]
   try simp only[A3,A4]
   repeat' first|exact ck|with_reducible apply And.intro|intro _
   all_goals first|exact hI|exact hc1|(exact ha.ok)|(exact hd)|(exact hs2.ok)|(exact hsm)|(rename_i h;first|exact oI h|exact nah h)|(rename_i _ h _ g;exact sL h g)|decide|omega|(refine A0 [] ?_;simp only[↓eB,seval,go_sem,bne,IM,Gf,hr,AV])
  |true=>
   have hr:unF (f+1) p=(.mk 7 0 [] (unF f (adv (Ai p))).1 .nil,shut (unF f (adv (Ai p))).2):=by simp[unF,ho,i0,ob]
   have ha:=Fg hc1 ob hlt
   have hd:dpU f (adv (Ai p)):=by
    have h3:=(ND hc1 ob).2.2
    show 41≤(Ai p).deep+(f:Int)
    rw[h3];have:41≤p.deep+((f+1:Nat):Int):=hc2;simp only;omega
   simp only[↓eB,seval,go_sem,ho1,ho2,i0,ob]
   try simp only[A3,A4]
   repeat' first|exact ck|with_reducible apply And.intro|intro _
   all_goals first|exact hI|exact hc1|(exact ha.ok)|(exact hd)|(exact hs2.ok)|(exact hsm)|(rename_i h;first|exact oI h|exact nah h)|(rename_i _ h _ g;exact sL h g)|decide|omega|(refine A0 [.fz 51] ?_;simp only[↓eB,seval,go_sem,bne,IM,Gf,hr,AV,DE,Fe,shut,adv])
 |false=>
 cases i1:isT [40] p with
 |true=>
  cases ob:DH p with
  |false=>
   have hr:unF (f+1) p=(.nil,Ai p):=by simp[unF,ho,i0,i1,ob]
   simp only[↓eB,seval,go_sem,ho1,ho2,i0,i1,ob]
   try simp only[A3,A4]
   repeat' first|exact ck|with_reducible apply And.intro|intro _
   all_goals first|exact hI|exact hc1|(exact ha.ok)|(exact hd)|(exact hs2.ok)|(exact hsm)|(rename_i h;first|exact oI h|exact nah h)|(rename_i _ h _ g;exact sL h g)|decide|omega|(refine A0 [] ?_;simp only[↓eB,seval,go_sem,bne,IM,Gf,hr,AV])
  |true=>
   have hr:unF (f+1) p=((GJ (unF f) (adv (Ai p))).1,shut (AX [41] (GJ (unF f) (adv (Ai p))).2)):=by simp[unF,ho,i0,i1,ob]
   have ha:=Fg hc1 ob hlt
   have hd:dpU f (adv (Ai p)):=by
    have h3:=(ND hc1 ob).2.2
    show 41≤(Ai p).deep+(f:Int)
    rw[h3];have:41≤p.deep+((f+1:Nat):Int):=hc2;simp only;omega
   have hs2:=QW (IQ f) _ ha.ok
   simp only[↓eB,seval,go_sem,ho1,ho2,i0,i1,ob]
   try simp only[A3,A4]
   repeat' first|exact ck|with_reducible apply And.intro|intro _
   all_goals first|exact hI|exact hc1|(exact ha.ok)|(exact hd)|(exact hs2.ok)|(exact hsm)|(rename_i h;first|exact oI h|exact nah h)|(rename_i _ h _ g;exact sL h g)|decide|omega|(refine A0 [] ?_;simp only[↓eB,seval,go_sem,bne,IM,Gf,hr,shut,adv])
 |false=>
 cases i2:((tk p).k==1) with
 |true=>
  have hr:unF (f+1) p=(.mk 0 (numW (tk p).t 0) [] .nil .nil,adv p):=by simp[unF,ho,i0,i1,i2]
  have e1:=Xv hc1 hlt
  have hsm:=sK hc1 hlt
  simp only[tk]at i2 hsm
  simp only[w64i]at e1
  simp only[↓eB,seval,go_sem,ho1,ho2,i0,i1,i2,e1,hlt',h0']
  try simp only[A3,A4]
  repeat' first|exact ck|with_reducible apply And.intro|intro _
  all_goals first|exact hI|exact hc1|(exact ha.ok)|(exact hd)|(exact hs2.ok)|(exact hsm)|(rename_i h;first|exact oI h|exact nah h)|(rename_i _ h _ g;exact sL h g)|decide|omega|(refine A0 [.fz 111] ?_;simp only[↓eB,seval,go_sem,bne,IM,Gf,hr,adv,AV,DE,Fe,tk])
 |false=>
 have i2':=i2
 simp only[tk]at i2'
 cases i3:nameB p with
 |true=>
  have hr:unF (f+1) p=(.mk 1 0 (CY p) .nil .nil,BE p):=by simp[unF,ho,i0,i1,i2,i3]
  simp only[↓eB,seval,go_sem,ho1,ho2,i0,i1,i2',i3,hlt',h0']
  try simp only[A3,A4]
  repeat' first|exact ck|with_reducible apply And.intro|intro _
  all_goals first|exact hI|exact hc1|(exact ha.ok)|(exact hd)|(exact hs2.ok)|(exact hsm)|(rename_i h;first|exact oI h|exact nah h)|(rename_i _ h _ g;exact sL h g)|decide|omega|(refine A0 [.fz 118] ?_;simp only[↓eB,seval,go_sem,bne,IM,Gf,hr,AV,DE,Fe])
 |false=>
  have hr:unF (f+1) p=(.nil,C7 51 p):=by simp[unF,ho,i0,i1,i2,i3]
  simp only[↓eB,seval,go_sem,ho1,ho2,i0,i1,i2',i3,hlt',h0']
  try simp only[A3,A4]
  repeat' first|exact ck|with_reducible apply And.intro|intro _
  all_goals first|exact hI|exact hc1|(exact ha.ok)|(exact hd)|(exact hs2.ok)|(exact hsm)|(rename_i h;first|exact oI h|exact nah h)|(rename_i _ h _ g;exact sL h g)|decide|omega|(refine A0 [] ?_;simp only[↓eB,seval,go_sem,bne,IM,Gf,hr,AV])
theorem eE:∀f:Nat,QT f
 |0=>by
  rintro ⟨p,_u⟩ w M I lab fz xs hc hA hl hx
  obtain⟨h1,h2⟩:=hc
  have h3:p.deep≤40:=h1.2.2.2.2.1
  have h4:41≤p.deep+((0:Nat):Int):=h2
  exact absurd h4 (by simp;omega)
 |f+1=>yo f (eE f) (iV f (eE f))
end Go.Proofs.Ytjnnmindcbgjhaa
