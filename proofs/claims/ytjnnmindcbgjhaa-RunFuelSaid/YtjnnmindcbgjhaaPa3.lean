/- Products and sums, walked. No conditions but those in each statement. -/
import Derived.Test.YtjnnmindcbgjhaaPm
set_option linter.unusedVariables false
set_option linter.unusedSimpArgs false
set_option maxRecDepth 20000
set_option maxHeartbeats 4000000
namespace Go.Proofs.Ytjnnmindcbgjhaa
open Go Go.Sy Go.RowKit
abbrev TQ (f:Nat) (p:Pr):Prop:=okP p∧dpU f p
abbrev J0 (f:Nat) (p:Pr):SV:=.one (exC (unF f p).1)
abbrev HB (f:Nat) (p:Pr):List (Option MV):=[some (zPr,[(unF f p).2.c])]
noncomputable abbrev Pj:ArgM ((Pr)×Unit):=(amP (mPr) am0)
abbrev RT (f:Nat):Prop:=Bs Try.prog 107 ((Pj).args 0) (Pj).mem (fun p:(Pr)×Unit=>TQ f p.1) (fun p:(Pr)×Unit=>J0 f p.1) (fun p:(Pr)×Unit=>HB f p.1)
theorem A0r (f:Nat):∀p,(fun p:(Pr)×Unit=>TQ f p.1) p→Cm ((Pj).mem p).length ((fun p:(Pr)×Unit=>HB f p.1) p)=true:=by intro p _;rfl
theorem A0s (f:Nat):∀p,(fun p:(Pr)×Unit=>TQ f p.1) p→As ((fun p:(Pr)×Unit=>HB f p.1) p).length ((fun p:(Pr)×Unit=>J0 f p.1) p)=true:=by intro p _;first|rfl|exact AO _ _|exact AP _ _|(simp[As,Bz,AO,AP];done)
theorem A0t (f:Nat):∀p,(fun p:(Pr)×Unit=>TQ f p.1) p→∀q,some q∈(fun p:(Pr)×Unit=>HB f p.1) p→∀r∈q.2,∀c∈r,c.names=[]:=by intro p _;exact Fg _
noncomputable def Nr {X:Ctx} {w0:World} (f:Nat) (h:RT f):Sy.Spec Try.prog X w0:=CY 107 Try.call107 (Pj) (fun p:(Pr)×Unit=>TQ f p.1) (fun p:(Pr)×Unit=>J0 f p.1) (fun p:(Pr)×Unit=>HB f p.1) (A0r f) (A0s f) (A0t f) h
abbrev Og (f:Nat) (p:Pr):Prop:=okP p∧dpU f p
abbrev MP (f:Nat) (p:Pr):SV:=.one (exC (FQ (unF f) p).1)
abbrev K2 (f:Nat) (p:Pr):List (Option MV):=[some (zPr,[(FQ (unF f) p).2.c])]
noncomputable abbrev Kx:ArgM ((Pr)×Unit):=(amP (mPr) am0)
abbrev Yz (f:Nat):Prop:=Bs Try.prog 104 ((Kx).args 0) (Kx).mem (fun p:(Pr)×Unit=>Og f p.1) (fun p:(Pr)×Unit=>MP f p.1) (fun p:(Pr)×Unit=>K2 f p.1)
theorem mg (f:Nat):∀p,(fun p:(Pr)×Unit=>Og f p.1) p→Cm ((Kx).mem p).length ((fun p:(Pr)×Unit=>K2 f p.1) p)=true:=by intro p _;rfl
theorem mh (f:Nat):∀p,(fun p:(Pr)×Unit=>Og f p.1) p→As ((fun p:(Pr)×Unit=>K2 f p.1) p).length ((fun p:(Pr)×Unit=>MP f p.1) p)=true:=by intro p _;first|rfl|exact AO _ _|exact AP _ _|(simp[As,Bz,AO,AP];done)
theorem mi (f:Nat):∀p,(fun p:(Pr)×Unit=>Og f p.1) p→∀q,some q∈(fun p:(Pr)×Unit=>K2 f p.1) p→∀r∈q.2,∀c∈r,c.names=[]:=by intro p _;exact Fg _
noncomputable def Oh {X:Ctx} {w0:World} (f:Nat) (h:Yz f):Sy.Spec Try.prog X w0:=CY 104 Try.call104 (Kx) (fun p:(Pr)×Unit=>Og f p.1) (fun p:(Pr)×Unit=>MP f p.1) (fun p:(Pr)×Unit=>K2 f p.1) (mg f) (mh f) (mi f) h
attribute [local go_sem] Pr.c zTk
theorem cZ (f:Nat) (hu:RT f):Yz f:=by
 rintro ⟨p,_u⟩ w M I lab fz xs hc hA hl hx
 refine Am Try.func104 rfl ((Kx).mem ⟨p,_u⟩) w M I lab fz [AU,(Nr f hu)] [] ((Kx).args 0 ⟨p,_u⟩) ((fun p:(Pr)×Unit=>K2 f p.1) ⟨p,_u⟩) ((fun p:(Pr)×Unit=>MP f p.1) ⟨p,_u⟩) xs hA hl hx (fun v hv k hk=>by have:=(Kx).an 0 ⟨p,_u⟩ v hv k hk;omega) (jN rfl) (jN rfl) ?_
 clear hx hl hA xs
 simp only[Try.f104]
 simp only[↓eB,seval,go_sem,AU,Nr,Ah,Ag,Ai,Ac,Tok.r,Ad,ptR,Af,AS,AR,AQ,Aw]
 obtain⟨hc1,hc2⟩:=hc
 have hu0:=KJ f p hc1
 refine⟨⟨hc1,hc2⟩,?_⟩
 refine Ab (Y:=Nat×Ex×Pr) (fun y=>okP y.2.2∧dpU f y.2.2∧(y.2.2.l.length:Int)≤y.2.2.i+(y.1:Int)∧J1 (unF f) y.1 y.2.1 y.2.2=FQ (unF f) p)
  (fun y=>⟨[(0,true,.one (.p 0 0 0)),(3,true,.one (exC y.2.1))],[(0,.vec 0 zPr [y.2.2.c])]⟩)
  (fun y=>y.1) (p.l.length,(unF f p).1,(unF f p).2) ⟨hu0.ok,by show dpU f _;unfold dpU;rw[hu0.d];exact hc2,by have:=hu0.ok.1;simp only[hu0.l];omega,by show J1 _ _ _ _=FQ _ _;rfl⟩ (A4 [] ?_) ?_
 ·simp only[↓eB,seval,go_sem]
 ·rintro ⟨k,a,q⟩ ⟨h1,h2,h3,h4⟩
  refine Au [AU,Nr f hu] [] _ _ _ ?_
  dsimp only at h1 h2 h3 h4
  have hI:=h1.i
  cases he:(q.e==0) with
  |false=>
   have hr:(a,q)=FQ (unF f) p:=by
    rw[← h4];cases k<;>simp[J1,he]
   simp only[↓eB,seval,go_sem,he,AU,Ah,Ag,Ai,Ac,Tok.r,Ad,ptR,Af,AS,AR,AQ]
   refine A0 [] ?_;simp only[↓eB,seval,go_sem,bne,MP,K2,← hr]
  |true=>
   cases i0:isT [42] q with
   |true=>
    obtain⟨k',rfl⟩:∃k',k=k'+1:=⟨k-1,by have:=(B8 i0).2;omega⟩
    simp only[J1,he,i0,if_true,if_false,jB]at h4
    have ha:=Di h1 (B8 i0).2 (B8 i0).1
    have hu1:=KJ f _ ha.ok
    have hai:=IA h1 (B8 i0).2
    simp only[↓eB,seval,go_sem,he,i0,AU,Aw,Nr,Ah,Ag,Ai,Ac,Tok.r,Ad,ptR,Af,AS,AR,AQ]
    refine⟨hI,⟨ha.ok,h2⟩,(k',Ex.mk 4 0 [] a (unF f (adv q)).1,(unF f (adv q)).2),⟨hu1.ok,by show dpU f _;unfold dpU;rw[hu1.d];exact h2,?_,h4⟩,Nat.lt_succ_self _,A4 [.fz 34] ?_⟩
    ·dsimp only;have hi1:=hu1.i;rw[hai]at hi1;rw[hu1.l];show (q.l.length:Int)≤_;omega
    ·simp only[↓eB,seval,go_sem,adv,DK,AY,Fx]
   |false=>
    cases i1:isT [47] q with
    |true=>
     obtain⟨k',rfl⟩:∃k',k=k'+1:=⟨k-1,by have:=(B8 i1).2;omega⟩
     simp only[J1,he,i0,i1,if_true,if_false,jB]at h4
     have ha:=Di h1 (B8 i1).2 (B8 i1).1
     have hu1:=KJ f _ ha.ok
     have hai:=IA h1 (B8 i1).2
     simp only[↓eB,seval,go_sem,he,i0,i1,AU,Aw,Nr,Ah,Ag,Ai,Ac,Tok.r,Ad,ptR,Af,AS,AR,AQ]
     refine⟨hI,hI,⟨ha.ok,h2⟩,(k',Ex.mk 5 0 [] a (unF f (adv q)).1,(unF f (adv q)).2),⟨hu1.ok,by show dpU f _;unfold dpU;rw[hu1.d];exact h2,?_,h4⟩,Nat.lt_succ_self _,A4 [.fz 34] ?_⟩
     ·dsimp only;have hi1:=hu1.i;rw[hai]at hi1;rw[hu1.l];show (q.l.length:Int)≤_;omega
     ·simp only[↓eB,seval,go_sem,adv,DK,AY,Fx]
    |false=>
     cases i2:isT [37] q with
     |true=>
      obtain⟨k',rfl⟩:∃k',k=k'+1:=⟨k-1,by have:=(B8 i2).2;omega⟩
      simp only[J1,he,i0,i1,i2,if_true,if_false,jB]at h4
      have ha:=Di h1 (B8 i2).2 (B8 i2).1
      have hu1:=KJ f _ ha.ok
      have hai:=IA h1 (B8 i2).2
      simp only[↓eB,seval,go_sem,he,i0,i1,i2,AU,Aw,Nr,Ah,Ag,Ai,Ac,Tok.r,Ad,ptR,Af,AS,AR,AQ]
      refine⟨hI,hI,hI,⟨ha.ok,h2⟩,(k',Ex.mk 6 0 [] a (unF f (adv q)).1,(unF f (adv q)).2),⟨hu1.ok,by show dpU f _;unfold dpU;rw[hu1.d];exact h2,?_,h4⟩,Nat.lt_succ_self _,A4 [.fz 34] ?_⟩
      ·dsimp only;have hi1:=hu1.i;rw[hai]at hi1;rw[hu1.l];show (q.l.length:Int)≤_;omega
      ·simp only[↓eB,seval,go_sem,adv,DK,AY,Fx]
     |false=>
      have hr:(a,q)=FQ (unF f) p:=by
       rw[← h4];cases k<;>simp[J1,he,i0,i1,i2]
      simp only[↓eB,seval,go_sem,he,i0,i1,i2,AU,Aw,Ah,Ag,Ai,Ac,Tok.r,Ad,ptR,Af,AS,AR,AQ]
      refine⟨hI,hI,hI,?_⟩
      refine A0 [] ?_;simp only[↓eB,seval,go_sem,bne,MP,K2,← hr]
abbrev Qe (f:Nat) (p:Pr):Prop:=okP p∧dpU f p
abbrev Oi (f:Nat) (p:Pr):SV:=.one (exC (KI (unF f) p).1)
abbrev Lp (f:Nat) (p:Pr):List (Option MV):=[some (zPr,[(KI (unF f) p).2.c])]
noncomputable abbrev N3:ArgM ((Pr)×Unit):=(amP (mPr) am0)
abbrev X1 (f:Nat):Prop:=Bs Try.prog 86 ((N3).args 0) (N3).mem (fun p:(Pr)×Unit=>Qe f p.1) (fun p:(Pr)×Unit=>Oi f p.1) (fun p:(Pr)×Unit=>Lp f p.1)
theorem uQ (f:Nat):∀p,(fun p:(Pr)×Unit=>Qe f p.1) p→Cm ((N3).mem p).length ((fun p:(Pr)×Unit=>Lp f p.1) p)=true:=by intro p _;rfl
theorem uR (f:Nat):∀p,(fun p:(Pr)×Unit=>Qe f p.1) p→As ((fun p:(Pr)×Unit=>Lp f p.1) p).length ((fun p:(Pr)×Unit=>Oi f p.1) p)=true:=by intro p _;first|rfl|exact AO _ _|exact AP _ _|(simp[As,Bz,AO,AP];done)
theorem uS (f:Nat):∀p,(fun p:(Pr)×Unit=>Qe f p.1) p→∀q,some q∈(fun p:(Pr)×Unit=>Lp f p.1) p→∀r∈q.2,∀c∈r,c.names=[]:=by intro p _;exact Fg _
noncomputable def Cv {X:Ctx} {w0:World} (f:Nat) (h:X1 f):Sy.Spec Try.prog X w0:=CY 86 Try.call86 (N3) (fun p:(Pr)×Unit=>Qe f p.1) (fun p:(Pr)×Unit=>Oi f p.1) (fun p:(Pr)×Unit=>Lp f p.1) (uQ f) (uR f) (uS f) h
theorem kU (f:Nat) (hu:RT f):X1 f:=by
 rintro ⟨p,_u⟩ w M I lab fz xs hc hA hl hx
 refine Am Try.func86 rfl ((N3).mem ⟨p,_u⟩) w M I lab fz [AU,(Oh f (cZ f hu))] [] ((N3).args 0 ⟨p,_u⟩) ((fun p:(Pr)×Unit=>Lp f p.1) ⟨p,_u⟩) ((fun p:(Pr)×Unit=>Oi f p.1) ⟨p,_u⟩) xs hA hl hx (fun v hv k hk=>by have:=(N3).an 0 ⟨p,_u⟩ v hv k hk;omega) (jN rfl) (jN rfl) ?_
 clear hx hl hA xs
 simp only[Try.f86]
 simp only[↓eB,seval,go_sem,AU,Oh,Ah,Ag,Ai,Ac,Tok.r,Ad,ptR,Af,AS,AR,AQ,Aw]
 obtain⟨hc1,hc2⟩:=hc
 have hu0:=Jg (KJ f) p hc1
 refine⟨⟨hc1,hc2⟩,?_⟩
 refine Ab (Y:=Nat×Ex×Pr) (fun y=>okP y.2.2∧dpU f y.2.2∧(y.2.2.l.length:Int)≤y.2.2.i+(y.1:Int)∧N4 (unF f) y.1 y.2.1 y.2.2=KI (unF f) p)
  (fun y=>⟨[(0,true,.one (.p 0 0 0)),(3,true,.one (exC y.2.1))],[(0,.vec 0 zPr [y.2.2.c])]⟩)
  (fun y=>y.1) (p.l.length,(FQ (unF f) p).1,(FQ (unF f) p).2) ⟨hu0.ok,by show dpU f _;unfold dpU;rw[hu0.d];exact hc2,by have:=hu0.ok.1;simp only[hu0.l];omega,by show N4 _ _ _ _=KI _ _;rfl⟩ (A4 [] ?_) ?_
 ·simp only[↓eB,seval,go_sem]
 ·rintro ⟨k,a,q⟩ ⟨h1,h2,h3,h4⟩
  refine Au [AU,Oh f (cZ f hu)] [] _ _ _ ?_
  dsimp only at h1 h2 h3 h4
  have hI:=h1.i
  cases he:(q.e==0) with
  |false=>
   have hr:(a,q)=KI (unF f) p:=by
    rw[← h4];cases k<;>simp[N4,he]
   simp only[↓eB,seval,go_sem,he,AU,Ah,Ag,Ai,Ac,Tok.r,Ad,ptR,Af,AS,AR,AQ]
   refine A0 [] ?_;simp only[↓eB,seval,go_sem,bne,Oi,Lp,← hr]
  |true=>
   cases i0:isT [45] q with
   |true=>
    obtain⟨k',rfl⟩:∃k',k=k'+1:=⟨k-1,by have:=(B8 i0).2;omega⟩
    simp only[N4,he,i0,if_true,if_false,jB]at h4
    have ha:=Di h1 (B8 i0).2 (B8 i0).1
    have hu1:=Jg (KJ f) _ ha.ok
    have hai:=IA h1 (B8 i0).2
    simp only[↓eB,seval,go_sem,he,i0,AU,Aw,Oh,Ah,Ag,Ai,Ac,Tok.r,Ad,ptR,Af,AS,AR,AQ]
    refine⟨hI,⟨ha.ok,h2⟩,(k',Ex.mk 3 0 [] a (FQ (unF f) (adv q)).1,(FQ (unF f) (adv q)).2),⟨hu1.ok,by show dpU f _;unfold dpU;rw[hu1.d];exact h2,?_,h4⟩,Nat.lt_succ_self _,A4 [.fz 30] ?_⟩
    ·dsimp only;have hi1:=hu1.i;rw[hai]at hi1;rw[hu1.l];show (q.l.length:Int)≤_;omega
    ·simp only[↓eB,seval,go_sem,adv,DK,AY,Fx]
   |false=>
    cases i1:isT [43] q with
    |true=>
     obtain⟨k',rfl⟩:∃k',k=k'+1:=⟨k-1,by have:=(B8 i1).2;omega⟩
     simp only[N4,he,i0,i1,if_true,if_false,jB]at h4
     have ha:=Di h1 (B8 i1).2 (B8 i1).1
     have hu1:=Jg (KJ f) _ ha.ok
     have hai:=IA h1 (B8 i1).2
     simp only[↓eB,seval,go_sem,he,i0,i1,AU,Aw,Oh,Ah,Ag,Ai,Ac,Tok.r,Ad,ptR,Af,AS,AR,AQ]
     refine⟨hI,hI,⟨ha.ok,h2⟩,(k',Ex.mk 2 0 [] a (FQ (unF f) (adv q)).1,(FQ (unF f) (adv q)).2),⟨hu1.ok,by show dpU f _;unfold dpU;rw[hu1.d];exact h2,?_,h4⟩,Nat.lt_succ_self _,A4 [.fz 30] ?_⟩
     ·dsimp only;have hi1:=hu1.i;rw[hai]at hi1;rw[hu1.l];show (q.l.length:Int)≤_;omega
     ·simp only[↓eB,seval,go_sem,adv,DK,AY,Fx]
    |false=>
     have hr:(a,q)=KI (unF f) p:=by
      rw[← h4];cases k<;>simp[N4,he,i0,i1]
     simp only[↓eB,seval,go_sem,he,i0,i1,AU,Aw,Ah,Ag,Ai,Ac,Tok.r,Ad,ptR,Af,AS,AR,AQ]
     refine⟨hI,hI,?_⟩
     refine A0 [] ?_;simp only[↓eB,seval,go_sem,bne,Oi,Lp,← hr]
attribute[local go_sem] Tok.r Ad Ai AS Ah Ag AQ ptR Af AR Ac Cv Nr AC AU AH A8 IJ AM AG Aw AN Fz in
theorem A0u (f:Nat) (hu:RT f) (hs:X1 f):RT (f+1):=by
 rintro ⟨p,_u⟩ w M I lab fz xs hc hA hl hx
 refine Am Try.func107 rfl ((Pj).mem ⟨p,_u⟩) w M I lab fz [AU,A8,AM,AC,AG,AH,IJ,(Nr f hu),(Cv f hs)] [] ((Pj).args 0 ⟨p,_u⟩) ((fun p:(Pr)×Unit=>HB (f+1) p.1) ⟨p,_u⟩) ((fun p:(Pr)×Unit=>J0 (f+1) p.1) ⟨p,_u⟩) xs hA hl hx (fun v hv k hk=>by have:=(Pj).an 0 ⟨p,_u⟩ v hv k hk;omega) (jN rfl) (jN rfl) ?_
 clear hx hl hA xs
 simp only[Try.f107]
 obtain⟨hc1,hc2⟩:=hc
 have hI:=hc1.i
 cases ho1:(p.e != 0) with
 |true=>
  have hr:unF (f+1) p=(.nil,CI 51 p):=by simp[unF,outB,ho1]
  simp only[↓eB,seval,go_sem,ho1]
  try simp only[A2,A3]
  repeat' first|exact ck|with_reducible apply And.intro|intro _
  all_goals first|exact hI|exact hc1|(exact ha.ok)|(exact hd)|(exact hs2.ok)|(exact hsm)|(rename_i h;first|exact oI h|exact nah h)|(rename_i _ h _ g;exact sL h g)|decide|omega|(refine A0 [] ?_;simp only[↓eB,seval,go_sem,bne,J0,HB,hr,AY])
 |false=>
 cases ho2:decide ((p.l.length:Int)≤p.i) with
 |true=>
  have hr:unF (f+1) p=(.nil,CI 51 p):=by simp[unF,outB,ho1,ho2]
  simp only[↓eB,seval,go_sem,ho1,ho2]
  try simp only[A2,A3]
  repeat' first|exact ck|with_reducible apply And.intro|intro _
  all_goals first|exact hI|exact hc1|(exact ha.ok)|(exact hd)|(exact hs2.ok)|(exact hsm)|(rename_i h;first|exact oI h|exact nah h)|(rename_i _ h _ g;exact sL h g)|decide|omega|(refine A0 [] ?_;simp only[↓eB,seval,go_sem,bne,J0,HB,hr,AY])
 |false=>
 have ho:outB p=false:=by unfold outB;rw[ho1,ho2];rfl
 have he:p.e=0:=by simpa using ho1
 have hlt:p.i<(p.l.length:Int):=by simpa using ho2
 have hlt':(p.i<(p.l.length:Int))=True:=by simp[hlt]
 have h0':(0≤p.i)=True:=by simp[hc1.1]
 cases i0:isT [45] p with
 |true=>
  cases ob:Et p with
  |false=>
   have hr:unF (f+1) p=(.nil,Bl p):=by simp[unF,ho,i0,ob]
   simp only[↓eB,seval,go_sem,ho1,ho2,i0,ob]
   try simp only[A2,A3]
   repeat' first|exact ck|with_reducible apply And.intro|intro _
   all_goals first|exact hI|exact hc1|(exact ha.ok)|(exact hd)|(exact hs2.ok)|(exact hsm)|(rename_i h;first|exact oI h|exact nah h)|(rename_i _ h _ g;exact sL h g)|decide|omega|(refine A0 [] ?_;simp only[↓eB,seval,go_sem,bne,J0,HB,hr,AY])
  |true=>
   have hr:unF (f+1) p=(.mk 7 0 [] (unF f (adv (Bl p))).1 .nil,shut (unF f (adv (Bl p))).2):=by simp[unF,ho,i0,ob]
   have ha:=Fb hc1 ob hlt
   have hd:dpU f (adv (Bl p)):=by
    have h3:=(Pn hc1 ob).2.2
    show 41≤(Bl p).deep+(f:Int)
    rw[h3];have:41≤p.deep+((f+1:Nat):Int):=hc2;simp only;omega
   simp only[↓eB,seval,go_sem,ho1,ho2,i0,ob]
   try simp only[A2,A3]
   repeat' first|exact ck|with_reducible apply And.intro|intro _
   all_goals first|exact hI|exact hc1|(exact ha.ok)|(exact hd)|(exact hs2.ok)|(exact hsm)|(rename_i h;first|exact oI h|exact nah h)|(rename_i _ h _ g;exact sL h g)|decide|omega|(refine A0 [.fz 51] ?_;simp only[↓eB,seval,go_sem,bne,J0,HB,hr,AY,DK,Fx,shut,adv])
 |false=>
 cases i1:isT [40] p with
 |true=>
  cases ob:Et p with
  |false=>
   have hr:unF (f+1) p=(.nil,Bl p):=by simp[unF,ho,i0,i1,ob]
   simp only[↓eB,seval,go_sem,ho1,ho2,i0,i1,ob]
   try simp only[A2,A3]
   repeat' first|exact ck|with_reducible apply And.intro|intro _
   all_goals first|exact hI|exact hc1|(exact ha.ok)|(exact hd)|(exact hs2.ok)|(exact hsm)|(rename_i h;first|exact oI h|exact nah h)|(rename_i _ h _ g;exact sL h g)|decide|omega|(refine A0 [] ?_;simp only[↓eB,seval,go_sem,bne,J0,HB,hr,AY])
  |true=>
   have hr:unF (f+1) p=((KI (unF f) (adv (Bl p))).1,shut (B1 [41] (KI (unF f) (adv (Bl p))).2)):=by simp[unF,ho,i0,i1,ob]
   have ha:=Fb hc1 ob hlt
   have hd:dpU f (adv (Bl p)):=by
    have h3:=(Pn hc1 ob).2.2
    show 41≤(Bl p).deep+(f:Int)
    rw[h3];have:41≤p.deep+((f+1:Nat):Int):=hc2;simp only;omega
   have hs2:=Ue (KJ f) _ ha.ok
   simp only[↓eB,seval,go_sem,ho1,ho2,i0,i1,ob]
   try simp only[A2,A3]
   repeat' first|exact ck|with_reducible apply And.intro|intro _
   all_goals first|exact hI|exact hc1|(exact ha.ok)|(exact hd)|(exact hs2.ok)|(exact hsm)|(rename_i h;first|exact oI h|exact nah h)|(rename_i _ h _ g;exact sL h g)|decide|omega|(refine A0 [] ?_;simp only[↓eB,seval,go_sem,bne,J0,HB,hr,shut,adv])
 |false=>
 cases i2:((tk p).k==1) with
 |true=>
  have hr:unF (f+1) p=(.mk 0 (numW (tk p).t 0) [] .nil .nil,adv p):=by simp[unF,ho,i0,i1,i2]
  have e1:=Z9 hc1 hlt
  have hsm:=ua hc1 hlt
  simp only[tk]at i2 hsm
  simp only[w64i]at e1
  simp only[↓eB,seval,go_sem,ho1,ho2,i0,i1,i2,e1,hlt',h0']
  try simp only[A2,A3]
  repeat' first|exact ck|with_reducible apply And.intro|intro _
  all_goals first|exact hI|exact hc1|(exact ha.ok)|(exact hd)|(exact hs2.ok)|(exact hsm)|(rename_i h;first|exact oI h|exact nah h)|(rename_i _ h _ g;exact sL h g)|decide|omega|(refine A0 [.fz 111] ?_;simp only[↓eB,seval,go_sem,bne,J0,HB,hr,adv,AY,DK,Fx,tk])
 |false=>
 have i2':=i2
 simp only[tk]at i2'
 cases i3:nameB p with
 |true=>
  have hr:unF (f+1) p=(.mk 1 0 (Cz p) .nil .nil,BW p):=by simp[unF,ho,i0,i1,i2,i3]
  simp only[↓eB,seval,go_sem,ho1,ho2,i0,i1,i2',i3,hlt',h0']
  try simp only[A2,A3]
  repeat' first|exact ck|with_reducible apply And.intro|intro _
  all_goals first|exact hI|exact hc1|(exact ha.ok)|(exact hd)|(exact hs2.ok)|(exact hsm)|(rename_i h;first|exact oI h|exact nah h)|(rename_i _ h _ g;exact sL h g)|decide|omega|(refine A0 [.fz 118] ?_;simp only[↓eB,seval,go_sem,bne,J0,HB,hr,AY,DK,Fx])
 |false=>
  have hr:unF (f+1) p=(.nil,CI 51 p):=by simp[unF,ho,i0,i1,i2,i3]
  simp only[↓eB,seval,go_sem,ho1,ho2,i0,i1,i2',i3,hlt',h0']
  try simp only[A2,A3]
  repeat' first|exact ck|with_reducible apply And.intro|intro _
  all_goals first|exact hI|exact hc1|(exact ha.ok)|(exact hd)|(exact hs2.ok)|(exact hsm)|(rename_i h;first|exact oI h|exact nah h)|(rename_i _ h _ g;exact sL h g)|decide|omega|(refine A0 [] ?_;simp only[↓eB,seval,go_sem,bne,J0,HB,hr,AY])
theorem gQ:∀f:Nat,RT f
 |0=>by
  rintro ⟨p,_u⟩ w M I lab fz xs hc hA hl hx
  obtain⟨h1,h2⟩:=hc
  have h3:p.deep≤40:=h1.2.2.2.2.1
  have h4:41≤p.deep+((0:Nat):Int):=h2
  exact absurd h4 (by simp;omega)
 |f+1=>A0u f (gQ f) (kU f (gQ f))
end Go.Proofs.Ytjnnmindcbgjhaa
