/- Conditions and arguments, in plain words. No conditions but those in each statement. -/
import Derived.Test.YtjnnmindcbgjhaaPm
import Derived.Test.YtjnnmindcbgjhaaPa3
set_option linter.unusedVariables false
set_option linter.unusedSimpArgs false
set_option maxRecDepth 20000
set_option maxHeartbeats 8000000
namespace Go.Proofs.Ytjnnmindcbgjhaa
open Go Go.Sy Go.RowKit
def tkA (p:Pr) (k:Int):Tok:=p.l.getD k.toNat tk0
def OB (p:Pr):Bool:=nameB p&&decide (w64i (p.i+2)<(p.l.length:Int))&&(tkA p (w64i (p.i+2))).t==[110,117,108,108]&&((tkA p (w64i (p.i+1))).t==[61,61]||(tkA p (w64i (p.i+1))).t==[33,61])
def Uw (p:Pr):Pr:={ p with i:=w64i (p.i+3) }
def cmpO:List (List UInt8):=[[61,61],[33,61],[60],[60,61],[62],[62,61]]
def Q6 (q:Pr) (a:Ex):List (List UInt8)→Int→R Cd
 |[],_=>(.nil,CJ 51 q)
 |t::l,k=>if isT t q=true then (.mk k a (exS (adv q)).1 .nil .nil [],(exS (adv q)).2) else Q6 q a l (k+1)
def Qy (nt:Pr→R Cd):Nat→Cd→Pr→R Cd
 |0,c,p=>(c,p)
 |k+1,c,p=>if isT [38,38] p=true then Qy nt k (.mk 6 .nil .nil c (nt (adv p)).1 []) (nt (adv p)).2 else (c,p)
def KY (nt:Pr→R Cd) (p:Pr):R Cd:=Qy nt p.l.length (nt p).1 (nt p).2
def Qz (nt:Pr→R Cd):Nat→Cd→Pr→R Cd
 |0,c,p=>(c,p)
 |k+1,c,p=>if isT [124,124] p=true then Qz nt k (.mk 7 .nil .nil c (KY nt (adv p)).1 []) (KY nt (adv p)).2 else (c,p)
def NN (nt:Pr→R Cd) (p:Pr):R Cd:=Qz nt p.l.length (KY nt p).1 (KY nt p).2
def Ux (p:Pr):Cd:=if ((tkA p (w64i (p.i+1))).t==[33,61])=true then .mk 8 .nil .nil (.mk 9 .nil .nil .nil .nil (tk p).t) .nil [] else .mk 9 .nil .nil .nil .nil (tk p).t
def Cg:Nat→Pr→R Cd
 |0,p=>(.nil,p)
 |f+1,p=>
  if isT [33] p=true then
   (if Es p=true then (.mk 8 .nil .nil (Cg f (adv (Bm p))).1 .nil [],shut (Cg f (adv (Bm p))).2) else (.nil,Bm p))
  else if isT [40] p=true then
   (if Es p=true then ((NN (Cg f) (adv (Bm p))).1,shut (B2 [41] (NN (Cg f) (adv (Bm p))).2)) else (.nil,Bm p))
  else if OB p=true then (Ux p,Uw p)
  else Q6 (exS p).2 (exS p).1 cmpO 0
abbrev cdS:Pr→R Cd:=NN (Cg 41)
def NO:Nat→List Ar→Pr→R (List Ar)
 |0,_,p=>([],p)
 |k+1,l,p=>
  if (p.e==0)=true then
   (if isT [41] (exS p).2=true then (l++[⟨false,[],(exS p).1⟩],adv (exS p).2) else NO k (l++[⟨false,[],(exS p).1⟩]) (B2 [44] (exS p).2))
  else ([],p)
def H4 (p:Pr):R (List Ar):=if isT [41] p=true then ([],adv p) else NO (p.l.length+1) [] p
theorem E8 {p:Pr} (h:okP p):Nx p (exS p).2:=Uv (KX 41) p h
theorem B7 {t:List UInt8} {p:Pr} (h:okP p) (hi:isT t p=true):Nx p (adv p):=Dh h (BB hi).2 (BB hi).1
theorem db {p:Pr} (h:okP p) (hb:OB p=true):p.e=0∧p.i+2<(p.l.length:Int)∧w64i (p.i+3)=p.i+3∧w64i (p.i+2)=p.i+2∧w64i (p.i+1)=p.i+1:=by
 unfold OB at hb
 simp only[Bool.and_eq_true,decide_eq_true_eq]at hb
 obtain⟨h1,h2,h3,_⟩:=h
 have e2:w64i (p.i+2)=p.i+2:=by unfold w64i;rw[wrap_i64 (by omega) (by omega)]
 rw[e2]at hb
 refine⟨(JE hb.1.1.1).1,hb.1.1.2,?_,e2,?_⟩<;>unfold w64i<;>rw[wrap_i64 (by omega) (by omega)]
theorem nw {p:Pr} (h:okP p) (hb:OB p=true):Nx p (Uw p):=by
 obtain⟨e1,e2,e3,_⟩:=db h hb
 obtain⟨h1,h2,h3,h4⟩:=h
 have e:(Uw p).i=p.i+3:=e3
 exact⟨⟨by rw[e];omega,by rw[e];show p.i+3≤(p.l.length:Int);omega,h3,h4⟩,rfl,rfl,by rw[e];omega,rfl,fun h=>absurd e1 h⟩
theorem ZN (a:Ex):∀(l:List (List UInt8)) (k:Int) (q:Pr),okP q→Nx q (Q6 q a l k).2
 |[],k,q,h=>F2 51 h
 |t::l,k,q,h=>by
  simp only[Q6]
  split
  ·rename_i hi
   have h1:=B7 h hi
   exact h1.trans (E8 h1.ok)
  ·exact ZN a l (k+1) q h
theorem ZO {u:Pr→R Cd} (hu:∀p,okP p→Nx p (u p).2):∀(k:Nat) (a:Cd) (p:Pr),okP p→Nx p (Qy u k a p).2
 |0,a,p,h=>.refl h
 |k+1,a,p,h=>by
  simp only[Qy]
  split
  ·rename_i hi
   have h1:=B7 h hi
   have h2:=hu _ h1.ok
   exact(h1.trans h2).trans (ZO hu k _ _ h2.ok)
  ·exact .refl h
theorem PI {u:Pr→R Cd} (hu:∀p,okP p→Nx p (u p).2) (p:Pr) (h:okP p):Nx p (KY u p).2:=(hu p h).trans (ZO hu _ _ _ (hu p h).ok)
theorem ZP {u:Pr→R Cd} (hu:∀p,okP p→Nx p (u p).2):∀(k:Nat) (a:Cd) (p:Pr),okP p→Nx p (Qz u k a p).2
 |0,a,p,h=>.refl h
 |k+1,a,p,h=>by
  simp only[Qz]
  split
  ·rename_i hi
   have h1:=B7 h hi
   have h2:=PI hu _ h1.ok
   exact(h1.trans h2).trans (ZP hu k _ _ h2.ok)
  ·exact .refl h
theorem Uy {u:Pr→R Cd} (hu:∀p,okP p→Nx p (u p).2) (p:Pr) (h:okP p):Nx p (NN u p).2:=(PI hu p h).trans (ZP hu _ _ _ (PI hu p h).ok)
theorem M9:∀(f:Nat) (p:Pr),okP p→Nx p (Cg f p).2
 |0,p,h=>.refl h
 |f+1,p,h=>by
  simp only[Cg]
  split
  ·rename_i hi
   split
   ·rename_i hb
    have h1:=Fl h hb (BB hi).2
    exact P9 h hb (h1.trans (M9 f _ h1.ok))
   ·rename_i hb;exact M8 h (by simpa using hb)
  ·split
   ·rename_i hi
    split
    ·rename_i hb
     have h1:=Fl h hb (BB hi).2
     have h2:=h1.trans (Uy (M9 f) _ h1.ok)
     exact P9 h hb (h2.trans (BE h2.ok))
    ·rename_i hb;exact M8 h (by simpa using hb)
   ·split
    ·rename_i hb;exact nw h hb
    ·have h1:=E8 h
     exact h1.trans (ZN _ _ _ _ h1.ok)
theorem R0 {p:Pr} (h:okP p):Nx p (cdS p).2:=Uy (M9 41) p h
theorem ZQ:∀(k:Nat) (l:List Ar) (p:Pr),okP p→Nx p (NO k l p).2
 |0,l,p,h=>.refl h
 |k+1,l,p,h=>by
  simp only[NO]
  split
  ·have h1:=E8 h
   split
   ·rename_i hi;exact h1.trans (B7 h1.ok hi)
   ·have h2:=h1.trans (BE (t:=[44]) h1.ok)
    exact h2.trans (ZQ k _ _ h2.ok)
  ·exact .refl h
theorem Rq {p:Pr} (h:okP p):Nx p (H4 p).2:=by
 unfold H4
 split
 ·rename_i hi;exact B7 h hi
 ·exact ZQ _ _ _ h
theorem XC {f:Nat} {p:Pr} (h:okP p) (ob:Es p=true) (hd:dpU (f+1) p):dpU f (adv (Bm p)):=by
 have h3:=(Q4 h ob).2.2
 show 41≤(Bm p).deep+(f:Int)
 rw[h3];have:41≤p.deep+((f+1:Nat):Int):=hd;simp only;omega
end Go.Proofs.Ytjnnmindcbgjhaa
namespace Go.Proofs.Ytjnnmindcbgjhaa
open Go Go.Sy Go.RowKit
abbrev R1 (f:Nat) (p:Pr):Prop:=okP p∧dpU f p
abbrev Ho (f:Nat) (p:Pr):SV:=.one (cdC (Cg f p).1)
abbrev GD (f:Nat) (p:Pr):List (Option MV):=[some (zPr,[(Cg f p).2.c])]
noncomputable abbrev NP:ArgM ((Pr)×Unit):=(amP (mPr) am0)
abbrev PJ (f:Nat):Prop:=Bt Try.prog 108 ((NP).args 0) (NP).mem (fun p:(Pr)×Unit=>R1 f p.1) (fun p:(Pr)×Unit=>Ho f p.1) (fun p:(Pr)×Unit=>GD f p.1)
theorem uw (f:Nat):∀p,(fun p:(Pr)×Unit=>R1 f p.1) p→Cn ((NP).mem p).length ((fun p:(Pr)×Unit=>GD f p.1) p)=true:=by intro p _;rfl
theorem ux (f:Nat):∀p,(fun p:(Pr)×Unit=>R1 f p.1) p→Av ((fun p:(Pr)×Unit=>GD f p.1) p).length ((fun p:(Pr)×Unit=>Ho f p.1) p)=true:=by intro p _;first|rfl|exact AO _ _|exact AP _ _|(simp[Av,C0,AO,AP];done)
theorem uy (f:Nat):∀p,(fun p:(Pr)×Unit=>R1 f p.1) p→∀q,some q∈(fun p:(Pr)×Unit=>GD f p.1) p→∀r∈q.2,∀c∈r,c.names=[]:=by intro p _;exact Fq _
noncomputable def FQ {X:Ctx} {w0:World} (f:Nat) (h:PJ f):Sy.Spec Try.prog X w0:=Ca 108 Try.call108 (NP) (fun p:(Pr)×Unit=>R1 f p.1) (fun p:(Pr)×Unit=>Ho f p.1) (fun p:(Pr)×Unit=>GD f p.1) (uw f) (ux f) (uy f) h
abbrev R2 (f:Nat) (p:Pr):Prop:=okP p∧dpU f p
abbrev R3 (f:Nat) (p:Pr):SV:=.one (cdC (KY (Cg f) p).1)
abbrev NQ (f:Nat) (p:Pr):List (Option MV):=[some (zPr,[(KY (Cg f) p).2.c])]
noncomputable abbrev NR:ArgM ((Pr)×Unit):=(amP (mPr) am0)
abbrev dc (f:Nat):Prop:=Bt Try.prog 105 ((NR).args 0) (NR).mem (fun p:(Pr)×Unit=>R2 f p.1) (fun p:(Pr)×Unit=>R3 f p.1) (fun p:(Pr)×Unit=>NQ f p.1)
theorem uz (f:Nat):∀p,(fun p:(Pr)×Unit=>R2 f p.1) p→Cn ((NR).mem p).length ((fun p:(Pr)×Unit=>NQ f p.1) p)=true:=by intro p _;rfl
theorem v8 (f:Nat):∀p,(fun p:(Pr)×Unit=>R2 f p.1) p→Av ((fun p:(Pr)×Unit=>NQ f p.1) p).length ((fun p:(Pr)×Unit=>R3 f p.1) p)=true:=by intro p _;first|rfl|exact AO _ _|exact AP _ _|(simp[Av,C0,AO,AP];done)
theorem vA (f:Nat):∀p,(fun p:(Pr)×Unit=>R2 f p.1) p→∀q,some q∈(fun p:(Pr)×Unit=>NQ f p.1) p→∀r∈q.2,∀c∈r,c.names=[]:=by intro p _;exact Fq _
noncomputable def Tq {X:Ctx} {w0:World} (f:Nat) (h:dc f):Sy.Spec Try.prog X w0:=Ca 105 Try.call105 (NR) (fun p:(Pr)×Unit=>R2 f p.1) (fun p:(Pr)×Unit=>R3 f p.1) (fun p:(Pr)×Unit=>NQ f p.1) (uz f) (v8 f) (vA f) h
attribute [local go_sem] Pr.c zTk
theorem lA (f:Nat) (hu:PJ f):dc f:=by
 rintro ⟨p,_u⟩ w M I lab fz xs hc hA hl hx
 refine An Try.func105 rfl ((NR).mem ⟨p,_u⟩) w M I lab fz [A7,(FQ f hu)] [] ((NR).args 0 ⟨p,_u⟩) ((fun p:(Pr)×Unit=>NQ f p.1) ⟨p,_u⟩) ((fun p:(Pr)×Unit=>R3 f p.1) ⟨p,_u⟩) xs hA hl hx (fun v hv k hk=>by have:=(NR).an 0 ⟨p,_u⟩ v hv k hk;omega) (jN rfl) (jN rfl) ?_
 clear hx hl hA xs
 simp only[Try.f105]
 simp only[↓eB,seval,go_sem,A7,FQ,Ah,Ag,Ai,Ac,Tok.r,Ad,ptR,Af,AS,AR,AQ]
 obtain⟨hc1,hc2⟩:=hc
 dsimp only at hc1 hc2
 have hu0:=M9 f p hc1
 refine⟨⟨hc1,hc2⟩,?_⟩
 refine AU (Y:=Nat×Cd×Pr) (fun y=>okP y.2.2∧dpU f y.2.2∧(y.2.2.l.length:Int)≤y.2.2.i+(y.1:Int)∧Qy (Cg f) y.1 y.2.1 y.2.2=KY (Cg f) p)
  (fun y=>⟨[(0,true,.one (.p 0 0 0)),(3,true,.one (cdC y.2.1))],[(0,.vec 0 zPr [y.2.2.c])]⟩)
  (fun y=>y.1) (p.l.length,(Cg f p).1,(Cg f p).2) ⟨hu0.ok,by show dpU f _;unfold dpU;rw[hu0.d];exact hc2,by have:=hu0.ok.1;simp only[hu0.l];omega,by show Qy _ _ _ _=KY _ _;rfl⟩ ?_ ?_
 ·refine A2 [] ?_;simp only[↓eB,seval,go_sem]
 ·rintro ⟨k,a,q⟩ ⟨h1,h2,h3,h4⟩
  refine Ak [A7,(FQ f hu)] [] _ _ _ ?_
  dsimp only at h1 h2 h3 h4
  cases i0:isT [38,38] q with
  |true=>
   obtain⟨k',rfl⟩:∃k',k=k'+1:=⟨k-1,by have:=(BB i0).2;omega⟩
   simp only[Qy,i0,if_true]at h4
   have ha:=B7 h1 i0
   have hu1:=M9 f _ ha.ok
   have hai:=IV h1 (BB i0).2
   simp only[↓eB,seval,go_sem,i0,A7,FQ,BC,adv,Ah,Ag,Ai,Ac,Tok.r,Ad,ptR,Af,AS,AR,AQ]
   refine⟨h1,⟨ha.ok,h2⟩,(k',Cd.mk 6 .nil .nil a (Cg f (adv q)).1 [],(Cg f (adv q)).2),⟨hu1.ok,by show dpU f _;unfold dpU;rw[hu1.d];exact h2,?_,?_⟩,Nat.lt_succ_self _,A2 [.fz 12] ?_⟩
   ·dsimp only;have hi1:=hu1.i;rw[hai]at hi1;rw[hu1.l];show (q.l.length:Int)≤_;omega
   ·exact h4
   ·simp only[↓eB,seval,go_sem,adv,DC,Aq,Ok,G9]
  |false=>
   have hr:(a,q)=KY (Cg f) p:=by
    rw[← h4];cases k<;>simp[Qy,i0]
   simp only[↓eB,seval,go_sem,i0,A7,BC,Ah,Ag,Ai,Ac,Tok.r,Ad,ptR,Af,AS,AR,AQ]
   try simp only[A3,A4]
   repeat' first|exact ck|with_reducible apply And.intro|intro _
   all_goals first|exact h1|(rename_i h;first|exact oI h|exact nah h)|(rename_i _ h _ g;exact sL h g)|decide|omega|(refine A0 [] ?_;simp only[↓eB,seval,go_sem,bne,R3,NQ,← hr])
abbrev PK (f:Nat) (p:Pr):Prop:=okP p∧dpU f p
abbrev PL (f:Nat) (p:Pr):SV:=.one (cdC (NN (Cg f) p).1)
abbrev LV (f:Nat) (p:Pr):List (Option MV):=[some (zPr,[(NN (Cg f) p).2.c])]
noncomputable abbrev LW:ArgM ((Pr)×Unit):=(amP (mPr) am0)
abbrev Uz (f:Nat):Prop:=Bt Try.prog 87 ((LW).args 0) (LW).mem (fun p:(Pr)×Unit=>PK f p.1) (fun p:(Pr)×Unit=>PL f p.1) (fun p:(Pr)×Unit=>LV f p.1)
theorem nx (f:Nat):∀p,(fun p:(Pr)×Unit=>PK f p.1) p→Cn ((LW).mem p).length ((fun p:(Pr)×Unit=>LV f p.1) p)=true:=by intro p _;rfl
theorem ny (f:Nat):∀p,(fun p:(Pr)×Unit=>PK f p.1) p→Av ((fun p:(Pr)×Unit=>LV f p.1) p).length ((fun p:(Pr)×Unit=>PL f p.1) p)=true:=by intro p _;first|rfl|exact AO _ _|exact AP _ _|(simp[Av,C0,AO,AP];done)
theorem nz (f:Nat):∀p,(fun p:(Pr)×Unit=>PK f p.1) p→∀q,some q∈(fun p:(Pr)×Unit=>LV f p.1) p→∀r∈q.2,∀c∈r,c.names=[]:=by intro p _;exact Fq _
noncomputable def CW {X:Ctx} {w0:World} (f:Nat) (h:Uz f):Sy.Spec Try.prog X w0:=Ca 87 Try.call87 (LW) (fun p:(Pr)×Unit=>PK f p.1) (fun p:(Pr)×Unit=>PL f p.1) (fun p:(Pr)×Unit=>LV f p.1) (nx f) (ny f) (nz f) h
theorem de (f:Nat) (hu:PJ f):Uz f:=by
 rintro ⟨p,_u⟩ w M I lab fz xs hc hA hl hx
 refine An Try.func87 rfl ((LW).mem ⟨p,_u⟩) w M I lab fz [A7,(Tq f (lA f hu))] [] ((LW).args 0 ⟨p,_u⟩) ((fun p:(Pr)×Unit=>LV f p.1) ⟨p,_u⟩) ((fun p:(Pr)×Unit=>PL f p.1) ⟨p,_u⟩) xs hA hl hx (fun v hv k hk=>by have:=(LW).an 0 ⟨p,_u⟩ v hv k hk;omega) (jN rfl) (jN rfl) ?_
 clear hx hl hA xs
 simp only[Try.f87]
 simp only[↓eB,seval,go_sem,A7,Tq,Ah,Ag,Ai,Ac,Tok.r,Ad,ptR,Af,AS,AR,AQ]
 obtain⟨hc1,hc2⟩:=hc
 dsimp only at hc1 hc2
 have hu0:=PI (M9 f) p hc1
 refine⟨⟨hc1,hc2⟩,?_⟩
 refine AU (Y:=Nat×Cd×Pr) (fun y=>okP y.2.2∧dpU f y.2.2∧(y.2.2.l.length:Int)≤y.2.2.i+(y.1:Int)∧Qz (Cg f) y.1 y.2.1 y.2.2=NN (Cg f) p)
  (fun y=>⟨[(0,true,.one (.p 0 0 0)),(3,true,.one (cdC y.2.1))],[(0,.vec 0 zPr [y.2.2.c])]⟩)
  (fun y=>y.1) (p.l.length,(KY (Cg f) p).1,(KY (Cg f) p).2) ⟨hu0.ok,by show dpU f _;unfold dpU;rw[hu0.d];exact hc2,by have:=hu0.ok.1;simp only[hu0.l];omega,by show Qz _ _ _ _=NN _ _;rfl⟩ ?_ ?_
 ·refine A2 [] ?_;simp only[↓eB,seval,go_sem]
 ·rintro ⟨k,a,q⟩ ⟨h1,h2,h3,h4⟩
  refine Ak [A7,(Tq f (lA f hu))] [] _ _ _ ?_
  dsimp only at h1 h2 h3 h4
  cases i0:isT [124,124] q with
  |true=>
   obtain⟨k',rfl⟩:∃k',k=k'+1:=⟨k-1,by have:=(BB i0).2;omega⟩
   simp only[Qz,i0,if_true]at h4
   have ha:=B7 h1 i0
   have hu1:=PI (M9 f) _ ha.ok
   have hai:=IV h1 (BB i0).2
   simp only[↓eB,seval,go_sem,i0,A7,Tq,BC,adv,Ah,Ag,Ai,Ac,Tok.r,Ad,ptR,Af,AS,AR,AQ]
   refine⟨h1,⟨ha.ok,h2⟩,(k',Cd.mk 7 .nil .nil a (KY (Cg f) (adv q)).1 [],(KY (Cg f) (adv q)).2),⟨hu1.ok,by show dpU f _;unfold dpU;rw[hu1.d];exact h2,?_,?_⟩,Nat.lt_succ_self _,A2 [.fz 12] ?_⟩
   ·dsimp only;have hi1:=hu1.i;rw[hai]at hi1;rw[hu1.l];show (q.l.length:Int)≤_;omega
   ·exact h4
   ·simp only[↓eB,seval,go_sem,adv,DC,Aq,Ok,G9]
  |false=>
   have hr:(a,q)=NN (Cg f) p:=by
    rw[← h4];cases k<;>simp[Qz,i0]
   simp only[↓eB,seval,go_sem,i0,A7,BC,Ah,Ag,Ai,Ac,Tok.r,Ad,ptR,Af,AS,AR,AQ]
   try simp only[A3,A4]
   repeat' first|exact ck|with_reducible apply And.intro|intro _
   all_goals first|exact h1|(rename_i h;first|exact oI h|exact nah h)|(rename_i _ h _ g;exact sL h g)|decide|omega|(refine A0 [] ?_;simp only[↓eB,seval,go_sem,bne,PL,LV,← hr])
noncomputable abbrev V0 {X:Ctx} {w0:World}:Sy.Spec Try.prog X w0:=Cv 41 (kz 41 (gh 41))
def cO (s:List UInt8):List C:=[.v (.string (bs s))]
theorem A1A {i:Nat} {x:List UInt8} (h:cmpO[i]?=some x):(cmpO.map cO).getD i [.v (.string (bs []))]=cO x:=by simp[List.getD,h]
theorem vB (f:Nat) (hu:PJ f) (hs:Uz f):PJ (f+1):=by
 rintro ⟨p,_u⟩ w M I lab fz xs hc hA hl hx
 refine An Try.func108 rfl ((NP).mem ⟨p,_u⟩) w M I lab fz [AV,A8,AM,AC,AG,A7,(FQ f hu),(CW f hs),V0] [] ((NP).args 0 ⟨p,_u⟩) ((fun p:(Pr)×Unit=>GD (f+1) p.1) ⟨p,_u⟩) ((fun p:(Pr)×Unit=>Ho (f+1) p.1) ⟨p,_u⟩) xs hA hl hx (fun v hv k hk=>by have:=(NP).an 0 ⟨p,_u⟩ v hv k hk;omega) (jN rfl) (jN rfl) ?_
 clear hx hl hA xs
 simp only[Try.f108]
 obtain⟨hc1,hc2⟩:=hc
 dsimp only at hc1 hc2
 have hI:=hc1.i
 cases i0:isT [33] p with
 |true=>
  cases ob:Es p with
  |false=>
   have hr:Cg (f+1) p=(.nil,Bm p):=by simp[Cg,i0,ob]
   simp only[↓eB,seval,go_sem,AV,Ay,A8,AN,AM,AC,AG,AH,A7,FQ,CW,Cv,Ah,Ag,Ai,Ac,Tok.r,Ad,ptR,Af,AS,AR,AQ,i0,ob]
   try simp only[A3,A4]
   repeat' first|exact ck|with_reducible apply And.intro|intro _
   all_goals first|exact hI|exact hc1|(rename_i h;first|exact oI h|exact nah h)|(rename_i _ h _ g;exact sL h g)|decide|omega|(refine A0 [] ?_;simp only[↓eB,seval,go_sem,bne,Ho,GD,hr,Aq])
  |true=>
   have hr:Cg (f+1) p=(.mk 8 .nil .nil (Cg f (adv (Bm p))).1 .nil [],shut (Cg f (adv (Bm p))).2):=by simp[Cg,i0,ob]
   have ha:=Fl hc1 ob (BB i0).2
   have hd:=XC hc1 ob hc2
   simp only[↓eB,seval,go_sem,AV,Ay,A8,AN,AM,AC,AG,AH,A7,FQ,CW,Cv,Ah,Ag,Ai,Ac,Tok.r,Ad,ptR,Af,AS,AR,AQ,i0,ob]
   try simp only[A3,A4]
   repeat' first|exact ck|with_reducible apply And.intro|intro _
   all_goals first|exact hI|exact hc1|exact ha.ok|exact hd|(rename_i h;first|exact oI h|exact nah h)|(rename_i _ h _ g;exact sL h g)|decide|omega|(refine A0 [.fz 33] ?_;simp only[↓eB,seval,go_sem,bne,Ho,GD,hr,Aq,DC,Ok,G9,shut,adv])
 |false=>
 cases i1:isT [40] p with
 |true=>
  cases ob:Es p with
  |false=>
   have hr:Cg (f+1) p=(.nil,Bm p):=by simp[Cg,i0,i1,ob]
   simp only[↓eB,seval,go_sem,AV,Ay,A8,AN,AM,AC,AG,AH,A7,FQ,CW,Cv,Ah,Ag,Ai,Ac,Tok.r,Ad,ptR,Af,AS,AR,AQ,i0,i1,ob]
   try simp only[A3,A4]
   repeat' first|exact ck|with_reducible apply And.intro|intro _
   all_goals first|exact hI|exact hc1|(rename_i h;first|exact oI h|exact nah h)|(rename_i _ h _ g;exact sL h g)|decide|omega|(refine A0 [] ?_;simp only[↓eB,seval,go_sem,bne,Ho,GD,hr,Aq])
  |true=>
   have hr:Cg (f+1) p=((NN (Cg f) (adv (Bm p))).1,shut (B2 [41] (NN (Cg f) (adv (Bm p))).2)):=by simp[Cg,i0,i1,ob]
   have ha:=Fl hc1 ob (BB i1).2
   have hd:=XC hc1 ob hc2
   have hs2:=Uy (M9 f) _ ha.ok
   simp only[↓eB,seval,go_sem,AV,Ay,A8,AN,AM,AC,AG,AH,A7,FQ,CW,Cv,Ah,Ag,Ai,Ac,Tok.r,Ad,ptR,Af,AS,AR,AQ,i0,i1,ob]
   try simp only[A3,A4]
   repeat' first|exact ck|with_reducible apply And.intro|intro _
   all_goals first|exact hI|exact hc1|exact ha.ok|exact hd|exact hs2.ok|(rename_i h;first|exact oI h|exact nah h)|(rename_i _ h _ g;exact sL h g)|decide|omega|(refine A0 [] ?_;simp only[↓eB,seval,go_sem,bne,Ho,GD,hr,shut,adv])
 |false=>
 cases hn:OB p with
 |true=>
  have hr:Cg (f+1) p=(Ux p,Uw p):=by simp[Cg,i0,i1,hn]
  obtain⟨n1,n2,n3,n4,n5⟩:=db hc1 hn
  have hn':=hn
  have hna:nameB p=true:=by unfold OB at hn;simp only[Bool.and_eq_true]at hn;exact hn.1.1.1
  unfold OB tkA at hn'
  simp only[w64i]at hn' n3 n4 n5
  have q1:(0≤p.i)=True:=by simp[hc1.1]
  have q2:(p.i<(p.l.length:Int))=True:=by simp;omega
  have q3:(0≤p.i+2)=True:=by have:=hc1.1;simp;omega
  have q4:(p.i+2<(p.l.length:Int))=True:=by simp[n2]
  have q5:(0≤p.i+1)=True:=by have:=hc1.1;simp;omega
  have q6:(p.i+1<(p.l.length:Int))=True:=by simp;omega
  simp only[n4,n5,hna,Bool.true_and,Bool.and_eq_true,decide_eq_true_eq]at hn'
  obtain⟨⟨z1,z2⟩,z3⟩:=hn'
  have z0:decide (p.i+2<(p.l.length:Int))=true:=by simp[n2]
  cases z4:((p.l.getD (p.i+1).toNat tk0).t==[33,61]) with
  |true=>
   have hc':Ux p= .mk 8 .nil .nil (.mk 9 .nil .nil .nil .nil (tk p).t) .nil []:=by unfold Ux tkA;simp only[w64i,n5];rw[if_pos z4]
   cases z5:((p.l.getD (p.i+1).toNat tk0).t==[61,61]) with
   |true=>rw[beq_iff_eq]at z4 z5;rw[z4]at z5;cases z5
   |false=>
    simp only[↓eB,seval,go_sem,AV,Ay,A8,AN,AM,AC,AG,AH,A7,FQ,CW,Cv,Ah,Ag,Ai,Ac,Tok.r,Ad,ptR,Af,AS,AR,AQ,i0,i1,hna,n3,n4,n5,q1,q2,q3,q4,q5,q6,z0,z2,z4,z5]
    try simp only[A3,A4]
    repeat' first|exact ck|with_reducible apply And.intro|intro _
    all_goals first|exact hI|exact hc1|(rename_i h;first|exact oI h|exact nah h)|(rename_i _ h _ g;exact sL h g)|decide|omega|(refine A0 [.fz 131,.fz 147] ?_;simp only[↓eB,seval,go_sem,bne,Ho,GD,hr,hc',DC,Aq,Cd.d,Ex.d,Uw,tk,n3])
  |false=>
   have hc':Ux p= .mk 9 .nil .nil .nil .nil (tk p).t:=by unfold Ux tkA;simp only[w64i,n5];rw[if_neg (by rw[z4];decide)]
   have z5:((p.l.getD (p.i+1).toNat tk0).t==[61,61])=true:=by rw[z4]at z3;simpa using z3
   simp only[↓eB,seval,go_sem,AV,Ay,A8,AN,AM,AC,AG,AH,A7,FQ,CW,Cv,Ah,Ag,Ai,Ac,Tok.r,Ad,ptR,Af,AS,AR,AQ,i0,i1,hna,n3,n4,n5,q1,q2,q3,q4,q5,q6,z0,z2,z4,z5]
   try simp only[A3,A4]
   repeat' first|exact ck|with_reducible apply And.intro|intro _
   all_goals first|exact hI|exact hc1|(rename_i h;first|exact oI h|exact nah h)|(rename_i _ h _ g;exact sL h g)|decide|omega|(refine A0 [.fz 131] ?_;simp only[↓eB,seval,go_sem,bne,Ho,GD,hr,hc',DC,Aq,Ok,G9,Uw,tk,n3])
 |false=>
 have hr:Cg (f+1) p=Q6 (exS p).2 (exS p).1 cmpO 0:=by simp[Cg,i0,i1,hn]
 have hn':=hn
 unfold OB tkA at hn'
 simp only[w64i]at hn'
 have q1:=hc1.1
 have q2:p.i+2<9223372036854775808:=by have:=hc1.2.1;have:=hc1.2.2.1;omega
 have n4:IntKind.i64.wrap (p.i+2)=p.i+2:=wrap_i64 (by omega) (by omega)
 have n5:IntKind.i64.wrap (p.i+1)=p.i+1:=wrap_i64 (by omega) (by omega)
 simp only[n4,n5]at hn'
 have hu0:=E8 hc1
 simp only[↓eB,seval,go_sem,AV,Ay,A8,AN,AM,AC,AG,AH,A7,FQ,CW,Cv,Ah,Ag,Ai,Ac,Tok.r,Ad,ptR,Af,AS,AR,AQ,i0,i1,hn',n4,n5]
 refine⟨hI,hI,hI,?_,?_,?_,?_,C7 (by kernel_rfl),⟨hc1,LL hc1⟩,?_⟩
 ·exact fun h=>⟨h,h,by omega,by simp only[Bool.and_eq_true,decide_eq_true_eq]at h;omega⟩
 ·exact fun h=>⟨h,h,by omega,by simp only[Bool.and_eq_true,decide_eq_true_eq]at h;omega⟩
 ·exact fun h=>⟨h,h,by omega,by simp only[Bool.and_eq_true,decide_eq_true_eq]at h;omega⟩
 ·exact fun h=>⟨h,fun h2=>by rw[h,h2];rfl⟩
 generalize hq:(exS p).2=q at hr hu0
 generalize ha:(exS p).1=a at hr
 have hq1:(KW (unF 41) p).2=q:=hq
 have ha1:(KW (unF 41) p).1=a:=ha
 have hq0:=hu0.ok
 have hlen:cmpO.length=6:=rfl
 refine AU (Y:=Nat) (fun k=>k≤6∧Q6 q a (cmpO.drop k) (k:Int)=Q6 q a cmpO 0)
  (fun k=>⟨[(0,true,.one (.p 0 0 0)),(6,true,.one (exC a)),(7,true,.one (.s 1000)),(8,true,.one (.v (.int .i64 (k:Int))))],[(0,.vec 0 zPr [q.c]),(1000,.vec 0 [.v (.string (bs []))] (cmpO.map cO))]⟩)
  (fun k=>6-k) 0 ⟨Nat.zero_le _,rfl⟩ ?_ ?_
 ·refine A2 [.mv 158 1000] ?_;simp only[↓eB,seval,go_sem,cmpO,cO]
 ·rintro k ⟨hk,hJ⟩
  refine Ak [AV,A8,AM,AC,AG,A7,FQ f hu,CW f hs,V0] [] _ _ _ ?_
  cases hx:cmpO[k]? with
  |none=>
   have hk2:cmpO.length≤k:=List.getElem?_eq_none_iff.1 hx
   have h1:decide ((k:Int)<6)=false:=by simp;omega
   rw[List.drop_eq_nil_of_le hk2]at hJ
   simp only[Q6]at hJ
   simp only[↓eB,seval,go_sem,AV,Ay,A8,AN,AM,AC,AG,AH,A7,FQ,CW,Cv,Ah,Ag,Ai,Ac,Tok.r,Ad,ptR,Af,AS,AR,AQ,h1]
   try simp only[A3,A4]
   repeat' first|exact ck|with_reducible apply And.intro|intro _
   all_goals first|exact hq0.i|(rename_i h;first|exact oI h|exact nah h)|(rename_i _ h _ g;exact sL h g)|decide|omega|(refine A0 [] ?_;simp only[↓eB,seval,go_sem,bne,Ho,GD,hr,← hJ,Aq])
  |some x=>
   have hlt:k<cmpO.length:=(List.getElem?_eq_some_iff.1 hx).1
   have h1:decide ((k:Int)<6)=true:=by simp;omega
   have h2:((k:Int)<(cmpO.length:Int))=True:=by simp;omega
   have h3:=A1A hx
   have h4:=EE (i:=k) (n:=6) (by omega) (by omega)
   have h5:IntKind.i64.wrap (0+(k:Int))=(k:Int):=by rw[wrap_i64 (by omega) (by omega)];omega
   rw[Bp hx]at hJ
   simp only[Q6]at hJ
   cases it:isT x q with
   |true=>
    rw[if_pos it]at hJ
    have hb:=B7 hq0 it
    simp only[↓eB,seval,go_sem,AV,Ay,A8,AN,AM,AC,AG,AH,A7,FQ,CW,Cv,Ah,Ag,Ai,Ac,Tok.r,Ad,ptR,Af,AS,AR,AQ,h1,h2,h3,h4,h5,cO,it,BC,adv]
    try simp only[A3,A4]
    repeat' first|exact ck|with_reducible apply And.intro|intro _
    all_goals first|exact hlt|exact hq0|exact hb.ok|exact LL hb.ok|(rename_i h;first|exact oI h|exact nah h)|(rename_i _ h _ g;exact sL h g)|decide|omega|(refine A0 [.fz 175] ?_;simp only[↓eB,seval,go_sem,bne,Ho,GD,hr,← hJ,DC,Ok,adv])
   |false=>
    rw[if_neg (by rw[it];decide)]at hJ
    simp only[↓eB,seval,go_sem,AV,Ay,A8,AN,AM,AC,AG,AH,A7,FQ,CW,Cv,Ah,Ag,Ai,Ac,Tok.r,Ad,ptR,Af,AS,AR,AQ,h1,h2,h3,h4,h5,cO,it,BC]
    refine⟨hlt,hq0,k+1,⟨by omega,hJ⟩,by omega,?_⟩
    refine A2 [] ?_;simp only[↓eB,seval,go_sem,cmpO,cO]
theorem bA:∀f:Nat,PJ f
 |0=>by
  rintro ⟨p,_u⟩ w M I lab fz xs hc hA hl hx
  obtain⟨h1,h2⟩:=hc
  have h3:p.deep≤40:=h1.2.2.2.2.1
  have h4:41≤p.deep+((0:Nat):Int):=h2
  exact absurd h4 (by simp;omega)
 |f+1=>vB f (bA f) (de f (bA f))
noncomputable abbrev A1B {X:Ctx} {w0:World}:Sy.Spec Try.prog X w0:=CW 41 (de 41 (bA 41))
end Go.Proofs.Ytjnnmindcbgjhaa
