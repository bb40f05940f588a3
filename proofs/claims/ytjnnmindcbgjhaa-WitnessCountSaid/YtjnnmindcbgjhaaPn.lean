/- Conditions and arguments, in plain words. No conditions but those in each statement. -/
import Derived.Test.YtjnnmindcbgjhaaPm
import Derived.Test.YtjnnmindcbgjhaaPa3
set_option linter.unusedVariables false
set_option linter.unusedSimpArgs false
set_option maxRecDepth 20000
set_option maxHeartbeats 8000000
namespace Go.Proofs.Ytjnnmindcbgjhaa
open Go Go.Sy Go.RowKit
def tkA (p:Pr) (k:Int):Tok:=p.l.getD k.toNat tk0
def O0 (p:Pr):Bool:=nameB p&&decide (w64i (p.i+2)<(p.l.length:Int))&&(tkA p (w64i (p.i+2))).t==[110,117,108,108]&&((tkA p (w64i (p.i+1))).t==[61,61]||(tkA p (w64i (p.i+1))).t==[33,61])
def Uc (p:Pr):Pr:={ p with i:=w64i (p.i+3) }
def cmpO:List (List UInt8):=[[61,61],[33,61],[60],[60,61],[62],[62,61]]
def Px (q:Pr) (a:Ex):List (List UInt8)→Int→R Cd
 |[],_=>(.nil,CI 51 q)
 |t::l,k=>if isT t q=true then (.mk k a (exS (adv q)).1 .nil .nil [],(exS (adv q)).2) else Px q a l (k+1)
def Qp (nt:Pr→R Cd):Nat→Cd→Pr→R Cd
 |0,c,p=>(c,p)
 |k+1,c,p=>if isT [38,38] p=true then Qp nt k (.mk 6 .nil .nil c (nt (adv p)).1 []) (nt (adv p)).2 else (c,p)
def KN (nt:Pr→R Cd) (p:Pr):R Cd:=Qp nt p.l.length (nt p).1 (nt p).2
def Qq (nt:Pr→R Cd):Nat→Cd→Pr→R Cd
 |0,c,p=>(c,p)
 |k+1,c,p=>if isT [124,124] p=true then Qq nt k (.mk 7 .nil .nil c (KN nt (adv p)).1 []) (KN nt (adv p)).2 else (c,p)
def NB (nt:Pr→R Cd) (p:Pr):R Cd:=Qq nt p.l.length (KN nt p).1 (KN nt p).2
def Ud (p:Pr):Cd:=if ((tkA p (w64i (p.i+1))).t==[33,61])=true then .mk 8 .nil .nil (.mk 9 .nil .nil .nil .nil (tk p).t) .nil [] else .mk 9 .nil .nil .nil .nil (tk p).t
def Ci:Nat→Pr→R Cd
 |0,p=>(.nil,p)
 |f+1,p=>
  if isT [33] p=true then
   (if Er p=true then (.mk 8 .nil .nil (Ci f (adv (Bl p))).1 .nil [],shut (Ci f (adv (Bl p))).2) else (.nil,Bl p))
  else if isT [40] p=true then
   (if Er p=true then ((NB (Ci f) (adv (Bl p))).1,shut (B3 [41] (NB (Ci f) (adv (Bl p))).2)) else (.nil,Bl p))
  else if O0 p=true then (Ud p,Uc p)
  else Px (exS p).2 (exS p).1 cmpO 0
abbrev cdS:Pr→R Cd:=NB (Ci 41)
def Qr:Nat→List Ar→Pr→R (List Ar)
 |0,_,p=>([],p)
 |k+1,l,p=>
  if (p.e==0)=true then
   (if isT [41] (exS p).2=true then (l++[⟨false,[],(exS p).1⟩],adv (exS p).2) else Qr k (l++[⟨false,[],(exS p).1⟩]) (B3 [44] (exS p).2))
  else ([],p)
def I6 (p:Pr):R (List Ar):=if isT [41] p=true then ([],adv p) else Qr (p.l.length+1) [] p
theorem E7 {p:Pr} (h:okP p):Nx p (exS p).2:=Ub (KM 41) p h
theorem B8 {t:List UInt8} {p:Pr} (h:okP p) (hi:isT t p=true):Nx p (adv p):=Di h (B9 hi).2 (B9 hi).1
theorem cm {p:Pr} (h:okP p) (hb:O0 p=true):p.e=0∧p.i+2<(p.l.length:Int)∧w64i (p.i+3)=p.i+3∧w64i (p.i+2)=p.i+2∧w64i (p.i+1)=p.i+1:=by
 unfold O0 at hb
 simp only[Bool.and_eq_true,decide_eq_true_eq]at hb
 obtain⟨h1,h2,h3,_⟩:=h
 have e2:w64i (p.i+2)=p.i+2:=by unfold w64i;rw[wrap_i64 (by omega) (by omega)]
 rw[e2]at hb
 refine⟨(J2 hb.1.1.1).1,hb.1.1.2,?_,e2,?_⟩<;>unfold w64i<;>rw[wrap_i64 (by omega) (by omega)]
theorem mS {p:Pr} (h:okP p) (hb:O0 p=true):Nx p (Uc p):=by
 obtain⟨e1,e2,e3,_⟩:=cm h hb
 obtain⟨h1,h2,h3,h4⟩:=h
 have e:(Uc p).i=p.i+3:=e3
 exact⟨⟨by rw[e];omega,by rw[e];show p.i+3≤(p.l.length:Int);omega,h3,h4⟩,rfl,rfl,by rw[e];omega,rfl,fun h=>absurd e1 h⟩
theorem Z5 (a:Ex):∀(l:List (List UInt8)) (k:Int) (q:Pr),okP q→Nx q (Px q a l k).2
 |[],k,q,h=>Fy 51 h
 |t::l,k,q,h=>by
  simp only[Px]
  split
  ·rename_i hi
   have h1:=B8 h hi
   exact h1.trans (E7 h1.ok)
  ·exact Z5 a l (k+1) q h
theorem Z6 {u:Pr→R Cd} (hu:∀p,okP p→Nx p (u p).2):∀(k:Nat) (a:Cd) (p:Pr),okP p→Nx p (Qp u k a p).2
 |0,a,p,h=>.refl h
 |k+1,a,p,h=>by
  simp only[Qp]
  split
  ·rename_i hi
   have h1:=B8 h hi
   have h2:=hu _ h1.ok
   exact(h1.trans h2).trans (Z6 hu k _ _ h2.ok)
  ·exact .refl h
theorem PC {u:Pr→R Cd} (hu:∀p,okP p→Nx p (u p).2) (p:Pr) (h:okP p):Nx p (KN u p).2:=(hu p h).trans (Z6 hu _ _ _ (hu p h).ok)
theorem Z7 {u:Pr→R Cd} (hu:∀p,okP p→Nx p (u p).2):∀(k:Nat) (a:Cd) (p:Pr),okP p→Nx p (Qq u k a p).2
 |0,a,p,h=>.refl h
 |k+1,a,p,h=>by
  simp only[Qq]
  split
  ·rename_i hi
   have h1:=B8 h hi
   have h2:=PC hu _ h1.ok
   exact(h1.trans h2).trans (Z7 hu k _ _ h2.ok)
  ·exact .refl h
theorem Ue {u:Pr→R Cd} (hu:∀p,okP p→Nx p (u p).2) (p:Pr) (h:okP p):Nx p (NB u p).2:=(PC hu p h).trans (Z7 hu _ _ _ (PC hu p h).ok)
theorem Lv:∀(f:Nat) (p:Pr),okP p→Nx p (Ci f p).2
 |0,p,h=>.refl h
 |f+1,p,h=>by
  simp only[Ci]
  split
  ·rename_i hi
   split
   ·rename_i hb
    have h1:=Gk h hb (B9 hi).2
    exact P3 h hb (h1.trans (Lv f _ h1.ok))
   ·rename_i hb;exact NA h (by simpa using hb)
  ·split
   ·rename_i hi
    split
    ·rename_i hb
     have h1:=Gk h hb (B9 hi).2
     have h2:=h1.trans (Ue (Lv f) _ h1.ok)
     exact P3 h hb (h2.trans (BI h2.ok))
    ·rename_i hb;exact NA h (by simpa using hb)
   ·split
    ·rename_i hb;exact mS h hb
    ·have h1:=E7 h
     exact h1.trans (Z5 _ _ _ _ h1.ok)
theorem Qs {p:Pr} (h:okP p):Nx p (cdS p).2:=Ue (Lv 41) p h
theorem Z8:∀(k:Nat) (l:List Ar) (p:Pr),okP p→Nx p (Qr k l p).2
 |0,l,p,h=>.refl h
 |k+1,l,p,h=>by
  simp only[Qr]
  split
  ·have h1:=E7 h
   split
   ·rename_i hi;exact h1.trans (B8 h1.ok hi)
   ·have h2:=h1.trans (BI (t:=[44]) h1.ok)
    exact h2.trans (Z8 k _ _ h2.ok)
  ·exact .refl h
theorem Rf {p:Pr} (h:okP p):Nx p (I6 p).2:=by
 unfold I6
 split
 ·rename_i hi;exact B8 h hi
 ·exact Z8 _ _ _ h
theorem Wy {f:Nat} {p:Pr} (h:okP p) (ob:Er p=true) (hd:dpU (f+1) p):dpU f (adv (Bl p)):=by
 have h3:=(Pv h ob).2.2
 show 41≤(Bl p).deep+(f:Int)
 rw[h3];have:41≤p.deep+((f+1:Nat):Int):=hd;simp only;omega
end Go.Proofs.Ytjnnmindcbgjhaa
namespace Go.Proofs.Ytjnnmindcbgjhaa
open Go Go.Sy Go.RowKit
abbrev Qt (f:Nat) (p:Pr):Prop:=okP p∧dpU f p
abbrev HZ (f:Nat) (p:Pr):SV:=.one (cdC (Ci f p).1)
abbrev G2 (f:Nat) (p:Pr):List (Option MV):=[some (zPr,[(Ci f p).2.c])]
noncomputable abbrev NC:ArgM ((Pr)×Unit):=(amP (mPr) am0)
abbrev PD (f:Nat):Prop:=Bs Try.prog 108 ((NC).args 0) (NC).mem (fun p:(Pr)×Unit=>Qt f p.1) (fun p:(Pr)×Unit=>HZ f p.1) (fun p:(Pr)×Unit=>G2 f p.1)
theorem tv (f:Nat):∀p,(fun p:(Pr)×Unit=>Qt f p.1) p→Co ((NC).mem p).length ((fun p:(Pr)×Unit=>G2 f p.1) p)=true:=by intro p _;rfl
theorem tw (f:Nat):∀p,(fun p:(Pr)×Unit=>Qt f p.1) p→Au ((fun p:(Pr)×Unit=>G2 f p.1) p).length ((fun p:(Pr)×Unit=>HZ f p.1) p)=true:=by intro p _;first|rfl|exact AO _ _|exact AP _ _|(simp[Au,C0,AO,AP];done)
theorem tx (f:Nat):∀p,(fun p:(Pr)×Unit=>Qt f p.1) p→∀q,some q∈(fun p:(Pr)×Unit=>G2 f p.1) p→∀r∈q.2,∀c∈r,c.names=[]:=by intro p _;exact Fg _
noncomputable def FN {X:Ctx} {w0:World} (f:Nat) (h:PD f):Sy.Spec Try.prog X w0:=Ca 108 Try.call108 (NC) (fun p:(Pr)×Unit=>Qt f p.1) (fun p:(Pr)×Unit=>HZ f p.1) (fun p:(Pr)×Unit=>G2 f p.1) (tv f) (tw f) (tx f) h
abbrev Qu (f:Nat) (p:Pr):Prop:=okP p∧dpU f p
abbrev Qv (f:Nat) (p:Pr):SV:=.one (cdC (KN (Ci f) p).1)
abbrev ND (f:Nat) (p:Pr):List (Option MV):=[some (zPr,[(KN (Ci f) p).2.c])]
noncomputable abbrev NE:ArgM ((Pr)×Unit):=(amP (mPr) am0)
abbrev cn (f:Nat):Prop:=Bs Try.prog 105 ((NE).args 0) (NE).mem (fun p:(Pr)×Unit=>Qu f p.1) (fun p:(Pr)×Unit=>Qv f p.1) (fun p:(Pr)×Unit=>ND f p.1)
theorem u3 (f:Nat):∀p,(fun p:(Pr)×Unit=>Qu f p.1) p→Co ((NE).mem p).length ((fun p:(Pr)×Unit=>ND f p.1) p)=true:=by intro p _;rfl
theorem u4 (f:Nat):∀p,(fun p:(Pr)×Unit=>Qu f p.1) p→Au ((fun p:(Pr)×Unit=>ND f p.1) p).length ((fun p:(Pr)×Unit=>Qv f p.1) p)=true:=by intro p _;first|rfl|exact AO _ _|exact AP _ _|(simp[Au,C0,AO,AP];done)
theorem u5 (f:Nat):∀p,(fun p:(Pr)×Unit=>Qu f p.1) p→∀q,some q∈(fun p:(Pr)×Unit=>ND f p.1) p→∀r∈q.2,∀c∈r,c.names=[]:=by intro p _;exact Fg _
noncomputable def TZ {X:Ctx} {w0:World} (f:Nat) (h:cn f):Sy.Spec Try.prog X w0:=Ca 105 Try.call105 (NE) (fun p:(Pr)×Unit=>Qu f p.1) (fun p:(Pr)×Unit=>Qv f p.1) (fun p:(Pr)×Unit=>ND f p.1) (u3 f) (u4 f) (u5 f) h
attribute [local go_sem] Pr.c zTk
theorem jq (f:Nat) (hu:PD f):cn f:=by
 rintro ⟨p,_u⟩ w M I lab fz xs hc hA hl hx
 refine Am Try.func105 rfl ((NE).mem ⟨p,_u⟩) w M I lab fz [A7,(FN f hu)] [] ((NE).args 0 ⟨p,_u⟩) ((fun p:(Pr)×Unit=>ND f p.1) ⟨p,_u⟩) ((fun p:(Pr)×Unit=>Qv f p.1) ⟨p,_u⟩) xs hA hl hx (fun v hv k hk=>by have:=(NE).an 0 ⟨p,_u⟩ v hv k hk;omega) (jN rfl) (jN rfl) ?_
 clear hx hl hA xs
 simp only[Try.f105]
 simp only[↓eB,seval,go_sem,A7,FN,Ah,Ag,Ai,Ac,Tok.r,Ad,ptR,Af,AS,AR,AQ]
 obtain⟨hc1,hc2⟩:=hc
 dsimp only at hc1 hc2
 have hu0:=Lv f p hc1
 refine⟨⟨hc1,hc2⟩,?_⟩
 refine Aa (Y:=Nat×Cd×Pr) (fun y=>okP y.2.2∧dpU f y.2.2∧(y.2.2.l.length:Int)≤y.2.2.i+(y.1:Int)∧Qp (Ci f) y.1 y.2.1 y.2.2=KN (Ci f) p)
  (fun y=>⟨[(0,true,.one (.p 0 0 0)),(3,true,.one (cdC y.2.1))],[(0,.vec 0 zPr [y.2.2.c])]⟩)
  (fun y=>y.1) (p.l.length,(Ci f p).1,(Ci f p).2) ⟨hu0.ok,by show dpU f _;unfold dpU;rw[hu0.d];exact hc2,by have:=hu0.ok.1;simp only[hu0.l];omega,by show Qp _ _ _ _=KN _ _;rfl⟩ ?_ ?_
 ·refine A4 [] ?_;simp only[↓eB,seval,go_sem]
 ·rintro ⟨k,a,q⟩ ⟨h1,h2,h3,h4⟩
  refine Ap [A7,(FN f hu)] [] _ _ _ ?_
  dsimp only at h1 h2 h3 h4
  cases i0:isT [38,38] q with
  |true=>
   obtain⟨k',rfl⟩:∃k',k=k'+1:=⟨k-1,by have:=(B9 i0).2;omega⟩
   simp only[Qp,i0,if_true]at h4
   have ha:=B8 h1 i0
   have hu1:=Lv f _ ha.ok
   have hai:=IC h1 (B9 i0).2
   simp only[↓eB,seval,go_sem,i0,A7,FN,BD,adv,Ah,Ag,Ai,Ac,Tok.r,Ad,ptR,Af,AS,AR,AQ]
   refine⟨h1,⟨ha.ok,h2⟩,(k',Cd.mk 6 .nil .nil a (Ci f (adv q)).1 [],(Ci f (adv q)).2),⟨hu1.ok,by show dpU f _;unfold dpU;rw[hu1.d];exact h2,?_,?_⟩,Nat.lt_succ_self _,A4 [.fz 12] ?_⟩
   ·dsimp only;have hi1:=hu1.i;rw[hai]at hi1;rw[hu1.l];show (q.l.length:Int)≤_;omega
   ·exact h4
   ·simp only[↓eB,seval,go_sem,adv,DC,Ao,Oe,Fw]
  |false=>
   have hr:(a,q)=KN (Ci f) p:=by
    rw[← h4];cases k<;>simp[Qp,i0]
   simp only[↓eB,seval,go_sem,i0,A7,BD,Ah,Ag,Ai,Ac,Tok.r,Ad,ptR,Af,AS,AR,AQ]
   try simp only[A2,A3]
   repeat' first|exact ck|with_reducible apply And.intro|intro _
   all_goals first|exact h1|(rename_i h;first|exact oI h|exact nah h)|(rename_i _ h _ g;exact sL h g)|decide|omega|(refine A0 [] ?_;simp only[↓eB,seval,go_sem,bne,Qv,ND,← hr])
abbrev PE (f:Nat) (p:Pr):Prop:=okP p∧dpU f p
abbrev PF (f:Nat) (p:Pr):SV:=.one (cdC (NB (Ci f) p).1)
abbrev LH (f:Nat) (p:Pr):List (Option MV):=[some (zPr,[(NB (Ci f) p).2.c])]
noncomputable abbrev LI:ArgM ((Pr)×Unit):=(amP (mPr) am0)
abbrev Uf (f:Nat):Prop:=Bs Try.prog 87 ((LI).args 0) (LI).mem (fun p:(Pr)×Unit=>PE f p.1) (fun p:(Pr)×Unit=>PF f p.1) (fun p:(Pr)×Unit=>LH f p.1)
theorem mT (f:Nat):∀p,(fun p:(Pr)×Unit=>PE f p.1) p→Co ((LI).mem p).length ((fun p:(Pr)×Unit=>LH f p.1) p)=true:=by intro p _;rfl
theorem mU (f:Nat):∀p,(fun p:(Pr)×Unit=>PE f p.1) p→Au ((fun p:(Pr)×Unit=>LH f p.1) p).length ((fun p:(Pr)×Unit=>PF f p.1) p)=true:=by intro p _;first|rfl|exact AO _ _|exact AP _ _|(simp[Au,C0,AO,AP];done)
theorem mV (f:Nat):∀p,(fun p:(Pr)×Unit=>PE f p.1) p→∀q,some q∈(fun p:(Pr)×Unit=>LH f p.1) p→∀r∈q.2,∀c∈r,c.names=[]:=by intro p _;exact Fg _
noncomputable def CW {X:Ctx} {w0:World} (f:Nat) (h:Uf f):Sy.Spec Try.prog X w0:=Ca 87 Try.call87 (LI) (fun p:(Pr)×Unit=>PE f p.1) (fun p:(Pr)×Unit=>PF f p.1) (fun p:(Pr)×Unit=>LH f p.1) (mT f) (mU f) (mV f) h
theorem co (f:Nat) (hu:PD f):Uf f:=by
 rintro ⟨p,_u⟩ w M I lab fz xs hc hA hl hx
 refine Am Try.func87 rfl ((LI).mem ⟨p,_u⟩) w M I lab fz [A7,(TZ f (jq f hu))] [] ((LI).args 0 ⟨p,_u⟩) ((fun p:(Pr)×Unit=>LH f p.1) ⟨p,_u⟩) ((fun p:(Pr)×Unit=>PF f p.1) ⟨p,_u⟩) xs hA hl hx (fun v hv k hk=>by have:=(LI).an 0 ⟨p,_u⟩ v hv k hk;omega) (jN rfl) (jN rfl) ?_
 clear hx hl hA xs
 simp only[Try.f87]
 simp only[↓eB,seval,go_sem,A7,TZ,Ah,Ag,Ai,Ac,Tok.r,Ad,ptR,Af,AS,AR,AQ]
 obtain⟨hc1,hc2⟩:=hc
 dsimp only at hc1 hc2
 have hu0:=PC (Lv f) p hc1
 refine⟨⟨hc1,hc2⟩,?_⟩
 refine Aa (Y:=Nat×Cd×Pr) (fun y=>okP y.2.2∧dpU f y.2.2∧(y.2.2.l.length:Int)≤y.2.2.i+(y.1:Int)∧Qq (Ci f) y.1 y.2.1 y.2.2=NB (Ci f) p)
  (fun y=>⟨[(0,true,.one (.p 0 0 0)),(3,true,.one (cdC y.2.1))],[(0,.vec 0 zPr [y.2.2.c])]⟩)
  (fun y=>y.1) (p.l.length,(KN (Ci f) p).1,(KN (Ci f) p).2) ⟨hu0.ok,by show dpU f _;unfold dpU;rw[hu0.d];exact hc2,by have:=hu0.ok.1;simp only[hu0.l];omega,by show Qq _ _ _ _=NB _ _;rfl⟩ ?_ ?_
 ·refine A4 [] ?_;simp only[↓eB,seval,go_sem]
 ·rintro ⟨k,a,q⟩ ⟨h1,h2,h3,h4⟩
  refine Ap [A7,(TZ f (jq f hu))] [] _ _ _ ?_
  dsimp only at h1 h2 h3 h4
  cases i0:isT [124,124] q with
  |true=>
   obtain⟨k',rfl⟩:∃k',k=k'+1:=⟨k-1,by have:=(B9 i0).2;omega⟩
   simp only[Qq,i0,if_true]at h4
   have ha:=B8 h1 i0
   have hu1:=PC (Lv f) _ ha.ok
   have hai:=IC h1 (B9 i0).2
   simp only[↓eB,seval,go_sem,i0,A7,TZ,BD,adv,Ah,Ag,Ai,Ac,Tok.r,Ad,ptR,Af,AS,AR,AQ]
   refine⟨h1,⟨ha.ok,h2⟩,(k',Cd.mk 7 .nil .nil a (KN (Ci f) (adv q)).1 [],(KN (Ci f) (adv q)).2),⟨hu1.ok,by show dpU f _;unfold dpU;rw[hu1.d];exact h2,?_,?_⟩,Nat.lt_succ_self _,A4 [.fz 12] ?_⟩
   ·dsimp only;have hi1:=hu1.i;rw[hai]at hi1;rw[hu1.l];show (q.l.length:Int)≤_;omega
   ·exact h4
   ·simp only[↓eB,seval,go_sem,adv,DC,Ao,Oe,Fw]
  |false=>
   have hr:(a,q)=NB (Ci f) p:=by
    rw[← h4];cases k<;>simp[Qq,i0]
   simp only[↓eB,seval,go_sem,i0,A7,BD,Ah,Ag,Ai,Ac,Tok.r,Ad,ptR,Af,AS,AR,AQ]
   try simp only[A2,A3]
   repeat' first|exact ck|with_reducible apply And.intro|intro _
   all_goals first|exact h1|(rename_i h;first|exact oI h|exact nah h)|(rename_i _ h _ g;exact sL h g)|decide|omega|(refine A0 [] ?_;simp only[↓eB,seval,go_sem,bne,PF,LH,← hr])
noncomputable abbrev Ug {X:Ctx} {w0:World}:Sy.Spec Try.prog X w0:=Cv 41 (jl 41 (fY 41))
def cO (s:List UInt8):List C:=[.v (.string (bs s))]
theorem A0f {i:Nat} {x:List UInt8} (h:cmpO[i]?=some x):(cmpO.map cO).getD i [.v (.string (bs []))]=cO x:=by simp[List.getD,h]
theorem u6 (f:Nat) (hu:PD f) (hs:Uf f):PD (f+1):=by
 rintro ⟨p,_u⟩ w M I lab fz xs hc hA hl hx
 refine Am Try.func108 rfl ((NC).mem ⟨p,_u⟩) w M I lab fz [AU,A8,AM,AC,AG,A7,(FN f hu),(CW f hs),Ug] [] ((NC).args 0 ⟨p,_u⟩) ((fun p:(Pr)×Unit=>G2 (f+1) p.1) ⟨p,_u⟩) ((fun p:(Pr)×Unit=>HZ (f+1) p.1) ⟨p,_u⟩) xs hA hl hx (fun v hv k hk=>by have:=(NC).an 0 ⟨p,_u⟩ v hv k hk;omega) (jN rfl) (jN rfl) ?_
 clear hx hl hA xs
 simp only[Try.f108]
 obtain⟨hc1,hc2⟩:=hc
 dsimp only at hc1 hc2
 have hI:=hc1.i
 cases i0:isT [33] p with
 |true=>
  cases ob:Er p with
  |false=>
   have hr:Ci (f+1) p=(.nil,Bl p):=by simp[Ci,i0,ob]
   simp only[↓eB,seval,go_sem,AU,Aw,A8,AN,AM,AC,AG,AH,A7,FN,CW,Cv,Ah,Ag,Ai,Ac,Tok.r,Ad,ptR,Af,AS,AR,AQ,i0,ob]
   try simp only[A2,A3]
   repeat' first|exact ck|with_reducible apply And.intro|intro _
   all_goals first|exact hI|exact hc1|(rename_i h;first|exact oI h|exact nah h)|(rename_i _ h _ g;exact sL h g)|decide|omega|(refine A0 [] ?_;simp only[↓eB,seval,go_sem,bne,HZ,G2,hr,Ao])
  |true=>
   have hr:Ci (f+1) p=(.mk 8 .nil .nil (Ci f (adv (Bl p))).1 .nil [],shut (Ci f (adv (Bl p))).2):=by simp[Ci,i0,ob]
   have ha:=Gk hc1 ob (B9 i0).2
   have hd:=Wy hc1 ob hc2
   simp only[↓eB,seval,go_sem,AU,Aw,A8,AN,AM,AC,AG,AH,A7,FN,CW,Cv,Ah,Ag,Ai,Ac,Tok.r,Ad,ptR,Af,AS,AR,AQ,i0,ob]
   try simp only[A2,A3]
   repeat' first|exact ck|with_reducible apply And.intro|intro _
   all_goals first|exact hI|exact hc1|exact ha.ok|exact hd|(rename_i h;first|exact oI h|exact nah h)|(rename_i _ h _ g;exact sL h g)|decide|omega|(refine A0 [.fz 33] ?_;simp only[↓eB,seval,go_sem,bne,HZ,G2,hr,Ao,DC,Oe,Fw,shut,adv])
 |false=>
 cases i1:isT [40] p with
 |true=>
  cases ob:Er p with
  |false=>
   have hr:Ci (f+1) p=(.nil,Bl p):=by simp[Ci,i0,i1,ob]
   simp only[↓eB,seval,go_sem,AU,Aw,A8,AN,AM,AC,AG,AH,A7,FN,CW,Cv,Ah,Ag,Ai,Ac,Tok.r,Ad,ptR,Af,AS,AR,AQ,i0,i1,ob]
   try simp only[A2,A3]
   repeat' first|exact ck|with_reducible apply And.intro|intro _
   all_goals first|exact hI|exact hc1|(rename_i h;first|exact oI h|exact nah h)|(rename_i _ h _ g;exact sL h g)|decide|omega|(refine A0 [] ?_;simp only[↓eB,seval,go_sem,bne,HZ,G2,hr,Ao])
  |true=>
   have hr:Ci (f+1) p=((NB (Ci f) (adv (Bl p))).1,shut (B3 [41] (NB (Ci f) (adv (Bl p))).2)):=by simp[Ci,i0,i1,ob]
   have ha:=Gk hc1 ob (B9 i1).2
   have hd:=Wy hc1 ob hc2
   have hs2:=Ue (Lv f) _ ha.ok
   simp only[↓eB,seval,go_sem,AU,Aw,A8,AN,AM,AC,AG,AH,A7,FN,CW,Cv,Ah,Ag,Ai,Ac,Tok.r,Ad,ptR,Af,AS,AR,AQ,i0,i1,ob]
   try simp only[A2,A3]
   repeat' first|exact ck|with_reducible apply And.intro|intro _
   all_goals first|exact hI|exact hc1|exact ha.ok|exact hd|exact hs2.ok|(rename_i h;first|exact oI h|exact nah h)|(rename_i _ h _ g;exact sL h g)|decide|omega|(refine A0 [] ?_;simp only[↓eB,seval,go_sem,bne,HZ,G2,hr,shut,adv])
 |false=>
 cases hn:O0 p with
 |true=>
  have hr:Ci (f+1) p=(Ud p,Uc p):=by simp[Ci,i0,i1,hn]
  obtain⟨n1,n2,n3,n4,n5⟩:=cm hc1 hn
  have hn':=hn
  have hna:nameB p=true:=by unfold O0 at hn;simp only[Bool.and_eq_true]at hn;exact hn.1.1.1
  unfold O0 tkA at hn'
  simp only[w64i]at hn' n3 n4 n5
  have q1:(0≤p.i)=True:=by simp[hc1.1]
  have q2:(p.i<(p.l.length:Int))=True:=by simp;omega
  have q3:(0≤p.i+2)=True:=by have:=hc1.1;simp;omega
  have q4:(p.i+2<(p.l.length:Int))=True:=by simp[n2]
  have q5:(0≤p.i+1)=True:=by have:=hc1.1;simp;omega
  have q6:(p.i+1<(p.l.length:Int))=True:=by simp;omega
  simp only[n4,n5,hna,Bool.true_and,Bool.and_eq_true,decide_eq_true_eq]at hn'
  obtain⟨⟨z1,z2⟩,z3⟩:=hn'
  have z0:decide (p.i+2<(p.l.length:Int))=true:=by simp[n2]
  cases z4:((p.l.getD (p.i+1).toNat tk0).t==[33,61]) with
  |true=>
   have hc':Ud p= .mk 8 .nil .nil (.mk 9 .nil .nil .nil .nil (tk p).t) .nil []:=by unfold Ud tkA;simp only[w64i,n5];rw[if_pos z4]
   cases z5:((p.l.getD (p.i+1).toNat tk0).t==[61,61]) with
   |true=>rw[beq_iff_eq]at z4 z5;rw[z4]at z5;cases z5
   |false=>
    simp only[↓eB,seval,go_sem,AU,Aw,A8,AN,AM,AC,AG,AH,A7,FN,CW,Cv,Ah,Ag,Ai,Ac,Tok.r,Ad,ptR,Af,AS,AR,AQ,i0,i1,hna,n3,n4,n5,q1,q2,q3,q4,q5,q6,z0,z2,z4,z5]
    try simp only[A2,A3]
    repeat' first|exact ck|with_reducible apply And.intro|intro _
    all_goals first|exact hI|exact hc1|(rename_i h;first|exact oI h|exact nah h)|(rename_i _ h _ g;exact sL h g)|decide|omega|(refine A0 [.fz 131,.fz 147] ?_;simp only[↓eB,seval,go_sem,bne,HZ,G2,hr,hc',DC,Ao,Cd.d,Ex.d,Uc,tk,n3])
  |false=>
   have hc':Ud p= .mk 9 .nil .nil .nil .nil (tk p).t:=by unfold Ud tkA;simp only[w64i,n5];rw[if_neg (by rw[z4];decide)]
   have z5:((p.l.getD (p.i+1).toNat tk0).t==[61,61])=true:=by rw[z4]at z3;simpa using z3
   simp only[↓eB,seval,go_sem,AU,Aw,A8,AN,AM,AC,AG,AH,A7,FN,CW,Cv,Ah,Ag,Ai,Ac,Tok.r,Ad,ptR,Af,AS,AR,AQ,i0,i1,hna,n3,n4,n5,q1,q2,q3,q4,q5,q6,z0,z2,z4,z5]
   try simp only[A2,A3]
   repeat' first|exact ck|with_reducible apply And.intro|intro _
   all_goals first|exact hI|exact hc1|(rename_i h;first|exact oI h|exact nah h)|(rename_i _ h _ g;exact sL h g)|decide|omega|(refine A0 [.fz 131] ?_;simp only[↓eB,seval,go_sem,bne,HZ,G2,hr,hc',DC,Ao,Oe,Fw,Uc,tk,n3])
 |false=>
 have hr:Ci (f+1) p=Px (exS p).2 (exS p).1 cmpO 0:=by simp[Ci,i0,i1,hn]
 have hn':=hn
 unfold O0 tkA at hn'
 simp only[w64i]at hn'
 have q1:=hc1.1
 have q2:p.i+2<9223372036854775808:=by have:=hc1.2.1;have:=hc1.2.2.1;omega
 have n4:IntKind.i64.wrap (p.i+2)=p.i+2:=wrap_i64 (by omega) (by omega)
 have n5:IntKind.i64.wrap (p.i+1)=p.i+1:=wrap_i64 (by omega) (by omega)
 simp only[n4,n5]at hn'
 have hu0:=E7 hc1
 simp only[↓eB,seval,go_sem,AU,Aw,A8,AN,AM,AC,AG,AH,A7,FN,CW,Cv,Ah,Ag,Ai,Ac,Tok.r,Ad,ptR,Af,AS,AR,AQ,i0,i1,hn',n4,n5]
 refine⟨hI,hI,hI,?_,?_,?_,?_,CT (by kernel_rfl),⟨hc1,L7 hc1⟩,?_⟩
 ·exact fun h=>⟨h,h,by omega,by simp only[Bool.and_eq_true,decide_eq_true_eq]at h;omega⟩
 ·exact fun h=>⟨h,h,by omega,by simp only[Bool.and_eq_true,decide_eq_true_eq]at h;omega⟩
 ·exact fun h=>⟨h,h,by omega,by simp only[Bool.and_eq_true,decide_eq_true_eq]at h;omega⟩
 ·exact fun h=>⟨h,fun h2=>by rw[h,h2];rfl⟩
 generalize hq:(exS p).2=q at hr hu0
 generalize ha:(exS p).1=a at hr
 have hq1:(KL (unF 41) p).2=q:=hq
 have ha1:(KL (unF 41) p).1=a:=ha
 have hq0:=hu0.ok
 have hlen:cmpO.length=6:=rfl
 refine Aa (Y:=Nat) (fun k=>k≤6∧Px q a (cmpO.drop k) (k:Int)=Px q a cmpO 0)
  (fun k=>⟨[(0,true,.one (.p 0 0 0)),(6,true,.one (exC a)),(7,true,.one (.s 1000)),(8,true,.one (.v (.int .i64 (k:Int))))],[(0,.vec 0 zPr [q.c]),(1000,.vec 0 [.v (.string (bs []))] (cmpO.map cO))]⟩)
  (fun k=>6-k) 0 ⟨Nat.zero_le _,rfl⟩ ?_ ?_
 ·refine A4 [.mv 158 1000] ?_;simp only[↓eB,seval,go_sem,cmpO,cO]
 ·rintro k ⟨hk,hJ⟩
  refine Ap [AU,A8,AM,AC,AG,A7,FN f hu,CW f hs,Ug] [] _ _ _ ?_
  cases hx:cmpO[k]? with
  |none=>
   have hk2:cmpO.length≤k:=List.getElem?_eq_none_iff.1 hx
   have h1:decide ((k:Int)<6)=false:=by simp;omega
   rw[List.drop_eq_nil_of_le hk2]at hJ
   simp only[Px]at hJ
   simp only[↓eB,seval,go_sem,AU,Aw,A8,AN,AM,AC,AG,AH,A7,FN,CW,Cv,Ah,Ag,Ai,Ac,Tok.r,Ad,ptR,Af,AS,AR,AQ,h1]
   try simp only[A2,A3]
   repeat' first|exact ck|with_reducible apply And.intro|intro _
   all_goals first|exact hq0.i|(rename_i h;first|exact oI h|exact nah h)|(rename_i _ h _ g;exact sL h g)|decide|omega|(refine A0 [] ?_;simp only[↓eB,seval,go_sem,bne,HZ,G2,hr,← hJ,Ao])
  |some x=>
   have hlt:k<cmpO.length:=(List.getElem?_eq_some_iff.1 hx).1
   have h1:decide ((k:Int)<6)=true:=by simp;omega
   have h2:((k:Int)<(cmpO.length:Int))=True:=by simp;omega
   have h3:=A0f hx
   have h4:=ED (i:=k) (n:=6) (by omega) (by omega)
   have h5:IntKind.i64.wrap (0+(k:Int))=(k:Int):=by rw[wrap_i64 (by omega) (by omega)];omega
   rw[Bo hx]at hJ
   simp only[Px]at hJ
   cases it:isT x q with
   |true=>
    rw[if_pos it]at hJ
    have hb:=B8 hq0 it
    simp only[↓eB,seval,go_sem,AU,Aw,A8,AN,AM,AC,AG,AH,A7,FN,CW,Cv,Ah,Ag,Ai,Ac,Tok.r,Ad,ptR,Af,AS,AR,AQ,h1,h2,h3,h4,h5,cO,it,BD,adv]
    try simp only[A2,A3]
    repeat' first|exact ck|with_reducible apply And.intro|intro _
    all_goals first|exact hlt|exact hq0|exact hb.ok|exact L7 hb.ok|(rename_i h;first|exact oI h|exact nah h)|(rename_i _ h _ g;exact sL h g)|decide|omega|(refine A0 [.fz 175] ?_;simp only[↓eB,seval,go_sem,bne,HZ,G2,hr,← hJ,DC,Oe,adv])
   |false=>
    rw[if_neg (by rw[it];decide)]at hJ
    simp only[↓eB,seval,go_sem,AU,Aw,A8,AN,AM,AC,AG,AH,A7,FN,CW,Cv,Ah,Ag,Ai,Ac,Tok.r,Ad,ptR,Af,AS,AR,AQ,h1,h2,h3,h4,h5,cO,it,BD]
    refine⟨hlt,hq0,k+1,⟨by omega,hJ⟩,by omega,?_⟩
    refine A4 [] ?_;simp only[↓eB,seval,go_sem,cmpO,cO]
theorem aJ:∀f:Nat,PD f
 |0=>by
  rintro ⟨p,_u⟩ w M I lab fz xs hc hA hl hx
  obtain⟨h1,h2⟩:=hc
  have h3:p.deep≤40:=h1.2.2.2.2.1
  have h4:41≤p.deep+((0:Nat):Int):=h2
  exact absurd h4 (by simp;omega)
 |f+1=>u6 f (aJ f) (co f (aJ f))
noncomputable abbrev A0g {X:Ctx} {w0:World}:Sy.Spec Try.prog X w0:=CW 41 (co 41 (aJ 41))
end Go.Proofs.Ytjnnmindcbgjhaa
