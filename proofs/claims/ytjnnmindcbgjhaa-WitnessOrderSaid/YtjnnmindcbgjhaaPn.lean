/- Conditions and arguments, in plain words. No conditions but those in each statement. -/
import Derived.Test.YtjnnmindcbgjhaaPm
import Derived.Test.YtjnnmindcbgjhaaPa3
set_option linter.unusedVariables false
set_option linter.unusedSimpArgs false
set_option maxRecDepth 20000
set_option maxHeartbeats 8000000
namespace Go.Proofs.Ytjnnmindcbgjhaa
open Go Go.Sy Go.RowKit
def tkA (p:Pr) (k:Int):Tok:=p.l.getD k.toNat tk0
def He (p:Pr):Bool:=nameB p&&decide (w64i (p.i+2)<(p.l.length:Int))&&(tkA p (w64i (p.i+2))).t==[110,117,108,108]&&((tkA p (w64i (p.i+1))).t==[61,61]||(tkA p (w64i (p.i+1))).t==[33,61])
def P1 (p:Pr):Pr:={ p with i:=w64i (p.i+3) }
def cmpO:List (List UInt8):=[[61,61],[33,61],[60],[60,61],[62],[62,61]]
def Jr (q:Pr) (a:Ex):List (List UInt8)→Int→R Cd
 |[],_=>(.nil,C7 51 q)
 |t::l,k=>if isT t q=true then (.mk k a (exS (adv q)).1 .nil .nil [],(exS (adv q)).2) else Jr q a l (k+1)
def JA (nt:Pr→R Cd):Nat→Cd→Pr→R Cd
 |0,c,p=>(c,p)
 |k+1,c,p=>if isT [38,38] p=true then JA nt k (.mk 6 .nil .nil c (nt (adv p)).1 []) (nt (adv p)).2 else (c,p)
def GK (nt:Pr→R Cd) (p:Pr):R Cd:=JA nt p.l.length (nt p).1 (nt p).2
def JB (nt:Pr→R Cd):Nat→Cd→Pr→R Cd
 |0,c,p=>(c,p)
 |k+1,c,p=>if isT [124,124] p=true then JB nt k (.mk 7 .nil .nil c (GK nt (adv p)).1 []) (GK nt (adv p)).2 else (c,p)
def Hw (nt:Pr→R Cd) (p:Pr):R Cd:=JB nt p.l.length (GK nt p).1 (GK nt p).2
def Pn (p:Pr):Cd:=if ((tkA p (w64i (p.i+1))).t==[33,61])=true then .mk 8 .nil .nil (.mk 9 .nil .nil .nil .nil (tk p).t) .nil [] else .mk 9 .nil .nil .nil .nil (tk p).t
def B5:Nat→Pr→R Cd
 |0,p=>(.nil,p)
 |f+1,p=>
  if isT [33] p=true then
   (if DH p=true then (.mk 8 .nil .nil (B5 f (adv (Ai p))).1 .nil [],shut (B5 f (adv (Ai p))).2) else (.nil,Ai p))
  else if isT [40] p=true then
   (if DH p=true then ((Hw (B5 f) (adv (Ai p))).1,shut (AX [41] (Hw (B5 f) (adv (Ai p))).2)) else (.nil,Ai p))
  else if He p=true then (Pn p,P1 p)
  else Jr (exS p).2 (exS p).1 cmpO 0
abbrev cdS:Pr→R Cd:=Hw (B5 41)
def Ka:Nat→List Ar→Pr→R (List Ar)
 |0,_,p=>([],p)
 |k+1,l,p=>
  if (p.e==0)=true then
   (if isT [41] (exS p).2=true then (l++[⟨false,[],(exS p).1⟩],adv (exS p).2) else Ka k (l++[⟨false,[],(exS p).1⟩]) (AX [44] (exS p).2))
  else ([],p)
def Ew (p:Pr):R (List Ar):=if isT [41] p=true then ([],adv p) else Ka (p.l.length+1) [] p
theorem Dr {p:Pr} (h:okP p):Nx p (exS p).2:=QW (IQ 41) p h
theorem B8 {t:List UInt8} {p:Pr} (h:okP p) (hi:isT t p=true):Nx p (adv p):=DI h (BB hi).2 (BB hi).1
theorem Vi {p:Pr} (h:okP p) (hb:He p=true):p.e=0∧p.i+2<(p.l.length:Int)∧w64i (p.i+3)=p.i+3∧w64i (p.i+2)=p.i+2∧w64i (p.i+1)=p.i+1:=by
 unfold He at hb
 simp only[Bool.and_eq_true,decide_eq_true_eq]at hb
 obtain⟨h1,h2,h3,_⟩:=h
 have e2:w64i (p.i+2)=p.i+2:=by unfold w64i;rw[wrap_i64 (by omega) (by omega)]
 rw[e2]at hb
 refine⟨(IP hb.1.1.1).1,hb.1.1.2,?_,e2,?_⟩<;>unfold w64i<;>rw[wrap_i64 (by omega) (by omega)]
theorem kx {p:Pr} (h:okP p) (hb:He p=true):Nx p (P1 p):=by
 obtain⟨e1,e2,e3,_⟩:=Vi h hb
 obtain⟨h1,h2,h3,h4⟩:=h
 have e:(P1 p).i=p.i+3:=e3
 exact⟨⟨by rw[e];omega,by rw[e];show p.i+3≤(p.l.length:Int);omega,h3,h4⟩,rfl,rfl,by rw[e];omega,rfl,fun h=>absurd e1 h⟩
theorem Xw (a:Ex):∀(l:List (List UInt8)) (k:Int) (q:Pr),okP q→Nx q (Jr q a l k).2
 |[],k,q,h=>Ff 51 h
 |t::l,k,q,h=>by
  simp only[Jr]
  split
  ·rename_i hi
   have h1:=B8 h hi
   exact h1.trans (Dr h1.ok)
  ·exact Xw a l (k+1) q h
theorem Xx {u:Pr→R Cd} (hu:∀p,okP p→Nx p (u p).2):∀(k:Nat) (a:Cd) (p:Pr),okP p→Nx p (JA u k a p).2
 |0,a,p,h=>.refl h
 |k+1,a,p,h=>by
  simp only[JA]
  split
  ·rename_i hi
   have h1:=B8 h hi
   have h2:=hu _ h1.ok
   exact(h1.trans h2).trans (Xx hu k _ _ h2.ok)
  ·exact .refl h
theorem OK {u:Pr→R Cd} (hu:∀p,okP p→Nx p (u p).2) (p:Pr) (h:okP p):Nx p (GK u p).2:=(hu p h).trans (Xx hu _ _ _ (hu p h).ok)
theorem Xy {u:Pr→R Cd} (hu:∀p,okP p→Nx p (u p).2):∀(k:Nat) (a:Cd) (p:Pr),okP p→Nx p (JB u k a p).2
 |0,a,p,h=>.refl h
 |k+1,a,p,h=>by
  simp only[JB]
  split
  ·rename_i hi
   have h1:=B8 h hi
   have h2:=OK hu _ h1.ok
   exact(h1.trans h2).trans (Xy hu k _ _ h2.ok)
  ·exact .refl h
theorem QX {u:Pr→R Cd} (hu:∀p,okP p→Nx p (u p).2) (p:Pr) (h:okP p):Nx p (Hw u p).2:=(OK hu p h).trans (Xy hu _ _ _ (OK hu p h).ok)
theorem Iu:∀(f:Nat) (p:Pr),okP p→Nx p (B5 f p).2
 |0,p,h=>.refl h
 |f+1,p,h=>by
  simp only[B5]
  split
  ·rename_i hi
   split
   ·rename_i hb
    have h1:=Fg h hb (BB hi).2
    exact HF h hb (h1.trans (Iu f _ h1.ok))
   ·rename_i hb;exact MT h (by simpa using hb)
  ·split
   ·rename_i hi
    split
    ·rename_i hb
     have h1:=Fg h hb (BB hi).2
     have h2:=h1.trans (QX (Iu f) _ h1.ok)
     exact HF h hb (h2.trans (BH h2.ok))
    ·rename_i hb;exact MT h (by simpa using hb)
   ·split
    ·rename_i hb;exact kx h hb
    ·have h1:=Dr h
     exact h1.trans (Xw _ _ _ _ h1.ok)
theorem Po {p:Pr} (h:okP p):Nx p (cdS p).2:=QX (Iu 41) p h
theorem Xz:∀(k:Nat) (l:List Ar) (p:Pr),okP p→Nx p (Ka k l p).2
 |0,l,p,h=>.refl h
 |k+1,l,p,h=>by
  simp only[Ka]
  split
  ·have h1:=Dr h
   split
   ·rename_i hi;exact h1.trans (B8 h1.ok hi)
   ·have h2:=h1.trans (BH (t:=[44]) h1.ok)
    exact h2.trans (Xz k _ _ h2.ok)
  ·exact .refl h
theorem QY {p:Pr} (h:okP p):Nx p (Ew p).2:=by
 unfold Ew
 split
 ·rename_i hi;exact B8 h hi
 ·exact Xz _ _ _ h
theorem Vj {f:Nat} {p:Pr} (h:okP p) (ob:DH p=true) (hd:dpU (f+1) p):dpU f (adv (Ai p)):=by
 have h3:=(ND h ob).2.2
 show 41≤(Ai p).deep+(f:Int)
 rw[h3];have:41≤p.deep+((f+1:Nat):Int):=hd;simp only;omega
end Go.Proofs.Ytjnnmindcbgjhaa
namespace Go.Proofs.Ytjnnmindcbgjhaa
open Go Go.Sy Go.RowKit
abbrev Pp (f:Nat) (p:Pr):Prop:=okP p∧dpU f p
abbrev H7 (f:Nat) (p:Pr):SV:=.one (cdC (B5 f p).1)
abbrev Fk (f:Nat) (p:Pr):List (Option MV):=[some (zPr,[(B5 f p).2.c])]
noncomputable abbrev MU:ArgM ((Pr)×Unit):=(amP (mPr) am0)
abbrev OL (f:Nat):Prop:=Cq Try.prog 108 ((MU).args 0) (MU).mem (fun p:(Pr)×Unit=>Pp f p.1) (fun p:(Pr)×Unit=>H7 f p.1) (fun p:(Pr)×Unit=>Fk f p.1)
theorem sQ (f:Nat):∀p,(fun p:(Pr)×Unit=>Pp f p.1) p→DY ((MU).mem p).length ((fun p:(Pr)×Unit=>Fk f p.1) p)=true:=by intro p _;rfl
theorem sS (f:Nat):∀p,(fun p:(Pr)×Unit=>Pp f p.1) p→BF ((fun p:(Pr)×Unit=>Fk f p.1) p).length ((fun p:(Pr)×Unit=>H7 f p.1) p)=true:=by intro p _;first|rfl|exact Ak _ _|exact Al _ _|(simp[BF,CV,Ak,Al];done)
theorem sT (f:Nat):∀p,(fun p:(Pr)×Unit=>Pp f p.1) p→∀q,some q∈(fun p:(Pr)×Unit=>Fk f p.1) p→∀r∈q.2,∀c∈r,c.names=[]:=by intro p _;exact FM _
noncomputable def FA {X:Ctx} {w0:World} (f:Nat) (h:OL f):Sy.Spec Try.prog X w0:=DT 108 Try.call108 (MU) (fun p:(Pr)×Unit=>Pp f p.1) (fun p:(Pr)×Unit=>H7 f p.1) (fun p:(Pr)×Unit=>Fk f p.1) (sQ f) (sS f) (sT f) h
abbrev Pq (f:Nat) (p:Pr):Prop:=okP p∧dpU f p
abbrev Ps (f:Nat) (p:Pr):SV:=.one (cdC (GK (B5 f) p).1)
abbrev MW (f:Nat) (p:Pr):List (Option MV):=[some (zPr,[(GK (B5 f) p).2.c])]
noncomputable abbrev MX:ArgM ((Pr)×Unit):=(amP (mPr) am0)
abbrev bS (f:Nat):Prop:=Cq Try.prog 105 ((MX).args 0) (MX).mem (fun p:(Pr)×Unit=>Pq f p.1) (fun p:(Pr)×Unit=>Ps f p.1) (fun p:(Pr)×Unit=>MW f p.1)
theorem sU (f:Nat):∀p,(fun p:(Pr)×Unit=>Pq f p.1) p→DY ((MX).mem p).length ((fun p:(Pr)×Unit=>MW f p.1) p)=true:=by intro p _;rfl
theorem sV (f:Nat):∀p,(fun p:(Pr)×Unit=>Pq f p.1) p→BF ((fun p:(Pr)×Unit=>MW f p.1) p).length ((fun p:(Pr)×Unit=>Ps f p.1) p)=true:=by intro p _;first|rfl|exact Ak _ _|exact Al _ _|(simp[BF,CV,Ak,Al];done)
theorem sW (f:Nat):∀p,(fun p:(Pr)×Unit=>Pq f p.1) p→∀q,some q∈(fun p:(Pr)×Unit=>MW f p.1) p→∀r∈q.2,∀c∈r,c.names=[]:=by intro p _;exact FM _
noncomputable def SL {X:Ctx} {w0:World} (f:Nat) (h:bS f):Sy.Spec Try.prog X w0:=DT 105 Try.call105 (MX) (fun p:(Pr)×Unit=>Pq f p.1) (fun p:(Pr)×Unit=>Ps f p.1) (fun p:(Pr)×Unit=>MW f p.1) (sU f) (sV f) (sW f) h
attribute [local go_sem] Pr.c zTk
theorem ie (f:Nat) (hu:OL f):bS f:=by
 rintro ⟨p,_u⟩ w M I lab fz xs hc hA hl hx
 refine BQ Try.func105 rfl ((MX).mem ⟨p,_u⟩) w M I lab fz [A7,(FA f hu)] [] ((MX).args 0 ⟨p,_u⟩) ((fun p:(Pr)×Unit=>MW f p.1) ⟨p,_u⟩) ((fun p:(Pr)×Unit=>Ps f p.1) ⟨p,_u⟩) xs hA hl hx (fun v hv k hk=>by have:=(MX).an 0 ⟨p,_u⟩ v hv k hk;omega) (jN rfl) (jN rfl) ?_
 clear hx hl hA xs
 simp only[Try.f105]
 simp only[↓eB,seval,go_sem,A7,FA,Af,Ae,Ag,AZ,Tok.r,Aa,ptR,Ad,AQ,AP,AO]
 obtain⟨hc1,hc2⟩:=hc
 dsimp only at hc1 hc2
 have hu0:=Iu f p hc1
 refine⟨⟨hc1,hc2⟩,?_⟩
 refine Ac (Y:=Nat×Cd×Pr) (fun y=>okP y.2.2∧dpU f y.2.2∧(y.2.2.l.length:Int)≤y.2.2.i+(y.1:Int)∧JA (B5 f) y.1 y.2.1 y.2.2=GK (B5 f) p)
  (fun y=>⟨[(0,true,.one (.p 0 0 0)),(3,true,.one (cdC y.2.1))],[(0,.vec 0 zPr [y.2.2.c])]⟩)
  (fun y=>y.1) (p.l.length,(B5 f p).1,(B5 f p).2) ⟨hu0.ok,by show dpU f _;unfold dpU;rw[hu0.d];exact hc2,by have:=hu0.ok.1;simp only[hu0.l];omega,by show JA _ _ _ _=GK _ _;rfl⟩ ?_ ?_
 ·refine A2 [] ?_;simp only[↓eB,seval,go_sem]
 ·rintro ⟨k,a,q⟩ ⟨h1,h2,h3,h4⟩
  refine Aq [A7,(FA f hu)] [] _ _ _ ?_
  dsimp only at h1 h2 h3 h4
  cases i0:isT [38,38] q with
  |true=>
   obtain⟨k',rfl⟩:∃k',k=k'+1:=⟨k-1,by have:=(BB i0).2;omega⟩
   simp only[JA,i0,if_true]at h4
   have ha:=B8 h1 i0
   have hu1:=Iu f _ ha.ok
   have hai:=Ek h1 (BB i0).2
   simp only[↓eB,seval,go_sem,i0,A7,FA,Az,adv,Af,Ae,Ag,AZ,Tok.r,Aa,ptR,Ad,AQ,AP,AO]
   refine⟨h1,⟨ha.ok,h2⟩,(k',Cd.mk 6 .nil .nil a (B5 f (adv q)).1 [],(B5 f (adv q)).2),⟨hu1.ok,by show dpU f _;unfold dpU;rw[hu1.d];exact h2,?_,?_⟩,Nat.lt_succ_self _,A2 [.fz 12] ?_⟩
   ·dsimp only;have hi1:=hu1.i;rw[hai]at hi1;rw[hu1.l];show (q.l.length:Int)≤_;omega
   ·exact h4
   ·simp only[↓eB,seval,go_sem,adv,D5,Am,O0,Fe]
  |false=>
   have hr:(a,q)=GK (B5 f) p:=by
    rw[← h4];cases k<;>simp[JA,i0]
   simp only[↓eB,seval,go_sem,i0,A7,Az,Af,Ae,Ag,AZ,Tok.r,Aa,ptR,Ad,AQ,AP,AO]
   try simp only[A3,A4]
   repeat' first|exact ck|with_reducible apply And.intro|intro _
   all_goals first|exact h1|(rename_i h;first|exact oI h|exact nah h)|(rename_i _ h _ g;exact sL h g)|decide|omega|(refine A0 [] ?_;simp only[↓eB,seval,go_sem,bne,Ps,MW,← hr])
abbrev OM (f:Nat) (p:Pr):Prop:=okP p∧dpU f p
abbrev ON (f:Nat) (p:Pr):SV:=.one (cdC (Hw (B5 f) p).1)
abbrev Kb (f:Nat) (p:Pr):List (Option MV):=[some (zPr,[(Hw (B5 f) p).2.c])]
noncomputable abbrev Kc:ArgM ((Pr)×Unit):=(amP (mPr) am0)
abbrev TU (f:Nat):Prop:=Cq Try.prog 87 ((Kc).args 0) (Kc).mem (fun p:(Pr)×Unit=>OM f p.1) (fun p:(Pr)×Unit=>ON f p.1) (fun p:(Pr)×Unit=>Kb f p.1)
theorem ky (f:Nat):∀p,(fun p:(Pr)×Unit=>OM f p.1) p→DY ((Kc).mem p).length ((fun p:(Pr)×Unit=>Kb f p.1) p)=true:=by intro p _;rfl
theorem kz (f:Nat):∀p,(fun p:(Pr)×Unit=>OM f p.1) p→BF ((fun p:(Pr)×Unit=>Kb f p.1) p).length ((fun p:(Pr)×Unit=>ON f p.1) p)=true:=by intro p _;first|rfl|exact Ak _ _|exact Al _ _|(simp[BF,CV,Ak,Al];done)
theorem l8 (f:Nat):∀p,(fun p:(Pr)×Unit=>OM f p.1) p→∀q,some q∈(fun p:(Pr)×Unit=>Kb f p.1) p→∀r∈q.2,∀c∈r,c.names=[]:=by intro p _;exact FM _
noncomputable def CP {X:Ctx} {w0:World} (f:Nat) (h:TU f):Sy.Spec Try.prog X w0:=DT 87 Try.call87 (Kc) (fun p:(Pr)×Unit=>OM f p.1) (fun p:(Pr)×Unit=>ON f p.1) (fun p:(Pr)×Unit=>Kb f p.1) (ky f) (kz f) (l8 f) h
theorem bT (f:Nat) (hu:OL f):TU f:=by
 rintro ⟨p,_u⟩ w M I lab fz xs hc hA hl hx
 refine BQ Try.func87 rfl ((Kc).mem ⟨p,_u⟩) w M I lab fz [A7,(SL f (ie f hu))] [] ((Kc).args 0 ⟨p,_u⟩) ((fun p:(Pr)×Unit=>Kb f p.1) ⟨p,_u⟩) ((fun p:(Pr)×Unit=>ON f p.1) ⟨p,_u⟩) xs hA hl hx (fun v hv k hk=>by have:=(Kc).an 0 ⟨p,_u⟩ v hv k hk;omega) (jN rfl) (jN rfl) ?_
 clear hx hl hA xs
 simp only[Try.f87]
 simp only[↓eB,seval,go_sem,A7,SL,Af,Ae,Ag,AZ,Tok.r,Aa,ptR,Ad,AQ,AP,AO]
 obtain⟨hc1,hc2⟩:=hc
 dsimp only at hc1 hc2
 have hu0:=OK (Iu f) p hc1
 refine⟨⟨hc1,hc2⟩,?_⟩
 refine Ac (Y:=Nat×Cd×Pr) (fun y=>okP y.2.2∧dpU f y.2.2∧(y.2.2.l.length:Int)≤y.2.2.i+(y.1:Int)∧JB (B5 f) y.1 y.2.1 y.2.2=Hw (B5 f) p)
  (fun y=>⟨[(0,true,.one (.p 0 0 0)),(3,true,.one (cdC y.2.1))],[(0,.vec 0 zPr [y.2.2.c])]⟩)
  (fun y=>y.1) (p.l.length,(GK (B5 f) p).1,(GK (B5 f) p).2) ⟨hu0.ok,by show dpU f _;unfold dpU;rw[hu0.d];exact hc2,by have:=hu0.ok.1;simp only[hu0.l];omega,by show JB _ _ _ _=Hw _ _;rfl⟩ ?_ ?_
 ·refine A2 [] ?_;simp only[↓eB,seval,go_sem]
 ·rintro ⟨k,a,q⟩ ⟨h1,h2,h3,h4⟩
  refine Aq [A7,(SL f (ie f hu))] [] _ _ _ ?_
  dsimp only at h1 h2 h3 h4
  cases i0:isT [124,124] q with
  |true=>
   obtain⟨k',rfl⟩:∃k',k=k'+1:=⟨k-1,by have:=(BB i0).2;omega⟩
   simp only[JB,i0,if_true]at h4
   have ha:=B8 h1 i0
   have hu1:=OK (Iu f) _ ha.ok
   have hai:=Ek h1 (BB i0).2
   simp only[↓eB,seval,go_sem,i0,A7,SL,Az,adv,Af,Ae,Ag,AZ,Tok.r,Aa,ptR,Ad,AQ,AP,AO]
   refine⟨h1,⟨ha.ok,h2⟩,(k',Cd.mk 7 .nil .nil a (GK (B5 f) (adv q)).1 [],(GK (B5 f) (adv q)).2),⟨hu1.ok,by show dpU f _;unfold dpU;rw[hu1.d];exact h2,?_,?_⟩,Nat.lt_succ_self _,A2 [.fz 12] ?_⟩
   ·dsimp only;have hi1:=hu1.i;rw[hai]at hi1;rw[hu1.l];show (q.l.length:Int)≤_;omega
   ·exact h4
   ·simp only[↓eB,seval,go_sem,adv,D5,Am,O0,Fe]
  |false=>
   have hr:(a,q)=Hw (B5 f) p:=by
    rw[← h4];cases k<;>simp[JB,i0]
   simp only[↓eB,seval,go_sem,i0,A7,Az,Af,Ae,Ag,AZ,Tok.r,Aa,ptR,Ad,AQ,AP,AO]
   try simp only[A3,A4]
   repeat' first|exact ck|with_reducible apply And.intro|intro _
   all_goals first|exact h1|(rename_i h;first|exact oI h|exact nah h)|(rename_i _ h _ g;exact sL h g)|decide|omega|(refine A0 [] ?_;simp only[↓eB,seval,go_sem,bne,ON,Kb,← hr])
noncomputable abbrev TV {X:Ctx} {w0:World}:Sy.Spec Try.prog X w0:=Ct 41 (iV 41 (eE 41))
def cO (s:List UInt8):List C:=[.v (.string (bs s))]
theorem yt {i:Nat} {x:List UInt8} (h:cmpO[i]?=some x):(cmpO.map cO).getD i [.v (.string (bs []))]=cO x:=by simp[List.getD,h]
theorem sX (f:Nat) (hu:OL f) (hs:TU f):OL (f+1):=by
 rintro ⟨p,_u⟩ w M I lab fz xs hc hA hl hx
 refine BQ Try.func108 rfl ((MU).mem ⟨p,_u⟩) w M I lab fz [AR,A8,AM,AC,AG,A7,(FA f hu),(CP f hs),TV] [] ((MU).args 0 ⟨p,_u⟩) ((fun p:(Pr)×Unit=>Fk (f+1) p.1) ⟨p,_u⟩) ((fun p:(Pr)×Unit=>H7 (f+1) p.1) ⟨p,_u⟩) xs hA hl hx (fun v hv k hk=>by have:=(MU).an 0 ⟨p,_u⟩ v hv k hk;omega) (jN rfl) (jN rfl) ?_
 clear hx hl hA xs
 simp only[Try.f108]
 obtain⟨hc1,hc2⟩:=hc
 dsimp only at hc1 hc2
 have hI:=hc1.i
 cases i0:isT [33] p with
 |true=>
  cases ob:DH p with
  |false=>
   have hr:B5 (f+1) p=(.nil,Ai p):=by simp[B5,i0,ob]
   simp only[↓eB,seval,go_sem,AR,As,A8,AN,AM,AC,AG,AH,A7,FA,CP,Ct,Af,Ae,Ag,AZ,Tok.r,Aa,ptR,Ad,AQ,AP,AO,i0,ob]
   try simp only[A3,A4]
   repeat' first|exact ck|with_reducible apply And.intro|intro _
   all_goals first|exact hI|exact hc1|(rename_i h;first|exact oI h|exact nah h)|(rename_i _ h _ g;exact sL h g)|decide|omega|(refine A0 [] ?_;simp only[↓eB,seval,go_sem,bne,H7,Fk,hr,Am])
  |true=>
   have hr:B5 (f+1) p=(.mk 8 .nil .nil (B5 f (adv (Ai p))).1 .nil [],shut (B5 f (adv (Ai p))).2):=by simp[B5,i0,ob]
   have ha:=Fg hc1 ob (BB i0).2
   have hd:=Vj hc1 ob hc2
   simp only[↓eB,seval,go_sem,AR,As,A8,AN,AM,AC,AG,AH,A7,FA,CP,Ct,Af,Ae,Ag,AZ,Tok.r,Aa,ptR,Ad,AQ,AP,AO,i0,ob]
   try simp only[A3,A4]
   repeat' first|exact ck|with_reducible apply And.intro|intro _
   all_goals first|exact hI|exact hc1|exact ha.ok|exact hd|(rename_i h;first|exact oI h|exact nah h)|(rename_i _ h _ g;exact sL h g)|decide|omega|(refine A0 [.fz 33] ?_;simp only[↓eB,seval,go_sem,bne,H7,Fk,hr,Am,D5,O0,Fe,shut,adv])
 |false=>
 cases i1:isT [40] p with
 |true=>
  cases ob:DH p with
  |false=>
   have hr:B5 (f+1) p=(.nil,Ai p):=by simp[B5,i0,i1,ob]
   simp only[↓eB,seval,go_sem,AR,As,A8,AN,AM,AC,AG,AH,A7,FA,CP,Ct,Af,Ae,Ag,AZ,Tok.r,Aa,ptR,Ad,AQ,AP,AO,i0,i1,ob]
   try simp only[A3,A4]
   repeat' first|exact ck|with_reducible apply And.intro|intro _
   all_goals first|exact hI|exact hc1|(rename_i h;first|exact oI h|exact nah h)|(rename_i _ h _ g;exact sL h g)|decide|omega|(refine A0 [] ?_;simp only[↓eB,seval,go_sem,bne,H7,Fk,hr,Am])
  |true=>
   have hr:B5 (f+1) p=((Hw (B5 f) (adv (Ai p))).1,shut (AX [41] (Hw (B5 f) (adv (Ai p))).2)):=by simp[B5,i0,i1,ob]
   have ha:=Fg hc1 ob (BB i1).2
   have hd:=Vj hc1 ob hc2
   have hs2:=QX (Iu f) _ ha.ok
   simp only[↓eB,seval,go_sem,AR,As,A8,AN,AM,AC,AG,AH,A7,FA,CP,Ct,Af,Ae,Ag,AZ,Tok.r,Aa,ptR,Ad,AQ,AP,AO,i0,i1,ob]
   try simp only[A3,A4]
   repeat' first|exact ck|with_reducible apply And.intro|intro _
   all_goals first|exact hI|exact hc1|exact ha.ok|exact hd|exact hs2.ok|(rename_i h;first|exact oI h|exact nah h)|(rename_i _ h _ g;exact sL h g)|decide|omega|(refine A0 [] ?_;simp only[↓eB,seval,go_sem,bne,H7,Fk,hr,shut,adv])
 |false=>
 cases hn:He p with
 |true=>
  have hr:B5 (f+1) p=(Pn p,P1 p):=by simp[B5,i0,i1,hn]
  obtain⟨n1,n2,n3,n4,n5⟩:=Vi hc1 hn
  have hn':=hn
  have hna:nameB p=true:=by unfold He at hn;simp only[Bool.and_eq_true]at hn;exact hn.1.1.1
  unfold He tkA at hn'
  simp only[w64i]at hn' n3 n4 n5
  have q1:(0≤p.i)=True:=by simp[hc1.1]
  have q2:(p.i<(p.l.length:Int))=True:=by simp;omega
  have q3:(0≤p.i+2)=True:=by have:=hc1.1;simp;omega
  have q4:(p.i+2<(p.l.length:Int))=True:=by simp[n2]
  have q5:(0≤p.i+1)=True:=by have:=hc1.1;simp;omega
  have q6:(p.i+1<(p.l.length:Int))=True:=by simp;omega
  simp only[n4,n5,hna,Bool.true_and,Bool.and_eq_true,decide_eq_true_eq]at hn'
  obtain⟨⟨z1,z2⟩,z3⟩:=hn'
  have z0:decide (p.i+2<(p.l.length:Int))=true:=by simp[n2]
  cases z4:((p.l.getD (p.i+1).toNat tk0).t==[33,61]) with
  |true=>
   have hc':Pn p= .mk 8 .nil .nil (.mk 9 .nil .nil .nil .nil (tk p).t) .nil []:=by unfold Pn tkA;simp only[w64i,n5];rw[if_pos z4]
   cases z5:((p.l.getD (p.i+1).toNat tk0).t==[61,61]) with
   |true=>rw[beq_iff_eq]at z4 z5;rw[z4]at z5;cases z5
   |false=>
    simp only[↓eB,seval,go_sem,AR,As,A8,AN,AM,AC,AG,AH,A7,FA,CP,Ct,Af,Ae,Ag,AZ,Tok.r,Aa,ptR,Ad,AQ,AP,AO,i0,i1,hna,n3,n4,n5,q1,q2,q3,q4,q5,q6,z0,z2,z4,z5]
    try simp only[A3,A4]
    repeat' first|exact ck|with_reducible apply And.intro|intro _
    all_goals first|exact hI|exact hc1|(rename_i h;first|exact oI h|exact nah h)|(rename_i _ h _ g;exact sL h g)|decide|omega|(refine A0 [.fz 131,.fz 147] ?_;simp only[↓eB,seval,go_sem,bne,H7,Fk,hr,hc',D5,Am,Cd.d,Ex.d,P1,tk,n3])
  |false=>
   have hc':Pn p= .mk 9 .nil .nil .nil .nil (tk p).t:=by unfold Pn tkA;simp only[w64i,n5];rw[if_neg (by rw[z4];decide)]
   have z5:((p.l.getD (p.i+1).toNat tk0).t==[61,61])=true:=by rw[z4]at z3;simpa using z3
   simp only[↓eB,seval,go_sem,AR,As,A8,AN,AM,AC,AG,AH,A7,FA,CP,Ct,Af,Ae,Ag,AZ,Tok.r,Aa,ptR,Ad,AQ,AP,AO,i0,i1,hna,n3,n4,n5,q1,q2,q3,q4,q5,q6,z0,z2,z4,z5]
   try simp only[A3,A4]
   repeat' first|exact ck|with_reducible apply And.intro|intro _
   all_goals first|exact hI|exact hc1|(rename_i h;first|exact oI h|exact nah h)|(rename_i _ h _ g;exact sL h g)|decide|omega|(refine A0 [.fz 131] ?_;simp only[↓eB,seval,go_sem,bne,H7,Fk,hr,hc',D5,Am,O0,Fe,P1,tk,n3])
 |false=>
 have hr:B5 (f+1) p=Jr (exS p).2 (exS p).1 cmpO 0:=by simp[B5,i0,i1,hn]
 have hn':=hn
 unfold He tkA at hn'
 simp only[w64i]at hn'
 have q1:=hc1.1
 have q2:p.i+2<9223372036854775808:=by have:=hc1.2.1;have:=hc1.2.2.1;omega
 have n4:IntKind.i64.wrap (p.i+2)=p.i+2:=wrap_i64 (by omega) (by omega)
 have n5:IntKind.i64.wrap (p.i+1)=p.i+1:=wrap_i64 (by omega) (by omega)
 simp only[n4,n5]at hn'
 have hu0:=Dr hc1
 simp only[↓eB,seval,go_sem,AR,As,A8,AN,AM,AC,AG,AH,A7,FA,CP,Ct,Af,Ae,Ag,AZ,Tok.r,Aa,ptR,Ad,AQ,AP,AO,i0,i1,hn',n4,n5]
 refine⟨hI,hI,hI,?_,?_,?_,?_,Dw (by kernel_rfl),⟨hc1,KR hc1⟩,?_⟩
 ·exact fun h=>⟨h,h,by omega,by simp only[Bool.and_eq_true,decide_eq_true_eq]at h;omega⟩
 ·exact fun h=>⟨h,h,by omega,by simp only[Bool.and_eq_true,decide_eq_true_eq]at h;omega⟩
 ·exact fun h=>⟨h,h,by omega,by simp only[Bool.and_eq_true,decide_eq_true_eq]at h;omega⟩
 ·exact fun h=>⟨h,fun h2=>by rw[h,h2];rfl⟩
 generalize hq:(exS p).2=q at hr hu0
 generalize ha:(exS p).1=a at hr
 have hq1:(GJ (unF 41) p).2=q:=hq
 have ha1:(GJ (unF 41) p).1=a:=ha
 have hq0:=hu0.ok
 have hlen:cmpO.length=6:=rfl
 refine Ac (Y:=Nat) (fun k=>k≤6∧Jr q a (cmpO.drop k) (k:Int)=Jr q a cmpO 0)
  (fun k=>⟨[(0,true,.one (.p 0 0 0)),(6,true,.one (exC a)),(7,true,.one (.s 1000)),(8,true,.one (.v (.int .i64 (k:Int))))],[(0,.vec 0 zPr [q.c]),(1000,.vec 0 [.v (.string (bs []))] (cmpO.map cO))]⟩)
  (fun k=>6-k) 0 ⟨Nat.zero_le _,rfl⟩ ?_ ?_
 ·refine A2 [.mv 158 1000] ?_;simp only[↓eB,seval,go_sem,cmpO,cO]
 ·rintro k ⟨hk,hJ⟩
  refine Aq [AR,A8,AM,AC,AG,A7,FA f hu,CP f hs,TV] [] _ _ _ ?_
  cases hx:cmpO[k]? with
  |none=>
   have hk2:cmpO.length≤k:=List.getElem?_eq_none_iff.1 hx
   have h1:decide ((k:Int)<6)=false:=by simp;omega
   rw[List.drop_eq_nil_of_le hk2]at hJ
   simp only[Jr]at hJ
   simp only[↓eB,seval,go_sem,AR,As,A8,AN,AM,AC,AG,AH,A7,FA,CP,Ct,Af,Ae,Ag,AZ,Tok.r,Aa,ptR,Ad,AQ,AP,AO,h1]
   try simp only[A3,A4]
   repeat' first|exact ck|with_reducible apply And.intro|intro _
   all_goals first|exact hq0.i|(rename_i h;first|exact oI h|exact nah h)|(rename_i _ h _ g;exact sL h g)|decide|omega|(refine A0 [] ?_;simp only[↓eB,seval,go_sem,bne,H7,Fk,hr,← hJ,Am])
  |some x=>
   have hlt:k<cmpO.length:=(List.getElem?_eq_some_iff.1 hx).1
   have h1:decide ((k:Int)<6)=true:=by simp;omega
   have h2:((k:Int)<(cmpO.length:Int))=True:=by simp;omega
   have h3:=yt hx
   have h4:=Dy (i:=k) (n:=6) (by omega) (by omega)
   have h5:IntKind.i64.wrap (0+(k:Int))=(k:Int):=by rw[wrap_i64 (by omega) (by omega)];omega
   rw[Bn hx]at hJ
   simp only[Jr]at hJ
   cases it:isT x q with
   |true=>
    rw[if_pos it]at hJ
    have hb:=B8 hq0 it
    simp only[↓eB,seval,go_sem,AR,As,A8,AN,AM,AC,AG,AH,A7,FA,CP,Ct,Af,Ae,Ag,AZ,Tok.r,Aa,ptR,Ad,AQ,AP,AO,h1,h2,h3,h4,h5,cO,it,Az,adv]
    try simp only[A3,A4]
    repeat' first|exact ck|with_reducible apply And.intro|intro _
    all_goals first|exact hlt|exact hq0|exact hb.ok|exact KR hb.ok|(rename_i h;first|exact oI h|exact nah h)|(rename_i _ h _ g;exact sL h g)|decide|omega|(refine A0 [.fz 175] ?_;simp only[↓eB,seval,go_sem,bne,H7,Fk,hr,← hJ,D5,O0,adv])
   |false=>
    rw[if_neg (by rw[it];decide)]at hJ
    simp only[↓eB,seval,go_sem,AR,As,A8,AN,AM,AC,AG,AH,A7,FA,CP,Ct,Af,Ae,Ag,AZ,Tok.r,Aa,ptR,Ad,AQ,AP,AO,h1,h2,h3,h4,h5,cO,it,Az]
    refine⟨hlt,hq0,k+1,⟨by omega,hJ⟩,by omega,?_⟩
    refine A2 [] ?_;simp only[↓eB,seval,go_sem,cmpO,cO]
theorem Z5:∀f:Nat,OL f
 |0=>by
  rintro ⟨p,_u⟩ w M I lab fz xs hc hA hl hx
  obtain⟨h1,h2⟩:=hc
  have h3:p.deep≤40:=h1.2.2.2.2.1
  have h4:41≤p.deep+((0:Nat):Int):=h2
  exact absurd h4 (by simp;omega)
 |f+1=>sX f (Z5 f) (bT f (Z5 f))
noncomputable abbrev yu {X:Ctx} {w0:World}:Sy.Spec Try.prog X w0:=CP 41 (bT 41 (Z5 41))
end Go.Proofs.Ytjnnmindcbgjhaa
