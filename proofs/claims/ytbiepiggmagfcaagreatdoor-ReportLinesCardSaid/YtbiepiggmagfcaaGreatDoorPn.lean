/- Conditions and arguments, in plain words. No conditions but those in each statement. -/
import Derived.Test.YtbiepiggmagfcaaGreatDoorPa3
set_option linter.unusedVariables false
set_option linter.unusedSimpArgs false
set_option maxRecDepth 20000
set_option maxHeartbeats 8000000
namespace Go.Proofs.YtbiepiggmagfcaaGreatDoor
open Go Go.Sy Go.RowKit
def tkA (p:Pr) (k:Int):Tok:=p.l.getD k.toNat tk0
def FE (p:Pr):Bool:=nameB p&&decide (Ad (p.i+2)<(p.l.length:Int))&&(tkA p (Ad (p.i+2))).t==[110,117,108,108]&&((tkA p (Ad (p.i+1))).t==[61,61]||(tkA p (Ad (p.i+1))).t==[33,61])
def O6 (p:Pr):Pr:={ p with i:=Ad (p.i+3) }
def cmpO:List (List UInt8):=[[61,61],[33,61],[60],[60,61],[62],[62,61]]
def Hu (q:Pr) (a:Ex):List (List UInt8)→Int→R Cd
 |[],_=>(.nil,BG 51 q)
 |t::l,k=>if isT t q=true then (.mk k a (exS (adv q)).1 .nil .nil [],(exS (adv q)).2) else Hu q a l (k+1)
def Gt (nt:Pr→R Cd):Nat→Cd→Pr→R Cd
 |0,c,p=>(c,p)
 |k+1,c,p=>if isT [38,38] p=true then Gt nt k (.mk 6 .nil .nil c (nt (adv p)).1 []) (nt (adv p)).2 else (c,p)
def EP (nt:Pr→R Cd) (p:Pr):R Cd:=Gt nt p.l.length (nt p).1 (nt p).2
def Gu (nt:Pr→R Cd):Nat→Cd→Pr→R Cd
 |0,c,p=>(c,p)
 |k+1,c,p=>if isT [124,124] p=true then Gu nt k (.mk 7 .nil .nil c (EP nt (adv p)).1 []) (EP nt (adv p)).2 else (c,p)
def FV (nt:Pr→R Cd) (p:Pr):R Cd:=Gu nt p.l.length (EP nt p).1 (EP nt p).2
def PK (p:Pr):Cd:=if ((tkA p (Ad (p.i+1))).t==[33,61])=true then .mk 8 .nil .nil (.mk 9 .nil .nil .nil .nil (tk p).t) .nil [] else .mk 9 .nil .nil .nil .nil (tk p).t
def AZ:Nat→Pr→R Cd
 |0,p=>(.nil,p)
 |f+1,p=>
  if isT [33] p=true then
   (if C7 p=true then (.mk 8 .nil .nil (AZ f (adv (AG p))).1 .nil [],shut (AZ f (adv (AG p))).2) else (.nil,AG p))
  else if isT [40] p=true then
   (if C7 p=true then ((FV (AZ f) (adv (AG p))).1,shut (AD [41] (FV (AZ f) (adv (AG p))).2)) else (.nil,AG p))
  else if FE p=true then (PK p,O6 p)
  else Hu (exS p).2 (exS p).1 cmpO 0
abbrev cdS:Pr→R Cd:=FV (AZ 41)
def GQ:Nat→List Ar→Pr→R (List Ar)
 |0,_,p=>([],p)
 |k+1,l,p=>
  if (p.e==0)=true then
   (if isT [41] (exS p).2=true then (l++[⟨false,[],(exS p).1⟩],adv (exS p).2) else GQ k (l++[⟨false,[],(exS p).1⟩]) (AD [44] (exS p).2))
  else ([],p)
def Cw (p:Pr):R (List Ar):=if isT [41] p=true then ([],adv p) else GQ (p.l.length+1) [] p
theorem CU {p:Pr} (h:okP p):Nx p (exS p).2:=Qb (G7 41) p h
theorem AV {t:List UInt8} {p:Pr} (h:okP p) (hi:isT t p=true):Nx p (adv p):=C8 h (Aa hi).2 (Aa hi).1
theorem X0 {p:Pr} (h:okP p) (hb:FE p=true):p.e=0∧p.i+2<(p.l.length:Int)∧Ad (p.i+3)=p.i+3∧Ad (p.i+2)=p.i+2∧Ad (p.i+1)=p.i+1:=by
 unfold FE at hb
 simp only[Bool.and_eq_true,decide_eq_true_eq]at hb
 obtain⟨h1,h2,h3,_⟩:=h
 have e2:Ad (p.i+2)=p.i+2:=by unfold Ad;rw[wrap_i64 (by omega) (by omega)]
 rw[e2]at hb
 refine⟨(G6 hb.1.1.1).1,hb.1.1.2,?_,e2,?_⟩<;>unfold Ad<;>rw[wrap_i64 (by omega) (by omega)]
theorem qU {p:Pr} (h:okP p) (hb:FE p=true):Nx p (O6 p):=by
 obtain⟨e1,e2,e3,_⟩:=X0 h hb
 obtain⟨h1,h2,h3,h4⟩:=h
 have e:(O6 p).i=p.i+3:=e3
 exact⟨⟨by rw[e];omega,by rw[e];show p.i+3≤(p.l.length:Int);omega,h3,h4⟩,rfl,rfl,by rw[e];omega,rfl,fun h=>absurd e1 h⟩
theorem ZT (a:Ex):∀(l:List (List UInt8)) (k:Int) (q:Pr),okP q→Nx q (Hu q a l k).2
 |[],k,q,h=>DG 51 h
 |t::l,k,q,h=>by
  simp only[Hu]
  split
  ·rename_i hi
   have h1:=AV h hi
   exact h1.trans (CU h1.ok)
  ·exact ZT a l (k+1) q h
theorem ZU {u:Pr→R Cd} (hu:∀p,okP p→Nx p (u p).2):∀(k:Nat) (a:Cd) (p:Pr),okP p→Nx p (Gt u k a p).2
 |0,a,p,h=>.refl h
 |k+1,a,p,h=>by
  simp only[Gt]
  split
  ·rename_i hi
   have h1:=AV h hi
   have h2:=hu _ h1.ok
   exact(h1.trans h2).trans (ZU hu k _ _ h2.ok)
  ·exact .refl h
theorem NN {u:Pr→R Cd} (hu:∀p,okP p→Nx p (u p).2) (p:Pr) (h:okP p):Nx p (EP u p).2:=(hu p h).trans (ZU hu _ _ _ (hu p h).ok)
theorem ZV {u:Pr→R Cd} (hu:∀p,okP p→Nx p (u p).2):∀(k:Nat) (a:Cd) (p:Pr),okP p→Nx p (Gu u k a p).2
 |0,a,p,h=>.refl h
 |k+1,a,p,h=>by
  simp only[Gu]
  split
  ·rename_i hi
   have h1:=AV h hi
   have h2:=NN hu _ h1.ok
   exact(h1.trans h2).trans (ZV hu k _ _ h2.ok)
  ·exact .refl h
theorem Qc {u:Pr→R Cd} (hu:∀p,okP p→Nx p (u p).2) (p:Pr) (h:okP p):Nx p (FV u p).2:=(NN hu p h).trans (ZV hu _ _ _ (NN hu p h).ok)
theorem GV:∀(f:Nat) (p:Pr),okP p→Nx p (AZ f p).2
 |0,p,h=>.refl h
 |f+1,p,h=>by
  simp only[AZ]
  split
  ·rename_i hi
   split
   ·rename_i hb
    have h1:=DH h hb (Aa hi).2
    exact F5 h hb (h1.trans (GV f _ h1.ok))
   ·rename_i hb;exact Js h (by simpa using hb)
  ·split
   ·rename_i hi
    split
    ·rename_i hb
     have h1:=DH h hb (Aa hi).2
     have h2:=h1.trans (Qc (GV f) _ h1.ok)
     exact F5 h hb (h2.trans (Ae h2.ok))
    ·rename_i hb;exact Js h (by simpa using hb)
   ·split
    ·rename_i hb;exact qU h hb
    ·have h1:=CU h
     exact h1.trans (ZT _ _ _ _ h1.ok)
theorem PL {p:Pr} (h:okP p):Nx p (cdS p).2:=Qc (GV 41) p h
theorem ZW:∀(k:Nat) (l:List Ar) (p:Pr),okP p→Nx p (GQ k l p).2
 |0,l,p,h=>.refl h
 |k+1,l,p,h=>by
  simp only[GQ]
  split
  ·have h1:=CU h
   split
   ·rename_i hi;exact h1.trans (AV h1.ok hi)
   ·have h2:=h1.trans (Ae (t:=[44]) h1.ok)
    exact h2.trans (ZW k _ _ h2.ok)
  ·exact .refl h
theorem Qd {p:Pr} (h:okP p):Nx p (Cw p).2:=by
 unfold Cw
 split
 ·rename_i hi;exact AV h hi
 ·exact ZW _ _ _ h
end Go.Proofs.YtbiepiggmagfcaaGreatDoor
namespace Go.Proofs.YtbiepiggmagfcaaGreatDoor
open Go Go.Sy Go.RowKit
abbrev PM (f:Nat) (p:Pr):Prop:=okP p∧dpU f p
abbrev Ew (f:Nat) (p:Pr):SV:=.one (cdC (AZ f p).1)
abbrev Dt (f:Nat) (p:Pr):List (Option MV):=[some (zPr,[(AZ f p).2.c])]
noncomputable abbrev LW:ArgM ((Pr)×Unit):=(amP (mPr) am0)
abbrev NO (f:Nat):Prop:=BD Tryz.prog 138 ((LW).args 0) (LW).mem (fun p:(Pr)×Unit=>PM f p.1) (fun p:(Pr)×Unit=>Ew f p.1) (fun p:(Pr)×Unit=>Dt f p.1)
theorem x6 (f:Nat):∀p,(fun p:(Pr)×Unit=>PM f p.1) p→BA ((LW).mem p).length ((fun p:(Pr)×Unit=>Dt f p.1) p)=true:=by intro p _;rfl
theorem x7 (f:Nat):∀p,(fun p:(Pr)×Unit=>PM f p.1) p→AQ ((fun p:(Pr)×Unit=>Dt f p.1) p).length ((fun p:(Pr)×Unit=>Ew f p.1) p)=true:=by intro p _;first|rfl|exact AK _ _|exact AL _ _|(simp[AQ,Bn,AK,AL];done)
theorem x8 (f:Nat):∀p,(fun p:(Pr)×Unit=>PM f p.1) p→∀q,some q∈(fun p:(Pr)×Unit=>Dt f p.1) p→∀r∈q.2,∀c∈r,c.names=[]:=by intro p _;exact DY _
noncomputable def PN {X:Ctx} {w0:World} (f:Nat) (h:NO f):Sy.Spec Tryz.prog X w0:=Be 138 Tryz.call138 (LW) (fun p:(Pr)×Unit=>PM f p.1) (fun p:(Pr)×Unit=>Ew f p.1) (fun p:(Pr)×Unit=>Dt f p.1) (x6 f) (x7 f) (x8 f) h
abbrev PO (f:Nat) (p:Pr):Prop:=okP p∧dpU f p
abbrev PP (f:Nat) (p:Pr):SV:=.one (cdC (EP (AZ f) p).1)
abbrev LX (f:Nat) (p:Pr):List (Option MV):=[some (zPr,[(EP (AZ f) p).2.c])]
noncomputable abbrev LY:ArgM ((Pr)×Unit):=(amP (mPr) am0)
abbrev fX (f:Nat):Prop:=BD Tryz.prog 120 ((LY).args 0) (LY).mem (fun p:(Pr)×Unit=>PO f p.1) (fun p:(Pr)×Unit=>PP f p.1) (fun p:(Pr)×Unit=>LX f p.1)
theorem x9 (f:Nat):∀p,(fun p:(Pr)×Unit=>PO f p.1) p→BA ((LY).mem p).length ((fun p:(Pr)×Unit=>LX f p.1) p)=true:=by intro p _;rfl
theorem xA (f:Nat):∀p,(fun p:(Pr)×Unit=>PO f p.1) p→AQ ((fun p:(Pr)×Unit=>LX f p.1) p).length ((fun p:(Pr)×Unit=>PP f p.1) p)=true:=by intro p _;first|rfl|exact AK _ _|exact AL _ _|(simp[AQ,Bn,AK,AL];done)
theorem xB (f:Nat):∀p,(fun p:(Pr)×Unit=>PO f p.1) p→∀q,some q∈(fun p:(Pr)×Unit=>LX f p.1) p→∀r∈q.2,∀c∈r,c.names=[]:=by intro p _;exact DY _
noncomputable def SZ {X:Ctx} {w0:World} (f:Nat) (h:fX f):Sy.Spec Tryz.prog X w0:=Be 120 Tryz.call120 (LY) (fun p:(Pr)×Unit=>PO f p.1) (fun p:(Pr)×Unit=>PP f p.1) (fun p:(Pr)×Unit=>LX f p.1) (x9 f) (xA f) (xB f) h
attribute [local go_sem] Pr.c Tok.r adv Ke KQ Ju KP KO Ji ptR KN Jt B4 Kb PN Jq Av Bo BV Au BW Ap BE GG D1 zTk
theorem nF (f:Nat) (hu:NO f):fX f:=by
 rintro ⟨p,_u⟩ w M I lab fz xs hc hA hl hx
 refine AJ Tryz.func120 rfl _ w M I lab fz [Ap,(PN f hu)] [] _ _ _ xs hA hl hx (fun v hv k hk=>by have:=(LY).an 0 ⟨p,_u⟩ v hv k hk;omega) (jN rfl) (jN rfl) ?_
 clear hx hl hA xs
 simp only[Tryz.f120]
 simp only[↓eB,seval,go_sem]
 obtain⟨hc1,hc2⟩:=hc
 dsimp only at hc1 hc2
 have hu0:=GV f p hc1
 refine⟨⟨hc1,hc2⟩,?_⟩
 refine AH (Y:=Nat×Cd×Pr) (fun y=>okP y.2.2∧dpU f y.2.2∧(y.2.2.l.length:Int)≤y.2.2.i+(y.1:Int)∧Gt (AZ f) y.1 y.2.1 y.2.2=EP (AZ f) p)
  (fun y=>⟨[(0,true,.one (.p 0 0 0)),(3,true,.one (cdC y.2.1))],[(0,.vec 0 zPr [y.2.2.c])]⟩)
  (fun y=>y.1) (p.l.length,(AZ f p).1,(AZ f p).2) ⟨hu0.ok,by show dpU f _;unfold dpU;rw[hu0.d];exact hc2,by have:=hu0.ok.1;simp only[hu0.l];omega,by show Gt _ _ _ _=EP _ _;rfl⟩ ?_ ?_
 ·refine A4 [] ?_;simp only[↓eB,seval,go_sem]
 ·rintro ⟨k,a,q⟩ ⟨h1,h2,h3,h4⟩
  refine Ab [Ap,(PN f hu)] [] _ _ _ ?_
  dsimp only at h1 h2 h3 h4
  cases i0:isT [38,38] q with
  |true=>
   obtain⟨k',rfl⟩:∃k',k=k'+1:=⟨k-1,by have:=(Aa i0).2;omega⟩
   simp only[Gt,i0,if_true]at h4
   have ha:=AV h1 i0
   have hu1:=GV f _ ha.ok
   have hai:=DF h1 (Aa i0).2
   simp only[↓eB,seval,go_sem,i0]
   refine⟨h1,⟨ha.ok,h2⟩,(k',Cd.mk 6 .nil .nil a (AZ f (adv q)).1 [],(AZ f (adv q)).2),⟨hu1.ok,by show dpU f _;unfold dpU;rw[hu1.d];exact h2,?_,?_⟩,Nat.lt_succ_self _,A4 [.fz 12] ?_⟩
   ·dsimp only;have hi1:=hu1.i;rw[hai]at hi1;rw[hu1.l];show (q.l.length:Int)≤_;omega
   ·exact h4
   ·simp only[↓eB,seval,go_sem,KM,CG,IW,F2]
  |false=>
   have hr:(a,q)=EP (AZ f) p:=by
    rw[← h4];cases k<;>simp[Gt,i0]
   simp only[↓eB,seval,go_sem,i0]
   try simp only[A1,A2]
   repeat' first|exact ck|with_reducible apply And.intro|intro _
   all_goals first|exact h1|(rename_i h;first|exact oI h|exact nah h)|(rename_i _ h _ g;exact sL h g)|decide|omega|(refine A0 [] ?_;simp only[↓eB,seval,go_sem,bne,PP,LX,← hr])
abbrev NP (f:Nat) (p:Pr):Prop:=okP p∧dpU f p
abbrev NQ (f:Nat) (p:Pr):SV:=.one (cdC (FV (AZ f) p).1)
abbrev J0 (f:Nat) (p:Pr):List (Option MV):=[some (zPr,[(FV (AZ f) p).2.c])]
noncomputable abbrev J1:ArgM ((Pr)×Unit):=(amP (mPr) am0)
abbrev UE (f:Nat):Prop:=BD Tryz.prog 96 ((J1).args 0) (J1).mem (fun p:(Pr)×Unit=>NP f p.1) (fun p:(Pr)×Unit=>NQ f p.1) (fun p:(Pr)×Unit=>J0 f p.1)
theorem qV (f:Nat):∀p,(fun p:(Pr)×Unit=>NP f p.1) p→BA ((J1).mem p).length ((fun p:(Pr)×Unit=>J0 f p.1) p)=true:=by intro p _;rfl
theorem qW (f:Nat):∀p,(fun p:(Pr)×Unit=>NP f p.1) p→AQ ((fun p:(Pr)×Unit=>J0 f p.1) p).length ((fun p:(Pr)×Unit=>NQ f p.1) p)=true:=by intro p _;first|rfl|exact AK _ _|exact AL _ _|(simp[AQ,Bn,AK,AL];done)
theorem qX (f:Nat):∀p,(fun p:(Pr)×Unit=>NP f p.1) p→∀q,some q∈(fun p:(Pr)×Unit=>J0 f p.1) p→∀r∈q.2,∀c∈r,c.names=[]:=by intro p _;exact DY _
noncomputable def HP {X:Ctx} {w0:World} (f:Nat) (h:UE f):Sy.Spec Tryz.prog X w0:=Be 96 Tryz.call96 (J1) (fun p:(Pr)×Unit=>NP f p.1) (fun p:(Pr)×Unit=>NQ f p.1) (fun p:(Pr)×Unit=>J0 f p.1) (qV f) (qW f) (qX f) h
theorem fY (f:Nat) (hu:NO f):UE f:=by
 rintro ⟨p,_u⟩ w M I lab fz xs hc hA hl hx
 refine AJ Tryz.func96 rfl _ w M I lab fz [Ap,(SZ f (nF f hu))] [] _ _ _ xs hA hl hx (fun v hv k hk=>by have:=(J1).an 0 ⟨p,_u⟩ v hv k hk;omega) (jN rfl) (jN rfl) ?_
 clear hx hl hA xs
 simp only[Tryz.f96]
 simp only[↓eB,seval,go_sem,SZ]
 obtain⟨hc1,hc2⟩:=hc
 dsimp only at hc1 hc2
 have hu0:=NN (GV f) p hc1
 refine⟨⟨hc1,hc2⟩,?_⟩
 refine AH (Y:=Nat×Cd×Pr) (fun y=>okP y.2.2∧dpU f y.2.2∧(y.2.2.l.length:Int)≤y.2.2.i+(y.1:Int)∧Gu (AZ f) y.1 y.2.1 y.2.2=FV (AZ f) p)
  (fun y=>⟨[(0,true,.one (.p 0 0 0)),(3,true,.one (cdC y.2.1))],[(0,.vec 0 zPr [y.2.2.c])]⟩)
  (fun y=>y.1) (p.l.length,(EP (AZ f) p).1,(EP (AZ f) p).2) ⟨hu0.ok,by show dpU f _;unfold dpU;rw[hu0.d];exact hc2,by have:=hu0.ok.1;simp only[hu0.l];omega,by show Gu _ _ _ _=FV _ _;rfl⟩ ?_ ?_
 ·refine A4 [] ?_;simp only[↓eB,seval,go_sem]
 ·rintro ⟨k,a,q⟩ ⟨h1,h2,h3,h4⟩
  refine Ab [Ap,(SZ f (nF f hu))] [] _ _ _ ?_
  dsimp only at h1 h2 h3 h4
  cases i0:isT [124,124] q with
  |true=>
   obtain⟨k',rfl⟩:∃k',k=k'+1:=⟨k-1,by have:=(Aa i0).2;omega⟩
   simp only[Gu,i0,if_true]at h4
   have ha:=AV h1 i0
   have hu1:=NN (GV f) _ ha.ok
   have hai:=DF h1 (Aa i0).2
   simp only[↓eB,seval,go_sem,i0,SZ]
   refine⟨h1,⟨ha.ok,h2⟩,(k',Cd.mk 7 .nil .nil a (EP (AZ f) (adv q)).1 [],(EP (AZ f) (adv q)).2),⟨hu1.ok,by show dpU f _;unfold dpU;rw[hu1.d];exact h2,?_,?_⟩,Nat.lt_succ_self _,A4 [.fz 12] ?_⟩
   ·dsimp only;have hi1:=hu1.i;rw[hai]at hi1;rw[hu1.l];show (q.l.length:Int)≤_;omega
   ·exact h4
   ·simp only[↓eB,seval,go_sem,KM,CG,IW,F2]
  |false=>
   have hr:(a,q)=FV (AZ f) p:=by
    rw[← h4];cases k<;>simp[Gu,i0]
   simp only[↓eB,seval,go_sem,i0]
   try simp only[A1,A2]
   repeat' first|exact ck|with_reducible apply And.intro|intro _
   all_goals first|exact h1|(rename_i h;first|exact oI h|exact nah h)|(rename_i _ h _ g;exact sL h g)|decide|omega|(refine A0 [] ?_;simp only[↓eB,seval,go_sem,bne,NQ,J0,← hr])
noncomputable abbrev UF {X:Ctx} {w0:World}:Sy.Spec Tryz.prog X w0:=Jq 41 (nA 41 (jm 41))
def cO (s:List UInt8):List C:=[.v (.string (bs s))]
theorem A2j {i:Nat} {x:List UInt8} (h:cmpO[i]?=some x):(cmpO.map cO).getD i [.v (.string (bs []))]=cO x:=by simp[List.getD,h]
theorem X1 {f:Nat} {p:Pr} (h:okP p) (ob:C7 p=true) (hd:dpU (f+1) p):dpU f (adv (AG p)):=by
 have h3:=(MJ h ob).2.2
 show 41≤(AG p).deep+(f:Int)
 rw[h3];have:41≤p.deep+((f+1:Nat):Int):=hd;simp only;omega
attribute[local go_sem] cO HP in
theorem xC (f:Nat) (hu:NO f) (hs:UE f):NO (f+1):=by
 rintro ⟨p,_u⟩ w M I lab fz xs hc hA hl hx
 refine AJ Tryz.func138 rfl _ w M I lab fz [Bo,Au,BW,Av,BE,Ap,(PN f hu),(HP f hs),UF] [] _ _ _ xs hA hl hx (fun v hv k hk=>by have:=(LW).an 0 ⟨p,_u⟩ v hv k hk;omega) (jN rfl) (jN rfl) ?_
 clear hx hl hA xs
 simp only[Tryz.f138]
 obtain⟨hc1,hc2⟩:=hc
 dsimp only at hc1 hc2
 have hI:=hc1.i
 cases i0:isT [33] p with
 |true=>
  cases ob:C7 p with
  |false=>
   have hr:AZ (f+1) p=(.nil,AG p):=by simp[AZ,i0,ob]
   simp only[↓eB,seval,go_sem,i0,ob]
   try simp only[A1,A2]
   repeat' first|exact ck|with_reducible apply And.intro|intro _
   all_goals first|exact hI|exact hc1|(rename_i h;first|exact oI h|exact nah h)|(rename_i _ h _ g;exact sL h g)|decide|omega|(refine A0 [] ?_;simp only[↓eB,seval,go_sem,bne,Ew,Dt,hr,CG])
  |true=>
   have hr:AZ (f+1) p=(.mk 8 .nil .nil (AZ f (adv (AG p))).1 .nil [],shut (AZ f (adv (AG p))).2):=by simp[AZ,i0,ob]
   have ha:=DH hc1 ob (Aa i0).2
   have hd:=X1 hc1 ob hc2
   simp only[↓eB,seval,go_sem,i0,ob]
   try simp only[A1,A2]
   repeat' first|exact ck|with_reducible apply And.intro|intro _
   all_goals first|exact hI|exact hc1|exact ha.ok|exact hd|(rename_i h;first|exact oI h|exact nah h)|(rename_i _ h _ g;exact sL h g)|decide|omega|(refine A0 [.fz 33] ?_;simp only[↓eB,seval,go_sem,bne,Ew,Dt,hr,CG,KM,IW,F2,shut])
 |false=>
 cases i1:isT [40] p with
 |true=>
  cases ob:C7 p with
  |false=>
   have hr:AZ (f+1) p=(.nil,AG p):=by simp[AZ,i0,i1,ob]
   simp only[↓eB,seval,go_sem,i0,i1,ob]
   try simp only[A1,A2]
   repeat' first|exact ck|with_reducible apply And.intro|intro _
   all_goals first|exact hI|exact hc1|(rename_i h;first|exact oI h|exact nah h)|(rename_i _ h _ g;exact sL h g)|decide|omega|(refine A0 [] ?_;simp only[↓eB,seval,go_sem,bne,Ew,Dt,hr,CG])
  |true=>
   have hr:AZ (f+1) p=((FV (AZ f) (adv (AG p))).1,shut (AD [41] (FV (AZ f) (adv (AG p))).2)):=by simp[AZ,i0,i1,ob]
   have ha:=DH hc1 ob (Aa i1).2
   have hd:=X1 hc1 ob hc2
   have hs2:=Qc (GV f) _ ha.ok
   simp only[↓eB,seval,go_sem,i0,i1,ob]
   try simp only[A1,A2]
   repeat' first|exact ck|with_reducible apply And.intro|intro _
   all_goals first|exact hI|exact hc1|exact ha.ok|exact hd|exact hs2.ok|(rename_i h;first|exact oI h|exact nah h)|(rename_i _ h _ g;exact sL h g)|decide|omega|(refine A0 [] ?_;simp only[↓eB,seval,go_sem,bne,Ew,Dt,hr,shut])
 |false=>
 cases hn:FE p with
 |true=>
  have hr:AZ (f+1) p=(PK p,O6 p):=by simp[AZ,i0,i1,hn]
  obtain⟨n1,n2,n3,n4,n5⟩:=X0 hc1 hn
  have hn':=hn
  have hna:nameB p=true:=by unfold FE at hn;simp only[Bool.and_eq_true]at hn;exact hn.1.1.1
  unfold FE tkA at hn'
  simp only[Ad]at hn' n3 n4 n5
  have q1:(0≤p.i)=True:=by simp[hc1.1]
  have q2:(p.i<(p.l.length:Int))=True:=by simp;omega
  have q3:(0≤p.i+2)=True:=by have:=hc1.1;simp;omega
  have q4:(p.i+2<(p.l.length:Int))=True:=by simp[n2]
  have q5:(0≤p.i+1)=True:=by have:=hc1.1;simp;omega
  have q6:(p.i+1<(p.l.length:Int))=True:=by simp;omega
  simp only[n4,n5,hna,Bool.true_and,Bool.and_eq_true,decide_eq_true_eq]at hn'
  obtain⟨⟨z1,z2⟩,z3⟩:=hn'
  have z0:decide (p.i+2<(p.l.length:Int))=true:=by simp[n2]
  cases z4:((p.l.getD (p.i+1).toNat tk0).t==[33,61]) with
  |true=>
   have hc':PK p= .mk 8 .nil .nil (.mk 9 .nil .nil .nil .nil (tk p).t) .nil []:=by unfold PK tkA;simp only[Ad,n5];rw[if_pos z4]
   cases z5:((p.l.getD (p.i+1).toNat tk0).t==[61,61]) with
   |true=>rw[beq_iff_eq]at z4 z5;rw[z4]at z5;cases z5
   |false=>
    simp only[↓eB,seval,go_sem,i0,i1,hna,n3,n4,n5,q1,q2,q3,q4,q5,q6,z0,z2,z4,z5]
    try simp only[A1,A2]
    repeat' first|exact ck|with_reducible apply And.intro|intro _
    all_goals first|exact hI|exact hc1|(rename_i h;first|exact oI h|exact nah h)|(rename_i _ h _ g;exact sL h g)|decide|omega|(refine A0 [.fz 131,.fz 147] ?_;simp only[↓eB,seval,go_sem,bne,Ew,Dt,hr,hc',KM,CG,Cd.d,Ex.d,O6,tk,n3])
  |false=>
   have hc':PK p= .mk 9 .nil .nil .nil .nil (tk p).t:=by unfold PK tkA;simp only[Ad,n5];rw[if_neg (by rw[z4];decide)]
   have z5:((p.l.getD (p.i+1).toNat tk0).t==[61,61])=true:=by rw[z4]at z3;simpa using z3
   simp only[↓eB,seval,go_sem,i0,i1,hna,n3,n4,n5,q1,q2,q3,q4,q5,q6,z0,z2,z4,z5]
   try simp only[A1,A2]
   repeat' first|exact ck|with_reducible apply And.intro|intro _
   all_goals first|exact hI|exact hc1|(rename_i h;first|exact oI h|exact nah h)|(rename_i _ h _ g;exact sL h g)|decide|omega|(refine A0 [.fz 131] ?_;simp only[↓eB,seval,go_sem,bne,Ew,Dt,hr,hc',KM,CG,IW,F2,O6,tk,n3])
 |false=>
 have hr:AZ (f+1) p=Hu (exS p).2 (exS p).1 cmpO 0:=by simp[AZ,i0,i1,hn]
 have hn':=hn
 unfold FE tkA at hn'
 simp only[Ad]at hn'
 have q1:=hc1.1
 have q2:p.i+2<9223372036854775808:=by have:=hc1.2.1;have:=hc1.2.2.1;omega
 have n4:IntKind.i64.wrap (p.i+2)=p.i+2:=wrap_i64 (by omega) (by omega)
 have n5:IntKind.i64.wrap (p.i+1)=p.i+1:=wrap_i64 (by omega) (by omega)
 simp only[n4,n5]at hn'
 have hu0:=CU hc1
 simp only[↓eB,seval,go_sem,i0,i1,hn',n4,n5]
 refine⟨hI,hI,hI,?_,?_,?_,?_,M8 (by kernel_rfl),⟨hc1,Ij hc1⟩,?_⟩
 ·exact fun h=>⟨h,h,by omega,by simp only[Bool.and_eq_true,decide_eq_true_eq]at h;omega⟩
 ·exact fun h=>⟨h,h,by omega,by simp only[Bool.and_eq_true,decide_eq_true_eq]at h;omega⟩
 ·exact fun h=>⟨h,h,by omega,by simp only[Bool.and_eq_true,decide_eq_true_eq]at h;omega⟩
 ·exact fun h=>⟨h,fun h2=>by rw[h,h2];rfl⟩
 generalize hq:(exS p).2=q at hr hu0
 generalize ha:(exS p).1=a at hr
 have hq1:(EO (unF 41) p).2=q:=hq
 have ha1:(EO (unF 41) p).1=a:=ha
 have hq0:=hu0.ok
 have hlen:cmpO.length=6:=rfl
 refine AH (Y:=Nat) (fun k=>k≤6∧Hu q a (cmpO.drop k) (k:Int)=Hu q a cmpO 0)
  (fun k=>⟨[(0,true,.one (.p 0 0 0)),(6,true,.one (exC a)),(7,true,.one (.s 1000)),(8,true,.one (.v (.int .i64 (k:Int))))],[(0,.vec 0 zPr [q.c]),(1000,.vec 0 [.v (.string (bs []))] (cmpO.map cO))]⟩)
  (fun k=>6-k) 0 ⟨Nat.zero_le _,rfl⟩ ?_ ?_
 ·refine A4 [.mv 158 1000] ?_;simp only[↓eB,seval,go_sem,cmpO]
 ·rintro k ⟨hk,hJ⟩
  refine Ab [Bo,Au,BW,Av,BE,Ap,PN f hu,HP f hs,UF] [] _ _ _ ?_
  cases hx:cmpO[k]? with
  |none=>
   have hk2:cmpO.length≤k:=List.getElem?_eq_none_iff.1 hx
   have h1:decide ((k:Int)<6)=false:=by simp;omega
   rw[List.drop_eq_nil_of_le hk2]at hJ
   simp only[Hu]at hJ
   simp only[↓eB,seval,go_sem,h1]
   try simp only[A1,A2]
   repeat' first|exact ck|with_reducible apply And.intro|intro _
   all_goals first|exact hq0.i|(rename_i h;first|exact oI h|exact nah h)|(rename_i _ h _ g;exact sL h g)|decide|omega|(refine A0 [] ?_;simp only[↓eB,seval,go_sem,bne,Ew,Dt,hr,← hJ,CG])
  |some x=>
   have hlt:k<cmpO.length:=(List.getElem?_eq_some_iff.1 hx).1
   have h1:decide ((k:Int)<6)=true:=by simp;omega
   have h2:((k:Int)<(cmpO.length:Int))=True:=by simp;omega
   have h3:=A2j hx
   have h4:=AM (i:=k) (n:=6) (by omega) (by omega)
   have h5:IntKind.i64.wrap (0+(k:Int))=(k:Int):=by rw[wrap_i64 (by omega) (by omega)];omega
   rw[JL hx]at hJ
   simp only[Hu]at hJ
   cases it:isT x q with
   |true=>
    rw[if_pos it]at hJ
    have hb:=AV hq0 it
    simp only[↓eB,seval,go_sem,h1,h2,h3,h4,h5,it]
    try simp only[A1,A2]
    repeat' first|exact ck|with_reducible apply And.intro|intro _
    all_goals first|exact hlt|exact hq0|exact hb.ok|exact Ij hb.ok|(rename_i h;first|exact oI h|exact nah h)|(rename_i _ h _ g;exact sL h g)|decide|omega|(refine A0 [.fz 175] ?_;simp only[↓eB,seval,go_sem,bne,Ew,Dt,hr,← hJ,KM,IW])
   |false=>
    rw[if_neg (by rw[it];decide)]at hJ
    simp only[↓eB,seval,go_sem,h1,h2,h3,h4,h5,it]
    refine⟨hlt,hq0,k+1,⟨by omega,hJ⟩,by omega,?_⟩
    refine A4 [] ?_;simp only[↓eB,seval,go_sem,cmpO]
theorem bi:∀f:Nat,NO f
 |0=>by
  rintro ⟨p,_u⟩ w M I lab fz xs hc hA hl hx
  obtain⟨h1,h2⟩:=hc
  have h3:p.deep≤40:=h1.2.2.2.2.1
  have h4:41≤p.deep+((0:Nat):Int):=h2
  exact absurd h4 (by simp;omega)
 |f+1=>xC f (bi f) (fY f (bi f))
noncomputable abbrev A2k {X:Ctx} {w0:World}:Sy.Spec Tryz.prog X w0:=HP 41 (fY 41 (bi 41))
end Go.Proofs.YtbiepiggmagfcaaGreatDoor
