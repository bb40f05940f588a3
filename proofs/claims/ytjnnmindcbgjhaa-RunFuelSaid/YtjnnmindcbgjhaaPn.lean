/- Conditions and arguments, in plain words. No conditions but those in each statement. -/
import Derived.Test.YtjnnmindcbgjhaaPm
import Derived.Test.YtjnnmindcbgjhaaPa3
set_option linter.unusedVariables false
set_option linter.unusedSimpArgs false
set_option maxRecDepth 20000
set_option maxHeartbeats 8000000
namespace Go.Proofs.Ytjnnmindcbgjhaa
open Go Go.Sy Go.RowKit
def tkA (p:Pr) (k:Int):Tok:=p.l.getD k.toNat tk0
def Ns (p:Pr):Bool:=nameB p&&decide (w64i (p.i+2)<(p.l.length:Int))&&(tkA p (w64i (p.i+2))).t==[110,117,108,108]&&((tkA p (w64i (p.i+1))).t==[61,61]||(tkA p (w64i (p.i+1))).t==[33,61])
def Uf (p:Pr):Pr:={ p with i:=w64i (p.i+3) }
def cmpO:List (List UInt8):=[[61,61],[33,61],[60],[60,61],[62],[62,61]]
def Pp (q:Pr) (a:Ex):List (List UInt8)→Int→R Cd
 |[],_=>(.nil,CI 51 q)
 |t::l,k=>if isT t q=true then (.mk k a (exS (adv q)).1 .nil .nil [],(exS (adv q)).2) else Pp q a l (k+1)
def Qh (nt:Pr→R Cd):Nat→Cd→Pr→R Cd
 |0,c,p=>(c,p)
 |k+1,c,p=>if isT [38,38] p=true then Qh nt k (.mk 6 .nil .nil c (nt (adv p)).1 []) (nt (adv p)).2 else (c,p)
def KK (nt:Pr→R Cd) (p:Pr):R Cd:=Qh nt p.l.length (nt p).1 (nt p).2
def Qi (nt:Pr→R Cd):Nat→Cd→Pr→R Cd
 |0,c,p=>(c,p)
 |k+1,c,p=>if isT [124,124] p=true then Qi nt k (.mk 7 .nil .nil c (KK nt (adv p)).1 []) (KK nt (adv p)).2 else (c,p)
def N5 (nt:Pr→R Cd) (p:Pr):R Cd:=Qi nt p.l.length (KK nt p).1 (KK nt p).2
def Ug (p:Pr):Cd:=if ((tkA p (w64i (p.i+1))).t==[33,61])=true then .mk 8 .nil .nil (.mk 9 .nil .nil .nil .nil (tk p).t) .nil [] else .mk 9 .nil .nil .nil .nil (tk p).t
def Cf:Nat→Pr→R Cd
 |0,p=>(.nil,p)
 |f+1,p=>
  if isT [33] p=true then
   (if Et p=true then (.mk 8 .nil .nil (Cf f (adv (Bl p))).1 .nil [],shut (Cf f (adv (Bl p))).2) else (.nil,Bl p))
  else if isT [40] p=true then
   (if Et p=true then ((N5 (Cf f) (adv (Bl p))).1,shut (B1 [41] (N5 (Cf f) (adv (Bl p))).2)) else (.nil,Bl p))
  else if Ns p=true then (Ug p,Uf p)
  else Pp (exS p).2 (exS p).1 cmpO 0
abbrev cdS:Pr→R Cd:=N5 (Cf 41)
def N6:Nat→List Ar→Pr→R (List Ar)
 |0,_,p=>([],p)
 |k+1,l,p=>
  if (p.e==0)=true then
   (if isT [41] (exS p).2=true then (l++[⟨false,[],(exS p).1⟩],adv (exS p).2) else N6 k (l++[⟨false,[],(exS p).1⟩]) (B1 [44] (exS p).2))
  else ([],p)
def Gk (p:Pr):R (List Ar):=if isT [41] p=true then ([],adv p) else N6 (p.l.length+1) [] p
theorem E7 {p:Pr} (h:okP p):Nx p (exS p).2:=Ue (KJ 41) p h
theorem B6 {t:List UInt8} {p:Pr} (h:okP p) (hi:isT t p=true):Nx p (adv p):=Di h (B8 hi).2 (B8 hi).1
theorem dB {p:Pr} (h:okP p) (hb:Ns p=true):p.e=0∧p.i+2<(p.l.length:Int)∧w64i (p.i+3)=p.i+3∧w64i (p.i+2)=p.i+2∧w64i (p.i+1)=p.i+1:=by
 unfold Ns at hb
 simp only[Bool.and_eq_true,decide_eq_true_eq]at hb
 obtain⟨h1,h2,h3,_⟩:=h
 have e2:w64i (p.i+2)=p.i+2:=by unfold w64i;rw[wrap_i64 (by omega) (by omega)]
 rw[e2]at hb
 refine⟨(J2 hb.1.1.1).1,hb.1.1.2,?_,e2,?_⟩<;>unfold w64i<;>rw[wrap_i64 (by omega) (by omega)]
theorem nZ {p:Pr} (h:okP p) (hb:Ns p=true):Nx p (Uf p):=by
 obtain⟨e1,e2,e3,_⟩:=dB h hb
 obtain⟨h1,h2,h3,h4⟩:=h
 have e:(Uf p).i=p.i+3:=e3
 exact⟨⟨by rw[e];omega,by rw[e];show p.i+3≤(p.l.length:Int);omega,h3,h4⟩,rfl,rfl,by rw[e];omega,rfl,fun h=>absurd e1 h⟩
theorem ZA (a:Ex):∀(l:List (List UInt8)) (k:Int) (q:Pr),okP q→Nx q (Pp q a l k).2
 |[],k,q,h=>F1 51 h
 |t::l,k,q,h=>by
  simp only[Pp]
  split
  ·rename_i hi
   have h1:=B6 h hi
   exact h1.trans (E7 h1.ok)
  ·exact ZA a l (k+1) q h
theorem ZB {u:Pr→R Cd} (hu:∀p,okP p→Nx p (u p).2):∀(k:Nat) (a:Cd) (p:Pr),okP p→Nx p (Qh u k a p).2
 |0,a,p,h=>.refl h
 |k+1,a,p,h=>by
  simp only[Qh]
  split
  ·rename_i hi
   have h1:=B6 h hi
   have h2:=hu _ h1.ok
   exact(h1.trans h2).trans (ZB hu k _ _ h2.ok)
  ·exact .refl h
theorem P1 {u:Pr→R Cd} (hu:∀p,okP p→Nx p (u p).2) (p:Pr) (h:okP p):Nx p (KK u p).2:=(hu p h).trans (ZB hu _ _ _ (hu p h).ok)
theorem ZC {u:Pr→R Cd} (hu:∀p,okP p→Nx p (u p).2):∀(k:Nat) (a:Cd) (p:Pr),okP p→Nx p (Qi u k a p).2
 |0,a,p,h=>.refl h
 |k+1,a,p,h=>by
  simp only[Qi]
  split
  ·rename_i hi
   have h1:=B6 h hi
   have h2:=P1 hu _ h1.ok
   exact(h1.trans h2).trans (ZC hu k _ _ h2.ok)
  ·exact .refl h
theorem Uh {u:Pr→R Cd} (hu:∀p,okP p→Nx p (u p).2) (p:Pr) (h:okP p):Nx p (N5 u p).2:=(P1 hu p h).trans (ZC hu _ _ _ (P1 hu p h).ok)
theorem Lr:∀(f:Nat) (p:Pr),okP p→Nx p (Cf f p).2
 |0,p,h=>.refl h
 |f+1,p,h=>by
  simp only[Cf]
  split
  ·rename_i hi
   split
   ·rename_i hb
    have h1:=Fb h hb (B8 hi).2
    exact Oo h hb (h1.trans (Lr f _ h1.ok))
   ·rename_i hb;exact Lq h (by simpa using hb)
  ·split
   ·rename_i hi
    split
    ·rename_i hb
     have h1:=Fb h hb (B8 hi).2
     have h2:=h1.trans (Uh (Lr f) _ h1.ok)
     exact Oo h hb (h2.trans (BB h2.ok))
    ·rename_i hb;exact Lq h (by simpa using hb)
   ·split
    ·rename_i hb;exact nZ h hb
    ·have h1:=E7 h
     exact h1.trans (ZA _ _ _ _ h1.ok)
theorem Qj {p:Pr} (h:okP p):Nx p (cdS p).2:=Uh (Lr 41) p h
theorem ZD:∀(k:Nat) (l:List Ar) (p:Pr),okP p→Nx p (N6 k l p).2
 |0,l,p,h=>.refl h
 |k+1,l,p,h=>by
  simp only[N6]
  split
  ·have h1:=E7 h
   split
   ·rename_i hi;exact h1.trans (B6 h1.ok hi)
   ·have h2:=h1.trans (BB (t:=[44]) h1.ok)
    exact h2.trans (ZD k _ _ h2.ok)
  ·exact .refl h
theorem RX {p:Pr} (h:okP p):Nx p (Gk p).2:=by
 unfold Gk
 split
 ·rename_i hi;exact B6 h hi
 ·exact ZD _ _ _ h
theorem X4 {f:Nat} {p:Pr} (h:okP p) (ob:Et p=true) (hd:dpU (f+1) p):dpU f (adv (Bl p)):=by
 have h3:=(Pn h ob).2.2
 show 41≤(Bl p).deep+(f:Int)
 rw[h3];have:41≤p.deep+((f+1:Nat):Int):=hd;simp only;omega
end Go.Proofs.Ytjnnmindcbgjhaa
namespace Go.Proofs.Ytjnnmindcbgjhaa
open Go Go.Sy Go.RowKit
abbrev Qk (f:Nat) (p:Pr):Prop:=okP p∧dpU f p
abbrev HX (f:Nat) (p:Pr):SV:=.one (cdC (Cf f p).1)
abbrev G3 (f:Nat) (p:Pr):List (Option MV):=[some (zPr,[(Cf f p).2.c])]
noncomputable abbrev N7:ArgM ((Pr)×Unit):=(amP (mPr) am0)
abbrev P2 (f:Nat):Prop:=Bs Try.prog 108 ((N7).args 0) (N7).mem (fun p:(Pr)×Unit=>Qk f p.1) (fun p:(Pr)×Unit=>HX f p.1) (fun p:(Pr)×Unit=>G3 f p.1)
theorem uf (f:Nat):∀p,(fun p:(Pr)×Unit=>Qk f p.1) p→Cm ((N7).mem p).length ((fun p:(Pr)×Unit=>G3 f p.1) p)=true:=by intro p _;rfl
theorem ug (f:Nat):∀p,(fun p:(Pr)×Unit=>Qk f p.1) p→As ((fun p:(Pr)×Unit=>G3 f p.1) p).length ((fun p:(Pr)×Unit=>HX f p.1) p)=true:=by intro p _;first|rfl|exact AO _ _|exact AP _ _|(simp[As,Bz,AO,AP];done)
theorem uh (f:Nat):∀p,(fun p:(Pr)×Unit=>Qk f p.1) p→∀q,some q∈(fun p:(Pr)×Unit=>G3 f p.1) p→∀r∈q.2,∀c∈r,c.names=[]:=by intro p _;exact Fg _
noncomputable def FL {X:Ctx} {w0:World} (f:Nat) (h:P2 f):Sy.Spec Try.prog X w0:=CY 108 Try.call108 (N7) (fun p:(Pr)×Unit=>Qk f p.1) (fun p:(Pr)×Unit=>HX f p.1) (fun p:(Pr)×Unit=>G3 f p.1) (uf f) (ug f) (uh f) h
abbrev Ql (f:Nat) (p:Pr):Prop:=okP p∧dpU f p
abbrev Qm (f:Nat) (p:Pr):SV:=.one (cdC (KK (Cf f) p).1)
abbrev N8 (f:Nat) (p:Pr):List (Option MV):=[some (zPr,[(KK (Cf f) p).2.c])]
noncomputable abbrev N9:ArgM ((Pr)×Unit):=(amP (mPr) am0)
abbrev dC (f:Nat):Prop:=Bs Try.prog 105 ((N9).args 0) (N9).mem (fun p:(Pr)×Unit=>Ql f p.1) (fun p:(Pr)×Unit=>Qm f p.1) (fun p:(Pr)×Unit=>N8 f p.1)
theorem ui (f:Nat):∀p,(fun p:(Pr)×Unit=>Ql f p.1) p→Cm ((N9).mem p).length ((fun p:(Pr)×Unit=>N8 f p.1) p)=true:=by intro p _;rfl
theorem uj (f:Nat):∀p,(fun p:(Pr)×Unit=>Ql f p.1) p→As ((fun p:(Pr)×Unit=>N8 f p.1) p).length ((fun p:(Pr)×Unit=>Qm f p.1) p)=true:=by intro p _;first|rfl|exact AO _ _|exact AP _ _|(simp[As,Bz,AO,AP];done)
theorem uk (f:Nat):∀p,(fun p:(Pr)×Unit=>Ql f p.1) p→∀q,some q∈(fun p:(Pr)×Unit=>N8 f p.1) p→∀r∈q.2,∀c∈r,c.names=[]:=by intro p _;exact Fg _
noncomputable def TW {X:Ctx} {w0:World} (f:Nat) (h:dC f):Sy.Spec Try.prog X w0:=CY 105 Try.call105 (N9) (fun p:(Pr)×Unit=>Ql f p.1) (fun p:(Pr)×Unit=>Qm f p.1) (fun p:(Pr)×Unit=>N8 f p.1) (ui f) (uj f) (uk f) h
attribute [local go_sem] Pr.c zTk
theorem kZ (f:Nat) (hu:P2 f):dC f:=by
 rintro ⟨p,_u⟩ w M I lab fz xs hc hA hl hx
 refine Am Try.func105 rfl ((N9).mem ⟨p,_u⟩) w M I lab fz [A7,(FL f hu)] [] ((N9).args 0 ⟨p,_u⟩) ((fun p:(Pr)×Unit=>N8 f p.1) ⟨p,_u⟩) ((fun p:(Pr)×Unit=>Qm f p.1) ⟨p,_u⟩) xs hA hl hx (fun v hv k hk=>by have:=(N9).an 0 ⟨p,_u⟩ v hv k hk;omega) (jN rfl) (jN rfl) ?_
 clear hx hl hA xs
 simp only[Try.f105]
 simp only[↓eB,seval,go_sem,A7,FL,Ah,Ag,Ai,Ac,Tok.r,Ad,ptR,Af,AS,AR,AQ]
 obtain⟨hc1,hc2⟩:=hc
 dsimp only at hc1 hc2
 have hu0:=Lr f p hc1
 refine⟨⟨hc1,hc2⟩,?_⟩
 refine Ab (Y:=Nat×Cd×Pr) (fun y=>okP y.2.2∧dpU f y.2.2∧(y.2.2.l.length:Int)≤y.2.2.i+(y.1:Int)∧Qh (Cf f) y.1 y.2.1 y.2.2=KK (Cf f) p)
  (fun y=>⟨[(0,true,.one (.p 0 0 0)),(3,true,.one (cdC y.2.1))],[(0,.vec 0 zPr [y.2.2.c])]⟩)
  (fun y=>y.1) (p.l.length,(Cf f p).1,(Cf f p).2) ⟨hu0.ok,by show dpU f _;unfold dpU;rw[hu0.d];exact hc2,by have:=hu0.ok.1;simp only[hu0.l];omega,by show Qh _ _ _ _=KK _ _;rfl⟩ ?_ ?_
 ·refine A4 [] ?_;simp only[↓eB,seval,go_sem]
 ·rintro ⟨k,a,q⟩ ⟨h1,h2,h3,h4⟩
  refine Au [A7,(FL f hu)] [] _ _ _ ?_
  dsimp only at h1 h2 h3 h4
  cases i0:isT [38,38] q with
  |true=>
   obtain⟨k',rfl⟩:∃k',k=k'+1:=⟨k-1,by have:=(B8 i0).2;omega⟩
   simp only[Qh,i0,if_true]at h4
   have ha:=B6 h1 i0
   have hu1:=Lr f _ ha.ok
   have hai:=IA h1 (B8 i0).2
   simp only[↓eB,seval,go_sem,i0,A7,FL,B9,adv,Ah,Ag,Ai,Ac,Tok.r,Ad,ptR,Af,AS,AR,AQ]
   refine⟨h1,⟨ha.ok,h2⟩,(k',Cd.mk 6 .nil .nil a (Cf f (adv q)).1 [],(Cf f (adv q)).2),⟨hu1.ok,by show dpU f _;unfold dpU;rw[hu1.d];exact h2,?_,?_⟩,Nat.lt_succ_self _,A4 [.fz 12] ?_⟩
   ·dsimp only;have hi1:=hu1.i;rw[hai]at hi1;rw[hu1.l];show (q.l.length:Int)≤_;omega
   ·exact h4
   ·simp only[↓eB,seval,go_sem,adv,DA,Ao,OU,Fx]
  |false=>
   have hr:(a,q)=KK (Cf f) p:=by
    rw[← h4];cases k<;>simp[Qh,i0]
   simp only[↓eB,seval,go_sem,i0,A7,B9,Ah,Ag,Ai,Ac,Tok.r,Ad,ptR,Af,AS,AR,AQ]
   try simp only[A2,A3]
   repeat' first|exact ck|with_reducible apply And.intro|intro _
   all_goals first|exact h1|(rename_i h;first|exact oI h|exact nah h)|(rename_i _ h _ g;exact sL h g)|decide|omega|(refine A0 [] ?_;simp only[↓eB,seval,go_sem,bne,Qm,N8,← hr])
abbrev P3 (f:Nat) (p:Pr):Prop:=okP p∧dpU f p
abbrev P4 (f:Nat) (p:Pr):SV:=.one (cdC (N5 (Cf f) p).1)
abbrev LC (f:Nat) (p:Pr):List (Option MV):=[some (zPr,[(N5 (Cf f) p).2.c])]
noncomputable abbrev LD:ArgM ((Pr)×Unit):=(amP (mPr) am0)
abbrev Ui (f:Nat):Prop:=Bs Try.prog 87 ((LD).args 0) (LD).mem (fun p:(Pr)×Unit=>P3 f p.1) (fun p:(Pr)×Unit=>P4 f p.1) (fun p:(Pr)×Unit=>LC f p.1)
theorem nb (f:Nat):∀p,(fun p:(Pr)×Unit=>P3 f p.1) p→Cm ((LD).mem p).length ((fun p:(Pr)×Unit=>LC f p.1) p)=true:=by intro p _;rfl
theorem nd (f:Nat):∀p,(fun p:(Pr)×Unit=>P3 f p.1) p→As ((fun p:(Pr)×Unit=>LC f p.1) p).length ((fun p:(Pr)×Unit=>P4 f p.1) p)=true:=by intro p _;first|rfl|exact AO _ _|exact AP _ _|(simp[As,Bz,AO,AP];done)
theorem nf (f:Nat):∀p,(fun p:(Pr)×Unit=>P3 f p.1) p→∀q,some q∈(fun p:(Pr)×Unit=>LC f p.1) p→∀r∈q.2,∀c∈r,c.names=[]:=by intro p _;exact Fg _
noncomputable def CV {X:Ctx} {w0:World} (f:Nat) (h:Ui f):Sy.Spec Try.prog X w0:=CY 87 Try.call87 (LD) (fun p:(Pr)×Unit=>P3 f p.1) (fun p:(Pr)×Unit=>P4 f p.1) (fun p:(Pr)×Unit=>LC f p.1) (nb f) (nd f) (nf f) h
theorem dD (f:Nat) (hu:P2 f):Ui f:=by
 rintro ⟨p,_u⟩ w M I lab fz xs hc hA hl hx
 refine Am Try.func87 rfl ((LD).mem ⟨p,_u⟩) w M I lab fz [A7,(TW f (kZ f hu))] [] ((LD).args 0 ⟨p,_u⟩) ((fun p:(Pr)×Unit=>LC f p.1) ⟨p,_u⟩) ((fun p:(Pr)×Unit=>P4 f p.1) ⟨p,_u⟩) xs hA hl hx (fun v hv k hk=>by have:=(LD).an 0 ⟨p,_u⟩ v hv k hk;omega) (jN rfl) (jN rfl) ?_
 clear hx hl hA xs
 simp only[Try.f87]
 simp only[↓eB,seval,go_sem,A7,TW,Ah,Ag,Ai,Ac,Tok.r,Ad,ptR,Af,AS,AR,AQ]
 obtain⟨hc1,hc2⟩:=hc
 dsimp only at hc1 hc2
 have hu0:=P1 (Lr f) p hc1
 refine⟨⟨hc1,hc2⟩,?_⟩
 refine Ab (Y:=Nat×Cd×Pr) (fun y=>okP y.2.2∧dpU f y.2.2∧(y.2.2.l.length:Int)≤y.2.2.i+(y.1:Int)∧Qi (Cf f) y.1 y.2.1 y.2.2=N5 (Cf f) p)
  (fun y=>⟨[(0,true,.one (.p 0 0 0)),(3,true,.one (cdC y.2.1))],[(0,.vec 0 zPr [y.2.2.c])]⟩)
  (fun y=>y.1) (p.l.length,(KK (Cf f) p).1,(KK (Cf f) p).2) ⟨hu0.ok,by show dpU f _;unfold dpU;rw[hu0.d];exact hc2,by have:=hu0.ok.1;simp only[hu0.l];omega,by show Qi _ _ _ _=N5 _ _;rfl⟩ ?_ ?_
 ·refine A4 [] ?_;simp only[↓eB,seval,go_sem]
 ·rintro ⟨k,a,q⟩ ⟨h1,h2,h3,h4⟩
  refine Au [A7,(TW f (kZ f hu))] [] _ _ _ ?_
  dsimp only at h1 h2 h3 h4
  cases i0:isT [124,124] q with
  |true=>
   obtain⟨k',rfl⟩:∃k',k=k'+1:=⟨k-1,by have:=(B8 i0).2;omega⟩
   simp only[Qi,i0,if_true]at h4
   have ha:=B6 h1 i0
   have hu1:=P1 (Lr f) _ ha.ok
   have hai:=IA h1 (B8 i0).2
   simp only[↓eB,seval,go_sem,i0,A7,TW,B9,adv,Ah,Ag,Ai,Ac,Tok.r,Ad,ptR,Af,AS,AR,AQ]
   refine⟨h1,⟨ha.ok,h2⟩,(k',Cd.mk 7 .nil .nil a (KK (Cf f) (adv q)).1 [],(KK (Cf f) (adv q)).2),⟨hu1.ok,by show dpU f _;unfold dpU;rw[hu1.d];exact h2,?_,?_⟩,Nat.lt_succ_self _,A4 [.fz 12] ?_⟩
   ·dsimp only;have hi1:=hu1.i;rw[hai]at hi1;rw[hu1.l];show (q.l.length:Int)≤_;omega
   ·exact h4
   ·simp only[↓eB,seval,go_sem,adv,DA,Ao,OU,Fx]
  |false=>
   have hr:(a,q)=N5 (Cf f) p:=by
    rw[← h4];cases k<;>simp[Qi,i0]
   simp only[↓eB,seval,go_sem,i0,A7,B9,Ah,Ag,Ai,Ac,Tok.r,Ad,ptR,Af,AS,AR,AQ]
   try simp only[A2,A3]
   repeat' first|exact ck|with_reducible apply And.intro|intro _
   all_goals first|exact h1|(rename_i h;first|exact oI h|exact nah h)|(rename_i _ h _ g;exact sL h g)|decide|omega|(refine A0 [] ?_;simp only[↓eB,seval,go_sem,bne,P4,LC,← hr])
noncomputable abbrev Uj {X:Ctx} {w0:World}:Sy.Spec Try.prog X w0:=Cv 41 (kU 41 (gQ 41))
def cO (s:List UInt8):List C:=[.v (.string (bs s))]
theorem A0z {i:Nat} {x:List UInt8} (h:cmpO[i]?=some x):(cmpO.map cO).getD i [.v (.string (bs []))]=cO x:=by simp[List.getD,h]
theorem ul (f:Nat) (hu:P2 f) (hs:Ui f):P2 (f+1):=by
 rintro ⟨p,_u⟩ w M I lab fz xs hc hA hl hx
 refine Am Try.func108 rfl ((N7).mem ⟨p,_u⟩) w M I lab fz [AU,A8,AM,AC,AG,A7,(FL f hu),(CV f hs),Uj] [] ((N7).args 0 ⟨p,_u⟩) ((fun p:(Pr)×Unit=>G3 (f+1) p.1) ⟨p,_u⟩) ((fun p:(Pr)×Unit=>HX (f+1) p.1) ⟨p,_u⟩) xs hA hl hx (fun v hv k hk=>by have:=(N7).an 0 ⟨p,_u⟩ v hv k hk;omega) (jN rfl) (jN rfl) ?_
 clear hx hl hA xs
 simp only[Try.f108]
 obtain⟨hc1,hc2⟩:=hc
 dsimp only at hc1 hc2
 have hI:=hc1.i
 cases i0:isT [33] p with
 |true=>
  cases ob:Et p with
  |false=>
   have hr:Cf (f+1) p=(.nil,Bl p):=by simp[Cf,i0,ob]
   simp only[↓eB,seval,go_sem,AU,Aw,A8,AN,AM,AC,AG,AH,A7,FL,CV,Cv,Ah,Ag,Ai,Ac,Tok.r,Ad,ptR,Af,AS,AR,AQ,i0,ob]
   try simp only[A2,A3]
   repeat' first|exact ck|with_reducible apply And.intro|intro _
   all_goals first|exact hI|exact hc1|(rename_i h;first|exact oI h|exact nah h)|(rename_i _ h _ g;exact sL h g)|decide|omega|(refine A0 [] ?_;simp only[↓eB,seval,go_sem,bne,HX,G3,hr,Ao])
  |true=>
   have hr:Cf (f+1) p=(.mk 8 .nil .nil (Cf f (adv (Bl p))).1 .nil [],shut (Cf f (adv (Bl p))).2):=by simp[Cf,i0,ob]
   have ha:=Fb hc1 ob (B8 i0).2
   have hd:=X4 hc1 ob hc2
   simp only[↓eB,seval,go_sem,AU,Aw,A8,AN,AM,AC,AG,AH,A7,FL,CV,Cv,Ah,Ag,Ai,Ac,Tok.r,Ad,ptR,Af,AS,AR,AQ,i0,ob]
   try simp only[A2,A3]
   repeat' first|exact ck|with_reducible apply And.intro|intro _
   all_goals first|exact hI|exact hc1|exact ha.ok|exact hd|(rename_i h;first|exact oI h|exact nah h)|(rename_i _ h _ g;exact sL h g)|decide|omega|(refine A0 [.fz 33] ?_;simp only[↓eB,seval,go_sem,bne,HX,G3,hr,Ao,DA,OU,Fx,shut,adv])
 |false=>
 cases i1:isT [40] p with
 |true=>
  cases ob:Et p with
  |false=>
   have hr:Cf (f+1) p=(.nil,Bl p):=by simp[Cf,i0,i1,ob]
   simp only[↓eB,seval,go_sem,AU,Aw,A8,AN,AM,AC,AG,AH,A7,FL,CV,Cv,Ah,Ag,Ai,Ac,Tok.r,Ad,ptR,Af,AS,AR,AQ,i0,i1,ob]
   try simp only[A2,A3]
   repeat' first|exact ck|with_reducible apply And.intro|intro _
   all_goals first|exact hI|exact hc1|(rename_i h;first|exact oI h|exact nah h)|(rename_i _ h _ g;exact sL h g)|decide|omega|(refine A0 [] ?_;simp only[↓eB,seval,go_sem,bne,HX,G3,hr,Ao])
  |true=>
   have hr:Cf (f+1) p=((N5 (Cf f) (adv (Bl p))).1,shut (B1 [41] (N5 (Cf f) (adv (Bl p))).2)):=by simp[Cf,i0,i1,ob]
   have ha:=Fb hc1 ob (B8 i1).2
   have hd:=X4 hc1 ob hc2
   have hs2:=Uh (Lr f) _ ha.ok
   simp only[↓eB,seval,go_sem,AU,Aw,A8,AN,AM,AC,AG,AH,A7,FL,CV,Cv,Ah,Ag,Ai,Ac,Tok.r,Ad,ptR,Af,AS,AR,AQ,i0,i1,ob]
   try simp only[A2,A3]
   repeat' first|exact ck|with_reducible apply And.intro|intro _
   all_goals first|exact hI|exact hc1|exact ha.ok|exact hd|exact hs2.ok|(rename_i h;first|exact oI h|exact nah h)|(rename_i _ h _ g;exact sL h g)|decide|omega|(refine A0 [] ?_;simp only[↓eB,seval,go_sem,bne,HX,G3,hr,shut,adv])
 |false=>
 cases hn:Ns p with
 |true=>
  have hr:Cf (f+1) p=(Ug p,Uf p):=by simp[Cf,i0,i1,hn]
  obtain⟨n1,n2,n3,n4,n5⟩:=dB hc1 hn
  have hn':=hn
  have hna:nameB p=true:=by unfold Ns at hn;simp only[Bool.and_eq_true]at hn;exact hn.1.1.1
  unfold Ns tkA at hn'
  simp only[w64i]at hn' n3 n4 n5
  have q1:(0≤p.i)=True:=by simp[hc1.1]
  have q2:(p.i<(p.l.length:Int))=True:=by simp;omega
  have q3:(0≤p.i+2)=True:=by have:=hc1.1;simp;omega
  have q4:(p.i+2<(p.l.length:Int))=True:=by simp[n2]
  have q5:(0≤p.i+1)=True:=by have:=hc1.1;simp;omega
  have q6:(p.i+1<(p.l.length:Int))=True:=by simp;omega
  simp only[n4,n5,hna,Bool.true_and,Bool.and_eq_true,decide_eq_true_eq]at hn'
  obtain⟨⟨z1,z2⟩,z3⟩:=hn'
  have z0:decide (p.i+2<(p.l.length:Int))=true:=by simp[n2]
  cases z4:((p.l.getD (p.i+1).toNat tk0).t==[33,61]) with
  |true=>
   have hc':Ug p= .mk 8 .nil .nil (.mk 9 .nil .nil .nil .nil (tk p).t) .nil []:=by unfold Ug tkA;simp only[w64i,n5];rw[if_pos z4]
   cases z5:((p.l.getD (p.i+1).toNat tk0).t==[61,61]) with
   |true=>rw[beq_iff_eq]at z4 z5;rw[z4]at z5;cases z5
   |false=>
    simp only[↓eB,seval,go_sem,AU,Aw,A8,AN,AM,AC,AG,AH,A7,FL,CV,Cv,Ah,Ag,Ai,Ac,Tok.r,Ad,ptR,Af,AS,AR,AQ,i0,i1,hna,n3,n4,n5,q1,q2,q3,q4,q5,q6,z0,z2,z4,z5]
    try simp only[A2,A3]
    repeat' first|exact ck|with_reducible apply And.intro|intro _
    all_goals first|exact hI|exact hc1|(rename_i h;first|exact oI h|exact nah h)|(rename_i _ h _ g;exact sL h g)|decide|omega|(refine A0 [.fz 131,.fz 147] ?_;simp only[↓eB,seval,go_sem,bne,HX,G3,hr,hc',DA,Ao,Cd.d,Ex.d,Uf,tk,n3])
  |false=>
   have hc':Ug p= .mk 9 .nil .nil .nil .nil (tk p).t:=by unfold Ug tkA;simp only[w64i,n5];rw[if_neg (by rw[z4];decide)]
   have z5:((p.l.getD (p.i+1).toNat tk0).t==[61,61])=true:=by rw[z4]at z3;simpa using z3
   simp only[↓eB,seval,go_sem,AU,Aw,A8,AN,AM,AC,AG,AH,A7,FL,CV,Cv,Ah,Ag,Ai,Ac,Tok.r,Ad,ptR,Af,AS,AR,AQ,i0,i1,hna,n3,n4,n5,q1,q2,q3,q4,q5,q6,z0,z2,z4,z5]
   try simp only[A2,A3]
   repeat' first|exact ck|with_reducible apply And.intro|intro _
   all_goals first|exact hI|exact hc1|(rename_i h;first|exact oI h|exact nah h)|(rename_i _ h _ g;exact sL h g)|decide|omega|(refine A0 [.fz 131] ?_;simp only[↓eB,seval,go_sem,bne,HX,G3,hr,hc',DA,Ao,OU,Fx,Uf,tk,n3])
 |false=>
 have hr:Cf (f+1) p=Pp (exS p).2 (exS p).1 cmpO 0:=by simp[Cf,i0,i1,hn]
 have hn':=hn
 unfold Ns tkA at hn'
 simp only[w64i]at hn'
 have q1:=hc1.1
 have q2:p.i+2<9223372036854775808:=by have:=hc1.2.1;have:=hc1.2.2.1;omega
 have n4:IntKind.i64.wrap (p.i+2)=p.i+2:=wrap_i64 (by omega) (by omega)
 have n5:IntKind.i64.wrap (p.i+1)=p.i+1:=wrap_i64 (by omega) (by omega)
 simp only[n4,n5]at hn'
 have hu0:=E7 hc1
 simp only[↓eB,seval,go_sem,AU,Aw,A8,AN,AM,AC,AG,AH,A7,FL,CV,Cv,Ah,Ag,Ai,Ac,Tok.r,Ad,ptR,Af,AS,AR,AQ,i0,i1,hn',n4,n5]
 refine⟨hI,hI,hI,?_,?_,?_,?_,Cs (by kernel_rfl),⟨hc1,L3 hc1⟩,?_⟩
 ·exact fun h=>⟨h,h,by omega,by simp only[Bool.and_eq_true,decide_eq_true_eq]at h;omega⟩
 ·exact fun h=>⟨h,h,by omega,by simp only[Bool.and_eq_true,decide_eq_true_eq]at h;omega⟩
 ·exact fun h=>⟨h,h,by omega,by simp only[Bool.and_eq_true,decide_eq_true_eq]at h;omega⟩
 ·exact fun h=>⟨h,fun h2=>by rw[h,h2];rfl⟩
 generalize hq:(exS p).2=q at hr hu0
 generalize ha:(exS p).1=a at hr
 have hq1:(KI (unF 41) p).2=q:=hq
 have ha1:(KI (unF 41) p).1=a:=ha
 have hq0:=hu0.ok
 have hlen:cmpO.length=6:=rfl
 refine Ab (Y:=Nat) (fun k=>k≤6∧Pp q a (cmpO.drop k) (k:Int)=Pp q a cmpO 0)
  (fun k=>⟨[(0,true,.one (.p 0 0 0)),(6,true,.one (exC a)),(7,true,.one (.s 1000)),(8,true,.one (.v (.int .i64 (k:Int))))],[(0,.vec 0 zPr [q.c]),(1000,.vec 0 [.v (.string (bs []))] (cmpO.map cO))]⟩)
  (fun k=>6-k) 0 ⟨Nat.zero_le _,rfl⟩ ?_ ?_
 ·refine A4 [.mv 158 1000] ?_;simp only[↓eB,seval,go_sem,cmpO,cO]
 ·rintro k ⟨hk,hJ⟩
  refine Au [AU,A8,AM,AC,AG,A7,FL f hu,CV f hs,Uj] [] _ _ _ ?_
  cases hx:cmpO[k]? with
  |none=>
   have hk2:cmpO.length≤k:=List.getElem?_eq_none_iff.1 hx
   have h1:decide ((k:Int)<6)=false:=by simp;omega
   rw[List.drop_eq_nil_of_le hk2]at hJ
   simp only[Pp]at hJ
   simp only[↓eB,seval,go_sem,AU,Aw,A8,AN,AM,AC,AG,AH,A7,FL,CV,Cv,Ah,Ag,Ai,Ac,Tok.r,Ad,ptR,Af,AS,AR,AQ,h1]
   try simp only[A2,A3]
   repeat' first|exact ck|with_reducible apply And.intro|intro _
   all_goals first|exact hq0.i|(rename_i h;first|exact oI h|exact nah h)|(rename_i _ h _ g;exact sL h g)|decide|omega|(refine A0 [] ?_;simp only[↓eB,seval,go_sem,bne,HX,G3,hr,← hJ,Ao])
  |some x=>
   have hlt:k<cmpO.length:=(List.getElem?_eq_some_iff.1 hx).1
   have h1:decide ((k:Int)<6)=true:=by simp;omega
   have h2:((k:Int)<(cmpO.length:Int))=True:=by simp;omega
   have h3:=A0z hx
   have h4:=ED (i:=k) (n:=6) (by omega) (by omega)
   have h5:IntKind.i64.wrap (0+(k:Int))=(k:Int):=by rw[wrap_i64 (by omega) (by omega)];omega
   rw[CA hx]at hJ
   simp only[Pp]at hJ
   cases it:isT x q with
   |true=>
    rw[if_pos it]at hJ
    have hb:=B6 hq0 it
    simp only[↓eB,seval,go_sem,AU,Aw,A8,AN,AM,AC,AG,AH,A7,FL,CV,Cv,Ah,Ag,Ai,Ac,Tok.r,Ad,ptR,Af,AS,AR,AQ,h1,h2,h3,h4,h5,cO,it,B9,adv]
    try simp only[A2,A3]
    repeat' first|exact ck|with_reducible apply And.intro|intro _
    all_goals first|exact hlt|exact hq0|exact hb.ok|exact L3 hb.ok|(rename_i h;first|exact oI h|exact nah h)|(rename_i _ h _ g;exact sL h g)|decide|omega|(refine A0 [.fz 175] ?_;simp only[↓eB,seval,go_sem,bne,HX,G3,hr,← hJ,DA,OU,adv])
   |false=>
    rw[if_neg (by rw[it];decide)]at hJ
    simp only[↓eB,seval,go_sem,AU,Aw,A8,AN,AM,AC,AG,AH,A7,FL,CV,Cv,Ah,Ag,Ai,Ac,Tok.r,Ad,ptR,Af,AS,AR,AQ,h1,h2,h3,h4,h5,cO,it,B9]
    refine⟨hlt,hq0,k+1,⟨by omega,hJ⟩,by omega,?_⟩
    refine A4 [] ?_;simp only[↓eB,seval,go_sem,cmpO,cO]
theorem aT:∀f:Nat,P2 f
 |0=>by
  rintro ⟨p,_u⟩ w M I lab fz xs hc hA hl hx
  obtain⟨h1,h2⟩:=hc
  have h3:p.deep≤40:=h1.2.2.2.2.1
  have h4:41≤p.deep+((0:Nat):Int):=h2
  exact absurd h4 (by simp;omega)
 |f+1=>ul f (aT f) (dD f (aT f))
noncomputable abbrev A10 {X:Ctx} {w0:World}:Sy.Spec Try.prog X w0:=CV 41 (dD 41 (aT 41))
end Go.Proofs.Ytjnnmindcbgjhaa
