/- Conditions and arguments, in plain words. No conditions but those in each statement. -/
import Derived.Test.YtapedeoheilnnaaGreatMi1
import Derived.Test.YtapedeoheilnnaaGreatPa3
set_option linter.all false
set_option maxRecDepth 20000
set_option maxHeartbeats 8000000
open Bool (and_eq_true)
namespace Go.Proofs.YtapedeoheilnnaaGreat
open Go Go.Sy Go.RowKit
variable{p:Pr}{u:Pr->R Cd}
theorem KZ9{P:Prop}(h:P:=by (repeat' first|exact ck|with_reducible apply And.intro|intro _);all_goals first|exact hI|exact hc1|exact KZ|(refine A1 [] ?_;simp only[seval,go_sem,bne,LA,LB,hr,Bw])):P:=h
def tkA(p:Pr)(k:Int):Tok:=p.l.getD k.toNat tk0
def Ok(p:Pr):Bool:=nameB p&&decide (w64i (p.i+2)<(p.l.length:Int))&&(tkA p (w64i (p.i+2))).t==[110,117,108,108]&&((tkA p (w64i (p.i+1))).t==[61,61]||(tkA p (w64i (p.i+1))).t==[33,61])
def Wz(p:Pr):Pr:={ p with i:=w64i (p.i+3) }
def cmpO:List (List UInt8):=[[61,61],[33,61],[60],[60,61],[62],[62,61]]
def Mh(q:Pr)(a:Ex):List (List UInt8)->Int->R Cd
 |[],_=>(.nil,D6 51 q)
 |t::l,k=>if isT t q=true then (.mk k a (exS (adv q)).1 .nil .nil [],(exS (adv q)).2) else Mh q a l (k+1)
def Nr(nt:Pr->R Cd):Nat->Cd->Pr->R Cd
 |0,c,p=>(c,p)
 |k+1,c,p=>if isT [38,38] p=true then Nr nt k (.mk 6 .nil .nil c (nt (adv p)).1 []) (nt (adv p)).2 else (c,p)
def K2(nt:Pr->R Cd)(p:Pr):R Cd:=Nr nt p.l.length (nt p).1 (nt p).2
def Ns(nt:Pr->R Cd):Nat->Cd->Pr->R Cd
 |0,c,p=>(c,p)
 |k+1,c,p=>if isT [124,124] p=true then Ns nt k (.mk 7 .nil .nil c (K2 nt (adv p)).1 []) (K2 nt (adv p)).2 else (c,p)
def Lc(nt:Pr->R Cd)(p:Pr):R Cd:=Ns nt p.l.length (K2 nt p).1 (K2 nt p).2
def SB(p:Pr):Cd:=if ((tkA p (w64i (p.i+1))).t==[33,61])=true then .mk 8 .nil .nil (.mk 9 .nil .nil .nil .nil (tk p).t) .nil [] else .mk 9 .nil .nil .nil .nil (tk p).t
def DK:Nat->Pr->R Cd
 |0,p=>(.nil,p)
 |f+1,p=>
  if isT [33] p=true then
   (if FU p=true then (.mk 8 .nil .nil (DK f (adv (C9 p))).1 .nil [],shut (DK f (adv (C9 p))).2) else (.nil,C9 p))
  else if isT [40] p=true then
   (if FU p=true then ((Lc (DK f) (adv (C9 p))).1,shut (BW [41] (Lc (DK f) (adv (C9 p))).2)) else (.nil,C9 p))
  else if Ok p=true then (SB p,Wz p)
  else Mh (exS p).2 (exS p).1 cmpO 0
abbrev cdS:Pr->R Cd:=Lc (DK 41)
def argL:Nat->List Ar->Pr->R (List Ar)
 |0,_,p=>([],p)
 |k+1,l,p=>
  if (p.e==0)=true then
   (if isT [41] (exS p).2=true then (l++[⟨false,[],(exS p).1⟩],adv (exS p).2) else argL k (l++[⟨false,[],(exS p).1⟩]) (BW [44] (exS p).2))
  else ([],p)
def argW(p:Pr):R (List Ar):=if isT [41] p=true then ([],adv p) else argL (p.l.length+1) [] p
theorem Di(h:okP p):Nx p (exS p).2:=Sn (Ix 41) p h
theorem Av{t:List UInt8}(h:okP p)(hi:isT t p=true):Nx p (adv p):=En h (B6 hi).2 (B6 hi).1
theorem ij(h:okP p)(hb:Ok p=true):p.e=0/\p.i+2<(p.l.length:Int)/\w64i (p.i+3)=p.i+3/\w64i (p.i+2)=p.i+2/\w64i (p.i+1)=p.i+1:=by
 unfold Ok at hb
 simp only[and_eq_true,decide_eq_true_eq]at hb
 obtain⟨h1,h2,h3,_⟩:=h
 have e2:w64i (p.i+2)=p.i+2:=by unfold w64i;rw[wrap_i64 (by omega) (by omega)]
 rw[e2]at hb
 refine⟨(Je hb.1.1.1).1,hb.1.1.2,?_,e2,?_⟩<;>unfold w64i<;>rw[wrap_i64 (by omega) (by omega)]
theorem tM(h:okP p)(hb:Ok p=true):Nx p (Wz p):=by
 obtain⟨e1,e2,e3,_⟩:=ij h hb
 obtain⟨h1,h2,h3,h4⟩:=h
 have e:(Wz p).i=p.i+3:=e3
 exact⟨⟨by rw[e];omega,by rw[e];show p.i+3<=(p.l.length:Int);omega,h3,h4⟩,rfl,rfl,by rw[e];omega,rfl,λh=>absurd e1 h⟩
theorem X0(a:Ex):∀(l:List (List UInt8)) (k:Int) (q:Pr),okP q->Nx q (Mh q a l k).2
 |[],k,q,h=>FP 51 h
 |t::l,k,q,h=>by
  simp only[Mh]
  split
  .rename_i hi
   have h1:=Av h hi
   exact h1.trans (Di h1.ok)
  exact X0 a l (k+1) q h
theorem TB(hu:∀p,okP p->Nx p (u p).2):∀(k:Nat) (a:Cd) (p:Pr),okP p->Nx p (Nr u k a p).2
 |0,a,p,h=>.refl h
 |k+1,a,p,h=>by
  simp only[Nr]
  split
  .rename_i hi
   have h1:=Av h hi
   have h2:=hu _ h1.ok
   exact(h1.trans h2).trans (TB hu k _ _ h2.ok)
  exact .refl h
theorem Jj(hu:∀p,okP p->Nx p (u p).2)(p:Pr)(h:okP p):Nx p (K2 u p).2:=(hu p h).trans (TB hu _ _ _ (hu p h).ok)
theorem TC(hu:∀p,okP p->Nx p (u p).2):∀(k:Nat) (a:Cd) (p:Pr),okP p->Nx p (Ns u k a p).2
 |0,a,p,h=>.refl h
 |k+1,a,p,h=>by
  simp only[Ns]
  split
  .rename_i hi
   have h1:=Av h hi
   have h2:=Jj hu _ h1.ok
   exact(h1.trans h2).trans (TC hu k _ _ h2.ok)
  exact .refl h
theorem TD(hu:∀p,okP p->Nx p (u p).2)(p:Pr)(h:okP p):Nx p (Lc u p).2:=(Jj hu p h).trans (TC hu _ _ _ (Jj hu p h).ok)
theorem JE:∀(f:Nat) (p:Pr),okP p->Nx p (DK f p).2
 |0,p,h=>.refl h
 |f+1,p,h=>by
  simp only[DK]
  split
  .rename_i hi
   split
   .rename_i hb
    have h1:=EY h hb (B6 hi).2
    exact PW h hb (h1.trans (JE f _ h1.ok))
   rename_i hb;exact L3 h (by simpa using hb)
  split
  .rename_i hi
   split
   .rename_i hb
    have h1:=EY h hb (B6 hi).2
    have h2:=h1.trans (TD (JE f) _ h1.ok)
    exact PW h hb (h2.trans (Ae h2.ok))
   rename_i hb;exact L3 h (by simpa using hb)
  split
  .rename_i hb;exact tM h hb
  have h1:=Di h
  exact h1.trans (X0 _ _ _ _ h1.ok)
theorem SD(h:okP p):Nx p (cdS p).2:=TD (JE 41) p h
theorem X1:∀(k:Nat) (l:List Ar) (p:Pr),okP p->Nx p (argL k l p).2
 |0,l,p,h=>.refl h
 |k+1,l,p,h=>by
  simp only[argL]
  split
  .have h1:=Di h
   split
   .rename_i hi;exact h1.trans (Av h1.ok hi)
   have h2:=h1.trans (Ae (t:=[44]) h1.ok)
   exact h2.trans (X1 k _ _ h2.ok)
  exact .refl h
theorem Pm(h:okP p):Nx p (argW p).2:=by
 unfold argW
 split
 .rename_i hi;exact Av h hi
 exact X1 _ _ _ h
theorem MM{f:Nat}(h:okP p)(ob:FU p=true)(hd:dpU (f+1) p):dpU f (adv (C9 p)):=by
 have h3:=(Qb h ob).2.2
 show 41<=(C9 p).deep+(f:Int)
 rw[h3];have:41<=p.deep+((f+1:Nat):Int):=hd;simp only;omega
abbrev yS(f:Nat)(p:Pr):Prop:=okP p/\dpU f p
abbrev LA(f:Nat)(p:Pr):SV:=.one (cdC (DK f p).1)
abbrev LB(f:Nat)(p:Pr):List (Option MV):=[some (zPr,[(DK f p).2.c])]
noncomputable abbrev Pn:ArgM ((Pr)×Unit):=(amP (mPr) am0)
abbrev Po(f:Nat):Prop:=Bv Tryz.prog 119 ((Pn).args 0) (Pn).mem (λp:(Pr)×Unit=>yS f p.1) (λp:(Pr)×Unit=>LA f p.1) (λp:(Pr)×Unit=>LB f p.1)
noncomputable def GK{X:Ctx}{w0:World}(f:Nat)(h:Po f):Sy.Spec Tryz.prog X w0:=Cl 119 Tryz.call119 (Pn) _ _ _ KF1 KF0 KF2 h
abbrev yT(f:Nat)(p:Pr):Prop:=okP p/\dpU f p
abbrev Zc(f:Nat)(p:Pr):SV:=.one (cdC (K2 (DK f) p).1)
abbrev Zd(f:Nat)(p:Pr):List (Option MV):=[some (zPr,[(K2 (DK f) p).2.c])]
noncomputable abbrev Pp:ArgM ((Pr)×Unit):=(amP (mPr) am0)
abbrev ik(f:Nat):Prop:=Bv Tryz.prog 116 ((Pp).args 0) (Pp).mem (λp:(Pr)×Unit=>yT f p.1) (λp:(Pr)×Unit=>Zc f p.1) (λp:(Pr)×Unit=>Zd f p.1)
noncomputable def VO{X:Ctx}{w0:World}(f:Nat)(h:ik f):Sy.Spec Tryz.prog X w0:=Cl 116 Tryz.call116 (Pp) _ _ _ KF1 KF0 KF2 h
attribute [local go_sem] Pr.c zTk
theorem qQ(f:Nat)(hu:Po f):ik f:=by
 rintro ⟨p,_u⟩ w M I lab fz xs hc hA hl hx
 refine Aa Tryz.func116 rfl ((Pp).mem ⟨p,_u⟩) w M I lab fz [A6,(GK f hu)] [] ((Pp).args 0 ⟨p,_u⟩) ((λp:(Pr)×Unit=>Zd f p.1) ⟨p,_u⟩) ((λp:(Pr)×Unit=>Zc f p.1) ⟨p,_u⟩) xs hA hl hx (λv hv k hk=>by have:=(Pp).an 0 ⟨p,_u⟩ v hv k hk;omega) (jN rfl) (jN rfl) ?_
 clear hx hl hA xs
 simp only[Tryz.f116]
 simp only[seval,go_sem,A6,GK,Ap,Ao,Aq,Ah,Tok.r,Ak,ptR,An,AP,AO,AQ]
 obtain⟨hc1,hc2⟩:=hc
 dsimp only at hc1 hc2
 have hu0:=JE f p hc1
 refine⟨⟨hc1,hc2⟩,?_⟩
 refine AK (Y:=Nat×Cd×Pr) (λy=>okP y.2.2/\dpU f y.2.2/\(y.2.2.l.length:Int)<=y.2.2.i+(y.1:Int)/\Nr (DK f) y.1 y.2.1 y.2.2=K2 (DK f) p)
  (λy=>⟨[(0,true,.one (.p 0 0 0)),(3,true,.one (cdC y.2.1))],[(0,.vec 0 zPr [y.2.2.c])]⟩)
  (λy=>y.1) (p.l.length,(DK f p).1,(DK f p).2) ⟨hu0.ok,by show dpU f _;unfold dpU;rw[hu0.d];exact hc2,by have:=hu0.ok.1;simp only[hu0.l];omega,by show Nr _ _ _ _=K2 _ _;rfl⟩ ?_ ?_
 .refine A4 [] ?_;simp only[seval,go_sem]
 rintro ⟨k,a,q⟩ ⟨h1,h2,h3,h4⟩
 refine AZ [A6,(GK f hu)] [] _ _ _ ?_
 dsimp only at h1 h2 h3 h4
 cases i0:isT [38,38] q with
 |true=>
  obtain⟨k',rfl⟩:∃k',k=k'+1:=⟨k-1,by have:=(B6 i0).2;omega⟩
  simp only[Nr,i0,if_true]at h4
  have ha:=Av h1 i0
  have hu1:=JE f _ ha.ok
  have hai:=Iw h1 (B6 i0).2
  simp only[seval,go_sem,i0,A6,GK,Bi,adv,Ap,Ao,Aq,Ah,Tok.r,Ak,ptR,An,AP,AO,AQ]
  refine⟨h1,⟨ha.ok,h2⟩,(k',Cd.mk 6 .nil .nil a (DK f (adv q)).1 [],(DK f (adv q)).2),⟨hu1.ok,by show dpU f _;unfold dpU;rw[hu1.d];exact h2,?_,?_⟩,Nat.lt_succ_self _,A4 [.fz 12] ?_⟩
  .dsimp only;have hi1:=hu1.i;rw[hai]at hi1;rw[hu1.l];show (q.l.length:Int)<=_;omega
  .exact h4
  simp only[seval,go_sem,adv,E3,Bw,QT,H4]
 |false=>
 have hr:(a,q)=K2 (DK f) p:=by
  rw[<- h4];cases k<;>simp[Nr,i0]
 simp only[seval,go_sem,i0,A6,Bi,Ap,Ao,Aq,Ah,Tok.r,Ak,ptR,An,AP,AO,AQ]
 try simp only[A2,A3]
 repeat' first|exact ck|with_reducible apply And.intro|intro _
 all_goals first|exact h1|exact KZ|(refine A1 [] ?_;simp only[seval,go_sem,bne,Zc,Zd,<- hr])
abbrev tN(f:Nat)(p:Pr):Prop:=okP p/\dpU f p
abbrev X2(f:Nat)(p:Pr):SV:=.one (cdC (Lc (DK f) p).1)
abbrev X3(f:Nat)(p:Pr):List (Option MV):=[some (zPr,[(Lc (DK f) p).2.c])]
noncomputable abbrev NN:ArgM ((Pr)×Unit):=(amP (mPr) am0)
abbrev X4(f:Nat):Prop:=Bv Tryz.prog 97 ((NN).args 0) (NN).mem (λp:(Pr)×Unit=>tN f p.1) (λp:(Pr)×Unit=>X2 f p.1) (λp:(Pr)×Unit=>X3 f p.1)
noncomputable def DH{X:Ctx}{w0:World}(f:Nat)(h:X4 f):Sy.Spec Tryz.prog X w0:=Cl 97 Tryz.call97 (NN) _ _ _ KF1 KF0 KF2 h
theorem il(f:Nat)(hu:Po f):X4 f:=by
 rintro ⟨p,_u⟩ w M I lab fz xs hc hA hl hx
 refine Aa Tryz.func97 rfl ((NN).mem ⟨p,_u⟩) w M I lab fz [A6,(VO f (qQ f hu))] [] ((NN).args 0 ⟨p,_u⟩) ((λp:(Pr)×Unit=>X3 f p.1) ⟨p,_u⟩) ((λp:(Pr)×Unit=>X2 f p.1) ⟨p,_u⟩) xs hA hl hx (λv hv k hk=>by have:=(NN).an 0 ⟨p,_u⟩ v hv k hk;omega) (jN rfl) (jN rfl) ?_
 clear hx hl hA xs
 simp only[Tryz.f97]
 simp only[seval,go_sem,A6,VO,Ap,Ao,Aq,Ah,Tok.r,Ak,ptR,An,AP,AO,AQ]
 obtain⟨hc1,hc2⟩:=hc
 dsimp only at hc1 hc2
 have hu0:=Jj (JE f) p hc1
 refine⟨⟨hc1,hc2⟩,?_⟩
 refine AK (Y:=Nat×Cd×Pr) (λy=>okP y.2.2/\dpU f y.2.2/\(y.2.2.l.length:Int)<=y.2.2.i+(y.1:Int)/\Ns (DK f) y.1 y.2.1 y.2.2=Lc (DK f) p)
  (λy=>⟨[(0,true,.one (.p 0 0 0)),(3,true,.one (cdC y.2.1))],[(0,.vec 0 zPr [y.2.2.c])]⟩)
  (λy=>y.1) (p.l.length,(K2 (DK f) p).1,(K2 (DK f) p).2) ⟨hu0.ok,by show dpU f _;unfold dpU;rw[hu0.d];exact hc2,by have:=hu0.ok.1;simp only[hu0.l];omega,by show Ns _ _ _ _=Lc _ _;rfl⟩ ?_ ?_
 .refine A4 [] ?_;simp only[seval,go_sem]
 rintro ⟨k,a,q⟩ ⟨h1,h2,h3,h4⟩
 refine AZ [A6,(VO f (qQ f hu))] [] _ _ _ ?_
 dsimp only at h1 h2 h3 h4
 cases i0:isT [124,124] q with
 |true=>
  obtain⟨k',rfl⟩:∃k',k=k'+1:=⟨k-1,by have:=(B6 i0).2;omega⟩
  simp only[Ns,i0,if_true]at h4
  have ha:=Av h1 i0
  have hu1:=Jj (JE f) _ ha.ok
  have hai:=Iw h1 (B6 i0).2
  simp only[seval,go_sem,i0,A6,VO,Bi,adv,Ap,Ao,Aq,Ah,Tok.r,Ak,ptR,An,AP,AO,AQ]
  refine⟨h1,⟨ha.ok,h2⟩,(k',Cd.mk 7 .nil .nil a (K2 (DK f) (adv q)).1 [],(K2 (DK f) (adv q)).2),⟨hu1.ok,by show dpU f _;unfold dpU;rw[hu1.d];exact h2,?_,?_⟩,Nat.lt_succ_self _,A4 [.fz 12] ?_⟩
  .dsimp only;have hi1:=hu1.i;rw[hai]at hi1;rw[hu1.l];show (q.l.length:Int)<=_;omega
  .exact h4
  simp only[seval,go_sem,adv,E3,Bw,QT,H4]
 |false=>
 have hr:(a,q)=Lc (DK f) p:=by
  rw[<- h4];cases k<;>simp[Ns,i0]
 simp only[seval,go_sem,i0,A6,Bi,Ap,Ao,Aq,Ah,Tok.r,Ak,ptR,An,AP,AO,AQ]
 try simp only[A2,A3]
 repeat' first|exact ck|with_reducible apply And.intro|intro _
 all_goals first|exact h1|exact KZ|(refine A1 [] ?_;simp only[seval,go_sem,bne,X2,X3,<- hr])
noncomputable abbrev X5{X:Ctx}{w0:World}:Sy.Spec Tryz.prog X w0:=Dp 41 (qL 41 (mc 41))
def cO(s:List UInt8):List C:=[.v (.string (bs s))]
theorem A3t{i:Nat}{x:List UInt8}(h:cmpO[i]?=some x):(cmpO.map cO).getD i [.v (.string (bs []))]=cO x:=by simp[List.getD,h]
theorem yU(f:Nat)(hu:Po f)(hs:X4 f):Po (f+1):=by
 rintro ⟨p,_u⟩ w M I lab fz xs hc hA hl hx
 refine Aa Tryz.func119 rfl ((Pn).mem ⟨p,_u⟩) w M I lab fz [AS,A7,AL,A9,AC,A6,(GK f hu),(DH f hs),X5] [] ((Pn).args 0 ⟨p,_u⟩) ((λp:(Pr)×Unit=>LB (f+1) p.1) ⟨p,_u⟩) ((λp:(Pr)×Unit=>LA (f+1) p.1) ⟨p,_u⟩) xs hA hl hx (λv hv k hk=>by have:=(Pn).an 0 ⟨p,_u⟩ v hv k hk;omega) (jN rfl) (jN rfl) ?_
 clear hx hl hA xs
 simp only[Tryz.f119]
 obtain⟨hc1,hc2⟩:=hc
 dsimp only at hc1 hc2
 have hI:=hc1.i
 cases i0:isT [33] p with
 |true=>
  cases ob:FU p with
  |false=>
   have hr:DK (f+1) p=(.nil,C9 p):=by simp[DK,i0,ob]
   simp only[seval,go_sem,AS,BR,A7,AM,AL,A9,AC,AG,A6,GK,DH,Dp,Ap,Ao,Aq,Ah,Tok.r,Ak,ptR,An,AP,AO,AQ,i0,ob]
   try simp only[A2,A3]
   try exact KZ9
  |true=>
  have hr:DK (f+1) p=(.mk 8 .nil .nil (DK f (adv (C9 p))).1 .nil [],shut (DK f (adv (C9 p))).2):=by simp[DK,i0,ob]
  have ha:=EY hc1 ob (B6 i0).2
  have hd:=MM hc1 ob hc2
  simp only[seval,go_sem,AS,BR,A7,AM,AL,A9,AC,AG,A6,GK,DH,Dp,Ap,Ao,Aq,Ah,Tok.r,Ak,ptR,An,AP,AO,AQ,i0,ob]
  try simp only[A2,A3]
  repeat' first|exact ck|with_reducible apply And.intro|intro _
  all_goals first|exact hI|exact hc1|exact ha.ok|exact hd|exact KZ|(refine A1 [.fz 33] ?_;simp only[seval,go_sem,bne,LA,LB,hr,Bw,E3,QT,H4,shut,adv])
 |false=>
 cases i1:isT [40] p with
 |true=>
  cases ob:FU p with
  |false=>
   have hr:DK (f+1) p=(.nil,C9 p):=by simp[DK,i0,i1,ob]
   simp only[seval,go_sem,AS,BR,A7,AM,AL,A9,AC,AG,A6,GK,DH,Dp,Ap,Ao,Aq,Ah,Tok.r,Ak,ptR,An,AP,AO,AQ,i0,i1,ob]
   try simp only[A2,A3]
   try exact KZ9
  |true=>
  have hr:DK (f+1) p=((Lc (DK f) (adv (C9 p))).1,shut (BW [41] (Lc (DK f) (adv (C9 p))).2)):=by simp[DK,i0,i1,ob]
  have ha:=EY hc1 ob (B6 i1).2
  have hd:=MM hc1 ob hc2
  have hs2:=TD (JE f) _ ha.ok
  simp only[seval,go_sem,AS,BR,A7,AM,AL,A9,AC,AG,A6,GK,DH,Dp,Ap,Ao,Aq,Ah,Tok.r,Ak,ptR,An,AP,AO,AQ,i0,i1,ob]
  try simp only[A2,A3]
  repeat' first|exact ck|with_reducible apply And.intro|intro _
  all_goals first|exact hI|exact hc1|exact ha.ok|exact hd|exact hs2.ok|exact KZ|(refine A1 [] ?_;simp only[seval,go_sem,bne,LA,LB,hr,shut,adv])
 |false=>
 cases hn:Ok p with
 |true=>
  have hr:DK (f+1) p=(SB p,Wz p):=by simp[DK,i0,i1,hn]
  obtain⟨n1,n2,n3,n4,n5⟩:=ij hc1 hn
  have hn':=hn
  have hna:nameB p=true:=by unfold Ok at hn;simp only[and_eq_true]at hn;exact hn.1.1.1
  unfold Ok tkA at hn'
  simp only[w64i]at hn' n3 n4 n5
  have q1:(0<=p.i)=True:=by simp[hc1.1]
  have q2:(p.i<(p.l.length:Int))=True:=by simp;omega
  have q3:(0<=p.i+2)=True:=by have:=hc1.1;simp;omega
  have q4:(p.i+2<(p.l.length:Int))=True:=by simp[n2]
  have q5:(0<=p.i+1)=True:=by have:=hc1.1;simp;omega
  have q6:(p.i+1<(p.l.length:Int))=True:=by simp;omega
  simp only[n4,n5,hna,Bool.true_and,and_eq_true,decide_eq_true_eq]at hn'
  obtain⟨⟨z1,z2⟩,z3⟩:=hn'
  have z0:decide (p.i+2<(p.l.length:Int))=true:=by simp[n2]
  cases z4:((p.l.getD (p.i+1).toNat tk0).t==[33,61]) with
  |true=>
   have hc':SB p= .mk 8 .nil .nil (.mk 9 .nil .nil .nil .nil (tk p).t) .nil []:=by unfold SB tkA;simp only[w64i,n5];rw[if_pos z4]
   cases z5:((p.l.getD (p.i+1).toNat tk0).t==[61,61]) with
   |true=>rw[beq_iff_eq]at z4 z5;rw[z4]at z5;cases z5
   |false=>
   simp only[seval,go_sem,AS,BR,A7,AM,AL,A9,AC,AG,A6,GK,DH,Dp,Ap,Ao,Aq,Ah,Tok.r,Ak,ptR,An,AP,AO,AQ,i0,i1,hna,n3,n4,n5,q1,q2,q3,q4,q5,q6,z0,z2,z4,z5]
   try simp only[A2,A3]
   repeat' first|exact ck|with_reducible apply And.intro|intro _
   all_goals first|exact hI|exact hc1|exact KZ|(refine A1 [.fz 131,.fz 147] ?_;simp only[seval,go_sem,bne,LA,LB,hr,hc',E3,Bw,Cd.d,Ex.d,Wz,tk,n3])
  |false=>
  have hc':SB p= .mk 9 .nil .nil .nil .nil (tk p).t:=by unfold SB tkA;simp only[w64i,n5];rw[if_neg (by rw[z4];decide)]
  have z5:((p.l.getD (p.i+1).toNat tk0).t==[61,61])=true:=by rw[z4]at z3;simpa using z3
  simp only[seval,go_sem,AS,BR,A7,AM,AL,A9,AC,AG,A6,GK,DH,Dp,Ap,Ao,Aq,Ah,Tok.r,Ak,ptR,An,AP,AO,AQ,i0,i1,hna,n3,n4,n5,q1,q2,q3,q4,q5,q6,z0,z2,z4,z5]
  try simp only[A2,A3]
  repeat' first|exact ck|with_reducible apply And.intro|intro _
  all_goals first|exact hI|exact hc1|exact KZ|(refine A1 [.fz 131] ?_;simp only[seval,go_sem,bne,LA,LB,hr,hc',E3,Bw,QT,H4,Wz,tk,n3])
 |false=>
 have hr:DK (f+1) p=Mh (exS p).2 (exS p).1 cmpO 0:=by simp[DK,i0,i1,hn]
 have hn':=hn
 unfold Ok tkA at hn'
 simp only[w64i]at hn'
 have q1:=hc1.1
 have q2:p.i+2<9223372036854775808:=by have:=hc1.2.1;have:=hc1.2.2.1;omega
 have n4:IntKind.i64.wrap (p.i+2)=p.i+2:=wrap_i64 (by omega) (by omega)
 have n5:IntKind.i64.wrap (p.i+1)=p.i+1:=wrap_i64 (by omega) (by omega)
 simp only[n4,n5]at hn'
 have hu0:=Di hc1
 simp only[seval,go_sem,AS,BR,A7,AM,AL,A9,AC,AG,A6,GK,DH,Dp,Ap,Ao,Aq,Ah,Tok.r,Ak,ptR,An,AP,AO,AQ,i0,i1,hn',n4,n5]
 refine⟨hI,hI,hI,?_,?_,?_,?_,CH (by kernel_rfl),⟨hc1,K0 hc1⟩,?_⟩
 .exact λh=>⟨h,h,by omega,by simp only[and_eq_true,decide_eq_true_eq]at h;omega⟩
 .exact λh=>⟨h,h,by omega,by simp only[and_eq_true,decide_eq_true_eq]at h;omega⟩
 .exact λh=>⟨h,h,by omega,by simp only[and_eq_true,decide_eq_true_eq]at h;omega⟩
 .exact λh=>⟨h,λh2=>by rw[h,h2];rfl⟩
 generalize hq:(exS p).2=q at hr hu0
 generalize ha:(exS p).1=a at hr
 have hq1:(Jz (unF 41) p).2=q:=hq
 have ha1:(Jz (unF 41) p).1=a:=ha
 have hq0:=hu0.ok
 have hlen:cmpO.length=6:=rfl
 refine AK (Y:=Nat) (λk=>k<=6/\Mh q a (cmpO.drop k) (k:Int)=Mh q a cmpO 0)
  (λk=>⟨[(0,true,.one (.p 0 0 0)),(6,true,.one (exC a)),(7,true,.one (.s 1000)),(8,true,.one (.v (.int .i64 (k:Int))))],[(0,.vec 0 zPr [q.c]),(1000,.vec 0 [.v (.string (bs []))] (cmpO.map cO))]⟩)
  (λk=>6-k) 0 ⟨Nat.zero_le _,rfl⟩ ?_ ?_
 .refine A4 [.mv 158 1000] ?_;simp only[seval,go_sem,cmpO,cO]
 rintro k ⟨hk,hJ⟩
 refine AZ [AS,A7,AL,A9,AC,A6,GK f hu,DH f hs,X5] [] _ _ _ ?_
 cases hx:cmpO[k]? with
 |none=>
  have hk2:cmpO.length<=k:=List.getElem?_eq_none_iff.1 hx
  have h1:decide ((k:Int)<6)=false:=by simp;omega
  rw[List.drop_eq_nil_of_le hk2]at hJ
  simp only[Mh]at hJ
  simp only[seval,go_sem,AS,BR,A7,AM,AL,A9,AC,AG,A6,GK,DH,Dp,Ap,Ao,Aq,Ah,Tok.r,Ak,ptR,An,AP,AO,AQ,h1]
  try simp only[A2,A3]
  repeat' first|exact ck|with_reducible apply And.intro|intro _
  all_goals first|exact hq0.i|exact KZ|(refine A1 [] ?_;simp only[seval,go_sem,bne,LA,LB,hr,<- hJ,Bw])
 |some x=>
 have hlt:k<cmpO.length:=(List.getElem?_eq_some_iff.1 hx).1
 have h1:decide ((k:Int)<6)=true:=by simp;omega
 have h2:((k:Int)<(cmpO.length:Int))=True:=by simp;omega
 have h3:=A3t hx
 have h4:=F6 (i:=k) (n:=6) (by omega) (by omega)
 have h5:IntKind.i64.wrap (0+(k:Int))=(k:Int):=by rw[wrap_i64 (by omega) (by omega)];omega
 rw[BJ hx]at hJ
 simp only[Mh]at hJ
 cases it:isT x q with
 |true=>
  rw[if_pos it]at hJ
  have hb:=Av hq0 it
  simp only[seval,go_sem,AS,BR,A7,AM,AL,A9,AC,AG,A6,GK,DH,Dp,Ap,Ao,Aq,Ah,Tok.r,Ak,ptR,An,AP,AO,AQ,h1,h2,h3,h4,h5,cO,it,Bi,adv]
  try simp only[A2,A3]
  repeat' first|exact ck|with_reducible apply And.intro|intro _
  all_goals first|exact hlt|exact hq0|exact hb.ok|exact K0 hb.ok|exact KZ|(refine A1 [.fz 175] ?_;simp only[seval,go_sem,bne,LA,LB,hr,<- hJ,E3,QT,adv])
 |false=>
 rw[if_neg (by rw[it];decide)]at hJ
 simp only[seval,go_sem,AS,BR,A7,AM,AL,A9,AC,AG,A6,GK,DH,Dp,Ap,Ao,Aq,Ah,Tok.r,Ak,ptR,An,AP,AO,AQ,h1,h2,h3,h4,h5,cO,it,Bi]
 refine⟨hlt,hq0,k+1,⟨by omega,hJ⟩,by omega,?_⟩
 refine A4 [] ?_;simp only[seval,go_sem,cmpO,cO]
theorem fE:∀f:Nat,Po f
 |0=>by
  rintro ⟨p,_u⟩ w M I lab fz xs hc hA hl hx
  obtain⟨h1,h2⟩:=hc
  have h3:p.deep<=40:=h1.2.2.2.2.1
  have h4:41<=p.deep+((0:Nat):Int):=h2
  exact absurd h4 (by simp;omega)
 |f+1=>yU f (fE f) (il f (fE f))
noncomputable abbrev A3u{X:Ctx}{w0:World}:Sy.Spec Tryz.prog X w0:=DH 41 (il 41 (fE 41))
end Go.Proofs.YtapedeoheilnnaaGreat
