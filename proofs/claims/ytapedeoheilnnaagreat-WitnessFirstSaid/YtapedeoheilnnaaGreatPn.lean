/- Conditions and arguments, in plain words. No conditions but those in each statement. -/
import Derived.Test.YtapedeoheilnnaaGreatPa1
import Derived.Test.YtapedeoheilnnaaGreatPa2
set_option linter.all false
set_option maxRecDepth 20000
set_option maxHeartbeats 8000000
open Bool (and_eq_true)
namespace Go.Proofs.YtapedeoheilnnaaGreat
open Go Go.Sy Go.RowKit
theorem AAN{P:Prop}(h:P:=by exact λh=>⟨h,h,by omega,by simp only[and_eq_true,decide_eq_true_eq]at h;omega⟩):P:=h
variable{p:Pr}{u:Pr->R Cd}
def tkA(p:Pr)(k:Int):Tok:=p.l.getD k.toNat tk0
def P2(p:Pr):Bool:=nameB p&&decide (w64i (p.i+2)<(p.l.length:Int))&&(tkA p (w64i (p.i+2))).t==[110,117,108,108]&&((tkA p (w64i (p.i+1))).t==[61,61]||(tkA p (w64i (p.i+1))).t==[33,61])
def X4(p:Pr):Pr:={ p with i:=w64i (p.i+3) }
def cmpO:List (List UInt8):=[[61,61],[33,61],[60],[60,61],[62],[62,61]]
def Mp(q:Pr)(a:Ex):List (List UInt8)->Int->R Cd
 |[],_=>(.nil,DK 51 q)
 |t::l,k=>if isT t q=true then (.mk k a (exS (adv q)).1 .nil .nil [],(exS (adv q)).2) else Mp q a l (k+1)
def O5(nt:Pr->R Cd):Nat->Cd->Pr->R Cd
 |0,c,p=>(c,p)
 |k+1,c,p=>if isT [38,38] p=true then O5 nt k (.mk 6 .nil .nil c (nt (adv p)).1 []) (nt (adv p)).2 else (c,p)
def K9(nt:Pr->R Cd)(p:Pr):R Cd:=O5 nt p.l.length (nt p).1 (nt p).2
def O6(nt:Pr->R Cd):Nat->Cd->Pr->R Cd
 |0,c,p=>(c,p)
 |k+1,c,p=>if isT [124,124] p=true then O6 nt k (.mk 7 .nil .nil c (K9 nt (adv p)).1 []) (K9 nt (adv p)).2 else (c,p)
def Ll(nt:Pr->R Cd)(p:Pr):R Cd:=O6 nt p.l.length (K9 nt p).1 (K9 nt p).2
def SK(p:Pr):Cd:=if ((tkA p (w64i (p.i+1))).t==[33,61])=true then .mk 8 .nil .nil (.mk 9 .nil .nil .nil .nil (tk p).t) .nil [] else .mk 9 .nil .nil .nil .nil (tk p).t
def Db:Nat->Pr->R Cd
 |0,p=>(.nil,p)
 |f+1,p=>
  if isT [33] p=true then
   (if Fh p=true then (.mk 8 .nil .nil (Db f (adv (CO p))).1 .nil [],shut (Db f (adv (CO p))).2) else (.nil,CO p))
  else if isT [40] p=true then
   (if Fh p=true then ((Ll (Db f) (adv (CO p))).1,shut (Bd [41] (Ll (Db f) (adv (CO p))).2)) else (.nil,CO p))
  else if P2 p=true then (SK p,X4 p)
  else Mp (exS p).2 (exS p).1 cmpO 0
abbrev cdS:Pr->R Cd:=Ll (Db 41)
def argL:Nat->List Ar->Pr->R (List Ar)
 |0,_,p=>([],p)
 |k+1,l,p=>
  if (p.e==0)=true then
   (if isT [41] (exS p).2=true then (l++[⟨false,[],(exS p).1⟩],adv (exS p).2) else argL k (l++[⟨false,[],(exS p).1⟩]) (Bd [44] (exS p).2))
  else ([],p)
def argW(p:Pr):R (List Ar):=if isT [41] p=true then ([],adv p) else argL (p.l.length+1) [] p
theorem Ds(h:okP p):Nx p (exS p).2:=T3 (JA 41) p h
theorem B0{t:List UInt8}(h:okP p)(hi:isT t p=true):Nx p (adv p):=Ey h (BA hi).2 (BA hi).1
theorem jO(h:okP p)(hb:P2 p=true):p.e=0/\p.i+2<(p.l.length:Int)/\w64i (p.i+3)=p.i+3/\w64i (p.i+2)=p.i+2/\w64i (p.i+1)=p.i+1:=by
 unfold P2 at hb
 simp only[and_eq_true,decide_eq_true_eq]at hb
 obtain⟨h1,h2,h3,_⟩:=h
 have e2:w64i (p.i+2)=p.i+2:=by unfold w64i;rw[wrap_i64 (by omega) (by omega)]
 rw[e2]at hb
 refine⟨(Jo hb.1.1.1).1,hb.1.1.2,?_,e2,?_⟩<;>unfold w64i<;>rw[wrap_i64 (by omega) (by omega)]
theorem tw(h:okP p)(hb:P2 p=true):Nx p (X4 p):=by
 obtain⟨e1,e2,e3,_⟩:=jO h hb
 obtain⟨h1,h2,h3,h4⟩:=h
 have e:(X4 p).i=p.i+3:=e3
 exact⟨⟨by rw[e];omega,by rw[e];show p.i+3<=(p.l.length:Int);omega,h3,h4⟩,rfl,rfl,by rw[e];omega,rfl,λh=>absurd e1 h⟩
theorem X5(a:Ex):∀(l:List (List UInt8)) (k:Int) (q:Pr),okP q->Nx q (Mp q a l k).2
 |[],k,q,h=>FY 51 h
 |t::l,k,q,h=>by
  simp only[Mp]
  split
  .rename_i hi
   have h1:=B0 h hi
   exact h1.trans (Ds h1.ok)
  exact X5 a l (k+1) q h
theorem TQ(hu:∀p,okP p->Nx p (u p).2):∀(k:Nat) (a:Cd) (p:Pr),okP p->Nx p (O5 u k a p).2
 |0,a,p,h=>.refl h
 |k+1,a,p,h=>by
  simp only[O5]
  split
  .rename_i hi
   have h1:=B0 h hi
   have h2:=hu _ h1.ok
   exact(h1.trans h2).trans (TQ hu k _ _ h2.ok)
  exact .refl h
theorem Js(hu:∀p,okP p->Nx p (u p).2)(p:Pr)(h:okP p):Nx p (K9 u p).2:=(hu p h).trans (TQ hu _ _ _ (hu p h).ok)
theorem TR(hu:∀p,okP p->Nx p (u p).2):∀(k:Nat) (a:Cd) (p:Pr),okP p->Nx p (O6 u k a p).2
 |0,a,p,h=>.refl h
 |k+1,a,p,h=>by
  simp only[O6]
  split
  .rename_i hi
   have h1:=B0 h hi
   have h2:=Js hu _ h1.ok
   exact(h1.trans h2).trans (TR hu k _ _ h2.ok)
  exact .refl h
theorem TS(hu:∀p,okP p->Nx p (u p).2)(p:Pr)(h:okP p):Nx p (Ll u p).2:=(Js hu p h).trans (TR hu _ _ _ (Js hu p h).ok)
theorem JK:∀(f:Nat) (p:Pr),okP p->Nx p (Db f p).2
 |0,p,h=>.refl h
 |f+1,p,h=>by
  simp only[Db]
  split
  .rename_i hi
   split
   .rename_i hb
    have h1:=Ef h hb (BA hi).2
    exact Ps h hb (h1.trans (JK f _ h1.ok))
   exact AAZ
  split
  .rename_i hi
   split
   .rename_i hb
    have h1:=Ef h hb (BA hi).2
    have h2:=h1.trans (TS (JK f) _ h1.ok)
    exact Ps h hb (h2.trans (Ak h2.ok))
   exact AAZ
  split
  .rename_i hb;exact tw h hb
  have h1:=Ds h
  exact h1.trans (X5 _ _ _ _ h1.ok)
theorem SL(h:okP p):Nx p (cdS p).2:=TS (JK 41) p h
theorem X6:∀(k:Nat) (l:List Ar) (p:Pr),okP p->Nx p (argL k l p).2
 |0,l,p,h=>.refl h
 |k+1,l,p,h=>by
  simp only[argL]
  split
  .have h1:=Ds h
   split
   .rename_i hi;exact h1.trans (B0 h1.ok hi)
   have h2:=h1.trans (Ak (t:=[44]) h1.ok)
   exact h2.trans (X6 k _ _ h2.ok)
  exact .refl h
theorem QA(h:okP p):Nx p (argW p).2:=by
 unfold argW
 split
 .rename_i hi;exact B0 h hi
 exact X6 _ _ _ h
theorem MS{f:Nat}(h:okP p)(ob:Fh p=true)(hd:dpU (f+1) p):dpU f (adv (CO p)):=by
 have h3:=(Qv h ob).2.2
 show 41<=(CO p).deep+(f:Int)
 rw[h3];have:41<=p.deep+((f+1:Nat):Int):=hd;simp only;omega
abbrev yz(f:Nat)(p:Pr):Prop:=okP p/\dpU f p
abbrev KD(f:Nat)(p:Pr):SV:=.one (cdC (Db f p).1)
abbrev KE(f:Nat)(p:Pr):List (Option MV):=[some (zPr,[(Db f p).2.c])]
noncomputable abbrev QB:ArgM ((Pr)×Unit):=(amP (mPr) am0)
abbrev QC(f:Nat):Prop:=C7 Tryz.prog 119 ((QB).args 0) (QB).mem (λp:(Pr)×Unit=>yz f p.1) (λp:(Pr)×Unit=>KD f p.1) (λp:(Pr)×Unit=>KE f p.1)
noncomputable def GX{X:Ctx}{w0:World}(f:Nat)(h:QC f):Sy.Spec Tryz.prog X w0:=D0 119 Tryz.call119 (QB) _ _ _ KF1 KF0 KF4 h
abbrev z7(f:Nat)(p:Pr):Prop:=okP p/\dpU f p
abbrev Zy(f:Nat)(p:Pr):SV:=.one (cdC (K9 (Db f) p).1)
abbrev Zz(f:Nat)(p:Pr):List (Option MV):=[some (zPr,[(K9 (Db f) p).2.c])]
noncomputable abbrev QD:ArgM ((Pr)×Unit):=(amP (mPr) am0)
abbrev jQ(f:Nat):Prop:=C7 Tryz.prog 116 ((QD).args 0) (QD).mem (λp:(Pr)×Unit=>z7 f p.1) (λp:(Pr)×Unit=>Zy f p.1) (λp:(Pr)×Unit=>Zz f p.1)
noncomputable def Vh{X:Ctx}{w0:World}(f:Nat)(h:jQ f):Sy.Spec Tryz.prog X w0:=D0 116 Tryz.call116 (QD) _ _ _ KF1 KF0 KF4 h
attribute [local go_sem] Pr.c zTk
theorem qp(f:Nat)(hu:QC f):jQ f:=by
 rintro ⟨p,_u⟩ w M I lab fz xs hc hA hl hx
 refine Ac Tryz.func116 rfl ((QD).mem ⟨p,_u⟩) w M I lab fz [A6,(GX f hu)] [] ((QD).args 0 ⟨p,_u⟩) ((λp:(Pr)×Unit=>Zz f p.1) ⟨p,_u⟩) ((λp:(Pr)×Unit=>Zy f p.1) ⟨p,_u⟩) xs hA hl hx (λv hv k hk=>by have:=(QD).an 0 ⟨p,_u⟩ v hv k hk;omega) (jN rfl) (jN rfl) ?_
 clear hx hl hA xs
 simp only[Tryz.f116]
 simp only[seval,go_sem,A6,GX,Av,Au,Aw,Al,Tok.r,Ao,ptR,As,AR,AQ,AS]
 obtain⟨hc1,hc2⟩:=hc
 dsimp only at hc1 hc2
 have hu0:=JK f p hc1
 refine⟨⟨hc1,hc2⟩,?_⟩
 refine AC (Y:=Nat×Cd×Pr) (λy=>okP y.2.2/\dpU f y.2.2/\(y.2.2.l.length:Int)<=y.2.2.i+(y.1:Int)/\O5 (Db f) y.1 y.2.1 y.2.2=K9 (Db f) p)
  (λy=>⟨[(0,true,.one (.p 0 0 0)),(3,true,.one (cdC y.2.1))],[(0,.vec 0 zPr [y.2.2.c])]⟩)
  (λy=>y.1) (p.l.length,(Db f p).1,(Db f p).2) ⟨hu0.ok,by show dpU f _;unfold dpU;rw[hu0.d];exact hc2,by have:=hu0.ok.1;simp only[hu0.l];omega,by show O5 _ _ _ _=K9 _ _;rfl⟩ ?_ ?_
 .exact N4
 rintro ⟨k,a,q⟩ ⟨h1,h2,h3,h4⟩
 refine AP [A6,(GX f hu)] [] _ _ _ ?_
 dsimp only at h1 h2 h3 h4
 cases i0:isT [38,38] q with
 |true=>
  obtain⟨k',rfl⟩:∃k',k=k'+1:=⟨k-1,by have:=(BA i0).2;omega⟩
  simp only[O5,i0,if_true]at h4
  have ha:=B0 h1 i0
  have hu1:=JK f _ ha.ok
  have hai:=J9 h1 (BA i0).2
  simp only[seval,go_sem,i0,A6,GX,Bt,adv,Av,Au,Aw,Al,Tok.r,Ao,ptR,As,AR,AQ,AS]
  refine⟨h1,⟨ha.ok,h2⟩,(k',Cd.mk 6 .nil .nil a (Db f (adv q)).1 [],(Db f (adv q)).2),⟨hu1.ok,by show dpU f _;unfold dpU;rw[hu1.d];exact h2,?_,?_⟩,Nat.lt_succ_self _,A2 [.fz 12] ?_⟩
  .exact YM
  .exact h4
  simp only[seval,go_sem,adv,EF,BD,Qp,HI]
 |false=>
 have hr:(a,q)=K9 (Db f) p:=by
  rw[<- h4];cases k<;>simp[O5,i0]
 simp only[seval,go_sem,i0,A6,Bt,Av,Au,Aw,Al,Tok.r,Ao,ptR,As,AR,AQ,AS]
 repeat refine AX ?_
 refine A1 [] ?_;simp only[seval,go_sem,bne,Zy,Zz,<- hr]
abbrev tx(f:Nat)(p:Pr):Prop:=okP p/\dpU f p
abbrev X7(f:Nat)(p:Pr):SV:=.one (cdC (Ll (Db f) p).1)
abbrev X8(f:Nat)(p:Pr):List (Option MV):=[some (zPr,[(Ll (Db f) p).2.c])]
noncomputable abbrev NX:ArgM ((Pr)×Unit):=(amP (mPr) am0)
abbrev X9(f:Nat):Prop:=C7 Tryz.prog 97 ((NX).args 0) (NX).mem (λp:(Pr)×Unit=>tx f p.1) (λp:(Pr)×Unit=>X7 f p.1) (λp:(Pr)×Unit=>X8 f p.1)
noncomputable def DX{X:Ctx}{w0:World}(f:Nat)(h:X9 f):Sy.Spec Tryz.prog X w0:=D0 97 Tryz.call97 (NX) _ _ _ KF1 KF0 KF4 h
theorem jR(f:Nat)(hu:QC f):X9 f:=by
 rintro ⟨p,_u⟩ w M I lab fz xs hc hA hl hx
 refine Ac Tryz.func97 rfl ((NX).mem ⟨p,_u⟩) w M I lab fz [A6,(Vh f (qp f hu))] [] ((NX).args 0 ⟨p,_u⟩) ((λp:(Pr)×Unit=>X8 f p.1) ⟨p,_u⟩) ((λp:(Pr)×Unit=>X7 f p.1) ⟨p,_u⟩) xs hA hl hx (λv hv k hk=>by have:=(NX).an 0 ⟨p,_u⟩ v hv k hk;omega) (jN rfl) (jN rfl) ?_
 clear hx hl hA xs
 simp only[Tryz.f97]
 simp only[seval,go_sem,A6,Vh,Av,Au,Aw,Al,Tok.r,Ao,ptR,As,AR,AQ,AS]
 obtain⟨hc1,hc2⟩:=hc
 dsimp only at hc1 hc2
 have hu0:=Js (JK f) p hc1
 refine⟨⟨hc1,hc2⟩,?_⟩
 refine AC (Y:=Nat×Cd×Pr) (λy=>okP y.2.2/\dpU f y.2.2/\(y.2.2.l.length:Int)<=y.2.2.i+(y.1:Int)/\O6 (Db f) y.1 y.2.1 y.2.2=Ll (Db f) p)
  (λy=>⟨[(0,true,.one (.p 0 0 0)),(3,true,.one (cdC y.2.1))],[(0,.vec 0 zPr [y.2.2.c])]⟩)
  (λy=>y.1) (p.l.length,(K9 (Db f) p).1,(K9 (Db f) p).2) ⟨hu0.ok,by show dpU f _;unfold dpU;rw[hu0.d];exact hc2,by have:=hu0.ok.1;simp only[hu0.l];omega,by show O6 _ _ _ _=Ll _ _;rfl⟩ ?_ ?_
 .exact N4
 rintro ⟨k,a,q⟩ ⟨h1,h2,h3,h4⟩
 refine AP [A6,(Vh f (qp f hu))] [] _ _ _ ?_
 dsimp only at h1 h2 h3 h4
 cases i0:isT [124,124] q with
 |true=>
  obtain⟨k',rfl⟩:∃k',k=k'+1:=⟨k-1,by have:=(BA i0).2;omega⟩
  simp only[O6,i0,if_true]at h4
  have ha:=B0 h1 i0
  have hu1:=Js (JK f) _ ha.ok
  have hai:=J9 h1 (BA i0).2
  simp only[seval,go_sem,i0,A6,Vh,Bt,adv,Av,Au,Aw,Al,Tok.r,Ao,ptR,As,AR,AQ,AS]
  refine⟨h1,⟨ha.ok,h2⟩,(k',Cd.mk 7 .nil .nil a (K9 (Db f) (adv q)).1 [],(K9 (Db f) (adv q)).2),⟨hu1.ok,by show dpU f _;unfold dpU;rw[hu1.d];exact h2,?_,?_⟩,Nat.lt_succ_self _,A2 [.fz 12] ?_⟩
  .exact YM
  .exact h4
  simp only[seval,go_sem,adv,EF,BD,Qp,HI]
 |false=>
 have hr:(a,q)=Ll (Db f) p:=by
  rw[<- h4];cases k<;>simp[O6,i0]
 simp only[seval,go_sem,i0,A6,Bt,Av,Au,Aw,Al,Tok.r,Ao,ptR,As,AR,AQ,AS]
 repeat refine AX ?_
 refine A1 [] ?_;simp only[seval,go_sem,bne,X7,X8,<- hr]
noncomputable abbrev XA{X:Ctx}{w0:World}:Sy.Spec Tryz.prog X w0:=Dy 41 (qj 41 (nG 41))
def cO(s:List UInt8):List C:=[.v (.string (bs s))]
theorem A42{i:Nat}{x:List UInt8}(h:cmpO[i]?=some x):(cmpO.map cO).getD i [.v (.string (bs []))]=cO x:=by simp[List.getD,h]
theorem z8(f:Nat)(hu:QC f)(hs:X9 f):QC (f+1):=by
 rintro ⟨p,_u⟩ w M I lab fz xs hc hA hl hx
 refine Ac Tryz.func119 rfl ((QB).mem ⟨p,_u⟩) w M I lab fz [AV,A7,AN,AB,AG,A6,(GX f hu),(DX f hs),XA] [] ((QB).args 0 ⟨p,_u⟩) ((λp:(Pr)×Unit=>KE (f+1) p.1) ⟨p,_u⟩) ((λp:(Pr)×Unit=>KD (f+1) p.1) ⟨p,_u⟩) xs hA hl hx (λv hv k hk=>by have:=(QB).an 0 ⟨p,_u⟩ v hv k hk;omega) (jN rfl) (jN rfl) ?_
 clear hx hl hA xs
 simp only[Tryz.f119]
 obtain⟨hc1,hc2⟩:=hc
 dsimp only at hc1 hc2
 have hI:=hc1.i
 cases i0:isT [33] p with
 |true=>
  cases ob:Fh p with
  |false=>
   have hr:Db (f+1) p=(.nil,CO p):=by simp[Db,i0,ob]
   simp only[seval,go_sem,AV,Bb,A7,AO,AN,AB,AG,AJ,A6,GX,DX,Dy,Av,Au,Aw,Al,Tok.r,Ao,ptR,As,AR,AQ,AS,i0,ob]
   repeat refine AX ?_
   refine A1 [] ?_;simp only[seval,go_sem,bne,KD,KE,hr,BD]
  |true=>
  have hr:Db (f+1) p=(.mk 8 .nil .nil (Db f (adv (CO p))).1 .nil [],shut (Db f (adv (CO p))).2):=by simp[Db,i0,ob]
  have ha:=Ef hc1 ob (BA i0).2
  have hd:=MS hc1 ob hc2
  simp only[seval,go_sem,AV,Bb,A7,AO,AN,AB,AG,AJ,A6,GX,DX,Dy,Av,Au,Aw,Al,Tok.r,Ao,ptR,As,AR,AQ,AS,i0,ob]
  have:=ha.ok;repeat refine AX ?_
  refine A1 [.fz 33] ?_;simp only[seval,go_sem,bne,KD,KE,hr,BD,EF,Qp,HI,shut,adv]
 |false=>
 cases i1:isT [40] p with
 |true=>
  cases ob:Fh p with
  |false=>
   have hr:Db (f+1) p=(.nil,CO p):=by simp[Db,i0,i1,ob]
   simp only[seval,go_sem,AV,Bb,A7,AO,AN,AB,AG,AJ,A6,GX,DX,Dy,Av,Au,Aw,Al,Tok.r,Ao,ptR,As,AR,AQ,AS,i0,i1,ob]
   repeat refine AX ?_
   refine A1 [] ?_;simp only[seval,go_sem,bne,KD,KE,hr,BD]
  |true=>
  have hr:Db (f+1) p=((Ll (Db f) (adv (CO p))).1,shut (Bd [41] (Ll (Db f) (adv (CO p))).2)):=by simp[Db,i0,i1,ob]
  have ha:=Ef hc1 ob (BA i1).2
  have hd:=MS hc1 ob hc2
  have hs2:=TS (JK f) _ ha.ok
  simp only[seval,go_sem,AV,Bb,A7,AO,AN,AB,AG,AJ,A6,GX,DX,Dy,Av,Au,Aw,Al,Tok.r,Ao,ptR,As,AR,AQ,AS,i0,i1,ob]
  have:=ha.ok;have:=hs2.ok;repeat refine AX ?_
  refine A1 [] ?_;simp only[seval,go_sem,bne,KD,KE,hr,shut,adv]
 |false=>
 cases hn:P2 p with
 |true=>
  have hr:Db (f+1) p=(SK p,X4 p):=by simp[Db,i0,i1,hn]
  obtain⟨n1,n2,n3,n4,n5⟩:=jO hc1 hn
  have hn':=hn
  have hna:nameB p=true:=by unfold P2 at hn;simp only[and_eq_true]at hn;exact hn.1.1.1
  unfold P2 tkA at hn'
  simp only[w64i]at hn' n3 n4 n5
  have q1:(0<=p.i)=True:=by simp[hc1.1]
  have q2:(p.i<(p.l.length:Int))=True:=by simp;omega
  have q3:(0<=p.i+2)=True:=by have:=hc1.1;simp;omega
  have q4:(p.i+2<(p.l.length:Int))=True:=by simp[n2]
  have q5:(0<=p.i+1)=True:=by have:=hc1.1;simp;omega
  have q6:(p.i+1<(p.l.length:Int))=True:=by simp;omega
  simp only[n4,n5,hna,Bool.true_and,and_eq_true,decide_eq_true_eq]at hn'
  obtain⟨⟨z1,z2⟩,z3⟩:=hn'
  have z0:decide (p.i+2<(p.l.length:Int))=true:=by simp[n2]
  cases z4:((p.l.getD (p.i+1).toNat tk0).t==[33,61]) with
  |true=>
   have hc':SK p= .mk 8 .nil .nil (.mk 9 .nil .nil .nil .nil (tk p).t) .nil []:=by unfold SK tkA;simp only[w64i,n5];rw[if_pos z4]
   cases z5:((p.l.getD (p.i+1).toNat tk0).t==[61,61]) with
   |true=>rw[beq_iff_eq]at z4 z5;rw[z4]at z5;cases z5
   |false=>
   simp only[seval,go_sem,AV,Bb,A7,AO,AN,AB,AG,AJ,A6,GX,DX,Dy,Av,Au,Aw,Al,Tok.r,Ao,ptR,As,AR,AQ,AS,i0,i1,hna,n3,n4,n5,q1,q2,q3,q4,q5,q6,z0,z2,z4,z5]
   repeat refine AX ?_
   refine A1 [.fz 131,.fz 147] ?_;simp only[seval,go_sem,bne,KD,KE,hr,hc',EF,BD,Cd.d,Ex.d,X4,tk,n3]
  |false=>
  have hc':SK p= .mk 9 .nil .nil .nil .nil (tk p).t:=by unfold SK tkA;simp only[w64i,n5];rw[if_neg (by rw[z4];decide)]
  have z5:((p.l.getD (p.i+1).toNat tk0).t==[61,61])=true:=by rw[z4]at z3;simpa using z3
  simp only[seval,go_sem,AV,Bb,A7,AO,AN,AB,AG,AJ,A6,GX,DX,Dy,Av,Au,Aw,Al,Tok.r,Ao,ptR,As,AR,AQ,AS,i0,i1,hna,n3,n4,n5,q1,q2,q3,q4,q5,q6,z0,z2,z4,z5]
  repeat refine AX ?_
  refine A1 [.fz 131] ?_;simp only[seval,go_sem,bne,KD,KE,hr,hc',EF,BD,Qp,HI,X4,tk,n3]
 |false=>
 have hr:Db (f+1) p=Mp (exS p).2 (exS p).1 cmpO 0:=by simp[Db,i0,i1,hn]
 have hn':=hn
 unfold P2 tkA at hn'
 simp only[w64i]at hn'
 have q1:=hc1.1
 have q2:p.i+2<9223372036854775808:=by have:=hc1.2.1;have:=hc1.2.2.1;omega
 have n4:IntKind.i64.wrap (p.i+2)=p.i+2:=wrap_i64 (by omega) (by omega)
 have n5:IntKind.i64.wrap (p.i+1)=p.i+1:=wrap_i64 (by omega) (by omega)
 simp only[n4,n5]at hn'
 have hu0:=Ds hc1
 simp only[seval,go_sem,AV,Bb,A7,AO,AN,AB,AG,AJ,A6,GX,DX,Dy,Av,Au,Aw,Al,Tok.r,Ao,ptR,As,AR,AQ,AS,i0,i1,hn',n4,n5]
 refine⟨hI,hI,hI,?_,?_,?_,?_,Bn (by kernel_rfl),⟨hc1,K8 hc1⟩,?_⟩
 .exact AAN
 .exact AAN
 .exact AAN
 .exact λh=>⟨h,λh2=>by rw[h,h2];rfl⟩
 generalize hq:(exS p).2=q at hr hu0
 generalize ha:(exS p).1=a at hr
 have hq1:(K7 (unF 41) p).2=q:=hq
 have ha1:(K7 (unF 41) p).1=a:=ha
 have hq0:=hu0.ok
 have hlen:cmpO.length=6:=rfl
 refine AC (Y:=Nat) (λk=>k<=6/\Mp q a (cmpO.drop k) (k:Int)=Mp q a cmpO 0)
  (λk=>⟨[(0,true,.one (.p 0 0 0)),(6,true,.one (exC a)),(7,true,.one (.s 1000)),(8,true,.one (.v (.int .i64 (k:Int))))],[(0,.vec 0 zPr [q.c]),(1000,.vec 0 [.v (.string (bs []))] (cmpO.map cO))]⟩)
  (λk=>6-k) 0 ⟨Nat.zero_le _,rfl⟩ ?_ ?_
 .refine A2 [.mv 158 1000] ?_;simp only[seval,go_sem,cmpO,cO]
 rintro k ⟨hk,hJ⟩
 refine AP [AV,A7,AN,AB,AG,A6,GX f hu,DX f hs,XA] [] _ _ _ ?_
 cases hx:cmpO[k]? with
 |none=>
  have hk2:cmpO.length<=k:=List.getElem?_eq_none_iff.1 hx
  have h1:decide ((k:Int)<6)=false:=by simp;omega
  rw[List.drop_eq_nil_of_le hk2]at hJ
  simp only[Mp]at hJ
  simp only[seval,go_sem,AV,Bb,A7,AO,AN,AB,AG,AJ,A6,GX,DX,Dy,Av,Au,Aw,Al,Tok.r,Ao,ptR,As,AR,AQ,AS,h1]
  have:=hq0.i;repeat refine AX ?_
  refine A1 [] ?_;simp only[seval,go_sem,bne,KD,KE,hr,<- hJ,BD]
 |some x=>
 have hlt:k<cmpO.length:=(List.getElem?_eq_some_iff.1 hx).1
 have h1:decide ((k:Int)<6)=true:=by simp;omega
 have h2:((k:Int)<(cmpO.length:Int))=True:=by simp;omega
 have h3:=A42 hx
 have h4:=FH (i:=k) (n:=6) (by omega) (by omega)
 have h5:IntKind.i64.wrap (0+(k:Int))=(k:Int):=by rw[wrap_i64 (by omega) (by omega)];omega
 rw[BF hx]at hJ
 simp only[Mp]at hJ
 cases it:isT x q with
 |true=>
  rw[if_pos it]at hJ
  have hb:=B0 hq0 it
  simp only[seval,go_sem,AV,Bb,A7,AO,AN,AB,AG,AJ,A6,GX,DX,Dy,Av,Au,Aw,Al,Tok.r,Ao,ptR,As,AR,AQ,AS,h1,h2,h3,h4,h5,cO,it,Bt,adv]
  have:=hb.ok;have:=K8 hb.ok;repeat refine AX ?_
  refine A1 [.fz 175] ?_;simp only[seval,go_sem,bne,KD,KE,hr,<- hJ,EF,Qp,adv]
 |false=>
 rw[if_neg (by rw[it];decide)]at hJ
 simp only[seval,go_sem,AV,Bb,A7,AO,AN,AB,AG,AJ,A6,GX,DX,Dy,Av,Au,Aw,Al,Tok.r,Ao,ptR,As,AR,AQ,AS,h1,h2,h3,h4,h5,cO,it,Bt]
 refine⟨hlt,hq0,k+1,⟨by omega,hJ⟩,by omega,?_⟩
 refine A2 [] ?_;simp only[seval,go_sem,cmpO,cO]
theorem fc:∀f:Nat,QC f
 |0=>by
  exact Ye
 |f+1=>z8 f (fc f) (jR f (fc f))
noncomputable abbrev A43{X:Ctx}{w0:World}:Sy.Spec Tryz.prog X w0:=DX 41 (jR 41 (fc 41))
end Go.Proofs.YtapedeoheilnnaaGreat
