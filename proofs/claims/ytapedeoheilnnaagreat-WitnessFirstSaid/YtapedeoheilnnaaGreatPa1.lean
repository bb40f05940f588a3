/- The parser's small functions. No conditions but those in each statement. -/
import Derived.Test.YtapedeoheilnnaaGreatZr6
import Derived.Test.YtapedeoheilnnaaGreatMi0
set_option linter.all false
namespace Go.Proofs.YtapedeoheilnnaaGreat
open Go Go.Sy Go.RowKit
theorem rN{P:Prop}(h:P:=by
 have h1:=Ey h (BA hi).2 (BA hi).1
 have h2:=hu _ h1.ok
 exact(h1.trans h2).trans (Lf hu k _ _ h2.ok)):P:=h
theorem AAZ{P:Prop}(h:P:=by rename_i hb;exact LA h (by simpa using hb)):P:=h
variable{p:Pr}{t:List UInt8}
theorem sf:Ca Tryz.prog 56 (acS cStr ac0) (λp=>E1 p.1) (λp=>.tup [.inl (.d (.sl zTk ((rxT p.1).1.map Tok.r))),.inl (.v (.int .i64 (rxT p.1).2.1)),.inl (.v (.int .i64 (rxT p.1).2.2))]):=j9
abbrev qZ(p:Pr)(t:List UInt8):Prop:=okI p
abbrev Bb(p:Pr)(t:List UInt8):Value:=Value.bool (isT t p)
theorem A6t:Mg Tryz.prog 64 (ahS (cPt rPr) (ahS (cStr.H) ah0)) (λp:(Pr×(List UInt8×Unit))=>qZ p.1 p.2.1) (λp:(Pr×(List UInt8×Unit))=>ofV (Bb p.1 p.2.1)):=by
 rintro ⟨p,t,_u⟩ w fz xs hc hfz hl hx
 refine Jr Tryz.func64 rfl w fz [] [] (ahS (cPt rPr) (ahS (cStr.H) ah0)) (λp:(Pr×(List UInt8×Unit))=>ofV (Bb p.1 p.2.1)) _ xs hfz hl hx (jN rfl) ?_
 clear hx hl hfz xs
 simp only[Tryz.f64]
 simp only[seval,go_sem,qi,Ao,rl,rj,Pr.r,Al,Tok.r,zTk]
 have h0:0<=p.i:=mh hc
 try simp only[AD,AE]
 repeat' first|exact ck|with_reducible apply And.intro|intro _
 all_goals try simp only[bne,Bool.not_eq_true',Bool.not_eq_false',Bool.not_not] at*
 all_goals first
  |(refine A1 [] ?_;simp only[seval,go_sem,bne,Bb,isT,tk];first|done|(simp only[*,if_true,if_false,jB,Bool.true_or,Bool.or_true,Bool.false_or,Bool.or_false,Bool.and_false,Bool.false_and,Bool.true_and,Bool.and_true,Bool.not_true,Bool.not_false,Bool.or_self,Bool.and_self,Int.reduceEq,Int.reduceNeg,Nat.reduceEqDiff,reduceCtorEq,MI,MJ,Gt,Hv,and_self,↓reduceIte];done)|(simp_all [isT,tk];done))
  |omega
  |(simp only[decide_eq_true_eq,decide_eq_false_iff_not]at *;omega)
  |(simp_all [isT,tk];done)
  |(simp_all [isT,tk];omega)
  |trace_state
theorem KF3{p:Prop}(h:p:=by intro p;rfl):p:=h
noncomputable def AV{X:Ctx}{w0:World}:Sy.Spec Tryz.prog X w0:=Rf 64 Tryz.call64 (ahS (cPt rPr) (ahS (cStr.H) ah0)) (λp:(Pr×(List UInt8×Unit))=>qZ p.1 p.2.1) (λp:(Pr×(List UInt8×Unit))=>Bb p.1 p.2.1) KF3 A6t
abbrev cu(s:List UInt8):Prop:=True
abbrev NG(s:List UInt8):Value:=Value.bool (KN s)
theorem y9:Mg Tryz.prog 78 (ahS (cStr.H) ah0) (λp:(List UInt8×Unit)=>cu p.1) (λp:(List UInt8×Unit)=>ofV (NG p.1)):=by
 rintro ⟨s,_u⟩ w fz xs hc hfz hl hx
 refine Jr Tryz.func78 rfl w fz [] [] (ahS (cStr.H) ah0) (λp:(List UInt8×Unit)=>ofV (NG p.1)) _ xs hfz hl hx (jN rfl) ?_
 clear hx hl hfz xs
 simp only[Tryz.f78]
 simp only[seval,go_sem]
 refine AC (Y:=Nat) (λi=>i<=Le.length/\(Le.drop i).any (·==s)=KN s)
  (λi=>⟨[(0,true,.one (.v (.string (bs s)))),(3,true,.one (.s 1000)),(4,true,.one (.v (.int .i64 (i:Int))))],[(1000,.vec 0 [.v (.string (bs []))] (Le.map cS))]⟩)
  (λi=>Le.length-i) 0 ⟨Nat.zero_le _,rfl⟩ ?_ ?_
 .refine A2 [.mv 5 1000] ?_;simp only[seval,go_sem,Le,cS]
 rintro i ⟨hi,hJ⟩
 refine AP [] [] _ _ _ ?_
 have hl:Le.length=11:=rfl
 cases hx:Le[i]? with
 |none=>
  have hi2:Le.length<=i:=List.getElem?_eq_none_iff.1 hx
  have h1:=Ai hi2
  rw[List.drop_eq_nil_of_le hi2]at hJ
  have hR:KN s=false:=hJ.symm
  simp only[seval,go_sem,h1]
  refine A1 [] ?_;simp only[seval,go_sem,bne,NG,hR]
 |some x=>
 have hlt:i<Le.length:=(List.getElem?_eq_some_iff.1 hx).1
 have h1:=Ah hlt
 have h2:=GU hlt
 have h3:=A33 hx
 have h4:=FH hi (by decide)
 rw[BF hx,List.any_cons]at hJ
 simp only[seval,go_sem,h1,h2,h3,h4,cS]
 simp only[AD,AE]
 refine⟨hlt,λhb=>?_,λhb=>?_⟩
 .rw[hb,Bool.true_or]at hJ
  refine A1 [] ?_;simp only[seval,go_sem,bne,NG,<- hJ]
 rw[hb,Bool.false_or]at hJ
 refine⟨i+1,⟨hlt,hJ⟩,by omega,A2 [] ?_⟩
 simp only[seval,go_sem,bk,cS]
 try (simp[Le,cS,C.names])
noncomputable def cv{X:Ctx}{w0:World}:Sy.Spec Tryz.prog X w0:=Rf 78 Tryz.call78 (ahS (cStr.H) ah0) (λp:(List UInt8×Unit)=>cu p.1) (λp:(List UInt8×Unit)=>NG p.1) KF3 y9
abbrev YS(s:List UInt8):Prop:=E1 s
abbrev I8(s:List UInt8):Value:=Value.int .i64 (numW s 0)
theorem mi:Mg Tryz.prog 62 (ahS (cStr.H) ah0) (λp:(List UInt8×Unit)=>YS p.1) (λp:(List UInt8×Unit)=>ofV (I8 p.1)):=by
 rintro ⟨s,_u⟩ w fz xs hc hfz hl hx
 refine Jr Tryz.func62 rfl w fz [] [] (ahS (cStr.H) ah0) (λp:(List UInt8×Unit)=>ofV (I8 p.1)) _ xs hfz hl hx (jN rfl) ?_
 clear hx hl hfz xs
 simp only[Tryz.f62]
 simp only[seval,go_sem]
 have hs:s.length<=4294967296:=hc
 refine AC (Y:=Nat×Int) (λy=>y.1<=s.length/\numW (s.drop y.1) y.2=numW s 0)
  (λy=>⟨[(0,true,.one (.v (.string (bs s)))),(3,true,.one (.v (.int .i64 y.2))),(4,true,.one (.v (.int .i64 (y.1:Int))))],[]⟩)
  (λy=>s.length-y.1) (0,0) ⟨Nat.zero_le _,rfl⟩ ?_ ?_
 .exact N4
 rintro ⟨i,n⟩ ⟨hi,hJ⟩
 simp only at hi hJ
 refine AP [] [] _ _ _ ?_
 by_cases hlt:i<s.length
 .have h1:=Ah hlt
  have h2:=GU hlt
  have h3:=FH hi hs
  rw[List.drop_eq_getElem_cons hlt]at hJ
  simp only[numW]at hJ
  have h4:s[i]=s.getD i 0:=by simp[List.getD,hlt]
  rw[h4]at hJ
  simp only[seval,go_sem,h1,h2,h3]
  refine⟨(i+1,w64i (w64i (10*n)+w64i (IntKind.u8.wrap (((s.getD i 0).toNat:Int)-48)))),⟨hlt,hJ⟩,by dsimp only;omega,?_⟩
  exact N4
 have h1:=Ai (Nat.le_of_not_lt hlt)
 rw[List.drop_eq_nil_of_le (Nat.le_of_not_lt hlt)]at hJ
 have hJ':n=numW s 0:=hJ
 simp only[seval,go_sem,h1]
 refine A1 [] ?_;simp only[seval,go_sem,bne,I8,<- hJ']
noncomputable def JF{X:Ctx}{w0:World}:Sy.Spec Tryz.prog X w0:=Rf 62 Tryz.call62 (ahS (cStr.H) ah0) (λp:(List UInt8×Unit)=>YS p.1) (λp:(List UInt8×Unit)=>I8 p.1) KF3 mi
abbrev Zg(p:Pr):Prop:=okI p
abbrev AO(p:Pr):Value:=Value.bool (nameB p)
theorem sg:Mg Tryz.prog 59 (ahS (cPt rPr) ah0) (λp:(Pr×Unit)=>Zg p.1) (λp:(Pr×Unit)=>ofV (AO p.1)):=by
 rintro ⟨p,_u⟩ w fz xs hc hfz hl hx
 refine Jr Tryz.func59 rfl w fz [cv] [] (ahS (cPt rPr) ah0) (λp:(Pr×Unit)=>ofV (AO p.1)) _ xs hfz hl hx (jN rfl) ?_
 clear hx hl hfz xs
 simp only[Tryz.f59]
 simp only[seval,go_sem,cv,qi,Ao,rl,rj,Pr.r,Al,Tok.r,zTk,NG]
 have h0:0<=p.i:=mh hc
 try simp only[AD,AE]
 repeat' first|exact ck|with_reducible apply And.intro|intro _
 all_goals try simp only[bne,Bool.not_eq_true',Bool.not_eq_false',Bool.not_not] at*
 all_goals first
  |(refine A1 [] ?_;simp only[seval,go_sem,bne,AO,nameB,tk];first|done|(simp only[*,if_true,if_false,jB,Bool.true_or,Bool.or_true,Bool.false_or,Bool.or_false,Bool.and_false,Bool.false_and,Bool.true_and,Bool.and_true,Bool.not_true,Bool.not_false,Bool.or_self,Bool.and_self,Int.reduceEq,Int.reduceNeg,Nat.reduceEqDiff,reduceCtorEq,MI,MJ,Gt,Hv,and_self,↓reduceIte];done)|(simp_all [nameB,tk];done))
  |omega
  |(simp only[decide_eq_true_eq,decide_eq_false_iff_not]at *;omega)
  |(simp_all [nameB,tk];done)
  |(simp_all [nameB,tk];omega)
  |trace_state
noncomputable def A7{X:Ctx}{w0:World}:Sy.Spec Tryz.prog X w0:=Rf 59 Tryz.call59 (ahS (cPt rPr) ah0) (λp:(Pr×Unit)=>Zg p.1) (λp:(Pr×Unit)=>AO p.1) KF3 sg
abbrev si(p:Pr)(c:Int):Prop:=okI p
abbrev Wa(p:Pr)(c:Int):SV:=.tup []
abbrev Wb(p:Pr)(c:Int):List (Option MV):=[some (zPr,[(DK c p).c])]
noncomputable abbrev NH:ArgM ((Pr)×(Int)×Unit):=(amP (mPr) (amD (cInt .i64) am0))
abbrev sj:Prop:=C7 Tryz.prog 60 ((NH).args 0) (NH).mem (λp:(Pr)×(Int)×Unit=>si p.1 p.2.1) (λp:(Pr)×(Int)×Unit=>Wa p.1 p.2.1) (λp:(Pr)×(Int)×Unit=>Wb p.1 p.2.1)
theorem yA:sj:=by
 rintro ⟨p,c,_u⟩ w M I lab fz xs hc hA hl hx
 refine Ac Tryz.func60 rfl ((NH).mem ⟨p,c,_u⟩) w M I lab fz [] [] ((NH).args 0 ⟨p,c,_u⟩) ((λp:(Pr)×(Int)×Unit=>Wb p.1 p.2.1) ⟨p,c,_u⟩) ((λp:(Pr)×(Int)×Unit=>Wa p.1 p.2.1) ⟨p,c,_u⟩) xs hA hl hx (λv hv k hk=>by have:=(NH).an 0 ⟨p,c,_u⟩ v hv k hk;omega) (jN rfl) (jN rfl) ?_
 clear hx hl hA xs
 simp only[Tryz.f60]
 simp only[seval,go_sem,Av,Au,Pr.c,Al,Tok.r,zTk]
 have h0:0<=p.i:=mh hc
 try simp only[AD,AE]
 repeat' first|exact ck|with_reducible apply And.intro|intro _
 all_goals try simp only[bne,Bool.not_eq_true',Bool.not_eq_false',Bool.not_not] at*
 all_goals first
  |(refine A1 [] ?_;simp only[seval,go_sem,bne,Wa,Wb,DK,tk,Pr.c,zTk];first|done|(simp only[*,if_true,if_false,jB,Bool.true_or,Bool.or_true,Bool.false_or,Bool.or_false,Bool.and_false,Bool.false_and,Bool.true_and,Bool.and_true,Bool.not_true,Bool.not_false,Bool.or_self,Bool.and_self,Int.reduceEq,Int.reduceNeg,Nat.reduceEqDiff,reduceCtorEq,MI,MJ,Gt,Hv,and_self,↓reduceIte];done)|(simp_all [DK,tk];done))
  |omega
  |(simp only[decide_eq_true_eq,decide_eq_false_iff_not]at *;omega)
  |(simp_all [DK,tk];done)
  |(simp_all [DK,tk];omega)
  |trace_state
theorem KF4{p:Prop}(h:p:=by intro p _;exact A21 _):p:=h
noncomputable def AB{X:Ctx}{w0:World}:Sy.Spec Tryz.prog X w0:=D0 60 Tryz.call60 (NH) _ _ _ KF1 KF0 KF4 yA
def adv(p:Pr):Pr:={ p with i:=w64i (p.i+1) }
def Bt(t:List UInt8)(p:Pr):Pr:=if isT t p=true then adv p else p
def Bd(t:List UInt8)(p:Pr):Pr:=if isT t p=true then adv p else DK 51 p
def E3(p:Pr):List UInt8:=if nameB p=true then (tk p).t else []
def CI(p:Pr):Pr:=if nameB p=true then adv p else DK 51 p
def Fh(p:Pr):Bool:=p.e==0&&!decide (40<=p.deep)
def CO(p:Pr):Pr:=if (p.e==0)=true then (if decide (40<=p.deep)=true then DK 52 p else { p with deep:=w64i (p.deep+1) }) else p
def shut(p:Pr):Pr:={ p with deep:=w64i (p.deep-1) }
def outB(p:Pr):Bool:=p.e != 0||decide ((p.l.length:Int)<=p.i)
abbrev R(A:Type):=A×Pr
def HB(u:Pr->R Ex):Nat->Ex->Pr->R Ex
 |0,a,p=>(a,p)
 |k+1,a,p=>
  if (p.e==0)=true then
   (
    if isT [42] p=true then HB u k (.mk 4 0 [] a (u (adv p)).1) (u (adv p)).2
    else if isT [47] p=true then HB u k (.mk 5 0 [] a (u (adv p)).1) (u (adv p)).2
    else if isT [37] p=true then HB u k (.mk 6 0 [] a (u (adv p)).1) (u (adv p)).2
    else (a,p))
  else (a,p)
def F2(u:Pr->R Ex)(p:Pr):R Ex:=HB u p.l.length (u p).1 (u p).2
def K6(u:Pr->R Ex):Nat->Ex->Pr->R Ex
 |0,a,p=>(a,p)
 |k+1,a,p=>
  if (p.e==0)=true then
   (
    if isT [45] p=true then K6 u k (.mk 3 0 [] a (F2 u (adv p)).1) (F2 u (adv p)).2
    else if isT [43] p=true then K6 u k (.mk 2 0 [] a (F2 u (adv p)).1) (F2 u (adv p)).2
    else (a,p))
  else (a,p)
def K7(u:Pr->R Ex)(p:Pr):R Ex:=K6 u p.l.length (F2 u p).1 (F2 u p).2
def unF:Nat->Pr->R Ex
 |0,p=>(.nil,p)
 |f+1,p=>
  if outB p=true then (.nil,DK 51 p)
  else if isT [45] p=true then
   (if Fh p=true then (.mk 7 0 [] (unF f (adv (CO p))).1 .nil,shut (unF f (adv (CO p))).2) else (.nil,CO p))
  else if isT [40] p=true then
   (if Fh p=true then ((K7 (unF f) (adv (CO p))).1,shut (Bd [41] (K7 (unF f) (adv (CO p))).2)) else (.nil,CO p))
  else if ((tk p).k==1)=true then (.mk 0 (numW (tk p).t 0) [] .nil .nil,adv p)
  else if nameB p=true then (.mk 1 0 (E3 p) .nil .nil,CI p)
  else (.nil,DK 51 p)
def okP(p:Pr):Prop:=0<=p.i/\p.i<=(p.l.length:Int)/\p.l.length<=4096/\0<=p.deep/\p.deep<=40/\∀x∈p.l,x.t.length<=4096
structure Nx(p q:Pr):Prop where
 ok:okP q
 l:q.l=p.l
 en:q.en=p.en
 i:p.i<=q.i
 d:q.deep=p.deep
 e:p.e≠0->q.e=p.e/\q.at'=p.at'
theorem Nx.refl(h:okP p):Nx p p:=⟨h,rfl,rfl,Int.le_refl _,rfl,λ_=>⟨rfl,rfl⟩⟩
theorem Nx.trans{q r:Pr}(h1:Nx p q)(h2:Nx q r):Nx p r:=
 ⟨h2.ok,h2.l.trans h1.l,h2.en.trans h1.en,Int.le_trans h1.i h2.i,h2.d.trans h1.d,λh=>by
  obtain⟨e1,e2⟩:=h1.e h
  obtain⟨e3,e4⟩:=h2.e (by rw[e1];exact h)
  exact⟨e3.trans e1,e4.trans e2⟩⟩
theorem okP.i(h:okP p):okI p:=⟨h.1,h.2.1,h.2.2.1⟩
theorem BA(h:isT t p=true):p.e=0/\p.i<(p.l.length:Int):=by
 unfold isT at h
 simp only[Bool.and_eq_true,beq_iff_eq,decide_eq_true_eq]at h
 exact⟨h.1.1.1,h.1.1.2⟩
theorem Jo(h:nameB p=true):p.e=0/\p.i<(p.l.length:Int):=by
 unfold nameB at h
 simp only[Bool.and_eq_true,beq_iff_eq,decide_eq_true_eq]at h
 exact⟨h.1.1.1,h.1.1.2⟩
theorem J9(h:okP p)(hi:p.i<(p.l.length:Int)):(adv p).i=p.i+1:=by
 obtain⟨h1,h2,h3,_⟩:=h
 show w64i (p.i+1)=_
 unfold w64i
 rw[wrap_i64 (by omega) (by omega)]
theorem Ey(h:okP p)(hi:p.i<(p.l.length:Int))(he:p.e=0):Nx p (adv p):=by
 have e:=J9 h hi
 obtain⟨h1,h2,h3,h4,h5,h6⟩:=h
 exact⟨⟨by rw[e];omega,by rw[e];show p.i+1<=(p.l.length:Int);omega,h3,h4,h5,h6⟩,rfl,rfl,by rw[e];omega,rfl,λh=>absurd he h⟩
theorem sk(c:Int)(p:Pr):(DK c p).l=p.l/\(DK c p).i=p.i/\(DK c p).en=p.en/\(DK c p).deep=p.deep/\(DK c p).n=p.n:=by
 unfold DK;split<;>exact⟨rfl,rfl,rfl,rfl,rfl⟩
theorem FY(c:Int)(h:okP p):Nx p (DK c p):=by
 obtain⟨e1,e2,e3,e4,e5⟩:=sk c p
 refine⟨?_,e1,e3,by rw[e2];exact Int.le_refl _,e4,λhe=>?_⟩
 .unfold okP;rw[e1,e2,e4];exact h
 unfold DK;rw[if_neg (by simpa using he)];exact⟨rfl,rfl⟩
theorem ie(h:okP p):Nx p (Bt t p):=by
 unfold Bt;split
 .rename_i hi;exact Ey h (BA hi).2 (BA hi).1
 exact .refl h
theorem Ak(h:okP p):Nx p (Bd t p):=by
 unfold Bd;split
 .rename_i hi;exact Ey h (BA hi).2 (BA hi).1
 exact FY 51 h
theorem Fl(h:okP p):Nx p (CI p):=by
 unfold CI;split
 .rename_i hi;exact Ey h (Jo hi).2 (Jo hi).1
 exact FY 51 h
theorem LA(h:okP p)(hb:Fh p=false):Nx p (CO p):=by
 unfold Fh at hb
 unfold CO
 split
 .rename_i he
  rw[he]at hb
  simp only[Bool.true_and,Bool.not_eq_false']at hb
  rw[if_pos hb]
  exact FY 52 h
 exact .refl h
theorem Qv(h:okP p)(hb:Fh p=true):p.e=0/\p.deep<40/\CO p={ p with deep:=p.deep+1 }:=by
 unfold Fh at hb
 simp only[Bool.and_eq_true,beq_iff_eq,Bool.not_eq_true',decide_eq_false_iff_not]at hb
 obtain⟨h1,h2,h3,h4,h5,h6⟩:=h
 refine⟨hb.1,by omega,?_⟩
 unfold CO
 rw[if_pos (by simpa using hb.1),if_neg (by simpa using hb.2)]
 unfold w64i
 rw[wrap_i64 (by omega) (by omega)]
theorem yB(h:okP p)(hb:Fh p=true):okP (CO p):=by
 obtain⟨h1,h2,h3⟩:=Qv h hb
 rw[h3]
 obtain⟨h1,h2,h3,h4,h5,h6⟩:=h
 exact⟨h1,h2,h3,by show 0<=p.deep+1;omega,by show p.deep+1<=40;omega,h6⟩
theorem Ps{q:Pr}(h:okP p)(hb:Fh p=true)(hq:Nx (CO p) q):Nx p (shut q):=by
 obtain⟨h1,h2,h3⟩:=Qv h hb
 obtain⟨⟨o1,o2,o3,o4,o5,o6⟩,e1,e2,e3,e4,e6⟩:=hq
 rw[h3]at e1 e2 e3 e4 e6
 simp only at e1 e2 e3 e4 e6
 have hd:(shut q).deep=p.deep:=by
  show w64i (q.deep-1)=_
  rw[e4];unfold w64i
  rw[wrap_i64 (by omega) (by omega)];omega
 obtain⟨k1,k2,k3,k4,k5,k6⟩:=h
 exact⟨⟨o1,o2,o3,by rw[hd];exact k4,by rw[hd];exact k5,o6⟩,e1,e2,e3,hd,λhe=>absurd h1 he⟩
theorem Lf{u:Pr->R Ex}(hu:∀p,okP p->Nx p (u p).2):∀(k:Nat) (a:Ex) (p:Pr),okP p->Nx p (HB u k a p).2
 |0,a,p,h=>.refl h
 |k+1,a,p,h=>by
  simp only[HB]
  (repeat' split)
  .rename_i he hi
   exact rN
  .rename_i he _ hi
   exact rN
  .rename_i he _ _ hi
   exact rN
  .exact .refl h
  exact .refl h
theorem Gs{u:Pr->R Ex}(hu:∀p,okP p->Nx p (u p).2)(p:Pr)(h:okP p):Nx p (F2 u p).2:=(hu p h).trans (Lf hu _ _ _ (hu p h).ok)
theorem Pt{u:Pr->R Ex}(hu:∀p,okP p->Nx p (u p).2):∀(k:Nat) (a:Ex) (p:Pr),okP p->Nx p (K6 u k a p).2
 |0,a,p,h=>.refl h
 |k+1,a,p,h=>by
  simp only[K6]
  (repeat' split)
  .rename_i he hi
   have h1:=Ey h (BA hi).2 (BA hi).1
   have h2:=Gs hu _ h1.ok
   exact(h1.trans h2).trans (Pt hu k _ _ h2.ok)
  .rename_i he _ hi
   have h1:=Ey h (BA hi).2 (BA hi).1
   have h2:=Gs hu _ h1.ok
   exact(h1.trans h2).trans (Pt hu k _ _ h2.ok)
  .exact .refl h
  exact .refl h
theorem T3{u:Pr->R Ex}(hu:∀p,okP p->Nx p (u p).2)(p:Pr)(h:okP p):Nx p (K7 u p).2:=(Gs hu p h).trans (Pt hu _ _ _ (Gs hu p h).ok)
theorem A34(h:okP p)(hb:Fh p=true):(CO p).i=p.i/\(CO p).l=p.l/\(CO p).e=p.e:=by
 rw[(Qv h hb).2.2];exact⟨rfl,rfl,rfl⟩
theorem Ef(h:okP p)(hb:Fh p=true)(hi:p.i<(p.l.length:Int)):Nx (CO p) (adv (CO p)):=by
 obtain⟨e1,e2,e3⟩:=A34 h hb
 exact Ey (yB h hb) (by rw[e1,e2];exact hi) (by rw[e3];exact(Qv h hb).1)
theorem JA:∀(f:Nat) (p:Pr),okP p->Nx p (unF f p).2
 |0,p,h=>.refl h
 |f+1,p,h=>by
  simp only[unF]
  split
  .exact FY 51 h
  split
  .rename_i hi
   split
   .rename_i hb
    have h1:=Ef h hb (BA hi).2
    exact Ps h hb (h1.trans (JA f _ h1.ok))
   exact AAZ
  split
  .rename_i hi
   split
   .rename_i hb
    have h1:=Ef h hb (BA hi).2
    have h2:=h1.trans (T3 (JA f) _ h1.ok)
    exact Ps h hb (h2.trans (Ak h2.ok))
   exact AAZ
  split
  .rename_i ho _ _ _
   unfold outB at ho
   simp only[Bool.or_eq_true,bne_iff_ne,ne_eq,decide_eq_true_eq,not_or,Decidable.not_not]at ho
   exact Ey h (by omega) ho.1
  split
  .exact Fl h
  exact FY 51 h
abbrev dpU(f:Nat)(p:Pr):Prop:=41<=p.deep+(f:Int)
theorem cw(h:okP p)(hi:p.i<(p.l.length:Int)):w64i (w64i (p.i+1)-1)=p.i:=by
 obtain⟨h1,h2,h3,_⟩:=h
 unfold w64i
 rw[wrap_i64 (n:=p.i+1) (by omega) (by omega),wrap_i64 (by omega) (by omega)];omega
theorem ig(h:okP p):(nameB p=false/\nameB p=false/\nameB p=false/\nameB p=false)∨(nameB p=true/\IntKind.i64.wrap (IntKind.i64.wrap (p.i+1)-1)=p.i/\(0<=p.i)=True/\(p.i<(p.l.length:Int))=True):=by
 cases hb:nameB p with
 |false=>simp_all
 |true=>exact .inr ⟨rfl,cw h (Jo hb).2,by simp[h.1],by simp[(Jo hb).2]⟩
theorem yC(h:okP p)(hi:p.i<(p.l.length:Int)):E1 (tk p).t:=by
 obtain⟨h1,h2,h3,h4,h5,h8⟩:=h
 have hm:tk p∈p.l:=by
  unfold tk
  have:p.i.toNat<p.l.length:=by omega
  rw[List.getD,List.getElem?_eq_getElem this];exact List.getElem_mem this
 have:=h8 _ hm
 show _<=4294967296
 omega
abbrev exS:Pr->R Ex:=K7 (unF 41)
theorem K8(h:okP p):dpU 41 p:=by
 have:=h.2.2.2.1
 show 41<=p.deep+((41:Nat):Int)
 simp;omega
theorem VK(h:okP p)(h0:(Bd t p).e=0):(Bd t p).i=p.i+1:=by
 unfold Bd at h0 ⊢
 cases ic:isT t p with
 |true=>rw[ic]at h0;rw[if_pos rfl];exact J9 h (BA ic).2
 |false=>
 rw[ic,if_neg (by decide)]at h0
 unfold DK at h0
 split at h0
 .simp_all
 simp_all
theorem ii(h:isT t p=true):Bt t p=adv p:=by unfold Bt;rw[if_pos h]
theorem ij(h:isT t p=false):Bt t p=p:=by unfold Bt;rw[if_neg (by rw[h];decide)]
end Go.Proofs.YtapedeoheilnnaaGreat
