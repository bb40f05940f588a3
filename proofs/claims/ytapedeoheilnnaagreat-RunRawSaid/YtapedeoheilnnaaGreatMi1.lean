/- The parser's small functions, in plain words. No conditions but those in each statement. -/
import Derived.Test.YtapedeoheilnnaaGreatTy2
import Derived.Test.YtapedeoheilnnaaGreatPa0
set_option linter.all false
open Bool (not_eq_true' not_eq_false' not_not and_eq_true)
open Int (reduceEq reduceNeg)
namespace Go.Proofs.YtapedeoheilnnaaGreat
open Go Go.Sy Go.RowKit
variable{p:Pr}{t:List UInt8}
theorem Ah(l:List Tok)(i:Nat):(l.map Tok.r).getD i [D.v (Value.int IntKind.i64 0),D.v (Value.string (bs [])),D.v (Value.int IntKind.i64 0)]=Tok.r (l.getD i tk0):=wX l i
abbrev w64i(n:Int):Int:=IntKind.i64.wrap n
def tk(p:Pr):Tok:=p.l.getD p.i.toNat tk0
def isT(t:List UInt8)(p:Pr):Bool:=p.e==0&&decide (p.i<(p.l.length:Int))&&(tk p).k != 1&&(tk p).t==t
def okI(p:Pr):Prop:=0<=p.i/\p.i<=(p.l.length:Int)/\p.l.length<=4096
theorem m9(h:okI p):0<=p.i:=h.1
def LW:List (List UInt8):=[[102,110],[118,97,114],[112,116,114],[105,102],[101,108,115,101],[119,104,105,108,101],[114,101,116,117,114,110],[97,115,115,101,114,116],[110,117,108,108],[99,101,108,108],[97,114,114,97,121]]
def KE(s:List UInt8):Bool:=LW.any (·==s)
def cS(s:List UInt8):List C:=[.v (.string (bs s))]
theorem A2q{i:Nat}{x:List UInt8}(h:LW[i]?=some x):(LW.map cS).getD i [.v (.string (bs []))]=cS x:=by simp[List.getD,h]
theorem BJ{A:Type}{l:List A}{i:Nat}{x:A}(h:l[i]?=some x):l.drop i=x::l.drop (i+1):=by
 obtain⟨h1,h2⟩:=List.getElem?_eq_some_iff.1 h
 rw[List.drop_eq_getElem_cons h1,h2]
def numW:List UInt8->Int->Int
 |[],n=>n
 |b::l,n=>numW l (w64i (w64i (10*n)+w64i (IntKind.u8.wrap ((b.toNat:Int)-48))))
def nameB(p:Pr):Bool:=p.e==0&&decide (p.i<(p.l.length:Int))&&(tk p).k==0&&!KE (tk p).t
def D6(c:Int)(p:Pr):Pr:=if (p.e==0)=true then { p with e:=c,at':=if decide (p.i<(p.l.length:Int))=true then (tk p).p else p.en } else p
theorem rh:Cu Tryz.prog 56 (acS cStr ac0) (λp=>Dr p.1) (λp=>.tup [.inl (.d (.sl zTk ((rxT p.1).1.map Tok.r))),.inl (.v (.int .i64 (rxT p.1).2.1)),.inl (.v (.int .i64 (rxT p.1).2.2))]):=iQ
abbrev py(p:Pr)(t:List UInt8):Prop:=okI p
abbrev BR(p:Pr)(t:List UInt8):Value:=Value.bool (isT t p)
theorem A6h:MX Tryz.prog 64 (ahS (cPt rPr) (ahS (cStr.H) ah0)) (λp:(Pr×(List UInt8×Unit))=>py p.1 p.2.1) (λp:(Pr×(List UInt8×Unit))=>ofV (BR p.1 p.2.1)):=by
 rintro ⟨p,t,_u⟩ w fz xs hc hfz hl hx
 refine Ji Tryz.func64 rfl w fz [] [] (ahS (cPt rPr) (ahS (cStr.H) ah0)) (λp:(Pr×(List UInt8×Unit))=>ofV (BR p.1 p.2.1)) _ xs hfz hl hx (jN rfl) ?_
 clear hx hl hfz xs
 simp only[Tryz.f64]
 simp only[seval,go_sem,qH,Ak,qw,qv,Pr.r,Ah,Tok.r,zTk]
 have h0:0<=p.i:=m9 hc
 try simp only[A2,A3]
 repeat' first|exact ck|with_reducible apply And.intro|intro _
 all_goals try simp only[bne,not_eq_true',not_eq_false',not_not] at*
 all_goals first
  |(refine A1 [] ?_;simp only[seval,go_sem,bne,BR,isT,tk];first|done|(simp only[*,if_true,if_false,jB,Bool.true_or,Bool.or_true,Bool.false_or,Bool.or_false,Bool.and_false,Bool.false_and,Bool.true_and,Bool.and_true,Bool.not_true,Bool.not_false,Bool.or_self,Bool.and_self,reduceEq,reduceNeg,Nat.reduceEqDiff,reduceCtorEq,MA,MB,Gd,Hr,and_self,↓reduceIte];done)|(simp_all [isT,tk];done))
  |omega
  |(simp only[decide_eq_true_eq,decide_eq_false_iff_not]at *;omega)
  |(simp_all [isT,tk];done)
  |(simp_all [isT,tk];omega)
  |trace_state
theorem KF4{p:Prop}(h:p:=by intro p;rfl):p:=h
noncomputable def AS{X:Ctx}{w0:World}:Sy.Spec Tryz.prog X w0:=RV 64 Tryz.call64 (ahS (cPt rPr) (ahS (cStr.H) ah0)) (λp:(Pr×(List UInt8×Unit))=>py p.1 p.2.1) (λp:(Pr×(List UInt8×Unit))=>BR p.1 p.2.1) KF4 A6h
abbrev cL(s:List UInt8):Prop:=True
abbrev N6(s:List UInt8):Value:=Value.bool (KE s)
theorem xN:MX Tryz.prog 78 (ahS (cStr.H) ah0) (λp:(List UInt8×Unit)=>cL p.1) (λp:(List UInt8×Unit)=>ofV (N6 p.1)):=by
 rintro ⟨s,_u⟩ w fz xs hc hfz hl hx
 refine Ji Tryz.func78 rfl w fz [] [] (ahS (cStr.H) ah0) (λp:(List UInt8×Unit)=>ofV (N6 p.1)) _ xs hfz hl hx (jN rfl) ?_
 clear hx hl hfz xs
 simp only[Tryz.f78]
 simp only[seval,go_sem]
 refine AK (Y:=Nat) (λi=>i<=LW.length/\(LW.drop i).any (·==s)=KE s)
  (λi=>⟨[(0,true,.one (.v (.string (bs s)))),(3,true,.one (.s 1000)),(4,true,.one (.v (.int .i64 (i:Int))))],[(1000,.vec 0 [.v (.string (bs []))] (LW.map cS))]⟩)
  (λi=>LW.length-i) 0 ⟨Nat.zero_le _,rfl⟩ ?_ ?_
 .refine A4 [.mv 5 1000] ?_;simp only[seval,go_sem,LW,cS]
 rintro i ⟨hi,hJ⟩
 refine AZ [] [] _ _ _ ?_
 have hl:LW.length=11:=rfl
 cases hx:LW[i]? with
 |none=>
  have hi2:LW.length<=i:=List.getElem?_eq_none_iff.1 hx
  have h1:=B9 hi2
  rw[List.drop_eq_nil_of_le hi2]at hJ
  have hR:KE s=false:=hJ.symm
  simp only[seval,go_sem,h1]
  refine A1 [] ?_;simp only[seval,go_sem,bne,N6,hR]
 |some x=>
 have hlt:i<LW.length:=(List.getElem?_eq_some_iff.1 hx).1
 have h1:=B8 hlt
 have h2:=GH hlt
 have h3:=A2q hx
 have h4:=F6 hi (by decide)
 rw[BJ hx,List.any_cons]at hJ
 simp only[seval,go_sem,h1,h2,h3,h4,cS]
 simp only[A2,A3]
 refine⟨hlt,λhb=>?_,λhb=>?_⟩
 .rw[hb,Bool.true_or]at hJ
  refine A1 [] ?_;simp only[seval,go_sem,bne,N6,<- hJ]
 rw[hb,Bool.false_or]at hJ
 refine⟨i+1,⟨hlt,hJ⟩,by omega,A4 [] ?_⟩
 simp only[seval,go_sem,bL,cS]
 try (simp[LW,cS,C.names])
noncomputable def cM{X:Ctx}{w0:World}:Sy.Spec Tryz.prog X w0:=RV 78 Tryz.call78 (ahS (cStr.H) ah0) (λp:(List UInt8×Unit)=>cL p.1) (λp:(List UInt8×Unit)=>N6 p.1) KF4 xN
abbrev Y9(s:List UInt8):Prop:=Dr s
abbrev I4(s:List UInt8):Value:=Value.int .i64 (numW s 0)
theorem mD:MX Tryz.prog 62 (ahS (cStr.H) ah0) (λp:(List UInt8×Unit)=>Y9 p.1) (λp:(List UInt8×Unit)=>ofV (I4 p.1)):=by
 rintro ⟨s,_u⟩ w fz xs hc hfz hl hx
 refine Ji Tryz.func62 rfl w fz [] [] (ahS (cStr.H) ah0) (λp:(List UInt8×Unit)=>ofV (I4 p.1)) _ xs hfz hl hx (jN rfl) ?_
 clear hx hl hfz xs
 simp only[Tryz.f62]
 simp only[seval,go_sem]
 have hs:s.length<=4294967296:=hc
 refine AK (Y:=Nat×Int) (λy=>y.1<=s.length/\numW (s.drop y.1) y.2=numW s 0)
  (λy=>⟨[(0,true,.one (.v (.string (bs s)))),(3,true,.one (.v (.int .i64 y.2))),(4,true,.one (.v (.int .i64 (y.1:Int))))],[]⟩)
  (λy=>s.length-y.1) (0,0) ⟨Nat.zero_le _,rfl⟩ ?_ ?_
 .refine A4 [] ?_;simp only[seval,go_sem]
 rintro ⟨i,n⟩ ⟨hi,hJ⟩
 simp only at hi hJ
 refine AZ [] [] _ _ _ ?_
 by_cases hlt:i<s.length
 .have h1:=B8 hlt
  have h2:=GH hlt
  have h3:=F6 hi hs
  rw[List.drop_eq_getElem_cons hlt]at hJ
  simp only[numW]at hJ
  have h4:s[i]=s.getD i 0:=by simp[List.getD,hlt]
  rw[h4]at hJ
  simp only[seval,go_sem,h1,h2,h3]
  refine⟨(i+1,w64i (w64i (10*n)+w64i (IntKind.u8.wrap (((s.getD i 0).toNat:Int)-48)))),⟨hlt,hJ⟩,by dsimp only;omega,?_⟩
  refine A4 [] ?_;simp only[seval,go_sem]
 have h1:=B9 (Nat.le_of_not_lt hlt)
 rw[List.drop_eq_nil_of_le (Nat.le_of_not_lt hlt)]at hJ
 have hJ':n=numW s 0:=hJ
 simp only[seval,go_sem,h1]
 refine A1 [] ?_;simp only[seval,go_sem,bne,I4,<- hJ']
noncomputable def J7{X:Ctx}{w0:World}:Sy.Spec Tryz.prog X w0:=RV 62 Tryz.call62 (ahS (cStr.H) ah0) (λp:(List UInt8×Unit)=>Y9 p.1) (λp:(List UInt8×Unit)=>I4 p.1) KF4 mD
abbrev ZM(p:Pr):Prop:=okI p
abbrev AM(p:Pr):Value:=Value.bool (nameB p)
theorem ri:MX Tryz.prog 59 (ahS (cPt rPr) ah0) (λp:(Pr×Unit)=>ZM p.1) (λp:(Pr×Unit)=>ofV (AM p.1)):=by
 rintro ⟨p,_u⟩ w fz xs hc hfz hl hx
 refine Ji Tryz.func59 rfl w fz [cM] [] (ahS (cPt rPr) ah0) (λp:(Pr×Unit)=>ofV (AM p.1)) _ xs hfz hl hx (jN rfl) ?_
 clear hx hl hfz xs
 simp only[Tryz.f59]
 simp only[seval,go_sem,cM,qH,Ak,qw,qv,Pr.r,Ah,Tok.r,zTk,N6]
 have h0:0<=p.i:=m9 hc
 try simp only[A2,A3]
 repeat' first|exact ck|with_reducible apply And.intro|intro _
 all_goals try simp only[bne,not_eq_true',not_eq_false',not_not] at*
 all_goals first
  |(refine A1 [] ?_;simp only[seval,go_sem,bne,AM,nameB,tk];first|done|(simp only[*,if_true,if_false,jB,Bool.true_or,Bool.or_true,Bool.false_or,Bool.or_false,Bool.and_false,Bool.false_and,Bool.true_and,Bool.and_true,Bool.not_true,Bool.not_false,Bool.or_self,Bool.and_self,reduceEq,reduceNeg,Nat.reduceEqDiff,reduceCtorEq,MA,MB,Gd,Hr,and_self,↓reduceIte];done)|(simp_all [nameB,tk];done))
  |omega
  |(simp only[decide_eq_true_eq,decide_eq_false_iff_not]at *;omega)
  |(simp_all [nameB,tk];done)
  |(simp_all [nameB,tk];omega)
  |trace_state
noncomputable def A7{X:Ctx}{w0:World}:Sy.Spec Tryz.prog X w0:=RV 59 Tryz.call59 (ahS (cPt rPr) ah0) (λp:(Pr×Unit)=>ZM p.1) (λp:(Pr×Unit)=>AM p.1) KF4 ri
abbrev rj(p:Pr)(c:Int):Prop:=okI p
abbrev WQ(p:Pr)(c:Int):SV:=.tup []
abbrev WR(p:Pr)(c:Int):List (Option MV):=[some (zPr,[(D6 c p).c])]
noncomputable abbrev N7:ArgM ((Pr)×(Int)×Unit):=(amP (mPr) (amD (cInt .i64) am0))
abbrev rl:Prop:=Bv Tryz.prog 60 ((N7).args 0) (N7).mem (λp:(Pr)×(Int)×Unit=>rj p.1 p.2.1) (λp:(Pr)×(Int)×Unit=>WQ p.1 p.2.1) (λp:(Pr)×(Int)×Unit=>WR p.1 p.2.1)
theorem xO:rl:=by
 rintro ⟨p,c,_u⟩ w M I lab fz xs hc hA hl hx
 refine Aa Tryz.func60 rfl ((N7).mem ⟨p,c,_u⟩) w M I lab fz [] [] ((N7).args 0 ⟨p,c,_u⟩) ((λp:(Pr)×(Int)×Unit=>WR p.1 p.2.1) ⟨p,c,_u⟩) ((λp:(Pr)×(Int)×Unit=>WQ p.1 p.2.1) ⟨p,c,_u⟩) xs hA hl hx (λv hv k hk=>by have:=(N7).an 0 ⟨p,c,_u⟩ v hv k hk;omega) (jN rfl) (jN rfl) ?_
 clear hx hl hA xs
 simp only[Tryz.f60]
 simp only[seval,go_sem,Ap,Ao,Pr.c,Ah,Tok.r,zTk]
 have h0:0<=p.i:=m9 hc
 try simp only[A2,A3]
 repeat' first|exact ck|with_reducible apply And.intro|intro _
 all_goals try simp only[bne,not_eq_true',not_eq_false',not_not] at*
 all_goals first
  |(refine A1 [] ?_;simp only[seval,go_sem,bne,WQ,WR,D6,tk,Pr.c,zTk];first|done|(simp only[*,if_true,if_false,jB,Bool.true_or,Bool.or_true,Bool.false_or,Bool.or_false,Bool.and_false,Bool.false_and,Bool.true_and,Bool.and_true,Bool.not_true,Bool.not_false,Bool.or_self,Bool.and_self,reduceEq,reduceNeg,Nat.reduceEqDiff,reduceCtorEq,MA,MB,Gd,Hr,and_self,↓reduceIte];done)|(simp_all [D6,tk];done))
  |omega
  |(simp only[decide_eq_true_eq,decide_eq_false_iff_not]at *;omega)
  |(simp_all [D6,tk];done)
  |(simp_all [D6,tk];omega)
  |trace_state
theorem KF0{p:Prop}(h:p:=by intro p _;first|rfl|exact bO _ _|exact bP _ _|(simp[RZ,Iv,bO,bP];done)):p:=h
theorem KF1{p:Prop}(h:p:=by intro p _;rfl):p:=h
theorem KF2{p:Prop}(h:p:=by intro p _;exact A1k _):p:=h
noncomputable def A9{X:Ctx}{w0:World}:Sy.Spec Tryz.prog X w0:=Cl 60 Tryz.call60 (N7) _ _ _ KF1 KF0 KF2 xO
def adv(p:Pr):Pr:={ p with i:=w64i (p.i+1) }
def Bi(t:List UInt8)(p:Pr):Pr:=if isT t p=true then adv p else p
def BW(t:List UInt8)(p:Pr):Pr:=if isT t p=true then adv p else D6 51 p
def Dy(p:Pr):List UInt8:=if nameB p=true then (tk p).t else []
def C4(p:Pr):Pr:=if nameB p=true then adv p else D6 51 p
def FU(p:Pr):Bool:=p.e==0&&!decide (40<=p.deep)
def C9(p:Pr):Pr:=if (p.e==0)=true then (if decide (40<=p.deep)=true then D6 52 p else { p with deep:=w64i (p.deep+1) }) else p
def shut(p:Pr):Pr:={ p with deep:=w64i (p.deep-1) }
def outB(p:Pr):Bool:=p.e != 0||decide ((p.l.length:Int)<=p.i)
abbrev R(A:Type):=A×Pr
def Gr(u:Pr->R Ex):Nat->Ex->Pr->R Ex
 |0,a,p=>(a,p)
 |k+1,a,p=>
  if (p.e==0)=true then
   (
    if isT [42] p=true then Gr u k (.mk 4 0 [] a (u (adv p)).1) (u (adv p)).2
    else if isT [47] p=true then Gr u k (.mk 5 0 [] a (u (adv p)).1) (u (adv p)).2
    else if isT [37] p=true then Gr u k (.mk 6 0 [] a (u (adv p)).1) (u (adv p)).2
    else (a,p))
  else (a,p)
def Es(u:Pr->R Ex)(p:Pr):R Ex:=Gr u p.l.length (u p).1 (u p).2
def Jy(u:Pr->R Ex):Nat->Ex->Pr->R Ex
 |0,a,p=>(a,p)
 |k+1,a,p=>
  if (p.e==0)=true then
   (
    if isT [45] p=true then Jy u k (.mk 3 0 [] a (Es u (adv p)).1) (Es u (adv p)).2
    else if isT [43] p=true then Jy u k (.mk 2 0 [] a (Es u (adv p)).1) (Es u (adv p)).2
    else (a,p))
  else (a,p)
def Jz(u:Pr->R Ex)(p:Pr):R Ex:=Jy u p.l.length (Es u p).1 (Es u p).2
def unF:Nat->Pr->R Ex
 |0,p=>(.nil,p)
 |f+1,p=>
  if outB p=true then (.nil,D6 51 p)
  else if isT [45] p=true then
   (if FU p=true then (.mk 7 0 [] (unF f (adv (C9 p))).1 .nil,shut (unF f (adv (C9 p))).2) else (.nil,C9 p))
  else if isT [40] p=true then
   (if FU p=true then ((Jz (unF f) (adv (C9 p))).1,shut (BW [41] (Jz (unF f) (adv (C9 p))).2)) else (.nil,C9 p))
  else if ((tk p).k==1)=true then (.mk 0 (numW (tk p).t 0) [] .nil .nil,adv p)
  else if nameB p=true then (.mk 1 0 (Dy p) .nil .nil,C4 p)
  else (.nil,D6 51 p)
def okP(p:Pr):Prop:=0<=p.i/\p.i<=(p.l.length:Int)/\p.l.length<=4096/\0<=p.deep/\p.deep<=40/\∀x∈p.l,x.t.length<=4096
structure Nx(p q:Pr):Prop where
 ok:okP q
 l:q.l=p.l
 en:q.en=p.en
 i:p.i<=q.i
 d:q.deep=p.deep
 e:p.e≠0->q.e=p.e/\q.at'=p.at'
theorem Nx.refl(h:okP p):Nx p p:=⟨h,rfl,rfl,Int.le_refl _,rfl,λ_=>⟨rfl,rfl⟩⟩
theorem Nx.trans{q r:Pr}(h1:Nx p q)(h2:Nx q r):Nx p r:=
 ⟨h2.ok,h2.l.trans h1.l,h2.en.trans h1.en,Int.le_trans h1.i h2.i,h2.d.trans h1.d,λh=>by
  obtain⟨e1,e2⟩:=h1.e h
  obtain⟨e3,e4⟩:=h2.e (by rw[e1];exact h)
  exact⟨e3.trans e1,e4.trans e2⟩⟩
theorem okP.i(h:okP p):okI p:=⟨h.1,h.2.1,h.2.2.1⟩
theorem B6(h:isT t p=true):p.e=0/\p.i<(p.l.length:Int):=by
 unfold isT at h
 simp only[and_eq_true,beq_iff_eq,decide_eq_true_eq]at h
 exact⟨h.1.1.1,h.1.1.2⟩
theorem Je(h:nameB p=true):p.e=0/\p.i<(p.l.length:Int):=by
 unfold nameB at h
 simp only[and_eq_true,beq_iff_eq,decide_eq_true_eq]at h
 exact⟨h.1.1.1,h.1.1.2⟩
theorem Iw(h:okP p)(hi:p.i<(p.l.length:Int)):(adv p).i=p.i+1:=by
 obtain⟨h1,h2,h3,_⟩:=h
 show w64i (p.i+1)=_
 unfold w64i
 rw[wrap_i64 (by omega) (by omega)]
theorem En(h:okP p)(hi:p.i<(p.l.length:Int))(he:p.e=0):Nx p (adv p):=by
 have e:=Iw h hi
 obtain⟨h1,h2,h3,h4,h5,h6⟩:=h
 exact⟨⟨by rw[e];omega,by rw[e];show p.i+1<=(p.l.length:Int);omega,h3,h4,h5,h6⟩,rfl,rfl,by rw[e];omega,rfl,λh=>absurd he h⟩
theorem rn(c:Int)(p:Pr):(D6 c p).l=p.l/\(D6 c p).i=p.i/\(D6 c p).en=p.en/\(D6 c p).deep=p.deep/\(D6 c p).n=p.n:=by
 unfold D6;split<;>exact⟨rfl,rfl,rfl,rfl,rfl⟩
theorem FP(c:Int)(h:okP p):Nx p (D6 c p):=by
 obtain⟨e1,e2,e3,e4,e5⟩:=rn c p
 refine⟨?_,e1,e3,by rw[e2];exact Int.le_refl _,e4,λhe=>?_⟩
 .unfold okP;rw[e1,e2,e4];exact h
 unfold D6;rw[if_neg (by simpa using he)];exact⟨rfl,rfl⟩
theorem gx(h:okP p):Nx p (Bi t p):=by
 unfold Bi;split
 .rename_i hi;exact En h (B6 hi).2 (B6 hi).1
 exact .refl h
theorem Ae(h:okP p):Nx p (BW t p):=by
 unfold BW;split
 .rename_i hi;exact En h (B6 hi).2 (B6 hi).1
 exact FP 51 h
theorem FX(h:okP p):Nx p (C4 p):=by
 unfold C4;split
 .rename_i hi;exact En h (Je hi).2 (Je hi).1
 exact FP 51 h
theorem L3(h:okP p)(hb:FU p=false):Nx p (C9 p):=by
 unfold FU at hb
 unfold C9
 split
 .rename_i he
  rw[he]at hb
  simp only[Bool.true_and,not_eq_false']at hb
  rw[if_pos hb]
  exact FP 52 h
 exact .refl h
theorem Qb(h:okP p)(hb:FU p=true):p.e=0/\p.deep<40/\C9 p={ p with deep:=p.deep+1 }:=by
 unfold FU at hb
 simp only[and_eq_true,beq_iff_eq,not_eq_true',decide_eq_false_iff_not]at hb
 obtain⟨h1,h2,h3,h4,h5,h6⟩:=h
 refine⟨hb.1,by omega,?_⟩
 unfold C9
 rw[if_pos (by simpa using hb.1),if_neg (by simpa using hb.2)]
 unfold w64i
 rw[wrap_i64 (by omega) (by omega)]
theorem xP(h:okP p)(hb:FU p=true):okP (C9 p):=by
 obtain⟨h1,h2,h3⟩:=Qb h hb
 rw[h3]
 obtain⟨h1,h2,h3,h4,h5,h6⟩:=h
 exact⟨h1,h2,h3,by show 0<=p.deep+1;omega,by show p.deep+1<=40;omega,h6⟩
theorem PW{q:Pr}(h:okP p)(hb:FU p=true)(hq:Nx (C9 p) q):Nx p (shut q):=by
 obtain⟨h1,h2,h3⟩:=Qb h hb
 obtain⟨⟨o1,o2,o3,o4,o5,o6⟩,e1,e2,e3,e4,e6⟩:=hq
 rw[h3]at e1 e2 e3 e4 e6
 simp only at e1 e2 e3 e4 e6
 have hd:(shut q).deep=p.deep:=by
  show w64i (q.deep-1)=_
  rw[e4];unfold w64i
  rw[wrap_i64 (by omega) (by omega)];omega
 obtain⟨k1,k2,k3,k4,k5,k6⟩:=h
 exact⟨⟨o1,o2,o3,by rw[hd];exact k4,by rw[hd];exact k5,o6⟩,e1,e2,e3,hd,λhe=>absurd h1 he⟩
theorem LX{u:Pr->R Ex}(hu:∀p,okP p->Nx p (u p).2):∀(k:Nat) (a:Ex) (p:Pr),okP p->Nx p (Gr u k a p).2
 |0,a,p,h=>.refl h
 |k+1,a,p,h=>by
  simp only[Gr]
  (repeat' split)
  .rename_i he hi
   have h1:=En h (B6 hi).2 (B6 hi).1
   have h2:=hu _ h1.ok
   exact(h1.trans h2).trans (LX hu k _ _ h2.ok)
  .rename_i he _ hi
   have h1:=En h (B6 hi).2 (B6 hi).1
   have h2:=hu _ h1.ok
   exact(h1.trans h2).trans (LX hu k _ _ h2.ok)
  .rename_i he _ _ hi
   have h1:=En h (B6 hi).2 (B6 hi).1
   have h2:=hu _ h1.ok
   exact(h1.trans h2).trans (LX hu k _ _ h2.ok)
  .exact .refl h
  exact .refl h
theorem Gc{u:Pr->R Ex}(hu:∀p,okP p->Nx p (u p).2)(p:Pr)(h:okP p):Nx p (Es u p).2:=(hu p h).trans (LX hu _ _ _ (hu p h).ok)
theorem PX{u:Pr->R Ex}(hu:∀p,okP p->Nx p (u p).2):∀(k:Nat) (a:Ex) (p:Pr),okP p->Nx p (Jy u k a p).2
 |0,a,p,h=>.refl h
 |k+1,a,p,h=>by
  simp only[Jy]
  (repeat' split)
  .rename_i he hi
   have h1:=En h (B6 hi).2 (B6 hi).1
   have h2:=Gc hu _ h1.ok
   exact(h1.trans h2).trans (PX hu k _ _ h2.ok)
  .rename_i he _ hi
   have h1:=En h (B6 hi).2 (B6 hi).1
   have h2:=Gc hu _ h1.ok
   exact(h1.trans h2).trans (PX hu k _ _ h2.ok)
  .exact .refl h
  exact .refl h
theorem Sn{u:Pr->R Ex}(hu:∀p,okP p->Nx p (u p).2)(p:Pr)(h:okP p):Nx p (Jz u p).2:=(Gc hu p h).trans (PX hu _ _ _ (Gc hu p h).ok)
theorem A2r(h:okP p)(hb:FU p=true):(C9 p).i=p.i/\(C9 p).l=p.l/\(C9 p).e=p.e:=by
 rw[(Qb h hb).2.2];exact⟨rfl,rfl,rfl⟩
theorem EY(h:okP p)(hb:FU p=true)(hi:p.i<(p.l.length:Int)):Nx (C9 p) (adv (C9 p)):=by
 obtain⟨e1,e2,e3⟩:=A2r h hb
 exact En (xP h hb) (by rw[e1,e2];exact hi) (by rw[e3];exact(Qb h hb).1)
theorem Ix:∀(f:Nat) (p:Pr),okP p->Nx p (unF f p).2
 |0,p,h=>.refl h
 |f+1,p,h=>by
  simp only[unF]
  split
  .exact FP 51 h
  split
  .rename_i hi
   split
   .rename_i hb
    have h1:=EY h hb (B6 hi).2
    exact PW h hb (h1.trans (Ix f _ h1.ok))
   rename_i hb;exact L3 h (by simpa using hb)
  split
  .rename_i hi
   split
   .rename_i hb
    have h1:=EY h hb (B6 hi).2
    have h2:=h1.trans (Sn (Ix f) _ h1.ok)
    exact PW h hb (h2.trans (Ae h2.ok))
   rename_i hb;exact L3 h (by simpa using hb)
  split
  .rename_i ho _ _ _
   unfold outB at ho
   simp only[Bool.or_eq_true,bne_iff_ne,ne_eq,decide_eq_true_eq,not_or,Decidable.not_not]at ho
   exact En h (by omega) ho.1
  split
  .exact FX h
  exact FP 51 h
abbrev dpU(f:Nat)(p:Pr):Prop:=41<=p.deep+(f:Int)
theorem cN(h:okP p)(hi:p.i<(p.l.length:Int)):w64i (w64i (p.i+1)-1)=p.i:=by
 obtain⟨h1,h2,h3,_⟩:=h
 unfold w64i
 rw[wrap_i64 (n:=p.i+1) (by omega) (by omega),wrap_i64 (by omega) (by omega)];omega
theorem gy(h:okP p):(nameB p=false/\nameB p=false/\nameB p=false/\nameB p=false)∨(nameB p=true/\IntKind.i64.wrap (IntKind.i64.wrap (p.i+1)-1)=p.i/\(0<=p.i)=True/\(p.i<(p.l.length:Int))=True):=by
 cases hb:nameB p with
 |false=>exact .inl ⟨rfl,rfl,rfl,rfl⟩
 |true=>exact .inr ⟨rfl,cN h (Je hb).2,by simp[h.1],by simp[(Je hb).2]⟩
theorem xQ(h:okP p)(hi:p.i<(p.l.length:Int)):Dr (tk p).t:=by
 obtain⟨h1,h2,h3,h4,h5,h8⟩:=h
 have hm:tk p∈p.l:=by
  unfold tk
  have:p.i.toNat<p.l.length:=by omega
  rw[List.getD,List.getElem?_eq_getElem this];exact List.getElem_mem this
 have:=h8 _ hm
 show _<=4294967296
 omega
abbrev exS:Pr->R Ex:=Jz (unF 41)
theorem K0(h:okP p):dpU 41 p:=by
 have:=h.2.2.2.1
 show 41<=p.deep+((41:Nat):Int)
 simp;omega
theorem V2(h:okP p)(h0:(BW t p).e=0):(BW t p).i=p.i+1:=by
 unfold BW at h0 ⊢
 cases ic:isT t p with
 |true=>rw[ic]at h0;rw[if_pos rfl];exact Iw h (B6 ic).2
 |false=>
 rw[ic,if_neg (by decide)]at h0
 unfold D6 at h0
 split at h0
 .exact absurd h0 (show ¬((51:Int)=0) by decide)
 rename_i hne;exact absurd (by simpa using h0) hne
theorem gz(h:isT t p=true):Bi t p=adv p:=by unfold Bi;rw[if_pos h]
theorem hX(h:isT t p=false):Bi t p=p:=by unfold Bi;rw[if_neg (by rw[h];decide)]
theorem AO(l:List Tok)(i en e at' deep n:Int):rPr.d [.sl [D.v (Value.int IntKind.i64 0),D.v (Value.string (bs [])),D.v (Value.int IntKind.i64 0)] (l.map Tok.r),.v (.int .i64 i),.v (.int .i64 en),.v (.int .i64 e),.v (.int .i64 at'),.v (.int .i64 deep),.v (.int .i64 n)]=some ⟨l,i,en,e,at',deep,n⟩:=An l i en e at' deep n
theorem AP(l:List Tok)(i en e at' deep n:Int):mPr.d [.d (.sl [D.v (Value.int IntKind.i64 0),D.v (Value.string (bs [])),D.v (Value.int IntKind.i64 0)] (l.map Tok.r)),.v (.int .i64 i),.v (.int .i64 en),.v (.int .i64 e),.v (.int .i64 at'),.v (.int .i64 deep),.v (.int .i64 n)]=some ⟨l,i,en,e,at',deep,n⟩:=Aq l i en e at' deep n
abbrev rr(p:Pr)(t:List UInt8):Prop:=okP p
abbrev WS(p:Pr)(t:List UInt8):SV:=.one (.v (.bool (isT t p)))
abbrev WT(p:Pr)(t:List UInt8):List (Option MV):=[some (zPr,[(Bi t p).c])]
noncomputable abbrev N8:ArgM ((Pr)×(List UInt8)×Unit):=(amP (mPr) (amD (cStr) am0))
abbrev ru:Prop:=Bv Tryz.prog 57 ((N8).args 0) (N8).mem (λp:(Pr)×(List UInt8)×Unit=>rr p.1 p.2.1) (λp:(Pr)×(List UInt8)×Unit=>WS p.1 p.2.1) (λp:(Pr)×(List UInt8)×Unit=>WT p.1 p.2.1)
attribute [local go_sem] Pr.c Tok.r Ak Aq AP Ap Ao AQ ptR An AO Ah zTk
theorem xS:ru:=by
 rintro ⟨p,t,_u⟩ w M I lab fz xs hc hA hl hx
 refine Aa Tryz.func57 rfl ((N8).mem ⟨p,t,_u⟩) w M I lab fz [AS] [] ((N8).args 0 ⟨p,t,_u⟩) ((λp:(Pr)×(List UInt8)×Unit=>WT p.1 p.2.1) ⟨p,t,_u⟩) ((λp:(Pr)×(List UInt8)×Unit=>WS p.1 p.2.1) ⟨p,t,_u⟩) xs hA hl hx (λv hv k hk=>by have:=(N8).an 0 ⟨p,t,_u⟩ v hv k hk;omega) (jN rfl) (jN rfl) ?_
 clear hx hl hA xs
 simp only[Tryz.f57]
 simp only[seval,go_sem,AS,BR]
 try simp only[A2,A3]
 repeat' first|exact ck|with_reducible apply And.intro|intro _
 all_goals try simp only[bne,not_eq_true',not_eq_false',not_not] at*
 all_goals first
  |(exact hc.i;done)
  |(refine A1 [] ?_;simp only[seval,go_sem,bne,WS,WT,Bi,adv];first|done|(simp only[*,if_true,if_false,jB,Bool.true_or,Bool.or_true,Bool.false_or,Bool.or_false,Bool.and_false,Bool.false_and,Bool.true_and,Bool.and_true,Bool.not_true,Bool.not_false,Bool.or_self,Bool.and_self,reduceEq,reduceNeg,Nat.reduceEqDiff,reduceCtorEq,MA,MB,Gd,Hr,and_self,↓reduceIte];done)|(simp_all [Bi,adv];done))
  |omega
  |(simp only[decide_eq_true_eq,decide_eq_false_iff_not]at *;omega)
  |(simp_all [Bi,adv];done)
  |(simp_all [Bi,adv];omega)
  |trace_state
noncomputable def A6{X:Ctx}{w0:World}:Sy.Spec Tryz.prog X w0:=Cl 57 Tryz.call57 (N8) _ _ _ KF1 KF0 KF2 xS
abbrev ry(p:Pr)(t:List UInt8):Prop:=okP p
abbrev WU(p:Pr)(t:List UInt8):SV:=.tup []
abbrev WV(p:Pr)(t:List UInt8):List (Option MV):=[some (zPr,[(BW t p).c])]
noncomputable abbrev N9:ArgM ((Pr)×(List UInt8)×Unit):=(amP (mPr) (amD (cStr) am0))
abbrev rz:Prop:=Bv Tryz.prog 58 ((N9).args 0) (N9).mem (λp:(Pr)×(List UInt8)×Unit=>ry p.1 p.2.1) (λp:(Pr)×(List UInt8)×Unit=>WU p.1 p.2.1) (λp:(Pr)×(List UInt8)×Unit=>WV p.1 p.2.1)
theorem xT:rz:=by
 rintro ⟨p,t,_u⟩ w M I lab fz xs hc hA hl hx
 refine Aa Tryz.func58 rfl ((N9).mem ⟨p,t,_u⟩) w M I lab fz [A6,A9] [] ((N9).args 0 ⟨p,t,_u⟩) ((λp:(Pr)×(List UInt8)×Unit=>WV p.1 p.2.1) ⟨p,t,_u⟩) ((λp:(Pr)×(List UInt8)×Unit=>WU p.1 p.2.1) ⟨p,t,_u⟩) xs hA hl hx (λv hv k hk=>by have:=(N9).an 0 ⟨p,t,_u⟩ v hv k hk;omega) (jN rfl) (jN rfl) ?_
 clear hx hl hA xs
 simp only[Tryz.f58]
 simp only[seval,go_sem,A6,A9]
 try simp only[A2,A3]
 repeat' first|exact ck|with_reducible apply And.intro|intro _
 all_goals try simp only[bne,not_eq_true',not_eq_false',not_not] at*
 all_goals first
  |(exact hc;done)
  |((have h:=okP.i hc;simp_all [Bi]);done)
  |(refine A1 [] ?_;simp only[seval,go_sem,bne,WU,WV,BW,Bi];first|done|(simp only[*,if_true,if_false,jB,Bool.true_or,Bool.or_true,Bool.false_or,Bool.or_false,Bool.and_false,Bool.false_and,Bool.true_and,Bool.and_true,Bool.not_true,Bool.not_false,Bool.or_self,Bool.and_self,reduceEq,reduceNeg,Nat.reduceEqDiff,reduceCtorEq,MA,MB,Gd,Hr,and_self,↓reduceIte];done)|(simp_all [BW,Bi];done))
  |omega
  |(simp only[decide_eq_true_eq,decide_eq_false_iff_not]at *;omega)
  |(simp_all [BW,Bi];done)
  |(simp_all [BW,Bi];omega)
  |trace_state
noncomputable def AC{X:Ctx}{w0:World}:Sy.Spec Tryz.prog X w0:=Cl 58 Tryz.call58 (N9) _ _ _ KF1 KF0 KF2 xT
abbrev sA(p:Pr):Prop:=okP p
abbrev WW(p:Pr):SV:=.one (.v (.string (bs (Dy p))))
abbrev WX(p:Pr):List (Option MV):=[some (zPr,[(C4 p).c])]
noncomputable abbrev NA:ArgM ((Pr)×Unit):=(amP (mPr) am0)
abbrev sB:Prop:=Bv Tryz.prog 61 ((NA).args 0) (NA).mem (λp:(Pr)×Unit=>sA p.1) (λp:(Pr)×Unit=>WW p.1) (λp:(Pr)×Unit=>WX p.1)
theorem xU:sB:=by
 rintro ⟨p,_u⟩ w M I lab fz xs hc hA hl hx
 refine Aa Tryz.func61 rfl ((NA).mem ⟨p,_u⟩) w M I lab fz [A7,A9] [] ((NA).args 0 ⟨p,_u⟩) ((λp:(Pr)×Unit=>WX p.1) ⟨p,_u⟩) ((λp:(Pr)×Unit=>WW p.1) ⟨p,_u⟩) xs hA hl hx (λv hv k hk=>by have:=(NA).an 0 ⟨p,_u⟩ v hv k hk;omega) (jN rfl) (jN rfl) ?_
 clear hx hl hA xs
 simp only[Tryz.f61]
 rcases gy hc with⟨hb,e1,e2,e3⟩|⟨hb,e1,e2,e3⟩
 all_goals simp only[seval,go_sem,A7,A9,AM,hb,e1,e2,e3]
 all_goals
  try simp only[A2,A3]
  repeat' first|exact ck|with_reducible apply And.intro|intro _
  all_goals try simp only[bne,not_eq_true',not_eq_false',not_not] at*
  all_goals first
   |(exact hc.i;done)
   |(refine A1 [] ?_;simp only[seval,go_sem,bne,WW,WX,Dy,C4,adv,hb,tk];first|done|(simp only[*,if_true,if_false,jB,Bool.true_or,Bool.or_true,Bool.false_or,Bool.or_false,Bool.and_false,Bool.false_and,Bool.true_and,Bool.and_true,Bool.not_true,Bool.not_false,Bool.or_self,Bool.and_self,reduceEq,reduceNeg,Nat.reduceEqDiff,reduceCtorEq,MA,MB,Gd,Hr,and_self,↓reduceIte];done)|(simp_all [Dy,C4,adv];done))
   |omega
   |(simp only[decide_eq_true_eq,decide_eq_false_iff_not]at *;omega)
   |(simp_all [Dy,C4,adv];done)
   |(simp_all [Dy,C4,adv];omega)
   |trace_state
noncomputable def AG{X:Ctx}{w0:World}:Sy.Spec Tryz.prog X w0:=Cl 61 Tryz.call61 (NA) _ _ _ KF1 KF0 KF2 xU
abbrev sD(p:Pr):Prop:=okP p
abbrev WY(p:Pr):SV:=.one (.v (.bool (FU p)))
abbrev WZ(p:Pr):List (Option MV):=[some (zPr,[(C9 p).c])]
noncomputable abbrev NB:ArgM ((Pr)×Unit):=(amP (mPr) am0)
abbrev sE:Prop:=Bv Tryz.prog 65 ((NB).args 0) (NB).mem (λp:(Pr)×Unit=>sD p.1) (λp:(Pr)×Unit=>WY p.1) (λp:(Pr)×Unit=>WZ p.1)
theorem xV:sE:=by
 rintro ⟨p,_u⟩ w M I lab fz xs hc hA hl hx
 refine Aa Tryz.func65 rfl ((NB).mem ⟨p,_u⟩) w M I lab fz [A9] [] ((NB).args 0 ⟨p,_u⟩) ((λp:(Pr)×Unit=>WZ p.1) ⟨p,_u⟩) ((λp:(Pr)×Unit=>WY p.1) ⟨p,_u⟩) xs hA hl hx (λv hv k hk=>by have:=(NB).an 0 ⟨p,_u⟩ v hv k hk;omega) (jN rfl) (jN rfl) ?_
 clear hx hl hA xs
 simp only[Tryz.f65]
 simp only[seval,go_sem,A9]
 try simp only[A2,A3]
 repeat' first|exact ck|with_reducible apply And.intro|intro _
 all_goals try simp only[bne,not_eq_true',not_eq_false',not_not] at*
 all_goals first
  |(exact hc.i;done)
  |(refine A1 [] ?_;simp only[seval,go_sem,bne,WY,WZ,FU,C9];first|done|(simp only[*,if_true,if_false,jB,Bool.true_or,Bool.or_true,Bool.false_or,Bool.or_false,Bool.and_false,Bool.false_and,Bool.true_and,Bool.and_true,Bool.not_true,Bool.not_false,Bool.or_self,Bool.and_self,reduceEq,reduceNeg,Nat.reduceEqDiff,reduceCtorEq,MA,MB,Gd,Hr,and_self,↓reduceIte];done)|(simp_all [FU,C9];done))
  |omega
  |(simp only[decide_eq_true_eq,decide_eq_false_iff_not]at *;omega)
  |(simp_all [FU,C9];done)
  |(simp_all [FU,C9];omega)
  |trace_state
noncomputable def AL{X:Ctx}{w0:World}:Sy.Spec Tryz.prog X w0:=Cl 65 Tryz.call65 (NB) _ _ _ KF1 KF0 KF2 xV
end Go.Proofs.YtapedeoheilnnaaGreat
