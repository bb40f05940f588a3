/- The parser's small functions, in plain words. No conditions but those in each statement. -/
import Derived.Test.YtjnnmindcbgjhaaGs
import Derived.Test.YtjnnmindcbgjhaaPa0
set_option linter.unusedVariables false
set_option linter.unusedSimpArgs false
namespace Go.Proofs.Ytjnnmindcbgjhaa
open Go Go.Sy Go.RowKit
theorem AZ (l:List Tok) (i:Nat):(l.map Tok.r).getD i [D.v (Value.int IntKind.i64 0),D.v (Value.string (bs [])),D.v (Value.int IntKind.i64 0)]=Tok.r (l.getD i tk0):=jl l i
abbrev w64i (n:Int):Int:=IntKind.i64.wrap n
def tk (p:Pr):Tok:=p.l.getD p.i.toNat tk0
def isT (t:List UInt8) (p:Pr):Bool:=p.e==0&&decide (p.i<(p.l.length:Int))&&(tk p).k != 1&&(tk p).t==t
def okI (p:Pr):Prop:=0≤p.i∧p.i≤(p.l.length:Int)∧p.l.length≤4096
theorem dt {p:Pr} (h:okI p):0≤p.i:=h.1
def KF:List (List UInt8):=[[102,110],[118,97,114],[112,116,114],[105,102],[101,108,115,101],[119,104,105,108,101],[114,101,116,117,114,110],[97,115,115,101,114,116],[110,117,108,108],[99,101,108,108],[97,114,114,97,121]]
def DZ (s:List UInt8):Bool:=KF.any (·==s)
def cS (s:List UInt8):List C:=[.v (.string (bs s))]
theorem yc {i:Nat} {x:List UInt8} (h:KF[i]?=some x):(KF.map cS).getD i [.v (.string (bs []))]=cS x:=by simp[List.getD,h]
theorem Bn {A:Type} {l:List A} {i:Nat} {x:A} (h:l[i]?=some x):l.drop i=x::l.drop (i+1):=by
 obtain⟨h1,h2⟩:=List.getElem?_eq_some_iff.1 h
 rw[List.drop_eq_getElem_cons h1,h2]
def numW:List UInt8→Int→Int
 |[],n=>n
 |b::l,n=>numW l (w64i (w64i (10*n)+w64i (IntKind.u8.wrap ((b.toNat:Int)-48))))
def nameB (p:Pr):Bool:=p.e==0&&decide (p.i<(p.l.length:Int))&&(tk p).k==0&&!DZ (tk p).t
def C7 (c:Int) (p:Pr):Pr:=if (p.e==0)=true then { p with e:=c,at':=if decide (p.i<(p.l.length:Int))=true then (tk p).p else p.en } else p
end Go.Proofs.Ytjnnmindcbgjhaa
namespace Go.Proofs.Ytjnnmindcbgjhaa
open Go Go.Sy Go.RowKit
theorem jp:Cg Try.prog 53 (acS cStr ac0) (fun p=>Ed p.1) (fun p=>.tup [.inl (.d (.sl zTk ((rxT p.1).1.map Tok.r))),.inl (.v (.int .i64 (rxT p.1).2.1)),.inl (.v (.int .i64 (rxT p.1).2.2))]):=b9
abbrev iQ (p:Pr) (t:List UInt8):Prop:=okI p
abbrev As (p:Pr) (t:List UInt8):Value:=Value.bool (isT t p)
theorem A4Q:LS Try.prog 61 (ahS (cPt rPr) (ahS (cStr.H) ah0)) (fun p:(Pr×(List UInt8×Unit))=>iQ p.1 p.2.1) (fun p:(Pr×(List UInt8×Unit))=>ofV (As p.1 p.2.1)):=by
 rintro ⟨p,t,_u⟩ w fz xs hc hfz hl hx
 refine IW Try.func61 rfl w fz [] [] (ahS (cPt rPr) (ahS (cStr.H) ah0)) (fun p:(Pr×(List UInt8×Unit))=>ofV (As p.1 p.2.1)) _ xs hfz hl hx (jN rfl) ?_
 clear hx hl hfz xs
 simp only[Try.f61]
 simp only[↓eB,seval,go_sem,iv,Aa,iO,iN,Pr.r,AZ,Tok.r,zTk]
 have h0:0≤p.i:=dt hc
 try simp only[A3,A4]
 repeat' first|exact ck|with_reducible apply And.intro|intro _
 all_goals try simp only[bne,Bool.not_eq_true',Bool.not_eq_false',Bool.not_not] at*
 all_goals first
  |(refine A0 [] ?_;simp only[↓eB,seval,go_sem,bne,As,isT,tk];first|done|(simp only[*,if_true,if_false,jB,Bool.true_or,Bool.or_true,Bool.false_or,Bool.or_false,Bool.and_false,Bool.false_and,Bool.true_and,Bool.and_true,Bool.not_true,Bool.not_false,Bool.or_self,Bool.and_self,Int.reduceEq,Int.reduceNeg,Nat.reduceEqDiff,reduceCtorEq,LD,LF,FQ,GP,and_self,↓reduceIte];done)|(simp_all [isT,tk];done))
  |omega
  |(simp only[decide_eq_true_eq,decide_eq_false_iff_not]at *;omega)
  |(simp_all [isT,tk];done)
  |(simp_all [isT,tk];omega)
  |trace_state
theorem yd:∀p:(Pr×(List UInt8×Unit)),okV ((fun p:(Pr×(List UInt8×Unit))=>As p.1 p.2.1) p)=true:=by intro p;rfl
noncomputable def AR {X:Ctx} {w0:World}:Sy.Spec Try.prog X w0:=PT 61 Try.call61 (ahS (cPt rPr) (ahS (cStr.H) ah0)) (fun p:(Pr×(List UInt8×Unit))=>iQ p.1 p.2.1) (fun p:(Pr×(List UInt8×Unit))=>As p.1 p.2.1) yd A4Q
abbrev Xi (s:List UInt8):Prop:=True
abbrev KG (s:List UInt8):Value:=Value.bool (DZ s)
theorem rj:LS Try.prog 76 (ahS (cStr.H) ah0) (fun p:(List UInt8×Unit)=>Xi p.1) (fun p:(List UInt8×Unit)=>ofV (KG p.1)):=by
 rintro ⟨s,_u⟩ w fz xs hc hfz hl hx
 refine IW Try.func76 rfl w fz [] [] (ahS (cStr.H) ah0) (fun p:(List UInt8×Unit)=>ofV (KG p.1)) _ xs hfz hl hx (jN rfl) ?_
 clear hx hl hfz xs
 simp only[Try.f76]
 simp only[↓eB,seval,go_sem]
 refine Ac (Y:=Nat) (fun i=>i≤KF.length∧(KF.drop i).any (·==s)=DZ s)
  (fun i=>⟨[(0,true,.one (.v (.string (bs s)))),(3,true,.one (.s 1000)),(4,true,.one (.v (.int .i64 (i:Int))))],[(1000,.vec 0 [.v (.string (bs []))] (KF.map cS))]⟩)
  (fun i=>KF.length-i) 0 ⟨Nat.zero_le _,rfl⟩ ?_ ?_
 ·refine A2 [.mv 5 1000] ?_;simp only[↓eB,seval,go_sem,KF,cS]
 ·rintro i ⟨hi,hJ⟩
  refine Aq [] [] _ _ _ ?_
  have hl:KF.length=11:=rfl
  cases hx:KF[i]? with
  |none=>
   have hi2:KF.length≤i:=List.getElem?_eq_none_iff.1 hx
   have h1:=BA hi2
   rw[List.drop_eq_nil_of_le hi2]at hJ
   have hR:DZ s=false:=hJ.symm
   simp only[↓eB,seval,go_sem,h1]
   refine A0 [] ?_;simp only[↓eB,seval,go_sem,bne,KG,hR]
  |some x=>
   have hlt:i<KF.length:=(List.getElem?_eq_some_iff.1 hx).1
   have h1:=B9 hlt
   have h2:=F6 hlt
   have h3:=yc hx
   have h4:=Dy hi (by decide)
   rw[Bn hx,List.any_cons]at hJ
   simp only[↓eB,seval,go_sem,h1,h2,h3,h4,cS]
   simp only[A3,A4]
   refine⟨hlt,fun hb=>?_,fun hb=>?_⟩
   ·rw[hb,Bool.true_or]at hJ
    refine A0 [] ?_;simp only[↓eB,seval,go_sem,bne,KG,← hJ]
   ·rw[hb,Bool.false_or]at hJ
    refine⟨i+1,⟨hlt,hJ⟩,by omega,A2 [] ?_⟩
    simp only[↓eB,seval,go_sem,X3,cS]
    try (simp[KF,cS,C.names])
theorem jq:∀p:(List UInt8×Unit),okV ((fun p:(List UInt8×Unit)=>KG p.1) p)=true:=by intro p;rfl
noncomputable def Xj {X:Ctx} {w0:World}:Sy.Spec Try.prog X w0:=PT 76 Try.call76 (ahS (cStr.H) ah0) (fun p:(List UInt8×Unit)=>Xi p.1) (fun p:(List UInt8×Unit)=>KG p.1) jq rj
abbrev UO (s:List UInt8):Prop:=Ed s
abbrev Fi (s:List UInt8):Value:=Value.int .i64 (numW s 0)
theorem du:LS Try.prog 59 (ahS (cStr.H) ah0) (fun p:(List UInt8×Unit)=>UO p.1) (fun p:(List UInt8×Unit)=>ofV (Fi p.1)):=by
 rintro ⟨s,_u⟩ w fz xs hc hfz hl hx
 refine IW Try.func59 rfl w fz [] [] (ahS (cStr.H) ah0) (fun p:(List UInt8×Unit)=>ofV (Fi p.1)) _ xs hfz hl hx (jN rfl) ?_
 clear hx hl hfz xs
 simp only[Try.f59]
 simp only[↓eB,seval,go_sem]
 have hs:s.length≤4294967296:=hc
 refine Ac (Y:=Nat×Int) (fun y=>y.1≤s.length∧numW (s.drop y.1) y.2=numW s 0)
  (fun y=>⟨[(0,true,.one (.v (.string (bs s)))),(3,true,.one (.v (.int .i64 y.2))),(4,true,.one (.v (.int .i64 (y.1:Int))))],[]⟩)
  (fun y=>s.length-y.1) (0,0) ⟨Nat.zero_le _,rfl⟩ ?_ ?_
 ·refine A2 [] ?_;simp only[↓eB,seval,go_sem]
 ·rintro ⟨i,n⟩ ⟨hi,hJ⟩
  simp only at hi hJ
  refine Aq [] [] _ _ _ ?_
  by_cases hlt:i<s.length
  ·have h1:=B9 hlt
   have h2:=F6 hlt
   have h3:=Dy hi hs
   rw[List.drop_eq_getElem_cons hlt]at hJ
   simp only[numW]at hJ
   have h4:s[i]=s.getD i 0:=by simp[List.getD,hlt]
   rw[h4]at hJ
   simp only[↓eB,seval,go_sem,h1,h2,h3]
   refine⟨(i+1,w64i (w64i (10*n)+w64i (IntKind.u8.wrap (((s.getD i 0).toNat:Int)-48)))),⟨hlt,hJ⟩,by dsimp only;omega,?_⟩
   refine A2 [] ?_;simp only[↓eB,seval,go_sem]
  ·have h1:=BA (Nat.le_of_not_lt hlt)
   rw[List.drop_eq_nil_of_le (Nat.le_of_not_lt hlt)]at hJ
   have hJ':n=numW s 0:=hJ
   simp only[↓eB,seval,go_sem,h1]
   refine A0 [] ?_;simp only[↓eB,seval,go_sem,bne,Fi,← hJ']
theorem aX:∀p:(List UInt8×Unit),okV ((fun p:(List UInt8×Unit)=>Fi p.1) p)=true:=by intro p;rfl
noncomputable def Hq {X:Ctx} {w0:World}:Sy.Spec Try.prog X w0:=PT 59 Try.call59 (ahS (cStr.H) ah0) (fun p:(List UInt8×Unit)=>UO p.1) (fun p:(List UInt8×Unit)=>Fi p.1) aX du
abbrev VY (p:Pr):Prop:=okI p
abbrev AN (p:Pr):Value:=Value.bool (nameB p)
theorem jr:LS Try.prog 56 (ahS (cPt rPr) ah0) (fun p:(Pr×Unit)=>VY p.1) (fun p:(Pr×Unit)=>ofV (AN p.1)):=by
 rintro ⟨p,_u⟩ w fz xs hc hfz hl hx
 refine IW Try.func56 rfl w fz [Xj] [] (ahS (cPt rPr) ah0) (fun p:(Pr×Unit)=>ofV (AN p.1)) _ xs hfz hl hx (jN rfl) ?_
 clear hx hl hfz xs
 simp only[Try.f56]
 simp only[↓eB,seval,go_sem,Xj,iv,Aa,iO,iN,Pr.r,AZ,Tok.r,zTk,KG]
 have h0:0≤p.i:=dt hc
 try simp only[A3,A4]
 repeat' first|exact ck|with_reducible apply And.intro|intro _
 all_goals try simp only[bne,Bool.not_eq_true',Bool.not_eq_false',Bool.not_not] at*
 all_goals first
  |(refine A0 [] ?_;simp only[↓eB,seval,go_sem,bne,AN,nameB,tk];first|done|(simp only[*,if_true,if_false,jB,Bool.true_or,Bool.or_true,Bool.false_or,Bool.or_false,Bool.and_false,Bool.false_and,Bool.true_and,Bool.and_true,Bool.not_true,Bool.not_false,Bool.or_self,Bool.and_self,Int.reduceEq,Int.reduceNeg,Nat.reduceEqDiff,reduceCtorEq,LD,LF,FQ,GP,and_self,↓reduceIte];done)|(simp_all [nameB,tk];done))
  |omega
  |(simp only[decide_eq_true_eq,decide_eq_false_iff_not]at *;omega)
  |(simp_all [nameB,tk];done)
  |(simp_all [nameB,tk];omega)
  |trace_state
theorem dv:∀p:(Pr×Unit),okV ((fun p:(Pr×Unit)=>AN p.1) p)=true:=by intro p;rfl
noncomputable def A8 {X:Ctx} {w0:World}:Sy.Spec Try.prog X w0:=PT 56 Try.call56 (ahS (cPt rPr) ah0) (fun p:(Pr×Unit)=>VY p.1) (fun p:(Pr×Unit)=>AN p.1) dv jr
abbrev O1 (p:Pr) (c:Int):Prop:=okI p
abbrev O2 (p:Pr) (c:Int):SV:=.tup []
abbrev KH (p:Pr) (c:Int):List (Option MV):=[some (zPr,[(C7 c p).c])]
noncomputable abbrev KI:ArgM ((Pr)×(Int)×Unit):=(amP (mPr) (amD (cInt .i64) am0))
abbrev js:Prop:=Cq Try.prog 57 ((KI).args 0) (KI).mem (fun p:(Pr)×(Int)×Unit=>O1 p.1 p.2.1) (fun p:(Pr)×(Int)×Unit=>O2 p.1 p.2.1) (fun p:(Pr)×(Int)×Unit=>KH p.1 p.2.1)
theorem jt:∀p,(fun p:(Pr)×(Int)×Unit=>O1 p.1 p.2.1) p→DY ((KI).mem p).length ((fun p:(Pr)×(Int)×Unit=>KH p.1 p.2.1) p)=true:=by intro p _;rfl
theorem ju:∀p,(fun p:(Pr)×(Int)×Unit=>O1 p.1 p.2.1) p→BF ((fun p:(Pr)×(Int)×Unit=>KH p.1 p.2.1) p).length ((fun p:(Pr)×(Int)×Unit=>O2 p.1 p.2.1) p)=true:=by intro p _;first|rfl|exact Ak _ _|exact Al _ _|(simp[BF,CV,Ak,Al];done)
theorem jv:∀p,(fun p:(Pr)×(Int)×Unit=>O1 p.1 p.2.1) p→∀q,some q∈(fun p:(Pr)×(Int)×Unit=>KH p.1 p.2.1) p→∀r∈q.2,∀c∈r,c.names=[]:=by intro p _;exact FM _
theorem rl:js:=by
 rintro ⟨p,c,_u⟩ w M I lab fz xs hc hA hl hx
 refine BQ Try.func57 rfl ((KI).mem ⟨p,c,_u⟩) w M I lab fz [] [] ((KI).args 0 ⟨p,c,_u⟩) ((fun p:(Pr)×(Int)×Unit=>KH p.1 p.2.1) ⟨p,c,_u⟩) ((fun p:(Pr)×(Int)×Unit=>O2 p.1 p.2.1) ⟨p,c,_u⟩) xs hA hl hx (fun v hv k hk=>by have:=(KI).an 0 ⟨p,c,_u⟩ v hv k hk;omega) (jN rfl) (jN rfl) ?_
 clear hx hl hA xs
 simp only[Try.f57]
 simp only[↓eB,seval,go_sem,Af,Ae,Pr.c,AZ,Tok.r,zTk]
 have h0:0≤p.i:=dt hc
 try simp only[A3,A4]
 repeat' first|exact ck|with_reducible apply And.intro|intro _
 all_goals try simp only[bne,Bool.not_eq_true',Bool.not_eq_false',Bool.not_not] at*
 all_goals first
  |(refine A0 [] ?_;simp only[↓eB,seval,go_sem,bne,O2,KH,C7,tk,Pr.c,zTk];first|done|(simp only[*,if_true,if_false,jB,Bool.true_or,Bool.or_true,Bool.false_or,Bool.or_false,Bool.and_false,Bool.false_and,Bool.true_and,Bool.and_true,Bool.not_true,Bool.not_false,Bool.or_self,Bool.and_self,Int.reduceEq,Int.reduceNeg,Nat.reduceEqDiff,reduceCtorEq,LD,LF,FQ,GP,and_self,↓reduceIte];done)|(simp_all [C7,tk];done))
  |omega
  |(simp only[decide_eq_true_eq,decide_eq_false_iff_not]at *;omega)
  |(simp_all [C7,tk];done)
  |(simp_all [C7,tk];omega)
  |trace_state
noncomputable def AC {X:Ctx} {w0:World}:Sy.Spec Try.prog X w0:=DT 57 Try.call57 (KI) (fun p:(Pr)×(Int)×Unit=>O1 p.1 p.2.1) (fun p:(Pr)×(Int)×Unit=>O2 p.1 p.2.1) (fun p:(Pr)×(Int)×Unit=>KH p.1 p.2.1) jt ju jv rl
end Go.Proofs.Ytjnnmindcbgjhaa
