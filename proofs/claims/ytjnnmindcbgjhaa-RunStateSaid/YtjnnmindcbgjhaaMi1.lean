/- The parser's small functions, in plain words. No conditions but those in each statement. -/
import Derived.Test.YtjnnmindcbgjhaaGs
import Derived.Test.YtjnnmindcbgjhaaPa0
set_option linter.unusedVariables false
set_option linter.unusedSimpArgs false
namespace Go.Proofs.Ytjnnmindcbgjhaa
open Go Go.Sy Go.RowKit
theorem Ac (l:List Tok) (i:Nat):(l.map Tok.r).getD i [D.v (Value.int IntKind.i64 0),D.v (Value.string (bs [])),D.v (Value.int IntKind.i64 0)]=Tok.r (l.getD i tk0):=mD l i
abbrev w64i (n:Int):Int:=IntKind.i64.wrap n
def tk (p:Pr):Tok:=p.l.getD p.i.toNat tk0
def isT (t:List UInt8) (p:Pr):Bool:=p.e==0&&decide (p.i<(p.l.length:Int))&&(tk p).k != 1&&(tk p).t==t
def okI (p:Pr):Prop:=0≤p.i∧p.i≤(p.l.length:Int)∧p.l.length≤4096
theorem gH {p:Pr} (h:okI p):0≤p.i:=h.1
def L3:List (List UInt8):=[[102,110],[118,97,114],[112,116,114],[105,102],[101,108,115,101],[119,104,105,108,101],[114,101,116,117,114,110],[97,115,115,101,114,116],[110,117,108,108],[99,101,108,108],[97,114,114,97,121]]
def Ji (s:List UInt8):Bool:=L3.any (·==s)
def cS (s:List UInt8):List C:=[.v (.string (bs s))]
theorem A0p {i:Nat} {x:List UInt8} (h:L3[i]?=some x):(L3.map cS).getD i [.v (.string (bs []))]=cS x:=by simp[List.getD,h]
theorem Bp {A:Type} {l:List A} {i:Nat} {x:A} (h:l[i]?=some x):l.drop i=x::l.drop (i+1):=by
 obtain⟨h1,h2⟩:=List.getElem?_eq_some_iff.1 h
 rw[List.drop_eq_getElem_cons h1,h2]
def numW:List UInt8→Int→Int
 |[],n=>n
 |b::l,n=>numW l (w64i (w64i (10*n)+w64i (IntKind.u8.wrap ((b.toNat:Int)-48))))
def nameB (p:Pr):Bool:=p.e==0&&decide (p.i<(p.l.length:Int))&&(tk p).k==0&&!Ji (tk p).t
def CJ (c:Int) (p:Pr):Pr:=if (p.e==0)=true then { p with e:=c,at':=if decide (p.i<(p.l.length:Int))=true then (tk p).p else p.en } else p
end Go.Proofs.Ytjnnmindcbgjhaa
namespace Go.Proofs.Ytjnnmindcbgjhaa
open Go Go.Sy Go.RowKit
theorem mH:CY Try.prog 53 (acS cStr ac0) (fun p=>Ct p.1) (fun p=>.tup [.inl (.d (.sl zTk ((rxT p.1).1.map Tok.r))),.inl (.v (.int .i64 (rxT p.1).2.1)),.inl (.v (.int .i64 (rxT p.1).2.2))]):=dH
abbrev kj (p:Pr) (t:List UInt8):Prop:=okI p
abbrev Ay (p:Pr) (t:List UInt8):Value:=Value.bool (isT t p)
theorem A6S:MK Try.prog 61 (ahS (cPt rPr) (ahS (cStr.H) ah0)) (fun p:(Pr×(List UInt8×Unit))=>kj p.1 p.2.1) (fun p:(Pr×(List UInt8×Unit))=>ofV (Ay p.1 p.2.1)):=by
 rintro ⟨p,t,_u⟩ w fz xs hc hfz hl hx
 refine JI Try.func61 rfl w fz [] [] (ahS (cPt rPr) (ahS (cStr.H) ah0)) (fun p:(Pr×(List UInt8×Unit))=>ofV (Ay p.1 p.2.1)) _ xs hfz hl hx (jN rfl) ?_
 clear hx hl hfz xs
 simp only[Try.f61]
 simp only[↓eB,seval,go_sem,lR,Ad,kh,ke,Pr.r,Ac,Tok.r,zTk]
 have h0:0≤p.i:=gH hc
 try simp only[A3,A4]
 repeat' first|exact ck|with_reducible apply And.intro|intro _
 all_goals try simp only[bne,Bool.not_eq_true',Bool.not_eq_false',Bool.not_not] at*
 all_goals first
  |(refine A0 [] ?_;simp only[↓eB,seval,go_sem,bne,Ay,isT,tk];first|done|(simp only[*,if_true,if_false,jB,Bool.true_or,Bool.or_true,Bool.false_or,Bool.or_false,Bool.and_false,Bool.false_and,Bool.true_and,Bool.and_true,Bool.not_true,Bool.not_false,Bool.or_self,Bool.and_self,Int.reduceEq,Int.reduceNeg,Nat.reduceEqDiff,reduceCtorEq,M1,M2,Fx,H9,and_self,↓reduceIte];done)|(simp_all [isT,tk];done))
  |omega
  |(simp only[decide_eq_true_eq,decide_eq_false_iff_not]at *;omega)
  |(simp_all [isT,tk];done)
  |(simp_all [isT,tk];omega)
  |trace_state
theorem A0q:∀p:(Pr×(List UInt8×Unit)),okV ((fun p:(Pr×(List UInt8×Unit))=>Ay p.1 p.2.1) p)=true:=by intro p;rfl
noncomputable def AV {X:Ctx} {w0:World}:Sy.Spec Try.prog X w0:=Qb 61 Try.call61 (ahS (cPt rPr) (ahS (cStr.H) ah0)) (fun p:(Pr×(List UInt8×Unit))=>kj p.1 p.2.1) (fun p:(Pr×(List UInt8×Unit))=>Ay p.1 p.2.1) A0q A6S
abbrev Yy (s:List UInt8):Prop:=True
abbrev L4 (s:List UInt8):Value:=Value.bool (Ji s)
theorem uJ:MK Try.prog 76 (ahS (cStr.H) ah0) (fun p:(List UInt8×Unit)=>Yy p.1) (fun p:(List UInt8×Unit)=>ofV (L4 p.1)):=by
 rintro ⟨s,_u⟩ w fz xs hc hfz hl hx
 refine JI Try.func76 rfl w fz [] [] (ahS (cStr.H) ah0) (fun p:(List UInt8×Unit)=>ofV (L4 p.1)) _ xs hfz hl hx (jN rfl) ?_
 clear hx hl hfz xs
 simp only[Try.f76]
 simp only[↓eB,seval,go_sem]
 refine AU (Y:=Nat) (fun i=>i≤L3.length∧(L3.drop i).any (·==s)=Ji s)
  (fun i=>⟨[(0,true,.one (.v (.string (bs s)))),(3,true,.one (.s 1000)),(4,true,.one (.v (.int .i64 (i:Int))))],[(1000,.vec 0 [.v (.string (bs []))] (L3.map cS))]⟩)
  (fun i=>L3.length-i) 0 ⟨Nat.zero_le _,rfl⟩ ?_ ?_
 ·refine A2 [.mv 5 1000] ?_;simp only[↓eB,seval,go_sem,L3,cS]
 ·rintro i ⟨hi,hJ⟩
  refine Ak [] [] _ _ _ ?_
  have hl:L3.length=11:=rfl
  cases hx:L3[i]? with
  |none=>
   have hi2:L3.length≤i:=List.getElem?_eq_none_iff.1 hx
   have h1:=BA hi2
   rw[List.drop_eq_nil_of_le hi2]at hJ
   have hR:Ji s=false:=hJ.symm
   simp only[↓eB,seval,go_sem,h1]
   refine A0 [] ?_;simp only[↓eB,seval,go_sem,bne,L4,hR]
  |some x=>
   have hlt:i<L3.length:=(List.getElem?_eq_some_iff.1 hx).1
   have h1:=B9 hlt
   have h2:=FL hlt
   have h3:=A0p hx
   have h4:=EE hi (by decide)
   rw[Bp hx,List.any_cons]at hJ
   simp only[↓eB,seval,go_sem,h1,h2,h3,h4,cS]
   simp only[A3,A4]
   refine⟨hlt,fun hb=>?_,fun hb=>?_⟩
   ·rw[hb,Bool.true_or]at hJ
    refine A0 [] ?_;simp only[↓eB,seval,go_sem,bne,L4,← hJ]
   ·rw[hb,Bool.false_or]at hJ
    refine⟨i+1,⟨hlt,hJ⟩,by omega,A2 [] ?_⟩
    simp only[↓eB,seval,go_sem,Yb,cS]
    try (simp[L3,cS,C.names])
theorem mI:∀p:(List UInt8×Unit),okV ((fun p:(List UInt8×Unit)=>L4 p.1) p)=true:=by intro p;rfl
noncomputable def Yz {X:Ctx} {w0:World}:Sy.Spec Try.prog X w0:=Qb 76 Try.call76 (ahS (cStr.H) ah0) (fun p:(List UInt8×Unit)=>Yy p.1) (fun p:(List UInt8×Unit)=>L4 p.1) mI uJ
abbrev Vq (s:List UInt8):Prop:=Ct s
abbrev GA (s:List UInt8):Value:=Value.int .i64 (numW s 0)
theorem gI:MK Try.prog 59 (ahS (cStr.H) ah0) (fun p:(List UInt8×Unit)=>Vq p.1) (fun p:(List UInt8×Unit)=>ofV (GA p.1)):=by
 rintro ⟨s,_u⟩ w fz xs hc hfz hl hx
 refine JI Try.func59 rfl w fz [] [] (ahS (cStr.H) ah0) (fun p:(List UInt8×Unit)=>ofV (GA p.1)) _ xs hfz hl hx (jN rfl) ?_
 clear hx hl hfz xs
 simp only[Try.f59]
 simp only[↓eB,seval,go_sem]
 have hs:s.length≤4294967296:=hc
 refine AU (Y:=Nat×Int) (fun y=>y.1≤s.length∧numW (s.drop y.1) y.2=numW s 0)
  (fun y=>⟨[(0,true,.one (.v (.string (bs s)))),(3,true,.one (.v (.int .i64 y.2))),(4,true,.one (.v (.int .i64 (y.1:Int))))],[]⟩)
  (fun y=>s.length-y.1) (0,0) ⟨Nat.zero_le _,rfl⟩ ?_ ?_
 ·refine A2 [] ?_;simp only[↓eB,seval,go_sem]
 ·rintro ⟨i,n⟩ ⟨hi,hJ⟩
  simp only at hi hJ
  refine Ak [] [] _ _ _ ?_
  by_cases hlt:i<s.length
  ·have h1:=B9 hlt
   have h2:=FL hlt
   have h3:=EE hi hs
   rw[List.drop_eq_getElem_cons hlt]at hJ
   simp only[numW]at hJ
   have h4:s[i]=s.getD i 0:=by simp[List.getD,hlt]
   rw[h4]at hJ
   simp only[↓eB,seval,go_sem,h1,h2,h3]
   refine⟨(i+1,w64i (w64i (10*n)+w64i (IntKind.u8.wrap (((s.getD i 0).toNat:Int)-48)))),⟨hlt,hJ⟩,by dsimp only;omega,?_⟩
   refine A2 [] ?_;simp only[↓eB,seval,go_sem]
  ·have h1:=BA (Nat.le_of_not_lt hlt)
   rw[List.drop_eq_nil_of_le (Nat.le_of_not_lt hlt)]at hJ
   have hJ':n=numW s 0:=hJ
   simp only[↓eB,seval,go_sem,h1]
   refine A0 [] ?_;simp only[↓eB,seval,go_sem,bne,GA,← hJ']
theorem cj:∀p:(List UInt8×Unit),okV ((fun p:(List UInt8×Unit)=>GA p.1) p)=true:=by intro p;rfl
noncomputable def Ig {X:Ctx} {w0:World}:Sy.Spec Try.prog X w0:=Qb 59 Try.call59 (ahS (cStr.H) ah0) (fun p:(List UInt8×Unit)=>Vq p.1) (fun p:(List UInt8×Unit)=>GA p.1) cj gI
abbrev X4 (p:Pr):Prop:=okI p
abbrev AN (p:Pr):Value:=Value.bool (nameB p)
theorem mJ:MK Try.prog 56 (ahS (cPt rPr) ah0) (fun p:(Pr×Unit)=>X4 p.1) (fun p:(Pr×Unit)=>ofV (AN p.1)):=by
 rintro ⟨p,_u⟩ w fz xs hc hfz hl hx
 refine JI Try.func56 rfl w fz [Yz] [] (ahS (cPt rPr) ah0) (fun p:(Pr×Unit)=>ofV (AN p.1)) _ xs hfz hl hx (jN rfl) ?_
 clear hx hl hfz xs
 simp only[Try.f56]
 simp only[↓eB,seval,go_sem,Yz,lR,Ad,kh,ke,Pr.r,Ac,Tok.r,zTk,L4]
 have h0:0≤p.i:=gH hc
 try simp only[A3,A4]
 repeat' first|exact ck|with_reducible apply And.intro|intro _
 all_goals try simp only[bne,Bool.not_eq_true',Bool.not_eq_false',Bool.not_not] at*
 all_goals first
  |(refine A0 [] ?_;simp only[↓eB,seval,go_sem,bne,AN,nameB,tk];first|done|(simp only[*,if_true,if_false,jB,Bool.true_or,Bool.or_true,Bool.false_or,Bool.or_false,Bool.and_false,Bool.false_and,Bool.true_and,Bool.and_true,Bool.not_true,Bool.not_false,Bool.or_self,Bool.and_self,Int.reduceEq,Int.reduceNeg,Nat.reduceEqDiff,reduceCtorEq,M1,M2,Fx,H9,and_self,↓reduceIte];done)|(simp_all [nameB,tk];done))
  |omega
  |(simp only[decide_eq_true_eq,decide_eq_false_iff_not]at *;omega)
  |(simp_all [nameB,tk];done)
  |(simp_all [nameB,tk];omega)
  |trace_state
theorem gJ:∀p:(Pr×Unit),okV ((fun p:(Pr×Unit)=>AN p.1) p)=true:=by intro p;rfl
noncomputable def A8 {X:Ctx} {w0:World}:Sy.Spec Try.prog X w0:=Qb 56 Try.call56 (ahS (cPt rPr) ah0) (fun p:(Pr×Unit)=>X4 p.1) (fun p:(Pr×Unit)=>AN p.1) gJ mJ
abbrev Ol (p:Pr) (c:Int):Prop:=okI p
abbrev Om (p:Pr) (c:Int):SV:=.tup []
abbrev L5 (p:Pr) (c:Int):List (Option MV):=[some (zPr,[(CJ c p).c])]
noncomputable abbrev L6:ArgM ((Pr)×(Int)×Unit):=(amP (mPr) (amD (cInt .i64) am0))
abbrev mK:Prop:=Bt Try.prog 57 ((L6).args 0) (L6).mem (fun p:(Pr)×(Int)×Unit=>Ol p.1 p.2.1) (fun p:(Pr)×(Int)×Unit=>Om p.1 p.2.1) (fun p:(Pr)×(Int)×Unit=>L5 p.1 p.2.1)
theorem mL:∀p,(fun p:(Pr)×(Int)×Unit=>Ol p.1 p.2.1) p→Cn ((L6).mem p).length ((fun p:(Pr)×(Int)×Unit=>L5 p.1 p.2.1) p)=true:=by intro p _;rfl
theorem mM:∀p,(fun p:(Pr)×(Int)×Unit=>Ol p.1 p.2.1) p→Av ((fun p:(Pr)×(Int)×Unit=>L5 p.1 p.2.1) p).length ((fun p:(Pr)×(Int)×Unit=>Om p.1 p.2.1) p)=true:=by intro p _;first|rfl|exact AO _ _|exact AP _ _|(simp[Av,C0,AO,AP];done)
theorem mN:∀p,(fun p:(Pr)×(Int)×Unit=>Ol p.1 p.2.1) p→∀q,some q∈(fun p:(Pr)×(Int)×Unit=>L5 p.1 p.2.1) p→∀r∈q.2,∀c∈r,c.names=[]:=by intro p _;exact Fq _
theorem uK:mK:=by
 rintro ⟨p,c,_u⟩ w M I lab fz xs hc hA hl hx
 refine An Try.func57 rfl ((L6).mem ⟨p,c,_u⟩) w M I lab fz [] [] ((L6).args 0 ⟨p,c,_u⟩) ((fun p:(Pr)×(Int)×Unit=>L5 p.1 p.2.1) ⟨p,c,_u⟩) ((fun p:(Pr)×(Int)×Unit=>Om p.1 p.2.1) ⟨p,c,_u⟩) xs hA hl hx (fun v hv k hk=>by have:=(L6).an 0 ⟨p,c,_u⟩ v hv k hk;omega) (jN rfl) (jN rfl) ?_
 clear hx hl hA xs
 simp only[Try.f57]
 simp only[↓eB,seval,go_sem,Ah,Ag,Pr.c,Ac,Tok.r,zTk]
 have h0:0≤p.i:=gH hc
 try simp only[A3,A4]
 repeat' first|exact ck|with_reducible apply And.intro|intro _
 all_goals try simp only[bne,Bool.not_eq_true',Bool.not_eq_false',Bool.not_not] at*
 all_goals first
  |(refine A0 [] ?_;simp only[↓eB,seval,go_sem,bne,Om,L5,CJ,tk,Pr.c,zTk];first|done|(simp only[*,if_true,if_false,jB,Bool.true_or,Bool.or_true,Bool.false_or,Bool.or_false,Bool.and_false,Bool.false_and,Bool.true_and,Bool.and_true,Bool.not_true,Bool.not_false,Bool.or_self,Bool.and_self,Int.reduceEq,Int.reduceNeg,Nat.reduceEqDiff,reduceCtorEq,M1,M2,Fx,H9,and_self,↓reduceIte];done)|(simp_all [CJ,tk];done))
  |omega
  |(simp only[decide_eq_true_eq,decide_eq_false_iff_not]at *;omega)
  |(simp_all [CJ,tk];done)
  |(simp_all [CJ,tk];omega)
  |trace_state
noncomputable def AC {X:Ctx} {w0:World}:Sy.Spec Try.prog X w0:=Ca 57 Try.call57 (L6) (fun p:(Pr)×(Int)×Unit=>Ol p.1 p.2.1) (fun p:(Pr)×(Int)×Unit=>Om p.1 p.2.1) (fun p:(Pr)×(Int)×Unit=>L5 p.1 p.2.1) mL mM mN uK
end Go.Proofs.Ytjnnmindcbgjhaa
