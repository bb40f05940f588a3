/- Tokens of a text that is put together. No conditions but those in each statement. -/
import Derived.Test.YtbiepiggmagfcaaGreatDoorPa0
set_option linter.unusedVariables false
set_option linter.unusedSimpArgs false
open List (append_assoc)
namespace Go.Proofs.YtbiepiggmagfcaaGreatDoor
open Go Go.Sy Go.RowKit
def rxG:Nat→Nat→List UInt8→List Tok→List Tok×Int×Int
 |0,_,_,out=>(out,0,0)
 |_+1,_,[],out=>(out,0,0)
 |f+1,i,c::r,out=>
  if blB (c.toNat:Int)=true then rxG f (i+1) r out
  else if ((c.toNat:Int)==35)=true then rxG f (i+spanN nlB (c::r)) ((c::r).drop (spanN nlB (c::r))) out
  else if CZ (c.toNat:Int)=true then (if decide (32<((spanN idB (c::r):Nat):Int))=true then ([],(i:Int),53) else rxG f (i+spanN idB (c::r)) ((c::r).drop (spanN idB (c::r))) (out++[⟨0,(c::r).take (spanN idB (c::r)),(i:Int)⟩]))
  else if AR (c.toNat:Int)=true then
   (
    if O1 (c::r)=true then ([],(i:Int),53)
    else if (decide (0<((c::r).drop (spanN AR (c::r))).length)&&CZ ((((c::r).drop (spanN AR (c::r))).getD 0 0).toNat:Int)||((c.toNat:Int)==48&&decide (1<((spanN AR (c::r):Nat):Int))))=true then ([],(i:Int),50)
    else rxG f (i+spanN AR (c::r)) ((c::r).drop (spanN AR (c::r))) (out++[⟨1,(c::r).take (spanN AR (c::r)),(i:Int)⟩]))
  else if (decide (2≤(c::r).length)&&((c::r).take 2==[61,61]||(c::r).take 2==[33,61]||(c::r).take 2==[60,61]||(c::r).take 2==[62,61]||(c::r).take 2==[38,38]||(c::r).take 2==[124,124]))=true then rxG f (i+2) ((c::r).drop 2) (out++[⟨2,(c::r).take 2,(i:Int)⟩])
  else if Gm KR (c.toNat:Int)=true then rxG f (i+1) r (out++[⟨2,(c::r).take 1,(i:Int)⟩])
  else ([],(i:Int),50)
theorem iH (s:List UInt8) (i k:Nat):(s.drop i).getD k 0=s.getD (i+k) 0:=by simp[List.getD,List.getElem?_drop]
theorem TX (s:List UInt8):∀(f i:Nat) (out:List Tok),i≤s.length→rxF s f i out=rxG f i (s.drop i) out
 |0,i,out,_=>by cases s.drop i<;>rfl
 |f+1,i,out,hi=>by
  by_cases hlt:i<s.length
  ·have hd:s.drop i=s.getD i 0::s.drop (i+1):=by
    rw[List.drop_eq_getElem_cons hlt];simp[List.getD,hlt]
   have hlen:(s.drop i).length=s.length-i:=by simp
   have dd:∀k,(s.drop i).drop k=s.drop (i+k):=fun k=>by rw[List.drop_drop]
   have sp:=fun p=>HF p (s.drop i)
   rw[hlen]at sp
   simp only[rxF]
   rw[if_neg (Nat.not_le.2 hlt)]
   have hG:rxG (f+1) i (s.drop i) out=rxG (f+1) i (s.getD i 0::s.drop (i+1)) out:=by rw[hd]
   rw[hG]
   simp only[rxG,← hd,dd]
   have hc:chI s i=((s.getD i 0).toNat:Int):=rfl
   rw[hc]
   have r1:∀out,rxF s f (i+1) out=rxG f (i+1) (s.drop (i+1)) out:=fun out=>TX s f _ out hlt
   have rS:∀p out,rxF s f (i+spanN p (s.drop i)) out=rxG f (i+spanN p (s.drop i)) (s.drop (i+spanN p (s.drop i))) out:=fun p out=>TX s f _ out (by have:=sp p;omega)
   have e1:decide (((i+spanN AR (s.drop i):Nat):Int)<(s.length:Int))=decide (0<(s.drop (i+spanN AR (s.drop i))).length):=by
    rw[decide_eq_decide,List.length_drop];omega
   have e2:chI s (i+spanN AR (s.drop i))=(((s.drop (i+spanN AR (s.drop i))).getD 0 0).toNat:Int):=by
    rw[iH];rfl
   have e3:U5 s i=(decide (2≤(s.drop i).length)&&((s.drop i).take 2==[61,61]||(s.drop i).take 2==[33,61]||(s.drop i).take 2==[60,61]||(s.drop i).take 2==[62,61]||(s.drop i).take 2==[38,38]||(s.drop i).take 2==[124,124])):=by
    unfold U5
    rw[show decide (((i+2:Nat):Int)≤(s.length:Int))=decide (2≤(s.drop i).length) by rw[decide_eq_decide,hlen];omega]
   rw[e1,e2,e3]
   split
   ·exact r1 _
   split
   ·exact rS _ _
   split
   ·split
    ·rfl
    ·exact rS _ _
   split
   ·split
    ·rfl
    split
    ·rfl
    ·exact rS _ _
   split
   ·rename_i h
    have h2:i+2≤s.length:=by
     simp only[Bool.and_eq_true,decide_eq_true_eq,hlen]at h;omega
    exact TX s f _ _ h2
   split
   ·exact r1 _
   ·rfl
  ·have he:i=s.length:=by omega
   subst he
   simp only[rxF]
   rw[if_pos (Nat.le_refl _),List.drop_length]
   rfl
def kt (t:Tok):Int×List UInt8:=(t.k,t.t)
def Lx (p:List UInt8) (n:Nat) (ts:List (Int×List UInt8)):Prop:=
 ∀(f i:Nat) (r:List UInt8) (out:List Tok),∃o2,o2.map kt=ts∧rxG (f+n) i (p++r) out=rxG f (i+p.length) r (out++o2)
theorem Lx.app {p q:List UInt8} {n m:Nat} {ts us:List (Int×List UInt8)} (h:Lx p n ts) (k:Lx q m us):Lx (p++q) (n+m) (ts++us):=by
 intro f i r out
 obtain⟨o1,a1,a2⟩:=h (f+m) i (q++r) out
 obtain⟨o2,b1,b2⟩:=k f (i+p.length) r (out++o1)
 refine⟨o1++o2,by rw[List.map_append,a1,b1],?_⟩
 rw[append_assoc,show f+(n+m)=f+m+n by omega,a2,b2,List.length_append,Nat.add_assoc,append_assoc]
theorem Lx.nil:Lx [] 0 []:=fun f i r out=>⟨[],rfl,by simp⟩
theorem iI (o2 out:List Tok):o2.foldl (fun o t=>o++[t]) out=out++o2:=by
 induction o2 generalizing out with
 |nil=>simp
 |cons a l ih=>rw[List.foldl_cons,ih,append_assoc];rfl
end Go.Proofs.YtbiepiggmagfcaaGreatDoor
namespace Go.Proofs.YtbiepiggmagfcaaGreatDoor
open Go Go.Sy Go.RowKit
theorem sE:AP Tryz.prog 29 (acS cStr ac0) (fun p=>Dr p.1) (fun p=>.tup [.inl (.d (.sl zTk ((rxT p.1).1.map Tok.r))),.inl (.v (.int .i64 (rxT p.1).2.1)),.inl (.v (.int .i64 (rxT p.1).2.2))]):=fG
theorem Kb (l:List Tok) (i:Nat):(l.map Tok.r).getD i [D.v (Value.int IntKind.i64 0),D.v (Value.string (bs [])),D.v (Value.int IntKind.i64 0)]=Tok.r (l.getD i tk0):=oc l i
abbrev Ad (n:Int):Int:=IntKind.i64.wrap n
def tk (p:Pr):Tok:=p.l.getD p.i.toNat tk0
def isT (t:List UInt8) (p:Pr):Bool:=p.e==0&&decide (p.i<(p.l.length:Int))&&(tk p).k != 1&&(tk p).t==t
def okI (p:Pr):Prop:=0≤p.i∧p.i≤(p.l.length:Int)∧p.l.length≤4096
theorem lJ {p:Pr} (h:okI p):0≤p.i:=h.1
abbrev nk (p:Pr) (t:List UInt8):Prop:=okI p
abbrev GG (p:Pr) (t:List UInt8):Value:=Value.bool (isT t p)
attribute [local go_sem] Pr.r Tok.r Ke A3O A1q A1p Kb zTk
theorem A8A:M9 Tryz.prog 34 (ahS (cPt rPr) (ahS (cStr.H) ah0)) (fun p:(Pr×(List UInt8×Unit))=>nk p.1 p.2.1) (fun p:(Pr×(List UInt8×Unit))=>ofV (GG p.1 p.2.1)):=by
 rintro ⟨p,t,_u⟩ w fz xs hc hfz hl hx
 refine Kc Tryz.func34 rfl w fz [] [] (ahS (cPt rPr) (ahS (cStr.H) ah0)) (fun p:(Pr×(List UInt8×Unit))=>ofV (GG p.1 p.2.1)) _ xs hfz hl hx (jN rfl) ?_
 clear hx hl hfz xs
 simp only[Tryz.f34]
 simp only[↓eB,seval,go_sem]
 have h0:0≤p.i:=lJ hc
 try simp only[A1,A2]
 repeat' first|exact ck|with_reducible apply And.intro|intro _
 all_goals try simp only[bne,Bool.not_eq_true',Bool.not_eq_false',Bool.not_not] at*
 all_goals first
  |(refine A0 [] ?_;simp only[↓eB,seval,go_sem,bne,GG,isT,tk];first|done|(simp only[*,if_true,if_false,jB,Bool.true_or,Bool.or_true,Bool.false_or,Bool.or_false,Bool.and_false,Bool.false_and,Bool.true_and,Bool.and_true,Bool.not_true,Bool.not_false,Bool.or_self,Bool.and_self,Int.reduceEq,Int.reduceNeg,Nat.reduceEqDiff,reduceCtorEq,Jf,Jg,De,ES,and_self,↓reduceIte];done)|(simp_all [isT,tk];done))
  |omega
  |(simp only[decide_eq_true_eq,decide_eq_false_iff_not]at *;omega)
  |(simp_all [isT,tk];done)
  |(simp_all [isT,tk];omega)
  |trace_state
theorem A3M:∀p:(Pr×(List UInt8×Unit)),okV ((fun p:(Pr×(List UInt8×Unit))=>GG p.1 p.2.1) p)=true:=by intro p;rfl
noncomputable def Bo {X:Ctx} {w0:World}:Sy.Spec Tryz.prog X w0:=MT 34 Tryz.call34 (ahS (cPt rPr) (ahS (cStr.H) ah0)) (fun p:(Pr×(List UInt8×Unit))=>nk p.1 p.2.1) (fun p:(Pr×(List UInt8×Unit))=>GG p.1 p.2.1) A3M A8A
def JK:List (List UInt8):=[[102,110],[118,97,114],[112,116,114],[105,102],[101,108,115,101],[119,104,105,108,101],[114,101,116,117,114,110],[97,115,115,101,114,116],[110,117,108,108],[99,101,108,108],[97,114,114,97,121]]
def Dz (s:List UInt8):Bool:=JK.any (·==s)
def cS (s:List UInt8):List C:=[.v (.string (bs s))]
theorem A3N {i:Nat} {x:List UInt8} (h:JK[i]?=some x):(JK.map cS).getD i [.v (.string (bs []))]=cS x:=by simp[List.getD,h]
theorem JL {A:Type} {l:List A} {i:Nat} {x:A} (h:l[i]?=some x):l.drop i=x::l.drop (i+1):=by
 obtain⟨h1,h2⟩:=List.getElem?_eq_some_iff.1 h
 rw[List.drop_eq_getElem_cons h1,h2]
abbrev aP (s:List UInt8):Prop:=True
abbrev JM (s:List UInt8):Value:=Value.bool (Dz s)
theorem yI:M9 Tryz.prog 77 (ahS (cStr.H) ah0) (fun p:(List UInt8×Unit)=>aP p.1) (fun p:(List UInt8×Unit)=>ofV (JM p.1)):=by
 rintro ⟨s,_u⟩ w fz xs hc hfz hl hx
 refine Kc Tryz.func77 rfl w fz [] [] (ahS (cStr.H) ah0) (fun p:(List UInt8×Unit)=>ofV (JM p.1)) _ xs hfz hl hx (jN rfl) ?_
 clear hx hl hfz xs
 simp only[Tryz.f77]
 simp only[↓eB,seval,go_sem]
 refine AH (Y:=Nat) (fun i=>i≤JK.length∧(JK.drop i).any (·==s)=Dz s)
  (fun i=>⟨[(0,true,.one (.v (.string (bs s)))),(3,true,.one (.s 1000)),(4,true,.one (.v (.int .i64 (i:Int))))],[(1000,.vec 0 [.v (.string (bs []))] (JK.map cS))]⟩)
  (fun i=>JK.length-i) 0 ⟨Nat.zero_le _,rfl⟩ ?_ ?_
 ·refine A4 [.mv 5 1000] ?_;simp only[↓eB,seval,go_sem,JK,cS]
 ·rintro i ⟨hi,hJ⟩
  refine Ab [] [] _ _ _ ?_
  have hl:JK.length=11:=rfl
  cases hx:JK[i]? with
  |none=>
   have hi2:JK.length≤i:=List.getElem?_eq_none_iff.1 hx
   have h1:=Ao hi2
   rw[List.drop_eq_nil_of_le hi2]at hJ
   have hR:Dz s=false:=hJ.symm
   simp only[↓eB,seval,go_sem,h1]
   refine A0 [] ?_;simp only[↓eB,seval,go_sem,bne,JM,hR]
  |some x=>
   have hlt:i<JK.length:=(List.getElem?_eq_some_iff.1 hx).1
   have h1:=Ah hlt
   have h2:=AX hlt
   have h3:=A3N hx
   have h4:=AM hi (by decide)
   rw[JL hx,List.any_cons]at hJ
   simp only[↓eB,seval,go_sem,h1,h2,h3,h4,cS]
   simp only[A1,A2]
   refine⟨hlt,fun hb=>?_,fun hb=>?_⟩
   ·rw[hb,Bool.true_or]at hJ
    refine A0 [] ?_;simp only[↓eB,seval,go_sem,bne,JM,← hJ]
   ·rw[hb,Bool.false_or]at hJ
    refine⟨i+1,⟨hlt,hJ⟩,by omega,A4 [] ?_⟩
    simp only[↓eB,seval,go_sem,Yc,cS]
    try (simp[JK,cS,C.names])
theorem sF:∀p:(List UInt8×Unit),okV ((fun p:(List UInt8×Unit)=>JM p.1) p)=true:=by intro p;rfl
noncomputable def aQ {X:Ctx} {w0:World}:Sy.Spec Tryz.prog X w0:=MT 77 Tryz.call77 (ahS (cStr.H) ah0) (fun p:(List UInt8×Unit)=>aP p.1) (fun p:(List UInt8×Unit)=>JM p.1) sF yI
def Ci:List UInt8→Int→Int
 |[],n=>n
 |b::l,n=>Ci l (Ad (Ad (10*n)+Ad (IntKind.u8.wrap ((b.toNat:Int)-48))))
abbrev VU (s:List UInt8):Prop:=Dr s
abbrev HW (s:List UInt8):Value:=Value.int .i64 (Ci s 0)
theorem lK:M9 Tryz.prog 43 (ahS (cStr.H) ah0) (fun p:(List UInt8×Unit)=>VU p.1) (fun p:(List UInt8×Unit)=>ofV (HW p.1)):=by
 rintro ⟨s,_u⟩ w fz xs hc hfz hl hx
 refine Kc Tryz.func43 rfl w fz [] [] (ahS (cStr.H) ah0) (fun p:(List UInt8×Unit)=>ofV (HW p.1)) _ xs hfz hl hx (jN rfl) ?_
 clear hx hl hfz xs
 simp only[Tryz.f43]
 simp only[↓eB,seval,go_sem]
 have hs:s.length≤4294967296:=hc
 refine AH (Y:=Nat×Int) (fun y=>y.1≤s.length∧Ci (s.drop y.1) y.2=Ci s 0)
  (fun y=>⟨[(0,true,.one (.v (.string (bs s)))),(3,true,.one (.v (.int .i64 y.2))),(4,true,.one (.v (.int .i64 (y.1:Int))))],[]⟩)
  (fun y=>s.length-y.1) (0,0) ⟨Nat.zero_le _,rfl⟩ ?_ ?_
 ·refine A4 [] ?_;simp only[↓eB,seval,go_sem]
 ·rintro ⟨i,n⟩ ⟨hi,hJ⟩
  simp only at hi hJ
  refine Ab [] [] _ _ _ ?_
  by_cases hlt:i<s.length
  ·have h1:=Ah hlt
   have h2:=AX hlt
   have h3:=AM hi hs
   rw[List.drop_eq_getElem_cons hlt]at hJ
   simp only[Ci]at hJ
   have h4:s[i]=s.getD i 0:=by simp[List.getD,hlt]
   rw[h4]at hJ
   simp only[↓eB,seval,go_sem,h1,h2,h3]
   refine⟨(i+1,Ad (Ad (10*n)+Ad (IntKind.u8.wrap (((s.getD i 0).toNat:Int)-48)))),⟨hlt,hJ⟩,by dsimp only;omega,?_⟩
   refine A4 [] ?_;simp only[↓eB,seval,go_sem]
  ·have h1:=Ao (Nat.le_of_not_lt hlt)
   rw[List.drop_eq_nil_of_le (Nat.le_of_not_lt hlt)]at hJ
   have hJ':n=Ci s 0:=hJ
   simp only[↓eB,seval,go_sem,h1]
   refine A0 [] ?_;simp only[↓eB,seval,go_sem,bne,HW,← hJ']
theorem iJ:∀p:(List UInt8×Unit),okV ((fun p:(List UInt8×Unit)=>HW p.1) p)=true:=by intro p;rfl
noncomputable def VV {X:Ctx} {w0:World}:Sy.Spec Tryz.prog X w0:=MT 43 Tryz.call43 (ahS (cStr.H) ah0) (fun p:(List UInt8×Unit)=>VU p.1) (fun p:(List UInt8×Unit)=>HW p.1) iJ lK
def nameB (p:Pr):Bool:=p.e==0&&decide (p.i<(p.l.length:Int))&&(tk p).k==0&&!Dz (tk p).t
abbrev Xz (p:Pr):Prop:=okI p
abbrev D1 (p:Pr):Value:=Value.bool (nameB p)
theorem sG:M9 Tryz.prog 42 (ahS (cPt rPr) ah0) (fun p:(Pr×Unit)=>Xz p.1) (fun p:(Pr×Unit)=>ofV (D1 p.1)):=by
 rintro ⟨p,_u⟩ w fz xs hc hfz hl hx
 refine Kc Tryz.func42 rfl w fz [aQ] [] (ahS (cPt rPr) ah0) (fun p:(Pr×Unit)=>ofV (D1 p.1)) _ xs hfz hl hx (jN rfl) ?_
 clear hx hl hfz xs
 simp only[Tryz.f42]
 simp only[↓eB,seval,go_sem,aQ,JM]
 have h0:0≤p.i:=lJ hc
 try simp only[A1,A2]
 repeat' first|exact ck|with_reducible apply And.intro|intro _
 all_goals try simp only[bne,Bool.not_eq_true',Bool.not_eq_false',Bool.not_not] at*
 all_goals first
  |(refine A0 [] ?_;simp only[↓eB,seval,go_sem,bne,D1,nameB,tk];first|done|(simp only[*,if_true,if_false,jB,Bool.true_or,Bool.or_true,Bool.false_or,Bool.or_false,Bool.and_false,Bool.false_and,Bool.true_and,Bool.and_true,Bool.not_true,Bool.not_false,Bool.or_self,Bool.and_self,Int.reduceEq,Int.reduceNeg,Nat.reduceEqDiff,reduceCtorEq,Jf,Jg,De,ES,and_self,↓reduceIte];done)|(simp_all [nameB,tk];done))
  |omega
  |(simp only[decide_eq_true_eq,decide_eq_false_iff_not]at *;omega)
  |(simp_all [nameB,tk];done)
  |(simp_all [nameB,tk];omega)
  |trace_state
theorem lL:∀p:(Pr×Unit),okV ((fun p:(Pr×Unit)=>D1 p.1) p)=true:=by intro p;rfl
noncomputable def Au {X:Ctx} {w0:World}:Sy.Spec Tryz.prog X w0:=MT 42 Tryz.call42 (ahS (cPt rPr) ah0) (fun p:(Pr×Unit)=>Xz p.1) (fun p:(Pr×Unit)=>D1 p.1) lL sG
def BG (c:Int) (p:Pr):Pr:=if (p.e==0)=true then { p with e:=c,at':=if decide (p.i<(p.l.length:Int))=true then (tk p).p else p.en } else p
abbrev Ni (p:Pr) (c:Int):Prop:=okI p
abbrev Nj (p:Pr) (c:Int):SV:=.tup []
abbrev JN (p:Pr) (c:Int):List (Option MV):=[some (zPr,[(BG c p).c])]
noncomputable abbrev JO:ArgM ((Pr)×(Int)×Unit):=(amP (mPr) (amD (cInt .i64) am0))
abbrev sH:Prop:=BD Tryz.prog 36 ((JO).args 0) (JO).mem (fun p:(Pr)×(Int)×Unit=>Ni p.1 p.2.1) (fun p:(Pr)×(Int)×Unit=>Nj p.1 p.2.1) (fun p:(Pr)×(Int)×Unit=>JN p.1 p.2.1)
theorem sJ:∀p,(fun p:(Pr)×(Int)×Unit=>Ni p.1 p.2.1) p→BA ((JO).mem p).length ((fun p:(Pr)×(Int)×Unit=>JN p.1 p.2.1) p)=true:=by intro p _;rfl
theorem sK:∀p,(fun p:(Pr)×(Int)×Unit=>Ni p.1 p.2.1) p→AQ ((fun p:(Pr)×(Int)×Unit=>JN p.1 p.2.1) p).length ((fun p:(Pr)×(Int)×Unit=>Nj p.1 p.2.1) p)=true:=by intro p _;first|rfl|exact AK _ _|exact AL _ _|(simp[AQ,Bn,AK,AL];done)
theorem sM:∀p,(fun p:(Pr)×(Int)×Unit=>Ni p.1 p.2.1) p→∀q,some q∈(fun p:(Pr)×(Int)×Unit=>JN p.1 p.2.1) p→∀r∈q.2,∀c∈r,c.names=[]:=by intro p _;exact DY _
theorem yJ:sH:=by
 rintro ⟨p,c,_u⟩ w M I lab fz xs hc hA hl hx
 refine AJ Tryz.func36 rfl _ w M I lab fz [] [] _ _ _ xs hA hl hx (fun v hv k hk=>by have:=(JO).an 0 ⟨p,c,_u⟩ v hv k hk;omega) (jN rfl) (jN rfl) ?_
 clear hx hl hA xs
 simp only[Tryz.f36]
 simp only[↓eB,seval,go_sem,KP,KO,Pr.c]
 have h0:0≤p.i:=lJ hc
 try simp only[A1,A2]
 repeat' first|exact ck|with_reducible apply And.intro|intro _
 all_goals try simp only[bne,Bool.not_eq_true',Bool.not_eq_false',Bool.not_not] at*
 all_goals first
  |(refine A0 [] ?_;simp only[↓eB,seval,go_sem,bne,Nj,JN,BG,tk,Pr.c];first|done|(simp only[*,if_true,if_false,jB,Bool.true_or,Bool.or_true,Bool.false_or,Bool.or_false,Bool.and_false,Bool.false_and,Bool.true_and,Bool.and_true,Bool.not_true,Bool.not_false,Bool.or_self,Bool.and_self,Int.reduceEq,Int.reduceNeg,Nat.reduceEqDiff,reduceCtorEq,Jf,Jg,De,ES,and_self,↓reduceIte];done)|(simp_all [BG,tk];done))
  |omega
  |(simp only[decide_eq_true_eq,decide_eq_false_iff_not]at *;omega)
  |(simp_all [BG,tk];done)
  |(simp_all [BG,tk];omega)
  |trace_state
noncomputable def Av {X:Ctx} {w0:World}:Sy.Spec Tryz.prog X w0:=Be 36 Tryz.call36 (JO) (fun p:(Pr)×(Int)×Unit=>Ni p.1 p.2.1) (fun p:(Pr)×(Int)×Unit=>Nj p.1 p.2.1) (fun p:(Pr)×(Int)×Unit=>JN p.1 p.2.1) sJ sK sM yJ
end Go.Proofs.YtbiepiggmagfcaaGreatDoor
