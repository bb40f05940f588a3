/- The document's report. Conditions: no more than 1000 alarms and notes; the report is shorter than 10^9 bytes. -/
import Derived.Test.YtbiepiggmagfcaaGreatDoorPs5
import Derived.Test.YtbiepiggmagfcaaGreatDoorPr4
set_option linter.unusedVariables false
set_option linter.unusedSimpArgs false
open List (length_append length_cons length_nil append_assoc append_nil)
namespace Go.Proofs.YtbiepiggmagfcaaGreatDoor
open Go Go.Sy Go.Shelf Go.RowKit
abbrev Xu (k:Int):Prop:=True
abbrev Cg (k:Int):SV:=SV.one (.v (.string (bs (kdT k))))
attribute [local go_sem] Fn.c Sp bw Ht Jc bz bx GU lnR TG XH TH
theorem lA:AP Tryz.prog 26 (acS (cInt .i64) ac0) (fun p:(Int×Unit)=>Xu p.1) (fun p:(Int×Unit)=>Cg p.1):=by
 rintro ⟨k,_u⟩ w fz xs hc hfz hl hx
 refine A9 Tryz.func26 rfl w fz [] [] (acS (cInt .i64) ac0) (fun p:(Int×Unit)=>Cg p.1) _ xs hfz hl hx (jN rfl) ?_
 clear hx hl hfz xs
 simp only[Tryz.f26]
 rcases kd6 k with rfl|rfl|rfl|rfl|rfl|rfl|⟨e0,e1,e2,e3,e4,e5,e6⟩
 ·simp only[↓eB,seval,go_sem,Int.reduceToNat]
  repeat' first|exact ck|with_reducible apply And.intro|intro _
  all_goals first|exact trivial|(refine A0 [] ?_;simp only[↓eB,seval,go_sem,bne,Cg,kdT])
 ·simp only[↓eB,seval,go_sem,Int.reduceToNat]
  repeat' first|exact ck|with_reducible apply And.intro|intro _
  all_goals first|exact trivial|(refine A0 [] ?_;simp only[↓eB,seval,go_sem,bne,Cg,kdT])
 ·simp only[↓eB,seval,go_sem,Int.reduceToNat]
  repeat' first|exact ck|with_reducible apply And.intro|intro _
  all_goals first|exact trivial|(refine A0 [] ?_;simp only[↓eB,seval,go_sem,bne,Cg,kdT])
 ·simp only[↓eB,seval,go_sem,Int.reduceToNat]
  repeat' first|exact ck|with_reducible apply And.intro|intro _
  all_goals first|exact trivial|(refine A0 [] ?_;simp only[↓eB,seval,go_sem,bne,Cg,kdT])
 ·simp only[↓eB,seval,go_sem,Int.reduceToNat]
  repeat' first|exact ck|with_reducible apply And.intro|intro _
  all_goals first|exact trivial|(refine A0 [] ?_;simp only[↓eB,seval,go_sem,bne,Cg,kdT])
 ·simp only[↓eB,seval,go_sem,Int.reduceToNat]
  repeat' first|exact ck|with_reducible apply And.intro|intro _
  all_goals first|exact trivial|(refine A0 [] ?_;simp only[↓eB,seval,go_sem,bne,Cg,kdT])
 ·rcases e6 with e6|e6
  ·have h1:decide (k<0)=true:=by simp;omega
   simp only[↓eB,seval,go_sem,h1]
   repeat' first|exact ck|with_reducible apply And.intro|intro _
   all_goals first|exact trivial|(refine A0 [] ?_;simp only[↓eB,seval,go_sem,bne,Cg,kdT,e0,e1,e2,e3,e4,e5])
  ·have h1:decide (k<0)=false:=by simp;omega
   have h2:decide (6≤k)=true:=by simp;omega
   simp only[↓eB,seval,go_sem,h1,h2]
   repeat' first|exact ck|with_reducible apply And.intro|intro _
   all_goals first|exact trivial|(refine A0 [] ?_;simp only[↓eB,seval,go_sem,bne,Cg,kdT,e0,e1,e2,e3,e4,e5])
theorem lD:∀p:(Int×Unit),((fun p:(Int×Unit)=>Cg p.1) p).names=[]:=by intro p;first|rfl|simp[SV.names,C.names]
noncomputable def JH {X:Ctx} {w0:World}:Sy.Spec Tryz.prog X w0:=Am 26 Tryz.call26 (acS (cInt .i64) ac0) (fun p:(Int×Unit)=>Xu p.1) (fun p:(Int×Unit)=>Cg p.1) lD lA
def mkT (A:List Al) (N:List Nt) (x:Ln):List UInt8:=if (decide (0≤x.n)&&!(CP A N x.n).isEmpty)=true then (x.t++[32,35])++CP A N x.n else x.t
def rpW (A:List Al) (N:List Nt) (x:Ln):List UInt8:=mkT A N x++[10]
def rpX (A:List Al) (N:List Nt) (l:List Ln):List UInt8:=l.flatMap (rpW A N)
theorem lE {A:List Al} {N:List Nt} {l:List Ln} {i:Nat} {x:Ln} (h:l[i]?=some x):rpX A N (l.take (i+1))=rpX A N (l.take i)++(mkT A N x++[10]):=OT (rpW A N) h
theorem rm (A:List Al) (N:List Nt) (l:List Ln) (i:Nat):(rpX A N (l.take i)).length≤(rpX A N l).length:=by
 have:rpX A N l=rpX A N (l.take i)++rpX A N (l.drop i):=by unfold rpX;rw[← List.flatMap_append,List.take_append_drop]
 rw[this,length_append];omega
theorem y9 {l:List Ln} {i:Nat} {t:List UInt8} {n:Int} (h:l[i]?=some ⟨t,n⟩) (z:List D):(l.map Ln.r).getD i z=[dS t,dI n]:=by simp[List.getD,h,Ln.r]
theorem gy {A:List Al} {N:List Nt} {t:Int}:((CP A N t)==[])=(CP A N t).isEmpty:=by
 cases CP A N t<;>rfl
abbrev TL (n:Nat) (m:Nat) (f:Fn) (A:List Al) (N:List Nt):Prop:=Cp n m f.body∧ER m f.body∧m≤1000∧f.ps.length≤5000∧f.ls.length≤5000∧(fnT f).length≤1000000000∧A.length≤1000∧N.length≤1000∧(rpX A N (lnF f)).length≤1000000000
abbrev I9 (n:Nat) (m:Nat) (f:Fn) (A:List Al) (N:List Nt):SV:=.one (.v (.string (bs (rpX A N (lnF f)))))
noncomputable abbrev OV:ArgC ((Fn)×(List Al)×(List Nt)×Unit):=(acS (cFn) (acS (cAs) (acS (cNs) ac0)))
abbrev TM (n:Nat) (m:Nat):Prop:=AP Tryz.prog 22 OV (fun p:(Fn)×(List Al)×(List Nt)×Unit=>TL n m p.1 p.2.1 p.2.2.1) (fun p:(Fn)×(List Al)×(List Nt)×Unit=>I9 n m p.1 p.2.1 p.2.2.1)
theorem cm (n:Nat) (m:Nat):∀p:(Fn)×(List Al)×(List Nt)×Unit,((fun p:(Fn)×(List Al)×(List Nt)×Unit=>I9 n m p.1 p.2.1 p.2.2.1) p).names=[]:=by intro p;rfl
noncomputable def OW {X:Ctx} {w0:World} (n:Nat) (m:Nat) (h:TM n m):Sy.Spec Tryz.prog X w0:=Am 22 Tryz.call22 OV (fun p:(Fn)×(List Al)×(List Nt)×Unit=>TL n m p.1 p.2.1 p.2.2.1) (fun p:(Fn)×(List Al)×(List Nt)×Unit=>I9 n m p.1 p.2.1 p.2.2.1) (cm n m) h
set_option maxRecDepth 20000 in set_option maxHeartbeats 8000000 in
theorem VS (n:Nat) (m:Nat):TM n m:=by
 rintro ⟨f,A,N,_u⟩ w fz xs hc hfz hl hx
 refine A9 Tryz.func22 rfl w fz [(VD n m (y_rLines n m)),JH] [] OV (fun p:(Fn)×(List Al)×(List Nt)×Unit=>I9 n m p.1 p.2.1 p.2.2.1) _ xs hfz hl hx (jN rfl) ?_
 clear hx hl hfz xs
 simp only[Tryz.f22]
 obtain⟨h1,h2,h3,h4,h5,h9,h6,h7,h8⟩:=hc
 dsimp only at h1 h2 h3 h4 h5 h6 h7 h8 h9
 obtain⟨L,hL⟩:∃L,lnF f=L:=⟨_,rfl⟩
 rw[hL]at h8
 have hLl:L.length≤1000000000:=by
  have:L.length≤(rpX A N L).length:=by
   clear h8 hL
   induction L with
   |nil=>exact Nat.le_refl _
   |cons a l ih=>unfold rpX at ih ⊢;simp only[List.flatMap_cons,length_append,length_cons,rpW,length_nil];omega
  omega
 obtain⟨nm,ps,ls,bd⟩:=f
 simp only[↓eB,seval,go_sem,beq_self_eq_true,VD,hL]
 try simp only[A1,A2]
 repeat' (first|exact ck|with_reducible apply And.intro)
 all_goals try first|exact h1|exact h2|exact h3|exact h4|exact h5|exact h9|decide|omega
 refine AH (Y:=Nat) (fun z=>z≤L.length)
  (fun z=>⟨[(1,true,.one (.d (.sl zAl (A.map Al.r)))),(2,true,.one (.d (.sl zNt (N.map Nt.r)))),(7,true,.one (.v (.string (bs (rpX A N (L.take z)))))),(8,true,.one (.d (.sl zLn (L.map Ln.r)))),(9,true,.one (.v (.int .i64 (z:Int))))],[]⟩)
  (fun z=>L.length-z) 0 (Nat.zero_le _) ?_ ?_
 ·refine A4 [] ?_;simp only[↓eB,seval,go_sem,beq_self_eq_true,hL,rpX]
 ·rintro i hi
  refine Ab [JH] [] _ _ _ ?_
  cases hx:L[i]? with
  |none=>
   have e2:=List.getElem?_eq_none_iff.1 hx
   have e1:=Ao e2
   have e3:L.take i=L:=List.take_of_length_le e2
   simp only[↓eB,seval,go_sem,beq_self_eq_true,e1,e3]
   try simp only[A1,A2]
   repeat' first|exact ck|with_reducible apply And.intro|intro _
   all_goals first|exact trivial|(rename_i h;first|exact oI h|exact nah h)|(rename_i _ h _ g;exact sL h g)|decide|omega|(refine A0 [] ?_;simp only[↓eB,seval,go_sem,bne,I9,hL])
  |some x=>
   have i2:=(List.getElem?_eq_some_iff.1 hx).1
   have i1:=Ah i2
   have i4:=AX i2
   have i5:=AM (n:=L.length) (Nat.le_of_lt i2) (by omega)
   have i6:=lE (A:=A) (N:=N) hx
   have i7:=rm A N L (i+1)
   obtain⟨xt,xn⟩:=x
   have i3:=y9 hx
   rw[i6]at i7
   obtain⟨S,hS⟩:∃S,rpX A N (L.take i)=S:=⟨_,rfl⟩
   rw[hS]at i6 i7
   simp only[jL3]at i7
   cases c0:decide (0≤xn) with
   |false=>
    have m1:mkT A N ⟨xt,xn⟩=xt:=by unfold mkT;rw[if_neg (by rw[c0,Bool.false_and];decide)]
    rw[m1]at i6 i7
    simp only[↓eB,seval,go_sem,beq_self_eq_true,hS,i1,i3,c0]
    try simp only[A1,A2]
    repeat' first|exact ck|with_reducible apply And.intro|intro _
    all_goals try first|exact i4|exact omega|(simp only[length_append];omega)|(rename_i h;first|exact oI h|exact nah h)|(rename_i _ h _ g;exact sL h g)|decide|omega
    refine⟨i+1,i2,by omega,A4 [] ?_⟩
    simp only[↓eB,seval,go_sem,beq_self_eq_true,i5,i6,append_assoc]
   |true=>
    have m2:S.length+xt.length+1≤1000000000:=by
     have:xt.length≤(mkT A N ⟨xt,xn⟩).length:=by unfold mkT;split<;>simp
     omega
    have al:=OU (t:=xn) h6 h7
    simp only[↓eB,seval,go_sem,beq_self_eq_true,hS,i1,i3,c0]
    try simp only[A1,A2]
    repeat' (first|exact ck|with_reducible apply And.intro)
    all_goals try first|exact i4|exact omega|decide|omega
    refine AH (Y:=Nat) (fun z=>z≤A.length)
     (fun z=>⟨[(1,true,.one (.d (.sl zAl (A.map Al.r)))),(2,true,.one (.d (.sl zNt (N.map Nt.r)))),(7,true,.one (.v (.string (bs (S++xt))))),(8,true,.one (.d (.sl zLn (L.map Ln.r)))),(9,true,.one (.v (.int .i64 (i:Int)))),(10,true,.one (.v (.string (bs (alP (A.take z) xn))))),(11,true,.one (.v (.int .i64 (z:Int))))],[]⟩)
     (fun z=>A.length-z) 0 (Nat.zero_le _) ?_ ?_
    ·refine A4 [] ?_;simp only[↓eB,seval,go_sem,beq_self_eq_true,alP]
    ·rintro z hz
     refine Ab [JH] [] _ _ _ ?_
     cases hy:A[z]? with
     |none=>
      have e2:=List.getElem?_eq_none_iff.1 hy
      have e1:=Ao e2
      have e3:A.take z=A:=List.take_of_length_le e2
      simp only[↓eB,seval,go_sem,beq_self_eq_true,e1,e3]
      refine AH (Y:=Nat) (fun z=>z≤N.length)
       (fun z=>⟨[(1,true,.one (.d (.sl zAl (A.map Al.r)))),(2,true,.one (.d (.sl zNt (N.map Nt.r)))),(7,true,.one (.v (.string (bs (S++xt))))),(8,true,.one (.d (.sl zLn (L.map Ln.r)))),(9,true,.one (.v (.int .i64 (i:Int)))),(10,true,.one (.v (.string (bs (alP A xn++ntP (N.take z) xn))))),(12,true,.one (.v (.int .i64 (z:Int))))],[]⟩)
       (fun z=>N.length-z) 0 (Nat.zero_le _) ?_ ?_
      ·refine A4 [] ?_;simp only[↓eB,seval,go_sem,beq_self_eq_true,cZ]
      ·rintro z hz
       refine Ab [JH] [] _ _ _ ?_
       cases hy:N[z]? with
       |none=>
        have e2:=List.getElem?_eq_none_iff.1 hy
        have e1:=Ao e2
        have e3:N.take z=N:=List.take_of_length_le e2
        cases c1:(CP A N xn).isEmpty with
        |true=>
         have c2:((CP A N xn)==[])=true:=by rw[gy,c1]
         have m1:mkT A N ⟨xt,xn⟩=xt:=by unfold mkT;rw[if_neg (by rw[c1,Bool.not_true,Bool.and_false];decide)]
         rw[m1]at i6 i7
         simp only[↓eB,seval,go_sem,beq_self_eq_true,e1,e3,L7,c2]
         try simp only[A1,A2]
         repeat' first|exact ck|with_reducible apply And.intro|intro _
         all_goals try first|exact omega|(simp only[length_append];omega)|(rename_i h;first|exact oI h|exact nah h)|(rename_i _ h _ g;exact sL h g)|decide|omega
         refine⟨i+1,i2,by omega,A4 [] ?_⟩
         simp only[↓eB,seval,go_sem,beq_self_eq_true,i5,i6,append_assoc]
        |false=>
         have c2:((CP A N xn)==[])=false:=by rw[gy,c1]
         have m1:mkT A N ⟨xt,xn⟩=(xt++[32,35])++CP A N xn:=by unfold mkT;rw[if_pos (by rw[c0,c1];decide)]
         rw[m1]at i6 i7
         simp only[jL3]at i7
         simp only[↓eB,seval,go_sem,beq_self_eq_true,e1,e3,L7,c2]
         try simp only[A1,A2]
         repeat' first|exact ck|with_reducible apply And.intro|intro _
         all_goals try first|exact omega|(simp only[jL3];omega)|(rename_i h;first|exact oI h|exact nah h)|(rename_i _ h _ g;exact sL h g)|decide|omega
         refine⟨i+1,i2,by omega,A4 [] ?_⟩
         simp only[↓eB,seval,go_sem,beq_self_eq_true,i5,i6,append_assoc]
       |some y=>
        have e2:=(List.getElem?_eq_some_iff.1 hy).1
        have e1:=Ah e2
        have e4:=AX e2
        have e5:=AM (n:=N.length) (Nat.le_of_lt e2) (by omega)
        have e6:=cY hy xn
        have e8:(alP A xn++ntP (N.take z) xn).length≤15000:=by
         have:=L6 A xn
         have:=Qk (N.take z) xn
         rw[List.length_take]at this
         rw[length_append];omega
        obtain⟨yn,yk,ys⟩:=y
        have e3:=cX hy
        have e7:=Qj yk
        cases c1:(yn==xn) with
        |false=>
         have e9:ntW xn ⟨yn,yk,ys⟩=[]:=by unfold ntW;rw[if_neg (by simp only[c1,Bool.and_false];decide)]
         rw[e9,append_nil]at e6
         simp only[↓eB,seval,go_sem,beq_self_eq_true,i3,e1,e3,c1]
         try simp only[A1,A2]
         repeat' first|exact ck|with_reducible apply And.intro|intro _
         all_goals try first|exact e2|exact e4|exact i4|(rename_i h;first|exact oI h|exact nah h)|(rename_i _ h _ g;exact sL h g)|decide|omega
         refine⟨z+1,e2,by omega,A4 [] ?_⟩
         simp only[↓eB,seval,go_sem,beq_self_eq_true,e5,e6]
        |true=>
        rcases kdw yk with rfl|rfl|rfl|⟨w0,w1,w2,w3⟩
        ·have e9:ntW xn ⟨yn,0,ys⟩=[32]++wdT 0:=by unfold ntW;rw[if_pos (by simp only[c1];decide)]
         rw[e9]at e6
         simp only[↓eB,seval,go_sem,beq_self_eq_true,i3,e1,e3,c1,Int.reduceToNat]
         try simp only[A1,A2]
         repeat' first|exact ck|with_reducible apply And.intro|intro _
         all_goals try first|exact e2|exact e4|exact i4|(simp only[jL3]at *;omega)|(rename_i h;first|exact oI h|exact nah h)|(rename_i _ h _ g;exact sL h g)|decide|omega
         refine⟨z+1,e2,by omega,A4 [] ?_⟩
         simp only[↓eB,seval,go_sem,beq_self_eq_true,e5,e6,wdT,append_assoc]
        ·have e9:ntW xn ⟨yn,1,ys⟩=[32]++wdT 1:=by unfold ntW;rw[if_pos (by simp only[c1];decide)]
         rw[e9]at e6
         simp only[↓eB,seval,go_sem,beq_self_eq_true,i3,e1,e3,c1,Int.reduceToNat]
         try simp only[A1,A2]
         repeat' first|exact ck|with_reducible apply And.intro|intro _
         all_goals try first|exact e2|exact e4|exact i4|(simp only[jL3]at *;omega)|(rename_i h;first|exact oI h|exact nah h)|(rename_i _ h _ g;exact sL h g)|decide|omega
         refine⟨z+1,e2,by omega,A4 [] ?_⟩
         simp only[↓eB,seval,go_sem,beq_self_eq_true,e5,e6,wdT,append_assoc]
        ·have e9:ntW xn ⟨yn,2,ys⟩=[32]++wdT 2:=by unfold ntW;rw[if_pos (by simp only[c1];decide)]
         rw[e9]at e6
         simp only[↓eB,seval,go_sem,beq_self_eq_true,i3,e1,e3,c1,Int.reduceToNat]
         try simp only[A1,A2]
         repeat' first|exact ck|with_reducible apply And.intro|intro _
         all_goals try first|exact e2|exact e4|exact i4|(simp only[jL3]at *;omega)|(rename_i h;first|exact oI h|exact nah h)|(rename_i _ h _ g;exact sL h g)|decide|omega
         refine⟨z+1,e2,by omega,A4 [] ?_⟩
         simp only[↓eB,seval,go_sem,beq_self_eq_true,e5,e6,wdT,append_assoc]
        ·have e9:ntW xn ⟨yn,yk,ys⟩=[]:=by unfold ntW;rw[if_neg (by simp only[w3,Bool.false_and];decide)]
         rw[e9,append_nil]at e6
         cases c3:decide (0≤yk) with
         |false=>
          simp only[↓eB,seval,go_sem,beq_self_eq_true,i3,e1,e3,c1,c3]
          try simp only[A1,A2]
          repeat' first|exact ck|with_reducible apply And.intro|intro _
          all_goals try first|exact e2|exact e4|exact i4|(rename_i h;first|exact oI h|exact nah h)|(rename_i _ h _ g;exact sL h g)|decide|omega
          refine⟨z+1,e2,by omega,A4 [] ?_⟩
          simp only[↓eB,seval,go_sem,beq_self_eq_true,e5,e6]
         |true=>
          have c4:decide (yk≤2)=false:=by
           unfold wdB at w3;rw[c3,Bool.true_and]at w3;exact w3
          simp only[↓eB,seval,go_sem,beq_self_eq_true,i3,e1,e3,c1,c3,c4]
          try simp only[A1,A2]
          repeat' first|exact ck|with_reducible apply And.intro|intro _
          all_goals try first|exact e2|exact e4|exact i4|(rename_i h;first|exact oI h|exact nah h)|(rename_i _ h _ g;exact sL h g)|decide|omega
          refine⟨z+1,e2,by omega,A4 [] ?_⟩
          simp only[↓eB,seval,go_sem,beq_self_eq_true,e5,e6]
     |some y=>
      have e2:=(List.getElem?_eq_some_iff.1 hy).1
      have e1:=Ah e2
      have e4:=AX e2
      have e5:=AM (n:=A.length) (Nat.le_of_lt e2) (by omega)
      have e6:=nV hy xn
      have e8:(alP (A.take z) xn).length≤8000:=by have:=L6 (A.take z) xn;rw[List.length_take]at this;omega
      obtain⟨yn,yk⟩:=y
      have e3:=nT hy
      have e7:=UV yk
      cases c1:(yn==xn) with
      |true=>
       have e9:alW xn ⟨yn,yk⟩=[32]++kdT yk:=by unfold alW;rw[if_pos c1]
       rw[e9]at e6
       simp only[↓eB,seval,go_sem,beq_self_eq_true,JH,Cg,i3,e1,e3,c1]
       try simp only[A1,A2]
       repeat' first|exact ck|with_reducible apply And.intro|intro _
       all_goals try first|exact e2|exact e4|exact i4|(simp only[jL3];omega)|(rename_i h;first|exact oI h|exact nah h)|(rename_i _ h _ g;exact sL h g)|decide|omega
       refine⟨z+1,e2,by omega,A4 [] ?_⟩
       simp only[↓eB,seval,go_sem,beq_self_eq_true,e5,e6,append_assoc]
      |false=>
       have e9:alW xn ⟨yn,yk⟩=[]:=by unfold alW;rw[if_neg (by rw[c1];decide)]
       rw[e9,append_nil]at e6
       simp only[↓eB,seval,go_sem,beq_self_eq_true,JH,Cg,i3,e1,e3,c1]
       try simp only[A1,A2]
       repeat' first|exact ck|with_reducible apply And.intro|intro _
       all_goals try first|exact e2|exact e4|exact i4|(rename_i h;first|exact oI h|exact nah h)|(rename_i _ h _ g;exact sL h g)|decide|omega
       refine⟨z+1,e2,by omega,A4 [] ?_⟩
       simp only[↓eB,seval,go_sem,beq_self_eq_true,e5,e6]
end Go.Proofs.YtbiepiggmagfcaaGreatDoor
