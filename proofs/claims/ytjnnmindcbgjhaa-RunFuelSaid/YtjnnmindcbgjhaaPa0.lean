/- The lexer of the reference, as the parser calls it. No conditions but those in each statement. -/
import Derived.Test.YtjnnmindcbgjhaaGs
import Derived.Test.YtjnnmindcbgjhaaTy2
set_option linter.unusedVariables false
set_option linter.unusedSimpArgs false
open List (map_append)
namespace Go.Proofs.Ytjnnmindcbgjhaa
open Go Go.Sy Go.RowKit
abbrev TP (b:Int):Prop:=True
abbrev DU (b:Int):SV:=SV.one (.v (.bool (Kk b)))
theorem cW:Cc Try.prog 73 (acS (cInt .u8) ac0) (fun p:(Int×Unit)=>TP p.1) (fun p:(Int×Unit)=>DU p.1):=by
 rintro ⟨b,_u⟩ w fz xs hc hfz hl hx
 refine Bj Try.func73 rfl w fz [] [] (acS (cInt .u8) ac0) (fun p:(Int×Unit)=>DU p.1) _ xs hfz hl hx (jN rfl) ?_
 clear hx hl hfz xs
 simp only[Try.f73]
 simp only[↓eB,seval,go_sem]
 try simp only[A2,A3]
 repeat' first|exact ck|with_reducible apply And.intro|intro _
 all_goals try simp only[bne,Bool.not_eq_true',Bool.not_eq_false',Bool.not_not] at*
 all_goals first
  |(refine A0 [] ?_;simp only[↓eB,seval,go_sem,bne,DU,Kk];first|done|(simp only[*,if_true,if_false,jB,Bool.true_or,Bool.or_true,Bool.false_or,Bool.or_false,Bool.and_false,Bool.false_and,Bool.true_and,Bool.and_true,Bool.not_true,Bool.not_false,Bool.or_self,Bool.and_self,Int.reduceEq,Int.reduceNeg,Nat.reduceEqDiff,reduceCtorEq,Lj,Lk,Fl,Gq,and_self,↓reduceIte];done)|(simp_all;done))
  |omega
  |(simp only[decide_eq_true_eq,decide_eq_false_iff_not]at *;omega)
  |(simp_all;done)
  |(simp_all;omega)
  |trace_state
theorem aN:∀p:(Int×Unit),((fun p:(Int×Unit)=>DU p.1) p).names=[]:=by intro p;first|rfl|simp[SV.names,C.names]
noncomputable def DV {X:Ctx} {w0:World}:Sy.Spec Try.prog X w0:=DD 73 Try.call73 (acS (cInt .u8) ac0) (fun p:(Int×Unit)=>TP p.1) (fun p:(Int×Unit)=>DU p.1) aN cW
abbrev Vj (b:Int):Prop:=True
abbrev E5 (b:Int):SV:=SV.one (.v (.bool (Dg b)))
theorem gP:Cc Try.prog 74 (acS (cInt .u8) ac0) (fun p:(Int×Unit)=>Vj p.1) (fun p:(Int×Unit)=>E5 p.1):=by
 rintro ⟨b,_u⟩ w fz xs hc hfz hl hx
 refine Bj Try.func74 rfl w fz [] [] (acS (cInt .u8) ac0) (fun p:(Int×Unit)=>E5 p.1) _ xs hfz hl hx (jN rfl) ?_
 clear hx hl hfz xs
 simp only[Try.f74]
 simp only[↓eB,seval,go_sem]
 try simp only[A2,A3]
 repeat' first|exact ck|with_reducible apply And.intro|intro _
 all_goals try simp only[bne,Bool.not_eq_true',Bool.not_eq_false',Bool.not_not] at*
 all_goals first
  |(refine A0 [] ?_;simp only[↓eB,seval,go_sem,bne,E5,Dg];first|done|(simp only[*,if_true,if_false,jB,Bool.true_or,Bool.or_true,Bool.false_or,Bool.or_false,Bool.and_false,Bool.false_and,Bool.true_and,Bool.and_true,Bool.not_true,Bool.not_false,Bool.or_self,Bool.and_self,Int.reduceEq,Int.reduceNeg,Nat.reduceEqDiff,reduceCtorEq,Lj,Lk,Fl,Gq,and_self,↓reduceIte];done)|(simp_all;done))
  |omega
  |(simp only[decide_eq_true_eq,decide_eq_false_iff_not]at *;omega)
  |(simp_all;done)
  |(simp_all;omega)
  |trace_state
theorem cX:∀p:(Int×Unit),((fun p:(Int×Unit)=>E5 p.1) p).names=[]:=by intro p;first|rfl|simp[SV.names,C.names]
noncomputable def E6 {X:Ctx} {w0:World}:Sy.Spec Try.prog X w0:=DD 74 Try.call74 (acS (cInt .u8) ac0) (fun p:(Int×Unit)=>Vj p.1) (fun p:(Int×Unit)=>E5 p.1) cX gP
abbrev RR (s:List UInt8) (c:Int):Prop:=Ct s
abbrev K1 (s:List UInt8) (c:Int):SV:=SV.one (.v (.bool (Mv s c)))
theorem uP:Cc Try.prog 75 (acS (cStr) (acS (cInt .u8) ac0)) (fun p:(List UInt8×(Int×Unit))=>RR p.1 p.2.1) (fun p:(List UInt8×(Int×Unit))=>K1 p.1 p.2.1):=by
 rintro ⟨s,c,_u⟩ w fz xs hc hfz hl hx
 refine Bj Try.func75 rfl w fz [] [] (acS (cStr) (acS (cInt .u8) ac0)) (fun p:(List UInt8×(Int×Unit))=>K1 p.1 p.2.1) _ xs hfz hl hx (jN rfl) ?_
 clear hx hl hfz xs
 simp only[Try.f75]
 simp only[↓eB,seval,go_sem]
 have hs:s.length≤4294967296:=hc
 refine Ab (Y:=Nat) (fun i=>i≤s.length∧Mv (s.drop i) c=Mv s c)
  (fun i=>⟨[(0,true,.one (.v (.string (bs s)))),(1,true,.one (.v (.int .u8 c))),(5,true,.one (.v (.int .i64 (i:Int))))],[]⟩)
  (fun i=>s.length-i) 0 ⟨Nat.zero_le _,by simp⟩ ?_ ?_
 ·refine A4 [] ?_;simp only[↓eB,seval,go_sem]
 ·rintro i ⟨hi,hJ⟩
  refine Au [] [] _ _ _ ?_
  by_cases hlt:i<s.length
  ·have h1:=BF hlt
   have h2:=FH hlt
   have h3:=ED hi hs
   rw[li hlt]at hJ
   simp only[↓eB,seval,go_sem,h1,h2,h3]
   simp only[A2,A3]
   refine⟨fun hb=>?_,fun hb=>⟨i+1,⟨hlt,?_⟩,by omega,?_⟩⟩
   ·rw[hb,Bool.true_or]at hJ
    refine A0 [] ?_;simp only[↓eB,seval,go_sem,bne,K1,← hJ]
   ·rw[hb,Bool.false_or]at hJ;exact hJ
   ·refine A4 [] ?_;simp only[↓eB,seval,go_sem]
  ·have h1:=BG (Nat.le_of_not_lt hlt)
   rw[List.drop_eq_nil_of_le (Nat.le_of_not_lt hlt)]at hJ
   have hJ':Mv s c=false:=hJ.symm
   simp only[↓eB,seval,go_sem,h1]
   refine A0 [] ?_;simp only[↓eB,seval,go_sem,bne,K1,hJ']
theorem mZ:∀p:(List UInt8×(Int×Unit)),((fun p:(List UInt8×(Int×Unit))=>K1 p.1 p.2.1) p).names=[]:=by intro p;first|rfl|simp[SV.names,C.names]
noncomputable def FY {X:Ctx} {w0:World}:Sy.Spec Try.prog X w0:=DD 75 Try.call75 (acS (cStr) (acS (cInt .u8) ac0)) (fun p:(List UInt8×(Int×Unit))=>RR p.1 p.2.1) (fun p:(List UInt8×(Int×Unit))=>K1 p.1 p.2.1) mZ uP
abbrev aO (s:List UInt8):Prop:=Ct s
abbrev EJ (s:List UInt8):SV:=Lf (rxT s)
set_option maxRecDepth 20000 in set_option maxHeartbeats 4000000 in
theorem cY:Cc Try.prog 53 (acS (cStr) ac0) (fun p:(List UInt8×Unit)=>aO p.1) (fun p:(List UInt8×Unit)=>EJ p.1):=by
 rintro ⟨s,_u⟩ w fz xs hc hfz hl hx
 refine Bj Try.func53 rfl w fz [DV,E6,FY] [] (acS (cStr) ac0) (fun p:(List UInt8×Unit)=>EJ p.1) _ xs hfz hl hx (jN rfl) ?_
 clear hx hl hfz xs
 simp only[Try.f53]
 simp only[↓eB,seval,go_sem,DV,E6,FY,DU,E5,K1,RR]
 simp only[A2,A3]
 refine⟨fun h=>?_,fun h=>?_⟩
 ·have hR:rxT s=([],0,53):=by unfold rxT;rw[if_pos h]
  refine A0 [.nil 2 1000 EI,.fz 1000] ?_;simp only[↓eB,seval,go_sem,bne,EJ,hR,Lf,EI,Le]
 ·have hR:rxT s=rxF s s.length 0 []:=by unfold rxT;rw[if_neg (by rw[h];decide)]
  have hs:s.length≤4096:=by simp at h;omega
  refine Ab (Y:=Nat×List Tok) (fun y=>rxJ s y.1 y.2) (fun y=>rxI s y.1 y.2) (fun y=>s.length-y.1) (0,[]) ⟨Nat.zero_le _,Nat.le_refl _,s.length,by dsimp only;omega,hR.symm⟩ ?_ ?_
  ·refine A4 [.nil 5 1000 EI] ?_;simp only[↓eB,seval,go_sem,EI]
  ·rintro ⟨i,out⟩ ⟨hi,ho,f,hf,hJ⟩
   simp only at hi ho hf hJ
   refine Au [DV,E6,FY] [] _ _ _ ?_
   by_cases hlt:i<s.length
   ·have h1:=BF hlt
    have h2:=FH hlt
    have h3:=ED hi (n:=s.length) (by omega)
    have h3':=Jw hlt
    have h4:((i:Int)≤((i+1:Nat):Int))=True:=Jw (by omega)
    obtain⟨f,rfl⟩:∃g,f=g+1:=⟨f-1,by omega⟩
    simp only[rxF]at hJ
    rw[if_neg (Nat.not_le.2 hlt)]at hJ
    have h5:Ct TC:=by decide
    obtain⟨z6,q1,q3⟩:∃z6,decide (((i+2:Nat):Int)≤(s.length:Int))=z6∧(z6=true→i+2≤s.length):=⟨_,rfl,fun h=>by simp at h;omega⟩
    have q2:IntKind.i64.wrap ((i:Int)+2)=((i+2:Nat):Int):=by rw[wrap_i64 (by omega) (by omega)];rfl
    have q4:((i:Int)≤((i+2:Nat):Int))=True:=Jw (by omega)
    have q6:(i+2)-i=2:=by omega
    have q7:(i+1)-i=1:=by omega
    have q8:z6=true→((i+2:Nat):Int)≤(s.length:Int):=fun h=>by have:=q3 h;omega
    simp only[↓eB,seval,go_sem,h1,h2,h3,h3',h4,h5,q1,q2,q4,q6,q7,DV,E6,FY,DU,E5,K1,RR]
    simp only[A2,A3]
    refine⟨fun hb=>?_,fun hb=>⟨fun hc=>?_,fun hc=>⟨fun hl=>?_,fun hl=>⟨fun hd=>?_,fun hd=>?_⟩⟩⟩⟩
    ·
     rw[if_pos (show blB (chI s i)=true from hb)]at hJ
     refine⟨(i+1,out),⟨hlt,by dsimp only;omega,f,by dsimp only;omega,hJ⟩,by dsimp only;omega,?_⟩
     refine A4 [] ?_;simp only[↓eB,seval,go_sem,Cw,rxI]
    ·
     rw[if_neg (show ¬blB (chI s i)=true by show ¬(_||_||_||_)=true;rw[hb];decide),if_pos hc]at hJ
     have hk1:=It nlB hlt
     have hc2:((s.getD i 0).toNat:Int)=35:=beq_iff_eq.1 hc
     rw[if_pos (show nlB _=true by show (!(((s.getD i 0).toNat:Int)==10))=true;rw[hc2];rfl)]at hk1
     have hk2:=Nn nlB (s.drop i)
     simp only[List.length_drop]at hk2
     obtain⟨k,hk⟩:∃k,Cl nlB (s.drop i)=k:=⟨_,rfl⟩
     rw[hk]at hJ hk1 hk2
     refine Ab (Y:=Nat) (fun j=>i≤j∧j≤s.length∧j+Cl nlB (s.drop j)=i+k) (fun j=>rxI s j out) (fun j=>s.length-j) i ⟨Nat.le_refl _,hi,by rw[hk]⟩ ?_ ?_
     ·refine A4 [] ?_;simp only[↓eB,seval,go_sem,Cw,rxI]
     ·rintro j ⟨hj1,hj2,hj3⟩
      refine Au [DV,E6,FY] [] _ _ _ ?_
      by_cases hjl:j<s.length
      ·have m1:=BF hjl
       have m2:=FH hjl
       have m3:=ED hj2 (n:=s.length) (by omega)
       rw[It _ hjl]at hj3
       simp only[↓eB,seval,go_sem,m1,m2,m3]
       simp only[A2,A3]
       refine⟨fun hq=>?_,fun hq=>?_⟩
       ·rw[if_pos (show nlB _=true from hq)]at hj3
        refine⟨j+1,⟨by omega,hjl,by omega⟩,by omega,?_⟩
        refine A4 [] ?_;simp only[↓eB,seval,go_sem,Cw,rxI]
       ·rw[if_neg (show ¬nlB _=true by show ¬(!(_==_))=true;rw[show (!(((s.getD j 0).toNat:Int)==10))=false from hq];decide)]at hj3
        obtain rfl:j=i+k:=by omega
        refine⟨(i+k,out),⟨by dsimp only;omega,by dsimp only;omega,f,by dsimp only;omega,hJ⟩,by dsimp only;omega,?_⟩
        refine A4 [] ?_;simp only[↓eB,seval,go_sem,Cw,rxI]
      ·have m1:=BG (Nat.le_of_not_lt hjl)
       rw[RG _ (Nat.le_of_not_lt hjl)]at hj3
       obtain rfl:j=i+k:=by omega
       simp only[↓eB,seval,go_sem,m1]
       refine⟨(i+k,out),⟨by dsimp only;omega,by dsimp only;omega,f,by dsimp only;omega,hJ⟩,by dsimp only;omega,?_⟩
       refine A4 [] ?_;simp only[↓eB,seval,go_sem,Cw,rxI]
    ·
     rw[if_neg (show ¬blB (chI s i)=true by show ¬(_||_||_||_)=true;rw[hb];decide),if_neg (by show ¬(_==_)=true;rw[hc];decide),if_pos hl]at hJ
     have hk1:=It idB hlt
     rw[if_pos (show idB _=true by show (Kk _||Dg _)=true;rw[hl];rfl)]at hk1
     have hk2:=Nn idB (s.drop i)
     simp only[List.length_drop]at hk2
     obtain⟨k,hk⟩:∃k,Cl idB (s.drop i)=k:=⟨_,rfl⟩
     rw[hk]at hJ hk1 hk2
     refine Ab (Y:=Nat) (fun j=>i≤j∧j≤s.length∧j+Cl idB (s.drop j)=i+k) (fun j=>⟨[(0,true,.one (.v (.string (bs s)))),(5,true,.one (.s 1000)),(6,true,.one (.v (.int .i64 (j:Int)))),(8,true,.one (.v (.int .i64 (i:Int))))],[(1000,.vec 0 EI (out.map FN))]⟩) (fun j=>s.length-j) i ⟨Nat.le_refl _,hi,by rw[hk]⟩ ?_ ?_
     ·refine A4 [] ?_;simp only[↓eB,seval,go_sem,Cw]
     ·rintro j ⟨hj1,hj2,hj3⟩
      refine Au [DV,E6,FY] [] _ _ _ ?_
      have e1:IntKind.i64.wrap (((i+k:Nat):Int)-(i:Int))=(k:Int):=by rw[wrap_i64 (by omega) (by omega)];omega
      have e2:(i+k)-i=k:=by omega
      have e3:((i:Int)≤((i+k:Nat):Int))=True:=Jw (by omega)
      have e4:(((i+k:Nat):Int)≤(s.length:Int))=True:=Jw (by omega)
      by_cases hjl:j<s.length
      ·have m1:=BF hjl
       have m2:=FH hjl
       have m3:=ED hj2 (n:=s.length) (by omega)
       rw[It _ hjl]at hj3
       cases hq:idB (chI s j) with
       |true=>
        rw[if_pos hq]at hj3
        have hq':(Kk ((s.getD j 0).toNat:Int)||Dg ((s.getD j 0).toNat:Int))=true:=hq
        simp only[↓eB,seval,go_sem,m1,m2,m3,hq',DV,E6,FY,DU,E5]
        refine⟨j+1,⟨by omega,hjl,by omega⟩,by omega,?_⟩
        refine A4 [] ?_;simp only[↓eB,seval,go_sem,Cw]
       |false=>
        rw[if_neg (by rw[hq];decide)]at hj3
        obtain rfl:j=i+k:=by omega
        have hq':(Kk ((s.getD (i+k) 0).toNat:Int)||Dg ((s.getD (i+k) 0).toNat:Int))=false:=hq
        simp only[↓eB,seval,go_sem,m1,m2,m3,hq',e1,e2,e3,e4,DV,E6,FY,DU,E5]
        simp only[A2,A3]
        refine⟨fun hg=>?_,fun hg=>⟨⟨rfl,fun q hq=>(Option.some.inj hq).symm,by simp[BI,C.stor],by decide,by omega,by omega⟩,?_⟩⟩
        ·rw[if_pos hg]at hJ
         refine A0 [.nil 2 1001 EI,.fz 1001] ?_;simp only[↓eB,seval,go_sem,bne,EJ,← hJ,Lf,EI,Le]
        ·rw[if_neg (by rw[hg];decide)]at hJ
         refine⟨(i+k,(out++[(⟨0,(s.drop i).take k,(i:Int)⟩:Tok)])),⟨by dsimp only;omega,by simp;omega,f,by dsimp only;omega,hJ⟩,by dsimp only;omega,
          Br (t:=⟨[(0,true,.one (.v (.string (bs s)))),(5,true,.one (.s 166)),(6,true,.one (.v (.int .i64 ((i+k:Nat):Int))))],[(166,.vec 0 EI ((out++[(⟨0,(s.drop i).take k,(i:Int)⟩:Tok)]).map FN))]⟩) ?_ ?_⟩
         ·refine A4 [] ?_;simp only[↓eB,seval,go_sem,Cw,map_append,List.flatMap_append,FN]
         ·refine A4 [.mv 166 1000] ?_;simp only[↓eB,seval,go_sem,Cw,MN,rxI]
      ·have m1:=BG (Nat.le_of_not_lt hjl)
       rw[RG _ (Nat.le_of_not_lt hjl)]at hj3
       obtain rfl:j=i+k:=by omega
       simp only[↓eB,seval,go_sem,m1,e1,e2,e3,e4,DV,E6,FY,DU,E5]
       simp only[A2,A3]
       refine⟨fun hg=>?_,fun hg=>⟨⟨rfl,fun q hq=>(Option.some.inj hq).symm,by simp[BI,C.stor],by decide,by omega,by omega⟩,?_⟩⟩
       ·rw[if_pos hg]at hJ
        refine A0 [.nil 2 1001 EI,.fz 1001] ?_;simp only[↓eB,seval,go_sem,bne,EJ,← hJ,Lf,EI,Le]
       ·rw[if_neg (by rw[hg];decide)]at hJ
        refine⟨(i+k,(out++[(⟨0,(s.drop i).take k,(i:Int)⟩:Tok)])),⟨by dsimp only;omega,by simp;omega,f,by dsimp only;omega,hJ⟩,by dsimp only;omega,
         Br (t:=⟨[(0,true,.one (.v (.string (bs s)))),(5,true,.one (.s 166)),(6,true,.one (.v (.int .i64 ((i+k:Nat):Int))))],[(166,.vec 0 EI ((out++[(⟨0,(s.drop i).take k,(i:Int)⟩:Tok)]).map FN))]⟩) ?_ ?_⟩
        ·refine A4 [] ?_;simp only[↓eB,seval,go_sem,Cw,map_append,List.flatMap_append,FN]
        ·refine A4 [.mv 166 1000] ?_;simp only[↓eB,seval,go_sem,Cw,MN,rxI]
    ·
     rw[if_neg (show ¬blB (chI s i)=true by show ¬(_||_||_||_)=true;rw[hb];decide),if_neg (by show ¬(_==_)=true;rw[hc];decide),if_neg (by rw[show Kk (chI s i)=false from hl];decide),if_pos hd]at hJ
     have hk1:=It Dg hlt
     rw[if_pos hd]at hk1
     have hk2:=Nn Dg (s.drop i)
     simp only[List.length_drop]at hk2
     obtain⟨k,hk⟩:∃k,Cl Dg (s.drop i)=k:=⟨_,rfl⟩
     rw[hk]at hJ hk1 hk2
     refine Ab (Y:=Nat×Int×Bool) (fun y=>i≤y.1∧y.1≤s.length∧y.1+Cl Dg (s.drop y.1)=i+k∧dgF (s.drop y.1) y.2.1 y.2.2=dgF (s.drop i) 0 false) (fun y=>⟨[(0,true,.one (.v (.string (bs s)))),(5,true,.one (.s 1000)),(6,true,.one (.v (.int .i64 (y.1:Int)))),(7,true,.one (.v (.int .u8 (chI s i)))),(8,true,.one (.v (.int .i64 (i:Int)))),(9,true,.one (.v (.int .u64 y.2.1))),(10,true,.one (.v (.bool y.2.2)))],[(1000,.vec 0 EI (out.map FN))]⟩) (fun y=>s.length-y.1) (i,0,false) ⟨Nat.le_refl _,hi,by dsimp only;rw[hk],rfl⟩ ?_ ?_
     ·refine A4 [] ?_;simp only[↓eB,seval,go_sem,Cw,chI]
     ·rintro ⟨j,n,g⟩ ⟨hj1,hj2,hj3,hj4⟩
      simp only at hj1 hj2 hj3 hj4
      refine Au [DV,E6,FY] [] _ _ _ ?_
      have e1:IntKind.i64.wrap (((i+k:Nat):Int)-(i:Int))=(k:Int):=by rw[wrap_i64 (by omega) (by omega)];omega
      have e2:(i+k)-i=k:=by omega
      have e3:((i:Int)≤((i+k:Nat):Int))=True:=Jw (by omega)
      have e4:(((i+k:Nat):Int)≤(s.length:Int))=True:=Jw (by omega)
      by_cases hjl:j<s.length
      ·have m1:=BF hjl
       have m2:=FH hjl
       have m3:=ED hj2 (n:=s.length) (by omega)
       rw[It _ hjl]at hj3
       rw[tp hjl]at hj4
       cases hq:Dg (chI s j) with
       |true=>
        rw[if_pos hq]at hj3 hj4
        have hq':Dg ((s.getD j 0).toNat:Int)=true:=hq
        simp only[↓eB,seval,go_sem,m1,m2,m3,hq',DV,E6,FY,DU,E5]
        simp only[A2,A3]
        refine⟨fun hg=>?_,fun hg=>?_⟩
        ·rw[if_pos hg]at hj4
         refine⟨(j+1,n,true),⟨by dsimp only;omega,hjl,by dsimp only;omega,hj4⟩,by dsimp only;omega,?_⟩
         refine A4 [] ?_;simp only[↓eB,seval,go_sem,Cw]
        ·rw[if_neg (by rw[hg];decide)]at hj4
         refine⟨(j+1,IntKind.u64.wrap (IntKind.u64.wrap (10*n)+IntKind.u64.wrap (IntKind.u8.wrap (chI s j-48))),g),⟨by dsimp only;omega,hjl,by dsimp only;omega,hj4⟩,by dsimp only;omega,?_⟩
         refine A4 [] ?_;simp only[↓eB,seval,go_sem,Cw,chI]
       |false=>
        rw[if_neg (by rw[hq];decide)]at hj3 hj4
        obtain rfl:j=i+k:=by omega
        have hq':Dg ((s.getD (i+k) 0).toNat:Int)=false:=hq
        simp only[↓eB,seval,go_sem,m1,m2,m3,hq',e1,e2,e3,e4,DV,E6,FY,DU,E5]
        have hG:UR (s.drop i)=(g||decide (9223372036854775807<n)):=by unfold UR;rw[← hj4]
        rw[hG]at hJ
        simp only[A2,A3]
        refine⟨fun hg=>?_,fun hg=>?_⟩
        ·rw[if_pos hg]at hJ
         refine A0 [.nil 2 1001 EI,.fz 1001] ?_;simp only[↓eB,seval,go_sem,bne,EJ,← hJ,Lf,EI,Le]
        ·rw[if_neg (by rw[hg];decide)]at hJ
         refine⟨fun hz=>⟨hz,fun hz2=>by rw[hz,hz2];rfl⟩,fun h5=>?_,fun h5=>⟨⟨rfl,fun q hq=>(Option.some.inj hq).symm,by simp[BI,C.stor],by decide,by omega,by omega⟩,?_⟩⟩
         ·rw[if_pos (by rw[m1];simp only[Bool.true_and];exact h5)]at hJ
          refine A0 [.nil 2 1001 EI,.fz 1001] ?_;simp only[↓eB,seval,go_sem,bne,EJ,← hJ,Lf,EI,Le]
         ·rw[if_neg (by rw[m1];simp only[Bool.true_and];rw[show _=false from h5];decide)]at hJ
          refine⟨(i+k,(out++[(⟨1,(s.drop i).take k,(i:Int)⟩:Tok)])),⟨by dsimp only;omega,by simp;omega,f,by dsimp only;omega,hJ⟩,by dsimp only;omega,
           Br (t:=⟨[(0,true,.one (.v (.string (bs s)))),(5,true,.one (.s 227)),(6,true,.one (.v (.int .i64 ((i+k:Nat):Int))))],[(227,.vec 0 EI ((out++[(⟨1,(s.drop i).take k,(i:Int)⟩:Tok)]).map FN))]⟩) ?_ ?_⟩
          ·refine A4 [] ?_;simp only[↓eB,seval,go_sem,Cw,map_append,List.flatMap_append,FN]
          ·refine A4 [.mv 227 1000] ?_;simp only[↓eB,seval,go_sem,Cw,MN,rxI]
      ·have m1:=BG (Nat.le_of_not_lt hjl)
       rw[RG _ (Nat.le_of_not_lt hjl)]at hj3
       rw[lj (Nat.le_of_not_lt hjl)]at hj4
       obtain rfl:j=i+k:=by omega
       simp only[↓eB,seval,go_sem,m1,e1,e2,e3,e4,DV,E6,FY,DU,E5]
       have hG:UR (s.drop i)=(g||decide (9223372036854775807<n)):=by unfold UR;rw[← hj4]
       rw[hG]at hJ
       simp only[A2,A3]
       refine⟨fun hg=>?_,fun hg=>?_⟩
       ·rw[if_pos hg]at hJ
        refine A0 [.nil 2 1001 EI,.fz 1001] ?_;simp only[↓eB,seval,go_sem,bne,EJ,← hJ,Lf,EI,Le]
       ·rw[if_neg (by rw[hg];decide)]at hJ
        refine⟨fun h5=>?_,fun h5=>⟨⟨rfl,fun q hq=>(Option.some.inj hq).symm,by simp[BI,C.stor],by decide,by omega,by omega⟩,?_⟩⟩
        ·rw[if_pos (by rw[m1];simp only[Bool.false_and,Bool.false_or];exact h5)]at hJ
         refine A0 [.nil 2 1001 EI,.fz 1001] ?_;simp only[↓eB,seval,go_sem,bne,EJ,← hJ,Lf,EI,Le]
        ·rw[if_neg (by rw[m1];simp only[Bool.false_and,Bool.false_or];rw[show _=false from h5];decide)]at hJ
         refine⟨(i+k,(out++[(⟨1,(s.drop i).take k,(i:Int)⟩:Tok)])),⟨by dsimp only;omega,by simp;omega,f,by dsimp only;omega,hJ⟩,by dsimp only;omega,
          Br (t:=⟨[(0,true,.one (.v (.string (bs s)))),(5,true,.one (.s 227)),(6,true,.one (.v (.int .i64 ((i+k:Nat):Int))))],[(227,.vec 0 EI ((out++[(⟨1,(s.drop i).take k,(i:Int)⟩:Tok)]).map FN))]⟩) ?_ ?_⟩
         ·refine A4 [] ?_;simp only[↓eB,seval,go_sem,Cw,map_append,List.flatMap_append,FN]
         ·refine A4 [.mv 227 1000] ?_;simp only[↓eB,seval,go_sem,Cw,MN,rxI]
    ·
     rw[if_neg (show ¬blB (chI s i)=true by show ¬(_||_||_||_)=true;rw[hb];decide),if_neg (by show ¬(_==_)=true;rw[hc];decide),if_neg (by rw[show Kk (chI s i)=false from hl];decide),if_neg (by rw[show Dg (chI s i)=false from hd];decide)]at hJ
     have hT:aG s i=(z6&&((s.drop i).take 2==[61,61]||(s.drop i).take 2==[33,61]||(s.drop i).take 2==[60,61]||(s.drop i).take 2==[62,61]||(s.drop i).take 2==[38,38]||(s.drop i).take 2==[124,124])):=by unfold aG;rw[q1]
     clear q1
     repeat refine And.intro (by first|exact fun h=>⟨h,h,h,q8 h⟩|exact fun h=>⟨h,h,h,q8 (kH h)⟩|exact fun h=>⟨h,fun hx=>by rw[h,hx];rfl⟩) ?_
     rw[← hT]
     have q9:IntKind.i64.wrap ((i:Int)+((2:Nat):Int))=((i+2:Nat):Int):=q2
     have q10:IntKind.i64.wrap ((i:Int)+((1:Nat):Int))=((i+1:Nat):Int):=h3
     refine⟨fun h6=>?_,fun h6=>⟨fun h7=>?_,fun h7=>?_⟩⟩
     ·have h8:=q3 (kH (by rw[← hT];exact h6))
      have l2:((s.drop i).take 2).length=2:=by simp;omega
      rw[if_pos h6]at hJ
      simp only[l2,q9]
      refine⟨by omega,⟨rfl,fun q hq=>(Option.some.inj hq).symm,by simp[BI,C.stor],by decide,by omega,by omega⟩,?_⟩
      refine⟨(i+2,(out++[(⟨2,(s.drop i).take 2,(i:Int)⟩:Tok)])),⟨by dsimp only;omega,by simp;omega,f,by dsimp only;omega,hJ⟩,by dsimp only;omega,
       Br (t:=⟨[(0,true,.one (.v (.string (bs s)))),(5,true,.one (.s 99)),(6,true,.one (.v (.int .i64 ((i+2:Nat):Int))))],[(99,.vec 0 EI ((out++[(⟨2,(s.drop i).take 2,(i:Int)⟩:Tok)]).map FN))]⟩) ?_ ?_⟩
      ·refine A4 [] ?_;simp only[↓eB,seval,go_sem,Cw,map_append,List.flatMap_append,FN]
      ·refine A4 [.mv 99 1000] ?_;simp only[↓eB,seval,go_sem,Cw,MN,rxI]
     ·rw[if_neg (by rw[h6];decide),if_neg (by rw[show Mv TC (chI s i)=false from A0V h7];decide)]at hJ
      refine A0 [.nil 2 1001 EI,.fz 1001] ?_;simp only[↓eB,seval,go_sem,bne,EJ,← hJ,Lf,EI,Le]
     ·have l1:((s.drop i).take 1).length=1:=by simp;omega
      rw[if_neg (by rw[h6];decide),if_pos (show Mv TC (chI s i)=true from A0W h7)]at hJ
      simp only[l1,q10]
      refine⟨⟨rfl,fun q hq=>(Option.some.inj hq).symm,by simp[BI,C.stor],by decide,by omega,by omega⟩,?_⟩
      refine⟨(i+1,(out++[(⟨2,(s.drop i).take 1,(i:Int)⟩:Tok)])),⟨by dsimp only;omega,by simp;omega,f,by dsimp only;omega,hJ⟩,by dsimp only;omega,
       Br (t:=⟨[(0,true,.one (.v (.string (bs s)))),(5,true,.one (.s 99)),(6,true,.one (.v (.int .i64 ((i+1:Nat):Int))))],[(99,.vec 0 EI ((out++[(⟨2,(s.drop i).take 1,(i:Int)⟩:Tok)]).map FN))]⟩) ?_ ?_⟩
      ·refine A4 [] ?_;simp only[↓eB,seval,go_sem,Cw,map_append,List.flatMap_append,FN]
      ·refine A4 [.mv 99 1000] ?_;simp only[↓eB,seval,go_sem,Cw,MN,rxI]
   ·have hi':i=s.length:=by omega
    subst hi'
    have h1:=BG (Nat.le_refl s.length)
    have hJ:(out,0,0)=rxT s:=by
     cases f with
     |zero=>exact hJ
     |succ f=>simp only[rxF]at hJ;rw[if_pos (Nat.le_refl _)]at hJ;exact hJ
    simp only[↓eB,seval,go_sem,h1]
    refine A0 [.fz 1000] ?_;simp only[↓eB,seval,go_sem,bne,EJ,← hJ,Lf,EI,Le,cE]
end Go.Proofs.Ytjnnmindcbgjhaa
