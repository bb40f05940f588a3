/- The lexer of the reference, as the parser calls it. No conditions but those in each statement. -/
import Derived.Test.YtbiepiggmagfcaaGreatDoorGs
import Derived.Test.YtbiepiggmagfcaaGreatDoorTy2
set_option linter.unusedVariables false
set_option linter.unusedSimpArgs false
open List (map_append)
namespace Go.Proofs.YtbiepiggmagfcaaGreatDoor
open Go Go.Sy Go.RowKit
abbrev Dr (l:List UInt8):Prop:=l.length≤4294967296
def CZ (b:Int):Bool:=decide (97≤b)&&decide (b≤122)||(decide (65≤b)&&decide (b≤90))||b==95
def AR (b:Int):Bool:=decide (48≤b)&&decide (b≤57)
abbrev chI (l:List UInt8) (i:Nat):Int:=((l.getD i 0).toNat:Int)
abbrev SQ (b:Int):Prop:=True
abbrev Hk (b:Int):SV:=SV.one (.v (.bool (CZ b)))
attribute [local go_sem] Hk
theorem fD:AP Tryz.prog 67 (acS (cInt .u8) ac0) (fun p:(Int×Unit)=>SQ p.1) (fun p:(Int×Unit)=>Hk p.1):=by
 rintro ⟨b,_u⟩ w fz xs hc hfz hl hx
 refine A9 Tryz.func67 rfl w fz [] [] (acS (cInt .u8) ac0) (fun p:(Int×Unit)=>Hk p.1) _ xs hfz hl hx (jN rfl) ?_
 clear hx hl hfz xs
 simp only[Tryz.f67]
 simp only[↓eB,seval,go_sem]
 try simp only[A1,A2]
 repeat' first|exact ck|with_reducible apply And.intro|intro _
 all_goals try simp only[bne,Bool.not_eq_true',Bool.not_eq_false',Bool.not_not] at*
 all_goals first
  |(refine A0 [] ?_;simp only[↓eB,seval,go_sem,bne,CZ];first|done|(simp only[*,if_true,if_false,jB,Bool.true_or,Bool.or_true,Bool.false_or,Bool.or_false,Bool.and_false,Bool.false_and,Bool.true_and,Bool.and_true,Bool.not_true,Bool.not_false,Bool.or_self,Bool.and_self,Int.reduceEq,Int.reduceNeg,Nat.reduceEqDiff,reduceCtorEq,Jf,Jg,De,ES,and_self,↓reduceIte];done)|(simp_all;done))
  |omega
  |(simp only[decide_eq_true_eq,decide_eq_false_iff_not]at *;omega)
  |(simp_all;done)
  |(simp_all;omega)
  |trace_state
theorem bX:∀p:(Int×Unit),((fun p:(Int×Unit)=>Hk p.1) p).names=[]:=by intro p;first|rfl|simp[SV.names,C.names]
noncomputable def CB {X:Ctx} {w0:World}:Sy.Spec Tryz.prog X w0:=Am 67 Tryz.call67 (acS (cInt .u8) ac0) (fun p:(Int×Unit)=>SQ p.1) (fun p:(Int×Unit)=>Hk p.1) bX fD
abbrev V3 (b:Int):Prop:=True
abbrev CS (b:Int):SV:=SV.one (.v (.bool (AR b)))
theorem jl:AP Tryz.prog 68 (acS (cInt .u8) ac0) (fun p:(Int×Unit)=>V3 p.1) (fun p:(Int×Unit)=>CS p.1):=by
 rintro ⟨b,_u⟩ w fz xs hc hfz hl hx
 refine A9 Tryz.func68 rfl w fz [] [] (acS (cInt .u8) ac0) (fun p:(Int×Unit)=>CS p.1) _ xs hfz hl hx (jN rfl) ?_
 clear hx hl hfz xs
 simp only[Tryz.f68]
 simp only[↓eB,seval,go_sem]
 try simp only[A1,A2]
 repeat' first|exact ck|with_reducible apply And.intro|intro _
 all_goals try simp only[bne,Bool.not_eq_true',Bool.not_eq_false',Bool.not_not] at*
 all_goals first
  |(refine A0 [] ?_;simp only[↓eB,seval,go_sem,bne,CS,AR];first|done|(simp only[*,if_true,if_false,jB,Bool.true_or,Bool.or_true,Bool.false_or,Bool.or_false,Bool.and_false,Bool.false_and,Bool.true_and,Bool.and_true,Bool.not_true,Bool.not_false,Bool.or_self,Bool.and_self,Int.reduceEq,Int.reduceNeg,Nat.reduceEqDiff,reduceCtorEq,Jf,Jg,De,ES,and_self,↓reduceIte];done)|(simp_all;done))
  |omega
  |(simp only[decide_eq_true_eq,decide_eq_false_iff_not]at *;omega)
  |(simp_all;done)
  |(simp_all;omega)
  |trace_state
theorem fE:∀p:(Int×Unit),((fun p:(Int×Unit)=>CS p.1) p).names=[]:=by intro p;first|rfl|simp[SV.names,C.names]
noncomputable def CT {X:Ctx} {w0:World}:Sy.Spec Tryz.prog X w0:=Am 68 Tryz.call68 (acS (cInt .u8) ac0) (fun p:(Int×Unit)=>V3 p.1) (fun p:(Int×Unit)=>CS p.1) fE jl
def idB (b:Int):Bool:=CZ b||AR b
def DQ (x:Tok):List C:=[.v (.int .i64 x.k),.v (.string (bs x.t)),.v (.int .i64 x.p)]
def wM (x:Tok):List D:=[.v (.int .i64 x.k),.v (.string (bs x.t)),.v (.int .i64 x.p)]
def Ca:List C:=[.v (.int .i64 0),.v (.string ByteArray.empty),.v (.int .i64 0)]
theorem wN:zT Ca=none:=rfl
attribute [go_sem] wN
def JZ:List D:=[.v (.int .i64 0),.v (.string ByteArray.empty),.v (.int .i64 0)]
theorem pX (u:Nat) (z:List C) (l:List Tok):chNames (.vec u z (l.map DQ))=[]:=Yc DQ (by intro a c hc;simp only[DQ,List.mem_cons,List.not_mem_nil,or_false]at hc;rcases hc with rfl|rfl|rfl<;>rfl) u z l
theorem pY (l:List Tok):List.flatMap (fun r=>List.flatMap C.names r) (l.map DQ)=[]:=pX 0 [] l
theorem fF (l:List Tok):D9 (l.map DQ)=some (l.map wM):=S6 DQ (fun _=>rfl) l
theorem Kr (k t:Nat) (l:List Tok):(l.map DQ).map (fun r=>r.map (mvC k t))=l.map DQ:=Yd DQ (fun _=>rfl) l
def Ja (r:List Tok×Int×Int):SV:=.tup [.inl (.d (.sl JZ (r.1.map wM))),.inl (.v (.int .i64 r.2.1)),.inl (.v (.int .i64 r.2.2))]
def Gm (l:List UInt8) (c:Int):Bool:=l.any fun b=>((b.toNat:Nat):Int)==c
theorem pZ {l:List UInt8} {i:Nat} (h:i<l.length) (c:Int):Gm (l.drop i) c=(((l.getD i 0).toNat:Int)==c||Gm (l.drop (i+1)) c):=by
 rw[List.drop_eq_getElem_cons h]
 simp only[Gm,List.any_cons,List.getD,List.getElem?_eq_getElem h,Option.getD_some]
abbrev QO (s:List UInt8) (c:Int):Prop:=Dr s
abbrev HM (s:List UInt8) (c:Int):SV:=SV.one (.v (.bool (Gm s c)))
theorem wO:AP Tryz.prog 69 (acS (cStr) (acS (cInt .u8) ac0)) (fun p:(List UInt8×(Int×Unit))=>QO p.1 p.2.1) (fun p:(List UInt8×(Int×Unit))=>HM p.1 p.2.1):=by
 rintro ⟨s,c,_u⟩ w fz xs hc hfz hl hx
 refine A9 Tryz.func69 rfl w fz [] [] (acS (cStr) (acS (cInt .u8) ac0)) (fun p:(List UInt8×(Int×Unit))=>HM p.1 p.2.1) _ xs hfz hl hx (jN rfl) ?_
 clear hx hl hfz xs
 simp only[Tryz.f69]
 simp only[↓eB,seval,go_sem]
 have hs:s.length≤4294967296:=hc
 refine AH (Y:=Nat) (fun i=>i≤s.length∧Gm (s.drop i) c=Gm s c)
  (fun i=>⟨[(0,true,.one (.v (.string (bs s)))),(1,true,.one (.v (.int .u8 c))),(5,true,.one (.v (.int .i64 (i:Int))))],[]⟩)
  (fun i=>s.length-i) 0 ⟨Nat.zero_le _,by simp⟩ ?_ ?_
 ·refine A4 [] ?_;simp only[↓eB,seval,go_sem]
 ·rintro i ⟨hi,hJ⟩
  refine Ab [] [] _ _ _ ?_
  by_cases hlt:i<s.length
  ·have h1:=Ah hlt
   have h2:=AX hlt
   have h3:=AM hi hs
   rw[pZ hlt]at hJ
   simp only[↓eB,seval,go_sem,h1,h2,h3]
   simp only[A1,A2]
   refine⟨fun hb=>?_,fun hb=>⟨i+1,⟨hlt,?_⟩,by omega,?_⟩⟩
   ·rw[hb,Bool.true_or]at hJ
    refine A0 [] ?_;simp only[↓eB,seval,go_sem,bne,HM,← hJ]
   ·rw[hb,Bool.false_or]at hJ;exact hJ
   ·refine A4 [] ?_;simp only[↓eB,seval,go_sem]
  ·have h1:=Ao (Nat.le_of_not_lt hlt)
   rw[List.drop_eq_nil_of_le (Nat.le_of_not_lt hlt)]at hJ
   have hJ':Gm s c=false:=hJ.symm
   simp only[↓eB,seval,go_sem,h1]
   refine A0 [] ?_;simp only[↓eB,seval,go_sem,bne,HM,hJ']
theorem pa:∀p:(List UInt8×(Int×Unit)),((fun p:(List UInt8×(Int×Unit))=>HM p.1 p.2.1) p).names=[]:=by intro p;first|rfl|simp[SV.names,C.names]
noncomputable def DW {X:Ctx} {w0:World}:Sy.Spec Tryz.prog X w0:=Am 69 Tryz.call69 (acS (cStr) (acS (cInt .u8) ac0)) (fun p:(List UInt8×(Int×Unit))=>QO p.1 p.2.1) (fun p:(List UInt8×(Int×Unit))=>HM p.1 p.2.1) pa wO
def blB (c:Int):Bool:=c==32||c==9||c==13||c==10
def nlB (c:Int):Bool:=!(c==10)
def dgF:List UInt8→Int→Bool→Int×Bool
 |[],n,g=>(n,g)
 |b::r,n,g=>if AR (b.toNat:Int)=true then (if decide (922337203685477580<n)=true then dgF r n true else dgF r (IntKind.u64.wrap (IntKind.u64.wrap (10*n)+IntKind.u64.wrap (IntKind.u8.wrap ((b.toNat:Int)-48)))) g) else (n,g)
theorem wP {l:List UInt8} {i:Nat} (h:i<l.length) (n:Int) (g:Bool):dgF (l.drop i) n g=if AR (chI l i)=true then (if decide (922337203685477580<n)=true then dgF (l.drop (i+1)) n true else dgF (l.drop (i+1)) (IntKind.u64.wrap (IntKind.u64.wrap (10*n)+IntKind.u64.wrap (IntKind.u8.wrap (chI l i-48)))) g) else (n,g):=by
 rw[List.drop_eq_getElem_cons h]
 simp only[dgF,chI,List.getD,List.getElem?_eq_getElem h,Option.getD_some]
theorem pb {l:List UInt8} {i:Nat} (h:l.length≤i) (n:Int) (g:Bool):dgF (l.drop i) n g=(n,g):=by
 rw[List.drop_eq_nil_of_le h];rfl
def O1 (l:List UInt8):Bool:=(dgF l 0 false).2||decide (9223372036854775807<(dgF l 0 false).1)
def U5 (s:List UInt8) (i:Nat):Bool:=decide (((i+2:Nat):Int)≤(s.length:Int))&&((s.drop i).take 2==[61,61]||(s.drop i).take 2==[33,61]||(s.drop i).take 2==[60,61]||(s.drop i).take 2==[62,61]||(s.drop i).take 2==[38,38]||(s.drop i).take 2==[124,124])
abbrev KR:List UInt8:=[61,60,62,43,45,42,47,37,38,33,40,41,123,125,91,93,44,59]
def rxF (s:List UInt8):Nat→Nat→List Tok→List Tok×Int×Int
 |0,_,out=>(out,0,0)
 |f+1,i,out=>
  if s.length≤i then (out,0,0)
  else if blB (chI s i)=true then rxF s f (i+1) out
  else if (chI s i==35)=true then rxF s f (i+spanN nlB (s.drop i)) out
  else if CZ (chI s i)=true then (if decide (32<((spanN idB (s.drop i):Nat):Int))=true then ([],(i:Int),53) else rxF s f (i+spanN idB (s.drop i)) (out++[⟨0,(s.drop i).take (spanN idB (s.drop i)),(i:Int)⟩]))
  else if AR (chI s i)=true then
   (
    if O1 (s.drop i)=true then ([],(i:Int),53)
    else if (decide (((i+spanN AR (s.drop i):Nat):Int)<(s.length:Int))&&CZ (chI s (i+spanN AR (s.drop i)))||(chI s i==48&&decide (1<((spanN AR (s.drop i):Nat):Int))))=true then ([],(i:Int),50)
    else rxF s f (i+spanN AR (s.drop i)) (out++[⟨1,(s.drop i).take (spanN AR (s.drop i)),(i:Int)⟩]))
  else if U5 s i=true then rxF s f (i+2) (out++[⟨2,(s.drop i).take 2,(i:Int)⟩])
  else if Gm KR (chI s i)=true then rxF s f (i+1) (out++[⟨2,(s.drop i).take 1,(i:Int)⟩])
  else ([],(i:Int),50)
def rxT (s:List UInt8):List Tok×Int×Int:=if decide (4096<(s.length:Int))=true then ([],0,53) else rxF s s.length 0 []
abbrev rxI (s:List UInt8) (i:Nat) (out:List Tok):St:=⟨[(0,true,.one (.v (.string (bs s)))),(5,true,.one (.s 1000)),(6,true,.one (.v (.int .i64 (i:Int))))],[(1000,.vec 0 Ca (out.map DQ))]⟩
abbrev rxJ (s:List UInt8) (i:Nat) (out:List Tok):Prop:=i≤s.length∧out.length≤i∧∃f,s.length-i≤f∧rxF s f i out=rxT s
theorem A2P {b:Bool} (h:(!b)=true):b=false:=by cases b<;>simp_all
theorem A2Q {b:Bool} (h:(!b)=false):b=true:=by cases b<;>simp_all
theorem mz {a b:Bool} (h:(a&&b)=true):a=true:=by cases a<;>simp_all
abbrev bY (s:List UInt8):Prop:=Dr s
abbrev Cb (s:List UInt8):SV:=Ja (rxT s)
set_option maxRecDepth 20000 in set_option maxHeartbeats 4000000 in
attribute[local go_sem] pY rxI in
theorem fG:AP Tryz.prog 29 (acS (cStr) ac0) (fun p:(List UInt8×Unit)=>bY p.1) (fun p:(List UInt8×Unit)=>Cb p.1):=by
 rintro ⟨s,_u⟩ w fz xs hc hfz hl hx
 refine A9 Tryz.func29 rfl w fz [CB,CT,DW] [] (acS (cStr) ac0) (fun p:(List UInt8×Unit)=>Cb p.1) _ xs hfz hl hx (jN rfl) ?_
 clear hx hl hfz xs
 simp only[Tryz.f29]
 simp only[↓eB,seval,go_sem,CB,CT,DW,CS,HM,QO]
 simp only[A1,A2]
 refine⟨fun h=>?_,fun h=>?_⟩
 ·have hR:rxT s=([],0,53):=by unfold rxT;rw[if_pos h]
  refine A0 [.nil 2 1000 Ca,.fz 1000] ?_;simp only[↓eB,seval,go_sem,bne,Cb,hR,Ja,Ca,JZ]
 ·have hR:rxT s=rxF s s.length 0 []:=by unfold rxT;rw[if_neg (by rw[h];decide)]
  have hs:s.length≤4096:=by simp at h;omega
  refine AH (Y:=Nat×List Tok) (fun y=>rxJ s y.1 y.2) (fun y=>rxI s y.1 y.2) (fun y=>s.length-y.1) (0,[]) ⟨Nat.zero_le _,Nat.le_refl _,s.length,by dsimp only;omega,hR.symm⟩ ?_ ?_
  ·refine A4 [.nil 5 1000 Ca] ?_;simp only[↓eB,seval,go_sem,Ca]
  ·rintro ⟨i,out⟩ ⟨hi,ho,f,hf,hJ⟩
   simp only at hi ho hf hJ
   refine Ab [CB,CT,DW] [] _ _ _ ?_
   by_cases hlt:i<s.length
   ·have h1:=Ah hlt
    have h2:=AX hlt
    have h3:=AM hi (n:=s.length) (by omega)
    have h3':=HG hlt
    have h4:((i:Int)≤((i+1:Nat):Int))=True:=HG (by omega)
    obtain⟨f,rfl⟩:∃g,f=g+1:=⟨f-1,by omega⟩
    simp only[rxF]at hJ
    rw[if_neg (Nat.not_le.2 hlt)]at hJ
    have h5:Dr KR:=by decide
    obtain⟨z6,q1,q3⟩:∃z6,decide (((i+2:Nat):Int)≤(s.length:Int))=z6∧(z6=true→i+2≤s.length):=⟨_,rfl,fun h=>by simp at h;omega⟩
    have q2:IntKind.i64.wrap ((i:Int)+2)=((i+2:Nat):Int):=by rw[wrap_i64 (by omega) (by omega)];rfl
    have q4:((i:Int)≤((i+2:Nat):Int))=True:=HG (by omega)
    have q6:(i+2)-i=2:=by omega
    have q7:(i+1)-i=1:=by omega
    have q8:z6=true→((i+2:Nat):Int)≤(s.length:Int):=fun h=>by have:=q3 h;omega
    simp only[↓eB,seval,go_sem,h1,h2,h3,h3',h4,h5,q1,q2,q4,q6,q7,CB,CT,DW,CS,HM,QO]
    simp only[A1,A2]
    refine⟨fun hb=>?_,fun hb=>⟨fun hc=>?_,fun hc=>⟨fun hl=>?_,fun hl=>⟨fun hd=>?_,fun hd=>?_⟩⟩⟩⟩
    ·
     rw[if_pos (show blB (chI s i)=true from hb)]at hJ
     refine⟨(i+1,out),⟨hlt,by dsimp only;omega,f,by dsimp only;omega,hJ⟩,by dsimp only;omega,?_⟩
     refine A4 [] ?_;simp only[↓eB,seval,go_sem]
    ·
     rw[if_neg (show ¬blB (chI s i)=true by show ¬(_||_||_||_)=true;rw[hb];decide),if_pos hc]at hJ
     have hk1:=G0 nlB hlt
     have hc2:((s.getD i 0).toNat:Int)=35:=beq_iff_eq.1 hc
     rw[if_pos (show nlB _=true by show (!(((s.getD i 0).toNat:Int)==10))=true;rw[hc2];rfl)]at hk1
     have hk2:=HF nlB (s.drop i)
     simp only[List.length_drop]at hk2
     obtain⟨k,hk⟩:∃k,spanN nlB (s.drop i)=k:=⟨_,rfl⟩
     rw[hk]at hJ hk1 hk2
     refine AH (Y:=Nat) (fun j=>i≤j∧j≤s.length∧j+spanN nlB (s.drop j)=i+k) (fun j=>rxI s j out) (fun j=>s.length-j) i ⟨Nat.le_refl _,hi,by rw[hk]⟩ ?_ ?_
     ·refine A4 [] ?_;simp only[↓eB,seval,go_sem]
     ·rintro j ⟨hj1,hj2,hj3⟩
      refine Ab [CB,CT,DW] [] _ _ _ ?_
      by_cases hjl:j<s.length
      ·have m1:=Ah hjl
       have m2:=AX hjl
       have m3:=AM hj2 (n:=s.length) (by omega)
       rw[G0 _ hjl]at hj3
       simp only[↓eB,seval,go_sem,m1,m2,m3]
       simp only[A1,A2]
       refine⟨fun hq=>?_,fun hq=>?_⟩
       ·rw[if_pos (show nlB _=true from hq)]at hj3
        refine⟨j+1,⟨by omega,hjl,by omega⟩,by omega,?_⟩
        refine A4 [] ?_;simp only[↓eB,seval,go_sem]
       ·rw[if_neg (show ¬nlB _=true by show ¬(!(_==_))=true;rw[show (!(((s.getD j 0).toNat:Int)==10))=false from hq];decide)]at hj3
        obtain rfl:j=i+k:=by omega
        refine⟨(i+k,out),⟨by dsimp only;omega,by dsimp only;omega,f,by dsimp only;omega,hJ⟩,by dsimp only;omega,?_⟩
        refine A4 [] ?_;simp only[↓eB,seval,go_sem]
      ·have m1:=Ao (Nat.le_of_not_lt hjl)
       rw[QD _ (Nat.le_of_not_lt hjl)]at hj3
       obtain rfl:j=i+k:=by omega
       simp only[↓eB,seval,go_sem,m1]
       refine⟨(i+k,out),⟨by dsimp only;omega,by dsimp only;omega,f,by dsimp only;omega,hJ⟩,by dsimp only;omega,?_⟩
       refine A4 [] ?_;simp only[↓eB,seval,go_sem]
    ·
     rw[if_neg (show ¬blB (chI s i)=true by show ¬(_||_||_||_)=true;rw[hb];decide),if_neg (by show ¬(_==_)=true;rw[hc];decide),if_pos hl]at hJ
     have hk1:=G0 idB hlt
     rw[if_pos (show idB _=true by show (CZ _||AR _)=true;rw[hl];rfl)]at hk1
     have hk2:=HF idB (s.drop i)
     simp only[List.length_drop]at hk2
     obtain⟨k,hk⟩:∃k,spanN idB (s.drop i)=k:=⟨_,rfl⟩
     rw[hk]at hJ hk1 hk2
     refine AH (Y:=Nat) (fun j=>i≤j∧j≤s.length∧j+spanN idB (s.drop j)=i+k) (fun j=>⟨[(0,true,.one (.v (.string (bs s)))),(5,true,.one (.s 1000)),(6,true,.one (.v (.int .i64 (j:Int)))),(8,true,.one (.v (.int .i64 (i:Int))))],[(1000,.vec 0 Ca (out.map DQ))]⟩) (fun j=>s.length-j) i ⟨Nat.le_refl _,hi,by rw[hk]⟩ ?_ ?_
     ·refine A4 [] ?_;simp only[↓eB,seval,go_sem]
     ·rintro j ⟨hj1,hj2,hj3⟩
      refine Ab [CB,CT,DW] [] _ _ _ ?_
      have e1:IntKind.i64.wrap (((i+k:Nat):Int)-(i:Int))=(k:Int):=by rw[wrap_i64 (by omega) (by omega)];omega
      have e2:(i+k)-i=k:=by omega
      have e3:((i:Int)≤((i+k:Nat):Int))=True:=HG (by omega)
      have e4:(((i+k:Nat):Int)≤(s.length:Int))=True:=HG (by omega)
      by_cases hjl:j<s.length
      ·have m1:=Ah hjl
       have m2:=AX hjl
       have m3:=AM hj2 (n:=s.length) (by omega)
       rw[G0 _ hjl]at hj3
       cases hq:idB (chI s j) with
       |true=>
        rw[if_pos hq]at hj3
        have hq':(CZ ((s.getD j 0).toNat:Int)||AR ((s.getD j 0).toNat:Int))=true:=hq
        simp only[↓eB,seval,go_sem,m1,m2,m3,hq',CB,CT,DW,CS]
        refine⟨j+1,⟨by omega,hjl,by omega⟩,by omega,?_⟩
        refine A4 [] ?_;simp only[↓eB,seval,go_sem]
       |false=>
        rw[if_neg (by rw[hq];decide)]at hj3
        obtain rfl:j=i+k:=by omega
        have hq':(CZ ((s.getD (i+k) 0).toNat:Int)||AR ((s.getD (i+k) 0).toNat:Int))=false:=hq
        simp only[↓eB,seval,go_sem,m1,m2,m3,hq',e1,e2,e3,e4,CB,CT,DW,CS]
        simp only[A1,A2]
        refine⟨fun hg=>?_,fun hg=>⟨⟨rfl,fun q hq=>(Option.some.inj hq).symm,by simp[Bt,C.stor],by decide,by omega,by omega⟩,?_⟩⟩
        ·rw[if_pos hg]at hJ
         refine A0 [.nil 2 1001 Ca,.fz 1001] ?_;simp only[↓eB,seval,go_sem,bne,Cb,← hJ,Ja,Ca,JZ]
        ·rw[if_neg (by rw[hg];decide)]at hJ
         refine⟨(i+k,(out++[(⟨0,(s.drop i).take k,(i:Int)⟩:Tok)])),⟨by dsimp only;omega,by simp;omega,f,by dsimp only;omega,hJ⟩,by dsimp only;omega,
          BP (t:=⟨[(0,true,.one (.v (.string (bs s)))),(5,true,.one (.s 166)),(6,true,.one (.v (.int .i64 ((i+k:Nat):Int))))],[(166,.vec 0 Ca ((out++[(⟨0,(s.drop i).take k,(i:Int)⟩:Tok)]).map DQ))]⟩) ?_ ?_⟩
         ·refine A4 [] ?_;simp only[↓eB,seval,go_sem,map_append,List.flatMap_append,DQ]
         ·refine A4 [.mv 166 1000] ?_;simp only[↓eB,seval,go_sem,Kr]
      ·have m1:=Ao (Nat.le_of_not_lt hjl)
       rw[QD _ (Nat.le_of_not_lt hjl)]at hj3
       obtain rfl:j=i+k:=by omega
       simp only[↓eB,seval,go_sem,m1,e1,e2,e3,e4,CB,CT,DW,CS]
       simp only[A1,A2]
       refine⟨fun hg=>?_,fun hg=>⟨⟨rfl,fun q hq=>(Option.some.inj hq).symm,by simp[Bt,C.stor],by decide,by omega,by omega⟩,?_⟩⟩
       ·rw[if_pos hg]at hJ
        refine A0 [.nil 2 1001 Ca,.fz 1001] ?_;simp only[↓eB,seval,go_sem,bne,Cb,← hJ,Ja,Ca,JZ]
       ·rw[if_neg (by rw[hg];decide)]at hJ
        refine⟨(i+k,(out++[(⟨0,(s.drop i).take k,(i:Int)⟩:Tok)])),⟨by dsimp only;omega,by simp;omega,f,by dsimp only;omega,hJ⟩,by dsimp only;omega,
         BP (t:=⟨[(0,true,.one (.v (.string (bs s)))),(5,true,.one (.s 166)),(6,true,.one (.v (.int .i64 ((i+k:Nat):Int))))],[(166,.vec 0 Ca ((out++[(⟨0,(s.drop i).take k,(i:Int)⟩:Tok)]).map DQ))]⟩) ?_ ?_⟩
        ·refine A4 [] ?_;simp only[↓eB,seval,go_sem,map_append,List.flatMap_append,DQ]
        ·refine A4 [.mv 166 1000] ?_;simp only[↓eB,seval,go_sem,Kr]
    ·
     rw[if_neg (show ¬blB (chI s i)=true by show ¬(_||_||_||_)=true;rw[hb];decide),if_neg (by show ¬(_==_)=true;rw[hc];decide),if_neg (by rw[show CZ (chI s i)=false from hl];decide),if_pos hd]at hJ
     have hk1:=G0 AR hlt
     rw[if_pos hd]at hk1
     have hk2:=HF AR (s.drop i)
     simp only[List.length_drop]at hk2
     obtain⟨k,hk⟩:∃k,spanN AR (s.drop i)=k:=⟨_,rfl⟩
     rw[hk]at hJ hk1 hk2
     refine AH (Y:=Nat×Int×Bool) (fun y=>i≤y.1∧y.1≤s.length∧y.1+spanN AR (s.drop y.1)=i+k∧dgF (s.drop y.1) y.2.1 y.2.2=dgF (s.drop i) 0 false) (fun y=>⟨[(0,true,.one (.v (.string (bs s)))),(5,true,.one (.s 1000)),(6,true,.one (.v (.int .i64 (y.1:Int)))),(7,true,.one (.v (.int .u8 (chI s i)))),(8,true,.one (.v (.int .i64 (i:Int)))),(9,true,.one (.v (.int .u64 y.2.1))),(10,true,.one (.v (.bool y.2.2)))],[(1000,.vec 0 Ca (out.map DQ))]⟩) (fun y=>s.length-y.1) (i,0,false) ⟨Nat.le_refl _,hi,by dsimp only;rw[hk],rfl⟩ ?_ ?_
     ·refine A4 [] ?_;simp only[↓eB,seval,go_sem,chI]
     ·rintro ⟨j,n,g⟩ ⟨hj1,hj2,hj3,hj4⟩
      simp only at hj1 hj2 hj3 hj4
      refine Ab [CB,CT,DW] [] _ _ _ ?_
      have e1:IntKind.i64.wrap (((i+k:Nat):Int)-(i:Int))=(k:Int):=by rw[wrap_i64 (by omega) (by omega)];omega
      have e2:(i+k)-i=k:=by omega
      have e3:((i:Int)≤((i+k:Nat):Int))=True:=HG (by omega)
      have e4:(((i+k:Nat):Int)≤(s.length:Int))=True:=HG (by omega)
      by_cases hjl:j<s.length
      ·have m1:=Ah hjl
       have m2:=AX hjl
       have m3:=AM hj2 (n:=s.length) (by omega)
       rw[G0 _ hjl]at hj3
       rw[wP hjl]at hj4
       cases hq:AR (chI s j) with
       |true=>
        rw[if_pos hq]at hj3 hj4
        have hq':AR ((s.getD j 0).toNat:Int)=true:=hq
        simp only[↓eB,seval,go_sem,m1,m2,m3,hq',CB,CT,DW,CS]
        simp only[A1,A2]
        refine⟨fun hg=>?_,fun hg=>?_⟩
        ·rw[if_pos hg]at hj4
         refine⟨(j+1,n,true),⟨by dsimp only;omega,hjl,by dsimp only;omega,hj4⟩,by dsimp only;omega,?_⟩
         refine A4 [] ?_;simp only[↓eB,seval,go_sem]
        ·rw[if_neg (by rw[hg];decide)]at hj4
         refine⟨(j+1,IntKind.u64.wrap (IntKind.u64.wrap (10*n)+IntKind.u64.wrap (IntKind.u8.wrap (chI s j-48))),g),⟨by dsimp only;omega,hjl,by dsimp only;omega,hj4⟩,by dsimp only;omega,?_⟩
         refine A4 [] ?_;simp only[↓eB,seval,go_sem,chI]
       |false=>
        rw[if_neg (by rw[hq];decide)]at hj3 hj4
        obtain rfl:j=i+k:=by omega
        have hq':AR ((s.getD (i+k) 0).toNat:Int)=false:=hq
        simp only[↓eB,seval,go_sem,m1,m2,m3,hq',e1,e2,e3,e4,CB,CT,DW,CS]
        have hG:O1 (s.drop i)=(g||decide (9223372036854775807<n)):=by unfold O1;rw[← hj4]
        rw[hG]at hJ
        simp only[A1,A2]
        refine⟨fun hg=>?_,fun hg=>?_⟩
        ·rw[if_pos hg]at hJ
         refine A0 [.nil 2 1001 Ca,.fz 1001] ?_;simp only[↓eB,seval,go_sem,bne,Cb,← hJ,Ja,Ca,JZ]
        ·rw[if_neg (by rw[hg];decide)]at hJ
         refine⟨fun hz=>⟨hz,fun hz2=>by rw[hz,hz2];rfl⟩,fun h5=>?_,fun h5=>⟨⟨rfl,fun q hq=>(Option.some.inj hq).symm,by simp[Bt,C.stor],by decide,by omega,by omega⟩,?_⟩⟩
         ·rw[if_pos (by rw[m1];simp only[Bool.true_and];exact h5)]at hJ
          refine A0 [.nil 2 1001 Ca,.fz 1001] ?_;simp only[↓eB,seval,go_sem,bne,Cb,← hJ,Ja,Ca,JZ]
         ·rw[if_neg (by rw[m1];simp only[Bool.true_and];rw[show _=false from h5];decide)]at hJ
          refine⟨(i+k,(out++[(⟨1,(s.drop i).take k,(i:Int)⟩:Tok)])),⟨by dsimp only;omega,by simp;omega,f,by dsimp only;omega,hJ⟩,by dsimp only;omega,
           BP (t:=⟨[(0,true,.one (.v (.string (bs s)))),(5,true,.one (.s 227)),(6,true,.one (.v (.int .i64 ((i+k:Nat):Int))))],[(227,.vec 0 Ca ((out++[(⟨1,(s.drop i).take k,(i:Int)⟩:Tok)]).map DQ))]⟩) ?_ ?_⟩
          ·refine A4 [] ?_;simp only[↓eB,seval,go_sem,map_append,List.flatMap_append,DQ]
          ·refine A4 [.mv 227 1000] ?_;simp only[↓eB,seval,go_sem,Kr]
      ·have m1:=Ao (Nat.le_of_not_lt hjl)
       rw[QD _ (Nat.le_of_not_lt hjl)]at hj3
       rw[pb (Nat.le_of_not_lt hjl)]at hj4
       obtain rfl:j=i+k:=by omega
       simp only[↓eB,seval,go_sem,m1,e1,e2,e3,e4,CB,CT,DW,CS]
       have hG:O1 (s.drop i)=(g||decide (9223372036854775807<n)):=by unfold O1;rw[← hj4]
       rw[hG]at hJ
       simp only[A1,A2]
       refine⟨fun hg=>?_,fun hg=>?_⟩
       ·rw[if_pos hg]at hJ
        refine A0 [.nil 2 1001 Ca,.fz 1001] ?_;simp only[↓eB,seval,go_sem,bne,Cb,← hJ,Ja,Ca,JZ]
       ·rw[if_neg (by rw[hg];decide)]at hJ
        refine⟨fun h5=>?_,fun h5=>⟨⟨rfl,fun q hq=>(Option.some.inj hq).symm,by simp[Bt,C.stor],by decide,by omega,by omega⟩,?_⟩⟩
        ·rw[if_pos (by rw[m1];simp only[Bool.false_and,Bool.false_or];exact h5)]at hJ
         refine A0 [.nil 2 1001 Ca,.fz 1001] ?_;simp only[↓eB,seval,go_sem,bne,Cb,← hJ,Ja,Ca,JZ]
        ·rw[if_neg (by rw[m1];simp only[Bool.false_and,Bool.false_or];rw[show _=false from h5];decide)]at hJ
         refine⟨(i+k,(out++[(⟨1,(s.drop i).take k,(i:Int)⟩:Tok)])),⟨by dsimp only;omega,by simp;omega,f,by dsimp only;omega,hJ⟩,by dsimp only;omega,
          BP (t:=⟨[(0,true,.one (.v (.string (bs s)))),(5,true,.one (.s 227)),(6,true,.one (.v (.int .i64 ((i+k:Nat):Int))))],[(227,.vec 0 Ca ((out++[(⟨1,(s.drop i).take k,(i:Int)⟩:Tok)]).map DQ))]⟩) ?_ ?_⟩
         ·refine A4 [] ?_;simp only[↓eB,seval,go_sem,map_append,List.flatMap_append,DQ]
         ·refine A4 [.mv 227 1000] ?_;simp only[↓eB,seval,go_sem,Kr]
    ·
     rw[if_neg (show ¬blB (chI s i)=true by show ¬(_||_||_||_)=true;rw[hb];decide),if_neg (by show ¬(_==_)=true;rw[hc];decide),if_neg (by rw[show CZ (chI s i)=false from hl];decide),if_neg (by rw[show AR (chI s i)=false from hd];decide)]at hJ
     have hT:U5 s i=(z6&&((s.drop i).take 2==[61,61]||(s.drop i).take 2==[33,61]||(s.drop i).take 2==[60,61]||(s.drop i).take 2==[62,61]||(s.drop i).take 2==[38,38]||(s.drop i).take 2==[124,124])):=by unfold U5;rw[q1]
     clear q1
     repeat refine And.intro (by first|exact fun h=>⟨h,h,h,q8 h⟩|exact fun h=>⟨h,h,h,q8 (mz h)⟩|exact fun h=>⟨h,fun hx=>by rw[h,hx];rfl⟩) ?_
     rw[← hT]
     have q9:IntKind.i64.wrap ((i:Int)+((2:Nat):Int))=((i+2:Nat):Int):=q2
     have q10:IntKind.i64.wrap ((i:Int)+((1:Nat):Int))=((i+1:Nat):Int):=h3
     refine⟨fun h6=>?_,fun h6=>⟨fun h7=>?_,fun h7=>?_⟩⟩
     ·have h8:=q3 (mz (by rw[← hT];exact h6))
      have l2:((s.drop i).take 2).length=2:=by simp;omega
      rw[if_pos h6]at hJ
      simp only[l2,q9]
      refine⟨by omega,⟨rfl,fun q hq=>(Option.some.inj hq).symm,by simp[Bt,C.stor],by decide,by omega,by omega⟩,?_⟩
      refine⟨(i+2,(out++[(⟨2,(s.drop i).take 2,(i:Int)⟩:Tok)])),⟨by dsimp only;omega,by simp;omega,f,by dsimp only;omega,hJ⟩,by dsimp only;omega,
       BP (t:=⟨[(0,true,.one (.v (.string (bs s)))),(5,true,.one (.s 99)),(6,true,.one (.v (.int .i64 ((i+2:Nat):Int))))],[(99,.vec 0 Ca ((out++[(⟨2,(s.drop i).take 2,(i:Int)⟩:Tok)]).map DQ))]⟩) ?_ ?_⟩
      ·refine A4 [] ?_;simp only[↓eB,seval,go_sem,map_append,List.flatMap_append,DQ]
      ·refine A4 [.mv 99 1000] ?_;simp only[↓eB,seval,go_sem,Kr]
     ·rw[if_neg (by rw[h6];decide),if_neg (by rw[show Gm KR (chI s i)=false from A2P h7];decide)]at hJ
      refine A0 [.nil 2 1001 Ca,.fz 1001] ?_;simp only[↓eB,seval,go_sem,bne,Cb,← hJ,Ja,Ca,JZ]
     ·have l1:((s.drop i).take 1).length=1:=by simp;omega
      rw[if_neg (by rw[h6];decide),if_pos (show Gm KR (chI s i)=true from A2Q h7)]at hJ
      simp only[l1,q10]
      refine⟨⟨rfl,fun q hq=>(Option.some.inj hq).symm,by simp[Bt,C.stor],by decide,by omega,by omega⟩,?_⟩
      refine⟨(i+1,(out++[(⟨2,(s.drop i).take 1,(i:Int)⟩:Tok)])),⟨by dsimp only;omega,by simp;omega,f,by dsimp only;omega,hJ⟩,by dsimp only;omega,
       BP (t:=⟨[(0,true,.one (.v (.string (bs s)))),(5,true,.one (.s 99)),(6,true,.one (.v (.int .i64 ((i+1:Nat):Int))))],[(99,.vec 0 Ca ((out++[(⟨2,(s.drop i).take 1,(i:Int)⟩:Tok)]).map DQ))]⟩) ?_ ?_⟩
      ·refine A4 [] ?_;simp only[↓eB,seval,go_sem,map_append,List.flatMap_append,DQ]
      ·refine A4 [.mv 99 1000] ?_;simp only[↓eB,seval,go_sem,Kr]
   ·have hi':i=s.length:=by omega
    subst hi'
    have h1:=Ao (Nat.le_refl s.length)
    have hJ:(out,0,0)=rxT s:=by
     cases f with
     |zero=>exact hJ
     |succ f=>simp only[rxF]at hJ;rw[if_pos (Nat.le_refl _)]at hJ;exact hJ
    simp only[↓eB,seval,go_sem,h1]
    refine A0 [.fz 1000] ?_;simp only[↓eB,seval,go_sem,bne,Cb,← hJ,Ja,Ca,JZ,fF]
end Go.Proofs.YtbiepiggmagfcaaGreatDoor
