/- The program's lexer: numbers, tokens. No conditions but those in each statement. -/
import Derived.Test.YtlaggppdgoknjaaGreatDoorLe1
set_option linter.unusedVariables false
set_option linter.unusedSimpArgs false
namespace Go.Proofs.YtlaggppdgoknjaaGreatDoor
open Go Go.Sy Go.RowKit
def numN (l:List UInt8):Nat:=1+spanN digB (l.drop 1)
def numTl (l:List UInt8):List UInt8:=trimB 48 (l.take (numN l))
abbrev great:List UInt8:=[57,50,50,51,51,55,50,48,51,54,56,53,52,55,55,53,56,48,55]
def numE (l:List UInt8):Int:=
 if (decide (19<((numTl l).length:Int))||(((numTl l).length:Int)==19&&!(Op.bytesLess (numTl l) great||numTl l==great)))=true then 53
 else if ((decide (((numN l:Nat):Int)<(l.length:Int))&&letB (chI l (numN l)))||(chI l 0==48&&decide (1<((numN l:Nat):Int))))=true then 50 else 0
def numK (l:List UInt8):Int:=if numE l=0 then 1 else 0
def numL (l:List UInt8):Int:=if numE l=0 then ((numN l:Nat):Int) else 0
theorem numN_le {l:List UInt8} (h:0<l.length):numN l≤l.length:=by
 have:=spanN_le digB (l.drop 1)
 simp only[List.length_drop]at this
 unfold numN;omega
abbrev yc_lnum (s:List UInt8):Prop:=0<s.length∧smallB s
abbrev yr_lnum (s:List UInt8):SV:=SV.tup [.inl (.v (.int .i64 (numK s))),.inl (.v (.int .i64 (numL s))),.inl (.v (.int .i64 (numE s)))]
attribute [local go_sem] yc_TrimLeft yp_TrimLeft yp_digit yp_letter yp_operator yr_TrimLeft yr_digit yr_letter
theorem y_lnum:CallsY Tryz.prog 78 (acS (cStr) ac0) (fun p:(List UInt8×Unit)=>yc_lnum p.1) (fun p:(List UInt8×Unit)=>yr_lnum p.1):=by
 rintro ⟨s,_u⟩ w fz xs hc hfz hl hx
 refine calls_toL Tryz.func78 rfl w fz [yp_digit,yp_letter,yp_TrimLeft] [] (acS (cStr) ac0) (fun p:(List UInt8×Unit)=>yr_lnum p.1) _ xs hfz hl hx (Nat.le_of_ble_eq_true rfl) ?_
 clear hx hl hfz xs
 simp only[Tryz.f78]
 simp only[↓eB,seval,go_sem]
 obtain⟨hc0,hs⟩:=hc
 have hs:s.length≤4294967296:=hs
 have hc0:0<s.length:=hc0
 have hN:=numN_le hc0
 refine loop_ok (Y:=Nat) (fun i=>1≤i∧i≤s.length∧i+spanN digB (s.drop i)=numN s)
  (fun i=>⟨[(0,true,.one (.v (.string (bs s)))),(5,true,.one (.v (.int .i64 (i:Int))))],[]⟩)
  (fun i=>s.length-i) 1 ⟨Nat.le_refl _,hc0,rfl⟩ ?_ ?_
 ·refine to_with [] ?_;simp only[↓eB,seval,go_sem]
 ·rintro i ⟨hi1,hi,hJ⟩
  refine vc_ok [yp_digit,yp_letter,yp_TrimLeft] [] _ _ _ ?_
  by_cases hlt:i<s.length
  ·have h1:=natI_lt hlt
   have h2:=natI_ltp hlt
   have h3:=natI_succ hi hs
   rw[spanN_at _ hlt]at hJ
   have h4:=natI_lep hi
   cases hb:digB (chI s i) with
   |true=>
    rw[if_pos hb]at hJ
    simp only[↓eB,seval,go_sem,h1,h2,h3,h4,hb]
    refine⟨i+1,⟨by omega,by omega,by omega⟩,by omega,?_⟩
    refine to_with [] ?_;simp only[↓eB,seval,go_sem]
   |false=>
    rw[if_neg (by rw[hb];decide)]at hJ
    have hJ:i=numN s:=by omega
    subst hJ
    have h5:smallB (s.take (numN s)):=by show (s.take (numN s)).length≤_;simp;omega
    have h6:trimB 48 (s.take (numN s))=numTl s:=rfl
    simp only[↓eB,seval,go_sem,h1,h2,h3,h4,hb,h5,h6]
    try simp only[impB,impN]
    repeat' first|exact ck|with_reducible apply And.intro|intro _
    all_goals try simp only[bne,Bool.not_eq_true',Bool.not_eq_false',Bool.not_not] at*
    all_goals first
     |(refine ret_with [] ?_;simp only[↓eB,seval,go_sem,bne,yr_lnum,numK,numL,numE,great,chI];first|done|(simp only[*,if_true,if_false,Bool.false_eq_true,Bool.true_or,Bool.or_true,Bool.false_or,Bool.or_false,Bool.and_false,Bool.false_and,Bool.true_and,Bool.and_true,Bool.not_true,Bool.not_false,Bool.or_self,Bool.and_self,Int.reduceEq,Int.reduceNeg,Nat.reduceEqDiff,reduceCtorEq,dec_T,dec_F,leC_same,leC_nil,and_self,↓reduceIte];done)|(simp_all;done))
     |omega
     |(simp only[decide_eq_true_eq,decide_eq_false_iff_not]at *;omega)
     |(simp_all;done)
     |(simp_all;omega)
     |trace_state
  ·have h1:=natI_ge (Nat.le_of_not_lt hlt)
   rw[spanN_nil _ (Nat.le_of_not_lt hlt)]at hJ
   have hJ:i=numN s:=by omega
   subst hJ
   have h4:=natI_lep hi
   have h5:smallB (s.take (numN s)):=by show (s.take (numN s)).length≤_;simp;omega
   have h6:trimB 48 (s.take (numN s))=numTl s:=rfl
   simp only[↓eB,seval,go_sem,h1,h4,h5,h6]
   try simp only[impB,impN]
   repeat' first|exact ck|with_reducible apply And.intro|intro _
   all_goals try simp only[bne,Bool.not_eq_true',Bool.not_eq_false',Bool.not_not] at*
   all_goals first
    |(refine ret_with [] ?_;simp only[↓eB,seval,go_sem,bne,yr_lnum,numK,numL,numE,great,chI,h1];first|done|(simp only[*,if_true,if_false,Bool.false_eq_true,Bool.true_or,Bool.or_true,Bool.false_or,Bool.or_false,Bool.and_false,Bool.false_and,Bool.true_and,Bool.and_true,Bool.not_true,Bool.not_false,Bool.or_self,Bool.and_self,Int.reduceEq,Int.reduceNeg,Nat.reduceEqDiff,reduceCtorEq,dec_T,dec_F,leC_same,leC_nil,and_self,↓reduceIte];done)|(simp_all;done))
    |omega
    |(simp only[decide_eq_true_eq,decide_eq_false_iff_not]at *;omega)
    |(simp_all;done)
    |(simp_all;omega)
    |trace_state
theorem yn_lnum:∀p:(List UInt8×Unit),((fun p:(List UInt8×Unit)=>yr_lnum p.1) p).names=[]:=by intro p;first|rfl|simp[SV.names,C.names]
noncomputable def yp_lnum {X:Ctx} {w0:World}:Sy.Spec Tryz.prog X w0:=specD 78 Tryz.call78 (acS (cStr) ac0) (fun p:(List UInt8×Unit)=>yc_lnum p.1) (fun p:(List UInt8×Unit)=>yr_lnum p.1) yn_lnum y_lnum
def idN (l:List UInt8):Nat:=1+spanN idB (l.drop 1)
theorem idN_le {l:List UInt8} (h:0<l.length):idN l≤l.length:=by
 have:=spanN_le idB (l.drop 1)
 simp only[List.length_drop]at this
 unfold idN;omega
def tkE (l:List UInt8):Int:=if letB (chI l 0)=true then (if decide (32<((idN l:Nat):Int))=true then 53 else 0) else if digB (chI l 0)=true then numE l else if (opI l==0)=true then 50 else 0
def tkK (l:List UInt8):Int:=if letB (chI l 0)=true then 0 else if digB (chI l 0)=true then numK l else if (opI l==0)=true then 0 else 2
def tkL (l:List UInt8):Int:=if letB (chI l 0)=true then (if decide (32<((idN l:Nat):Int))=true then 0 else ((idN l:Nat):Int)) else if digB (chI l 0)=true then numL l else opI l
theorem tok_pre {s:List UInt8} (h:0<s.length∧smallB s):((0:Int)<(s.length:Int))=True∧0<s.length∧s.length≤4294967296:=⟨by simp;omega,h.1,h.2⟩
abbrev yc_token (s:List UInt8):Prop:=0<s.length∧smallB s
abbrev yr_token (s:List UInt8):SV:=SV.tup [.inl (.v (.int .i64 (tkK s))),.inl (.v (.int .i64 (tkL s))),.inl (.v (.int .i64 (tkE s)))]
theorem y_token:CallsY Tryz.prog 60 (acS (cStr) ac0) (fun p:(List UInt8×Unit)=>yc_token p.1) (fun p:(List UInt8×Unit)=>yr_token p.1):=by
 rintro ⟨s,_u⟩ w fz xs hc hfz hl hx
 refine calls_toL Tryz.func60 rfl w fz [yp_digit,yp_letter,yp_lnum,yp_operator] [] (acS (cStr) ac0) (fun p:(List UInt8×Unit)=>yr_token p.1) _ xs hfz hl hx (Nat.le_of_ble_eq_true rfl) ?_
 clear hx hl hfz xs
 simp only[Tryz.f60]
 obtain⟨hp,hc0,hs⟩:=tok_pre hc
 all_goals simp only[↓eB,seval,go_sem,yp_lnum,yr_lnum,yr_operator,yc_lnum,yc_operator,hp]
 simp only[impB,impN]
 refine⟨fun hl=>?_,fun hl=>⟨fun hd=>⟨⟨hc0,hs⟩,?_⟩,fun hd=>⟨hc0,?_⟩⟩⟩
 ·refine loop_ok (Y:=Nat) (fun i=>1≤i∧i≤s.length∧i+spanN idB (s.drop i)=idN s)
   (fun i=>⟨[(0,true,.one (.v (.string (bs s)))),(5,true,.one (.v (.int .i64 (i:Int))))],[]⟩)
   (fun i=>s.length-i) 1 ⟨Nat.le_refl _,hc0,rfl⟩ ?_ ?_
  ·refine to_with [] ?_;simp only[↓eB,seval,go_sem]
  ·rintro i ⟨hi1,hi,hJ⟩
   refine vc_ok [yp_digit,yp_letter,yp_lnum,yp_operator] [] _ _ _ ?_
   by_cases hlt:i<s.length
   ·have h1:=natI_lt hlt
    have h2:=natI_ltp hlt
    have h3:=natI_succ hi hs
    rw[spanN_at _ hlt]at hJ
    simp only[↓eB,seval,go_sem,h1,h2,h3,yp_lnum]
    simp only[impB,impN]
    refine⟨fun hb=>?_,fun hb=>?_⟩
    ·rw[if_pos (show idB _=true from hb)]at hJ
     refine⟨i+1,⟨by omega,by omega,by omega⟩,by omega,?_⟩
     refine to_with [] ?_;simp only[↓eB,seval,go_sem]
    ·rw[if_neg (show ¬idB _=true by show ¬(letB _||digB _)=true;rw[hb];decide)]at hJ
     have hJ:i=idN s:=by omega
     subst hJ
     try simp only[impB,impN]
     repeat' first|exact ck|with_reducible apply And.intro|intro _
     all_goals try simp only[bne,Bool.not_eq_true',Bool.not_eq_false',Bool.not_not] at*
     all_goals first
      |(refine ret_with [] ?_;simp only[↓eB,seval,go_sem,bne,yr_token,tkK,tkL,tkE,chI,hl];first|done|(simp only[*,if_true,if_false,Bool.false_eq_true,Bool.true_or,Bool.or_true,Bool.false_or,Bool.or_false,Bool.and_false,Bool.false_and,Bool.true_and,Bool.and_true,Bool.not_true,Bool.not_false,Bool.or_self,Bool.and_self,Int.reduceEq,Int.reduceNeg,Nat.reduceEqDiff,reduceCtorEq,dec_T,dec_F,leC_same,leC_nil,and_self,↓reduceIte];done)|(simp_all;done))
      |omega
      |(simp only[decide_eq_true_eq,decide_eq_false_iff_not]at *;omega)
      |(simp_all;done)
      |(simp_all;omega)
      |trace_state
   ·have h1:=natI_ge (Nat.le_of_not_lt hlt)
    rw[spanN_nil _ (Nat.le_of_not_lt hlt)]at hJ
    have hJ:i=idN s:=by omega
    subst hJ
    simp only[↓eB,seval,go_sem,h1,yp_lnum]
    try simp only[impB,impN]
    repeat' first|exact ck|with_reducible apply And.intro|intro _
    all_goals try simp only[bne,Bool.not_eq_true',Bool.not_eq_false',Bool.not_not] at*
    all_goals first
     |(refine ret_with [] ?_;simp only[↓eB,seval,go_sem,bne,yr_token,tkK,tkL,tkE,chI,hl];first|done|(simp only[*,if_true,if_false,Bool.false_eq_true,Bool.true_or,Bool.or_true,Bool.false_or,Bool.or_false,Bool.and_false,Bool.false_and,Bool.true_and,Bool.and_true,Bool.not_true,Bool.not_false,Bool.or_self,Bool.and_self,Int.reduceEq,Int.reduceNeg,Nat.reduceEqDiff,reduceCtorEq,dec_T,dec_F,leC_same,leC_nil,and_self,↓reduceIte];done)|(simp_all;done))
     |omega
     |(simp only[decide_eq_true_eq,decide_eq_false_iff_not]at *;omega)
     |(simp_all;done)
     |(simp_all;omega)
     |trace_state
 ·try simp only[impB,impN]
  repeat' first|exact ck|with_reducible apply And.intro|intro _
  all_goals try simp only[bne,Bool.not_eq_true',Bool.not_eq_false',Bool.not_not] at*
  all_goals first
   |(refine ret_with [] ?_;simp only[↓eB,seval,go_sem,bne,yr_token,tkK,tkL,tkE,chI,hl,hd];first|done|(simp only[*,if_true,if_false,Bool.false_eq_true,Bool.true_or,Bool.or_true,Bool.false_or,Bool.or_false,Bool.and_false,Bool.false_and,Bool.true_and,Bool.and_true,Bool.not_true,Bool.not_false,Bool.or_self,Bool.and_self,Int.reduceEq,Int.reduceNeg,Nat.reduceEqDiff,reduceCtorEq,dec_T,dec_F,leC_same,leC_nil,and_self,↓reduceIte];done)|(simp_all;done))
   |omega
   |(simp only[decide_eq_true_eq,decide_eq_false_iff_not]at *;omega)
   |(simp_all;done)
   |(simp_all;omega)
   |trace_state
 ·refine⟨fun ho=>?_,fun ho=>?_⟩
  ·have h0:opI s=0:=by simpa using ho
   refine ret_with [] ?_;simp only[↓eB,seval,go_sem,bne,yr_token,tkK,tkL,tkE,chI,hl,hd,ho,h0]
  ·refine ret_with [] ?_;simp only[↓eB,seval,go_sem,bne,yr_token,tkK,tkL,tkE,chI,hl,hd,ho]
theorem yn_token:∀p:(List UInt8×Unit),((fun p:(List UInt8×Unit)=>yr_token p.1) p).names=[]:=by intro p;first|rfl|simp[SV.names,C.names]
noncomputable def yp_token {X:Ctx} {w0:World}:Sy.Spec Tryz.prog X w0:=specD 60 Tryz.call60 (acS (cStr) ac0) (fun p:(List UInt8×Unit)=>yc_token p.1) (fun p:(List UInt8×Unit)=>yr_token p.1) yn_token y_token
end Go.Proofs.YtlaggppdgoknjaaGreatDoor
namespace Go.Proofs.YtlaggppdgoknjaaGreatDoor
open Go Go.Sy Go.RowKit
theorem ixB_lt (c:UInt8):∀l:List UInt8,Lib.indexByte l c<l.length∨(l=[]∧Lib.indexByte l c = -1)
 |[]=>.inr ⟨rfl,rfl⟩
 |b::l=>by
  left
  simp only[Lib.indexByte,List.length_cons]
  split
  ·omega
  ·split
   ·omega
   ·rcases ixB_lt c l with h|⟨h1,h2⟩
    ·omega
    ·rw[h2];omega
theorem blk_le {l:List UInt8} (h:0<l.length):0≤blkI l∧blkI l≤l.length:=by
 unfold blkI
 have:=ixB_lt (Nat.toUInt8 10) l
 (repeat' split)<;>simp_all<;>omega
theorem numL_le {l:List UInt8} (h:0<l.length):0≤numL l∧numL l≤l.length:=by
 have:=numN_le h
 unfold numL
 split<;>omega
theorem opI_le {l:List UInt8} (h:0<l.length):0≤opI l∧opI l≤l.length:=by
 unfold opI
 split
 ·rename_i h1
  simp only[Bool.and_eq_true,decide_eq_true_eq]at h1
  omega
 ·split<;>omega
theorem tkL_le {l:List UInt8} (h:0<l.length):0≤tkL l∧tkL l≤l.length:=by
 have h1:=idN_le h
 have h2:=numL_le h
 have h3:=opI_le h
 unfold tkL
 (repeat' split)<;>omega
def lxF (s:List UInt8):Nat→Nat→Nat→List Tok→List Tok×Int×Int
 |0,_,_,out=>(out,0,0)
 |n+1,i,nx,out=>
  if i<nx then lxF s n (i+1) nx out
  else if decide (0<blkI (s.drop i))=true then lxF s n (i+1) (i+(blkI (s.drop i)).toNat) out
  else if (!(tkE (s.drop i)==0))=true then ([],(i:Int),tkE (s.drop i))
  else lxF s n (i+1) (i+(tkL (s.drop i)).toNat) (out++[⟨tkK (s.drop i),(s.drop i).take (tkL (s.drop i)).toNat,(i:Int)⟩])
def lxT (s:List UInt8):List Tok×Int×Int:=if decide (4096<(s.length:Int))=true then ([],0,53) else lxF s s.length 0 0 []
abbrev yc_Tokens (s:List UInt8):Prop:=smallB s
abbrev yr_Tokens (s:List UInt8):SV:=toksV (lxT s)
attribute [local go_sem] flN_tok yc_blank yc_token yp_blank yp_token yr_blank yr_token
theorem y_Tokens:CallsY Tryz.prog 44 (acS (cStr) ac0) (fun p:(List UInt8×Unit)=>yc_Tokens p.1) (fun p:(List UInt8×Unit)=>yr_Tokens p.1):=by
 rintro ⟨s,_u⟩ w fz xs hc hfz hl hx
 refine calls_toL Tryz.func44 rfl w fz [yp_blank,yp_token] [] (acS (cStr) ac0) (fun p:(List UInt8×Unit)=>yr_Tokens p.1) _ xs hfz hl hx (Nat.le_of_ble_eq_true rfl) ?_
 clear hx hl hfz xs
 simp only[Tryz.f44]
 simp only[↓eB,seval,go_sem]
 simp only[impB,impN]
 refine⟨fun h=>?_,fun h=>?_⟩
 ·have hR:lxT s=([],0,53):=by unfold lxT;rw[if_pos h]
  refine ret_with [.nil 2 1000 zTok,.fz 1000] ?_;simp only[↓eB,seval,go_sem,bne,yr_Tokens,hR,toksV,zTok,zTokD]
 ·have hR:lxT s=lxF s s.length 0 0 []:=by unfold lxT;rw[if_neg (by rw[h];decide)]
  have hs:s.length≤4096:=by simp at h;omega
  refine loop_ok (Y:=Nat×Nat×List Tok) (fun y=>y.1≤s.length∧y.2.1≤s.length∧y.2.2.length≤y.1∧lxF s (s.length-y.1) y.1 y.2.1 y.2.2=lxT s)
   (fun y=>⟨[(0,true,.one (.v (.string (bs s)))),(5,true,.one (.s 1000)),(6,true,.one (.v (.int .i64 (y.2.1:Int)))),(16,true,.one (.v (.int .i64 (s.length:Int)))),(17,true,.one (.v (.int .i64 (y.1:Int))))],
    [(1000,.vec 0 zTok (y.2.2.map cTok))]⟩)
   (fun y=>s.length-y.1) (0,0,[]) ⟨Nat.zero_le _,Nat.zero_le _,Nat.le_refl _,hR.symm⟩ ?_ ?_
  ·refine to_with [.nil 5 1000 zTok] ?_;simp only[↓eB,seval,go_sem,zTok]
  ·rintro ⟨i,nx,out⟩ ⟨hi,hx,ho,hJ⟩
   simp only at hi hx ho hJ
   refine vc_ok [yp_blank,yp_token] [] _ _ _ ?_
   by_cases hlt:i<s.length
   ·have h1:=natI_lt hlt
    have h2:=natI_lep hi
    have h3:=natI_succ hi (n:=s.length) (by omega)
    have e0:s.length-i=(s.length-(i+1))+1:=by omega
    rw[e0]at hJ
    have hd:0<(s.drop i).length:=by simp;omega
    obtain⟨b1,b2⟩:=blk_le hd
    obtain⟨t1,t2⟩:=tkL_le hd
    have hsd:smallB (s.drop i):=by show (s.drop i).length≤_;simp;omega
    simp only[List.length_drop]at b2 t2
    simp only[lxF]at hJ
    simp only[↓eB,seval,go_sem,h1,h2,h3]
    simp only[impB,impN]
    refine⟨fun hn=>?_,fun hn=>?_⟩
    ·rw[if_pos (by simpa using hn)]at hJ
     refine⟨(i+1,nx,out),⟨hlt,hx,by dsimp only;omega,hJ⟩,by show s.length-(i+1)<s.length-i;omega,?_⟩
     refine to_with [] ?_;simp only[↓eB,seval,go_sem]
    ·rw[if_neg (by simpa using hn)]at hJ
     refine⟨Int.le_refl _,hd,fun hb=>?_,fun hb=>⟨Int.le_refl _,⟨hd,hsd⟩,fun he=>?_,fun he=>?_⟩⟩
     ·rw[if_pos hb]at hJ
      obtain⟨k,hk⟩:∃k:Nat,blkI (s.drop i)=(k:Int):=⟨_,(Int.toNat_of_nonneg b1).symm⟩
      rw[hk]at b2 hJ ⊢
      rw[Int.toNat_natCast]at hJ
      have h5:=natI_add (i:=i) (k:=k) (n:=s.length) (by omega) (by omega)
      refine⟨(i+1,i+k,out),⟨hlt,by dsimp only;omega,by dsimp only;omega,hJ⟩,by show s.length-(i+1)<s.length-i;omega,?_⟩
      refine to_with [] ?_;simp only[↓eB,seval,go_sem,h5]
     ·rw[if_neg (by rw[hb];decide),if_pos (by simpa using he)]at hJ
      refine ret_with [.nil 2 1001 zTok,.fz 1001] ?_;simp only[↓eB,seval,go_sem,bne,yr_Tokens,← hJ,toksV,zTok,zTokD]
     ·rw[if_neg (by rw[hb];decide),if_neg (by simpa using he)]at hJ
      obtain⟨k,hk⟩:∃k:Nat,tkL (s.drop i)=(k:Int):=⟨_,(Int.toNat_of_nonneg t1).symm⟩
      rw[hk]at t2 hJ ⊢
      rw[Int.toNat_natCast]at hJ
      have h5:=natI_add (i:=i) (k:=k) (n:=s.length) (by omega) (by omega)
      have h6:(s.drop i).take ((i+k)-i)=(s.drop i).take k:=by congr 1;omega
      simp only[h5,Int.toNat_natCast,h6]
      refine⟨⟨by omega,by omega⟩,⟨rfl,fun q hq=>(Option.some.inj hq).symm,by simp[rowsStor,C.stor],by decide,by omega,by omega⟩,(i+1,i+k,out++[⟨tkK (s.drop i),(s.drop i).take k,(i:Int)⟩]),⟨hlt,by dsimp only;omega,by simp;omega,hJ⟩,by show s.length-(i+1)<s.length-i;omega,
       to_trans (t:=⟨[(0,true,.one (.v (.string (bs s)))),(5,true,.one (.s 55)),(6,true,.one (.v (.int .i64 ((i+k:Nat):Int)))),(16,true,.one (.v (.int .i64 (s.length:Int)))),(17,true,.one (.v (.int .i64 ((i+1:Nat):Int))))],[(55,.vec 0 zTok ((out++[(⟨tkK (s.drop i),(s.drop i).take k,(i:Int)⟩:Tok)]).map cTok))]⟩) ?_ ?_⟩
      ·refine to_with [] ?_;simp only[↓eB,seval,go_sem,List.map_append,List.flatMap_append,cTok]
      ·refine to_with [.mv 55 1000] ?_;simp only[↓eB,seval,go_sem,mvC_tok]
   ·have hi':i=s.length:=by omega
    subst hi'
    have h1:=natI_ge (Nat.le_refl s.length)
    rw[Nat.sub_self]at hJ
    simp only[lxF]at hJ
    simp only[↓eB,seval,go_sem,h1]
    refine ret_with [.fz 1000] ?_;simp only[↓eB,seval,go_sem,bne,yr_Tokens,← hJ,toksV,zTok,zTokD,toDss_tok]
end Go.Proofs.YtlaggppdgoknjaaGreatDoor
