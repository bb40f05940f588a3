/- The lexer of the reference, as the parser calls it. No conditions but those in each statement. -/
import Derived.Test.YtjnnmindcbgjhabAs
import Derived.Test.YtjnnmindcbgjhabTy2
set_option linter.unusedVariables false
set_option linter.unusedSimpArgs false
namespace Go.Proofs.Ytjnnmindcbgjhab
open Go Go.Sy Go.RowKit
abbrev yc_rletter (b:Int):Prop:=True
abbrev yr_rletter (b:Int):SV:=SV.one (.v (.bool (letB b)))
theorem y_rletter:CallsY Try.prog 37 (acS (cInt .u8) ac0) (fun p:(Int×Unit)=>yc_rletter p.1) (fun p:(Int×Unit)=>yr_rletter p.1):=by
 rintro ⟨b,_u⟩ w fz xs hc hfz hl hx
 refine calls_toL Try.func37 rfl w fz [] [] (acS (cInt .u8) ac0) (fun p:(Int×Unit)=>yr_rletter p.1) _ xs hfz hl hx (Nat.le_of_ble_eq_true rfl) ?_
 clear hx hl hfz xs
 simp only[Try.f37]
 simp only[↓eB,seval,go_sem]
 try simp only[impB,impN]
 repeat' first|exact ck|with_reducible apply And.intro|intro _
 all_goals try simp only[bne,Bool.not_eq_true',Bool.not_eq_false',Bool.not_not] at*
 all_goals first
  |(refine ret_with [] ?_;simp only[↓eB,seval,go_sem,bne,yr_rletter,letB];first|done|(simp only[*,if_true,if_false,Bool.false_eq_true,Bool.true_or,Bool.or_true,Bool.false_or,Bool.or_false,Bool.and_false,Bool.false_and,Bool.true_and,Bool.and_true,Bool.not_true,Bool.not_false,Bool.or_self,Bool.and_self,Int.reduceEq,Int.reduceNeg,Nat.reduceEqDiff,reduceCtorEq,dec_T,dec_F,leC_same,leC_nil,and_self,↓reduceIte];done)|(simp_all;done))
  |omega
  |(simp only[decide_eq_true_eq,decide_eq_false_iff_not]at *;omega)
  |(simp_all;done)
  |(simp_all;omega)
  |trace_state
theorem yn_rletter:∀p:(Int×Unit),((fun p:(Int×Unit)=>yr_rletter p.1) p).names=[]:=by intro p;first|rfl|simp[SV.names,C.names]
noncomputable def yp_rletter {X:Ctx} {w0:World}:Sy.Spec Try.prog X w0:=specD 37 Try.call37 (acS (cInt .u8) ac0) (fun p:(Int×Unit)=>yc_rletter p.1) (fun p:(Int×Unit)=>yr_rletter p.1) yn_rletter y_rletter
abbrev yc_rdigit (b:Int):Prop:=True
abbrev yr_rdigit (b:Int):SV:=SV.one (.v (.bool (digB b)))
theorem y_rdigit:CallsY Try.prog 38 (acS (cInt .u8) ac0) (fun p:(Int×Unit)=>yc_rdigit p.1) (fun p:(Int×Unit)=>yr_rdigit p.1):=by
 rintro ⟨b,_u⟩ w fz xs hc hfz hl hx
 refine calls_toL Try.func38 rfl w fz [] [] (acS (cInt .u8) ac0) (fun p:(Int×Unit)=>yr_rdigit p.1) _ xs hfz hl hx (Nat.le_of_ble_eq_true rfl) ?_
 clear hx hl hfz xs
 simp only[Try.f38]
 simp only[↓eB,seval,go_sem]
 try simp only[impB,impN]
 repeat' first|exact ck|with_reducible apply And.intro|intro _
 all_goals try simp only[bne,Bool.not_eq_true',Bool.not_eq_false',Bool.not_not] at*
 all_goals first
  |(refine ret_with [] ?_;simp only[↓eB,seval,go_sem,bne,yr_rdigit,digB];first|done|(simp only[*,if_true,if_false,Bool.false_eq_true,Bool.true_or,Bool.or_true,Bool.false_or,Bool.or_false,Bool.and_false,Bool.false_and,Bool.true_and,Bool.and_true,Bool.not_true,Bool.not_false,Bool.or_self,Bool.and_self,Int.reduceEq,Int.reduceNeg,Nat.reduceEqDiff,reduceCtorEq,dec_T,dec_F,leC_same,leC_nil,and_self,↓reduceIte];done)|(simp_all;done))
  |omega
  |(simp only[decide_eq_true_eq,decide_eq_false_iff_not]at *;omega)
  |(simp_all;done)
  |(simp_all;omega)
  |trace_state
theorem yn_rdigit:∀p:(Int×Unit),((fun p:(Int×Unit)=>yr_rdigit p.1) p).names=[]:=by intro p;first|rfl|simp[SV.names,C.names]
noncomputable def yp_rdigit {X:Ctx} {w0:World}:Sy.Spec Try.prog X w0:=specD 38 Try.call38 (acS (cInt .u8) ac0) (fun p:(Int×Unit)=>yc_rdigit p.1) (fun p:(Int×Unit)=>yr_rdigit p.1) yn_rdigit y_rdigit
abbrev yc_rone (s:List UInt8) (c:Int):Prop:=smallB s
abbrev yr_rone (s:List UInt8) (c:Int):SV:=SV.one (.v (.bool (oneB s c)))
theorem y_rone:CallsY Try.prog 39 (acS (cStr) (acS (cInt .u8) ac0)) (fun p:(List UInt8×(Int×Unit))=>yc_rone p.1 p.2.1) (fun p:(List UInt8×(Int×Unit))=>yr_rone p.1 p.2.1):=by
 rintro ⟨s,c,_u⟩ w fz xs hc hfz hl hx
 refine calls_toL Try.func39 rfl w fz [] [] (acS (cStr) (acS (cInt .u8) ac0)) (fun p:(List UInt8×(Int×Unit))=>yr_rone p.1 p.2.1) _ xs hfz hl hx (Nat.le_of_ble_eq_true rfl) ?_
 clear hx hl hfz xs
 simp only[Try.f39]
 simp only[↓eB,seval,go_sem]
 have hs:s.length≤4294967296:=hc
 refine loop_ok (Y:=Nat) (fun i=>i≤s.length∧oneB (s.drop i) c=oneB s c)
  (fun i=>⟨[(0,true,.one (.v (.string (bs s)))),(1,true,.one (.v (.int .u8 c))),(5,true,.one (.v (.int .i64 (i:Int))))],[]⟩)
  (fun i=>s.length-i) 0 ⟨Nat.zero_le _,by simp⟩ ?_ ?_
 ·refine to_with [] ?_;simp only[↓eB,seval,go_sem]
 ·rintro i ⟨hi,hJ⟩
  refine vc_ok [] [] _ _ _ ?_
  by_cases hlt:i<s.length
  ·have h1:=natI_lt hlt
   have h2:=natI_ltp hlt
   have h3:=natI_succ hi hs
   rw[oneB_at hlt]at hJ
   simp only[↓eB,seval,go_sem,h1,h2,h3]
   simp only[impB,impN]
   refine⟨fun hb=>?_,fun hb=>⟨i+1,⟨hlt,?_⟩,by omega,?_⟩⟩
   ·rw[hb,Bool.true_or]at hJ
    refine ret_with [] ?_;simp only[↓eB,seval,go_sem,bne,yr_rone,← hJ]
   ·rw[hb,Bool.false_or]at hJ;exact hJ
   ·refine to_with [] ?_;simp only[↓eB,seval,go_sem]
  ·have h1:=natI_ge (Nat.le_of_not_lt hlt)
   rw[List.drop_eq_nil_of_le (Nat.le_of_not_lt hlt)]at hJ
   have hJ':oneB s c=false:=hJ.symm
   simp only[↓eB,seval,go_sem,h1]
   refine ret_with [] ?_;simp only[↓eB,seval,go_sem,bne,yr_rone,hJ']
theorem yn_rone:∀p:(List UInt8×(Int×Unit)),((fun p:(List UInt8×(Int×Unit))=>yr_rone p.1 p.2.1) p).names=[]:=by intro p;first|rfl|simp[SV.names,C.names]
noncomputable def yp_rone {X:Ctx} {w0:World}:Sy.Spec Try.prog X w0:=specD 39 Try.call39 (acS (cStr) (acS (cInt .u8) ac0)) (fun p:(List UInt8×(Int×Unit))=>yc_rone p.1 p.2.1) (fun p:(List UInt8×(Int×Unit))=>yr_rone p.1 p.2.1) yn_rone y_rone
abbrev yc_rTokens (s:List UInt8):Prop:=smallB s
abbrev yr_rTokens (s:List UInt8):SV:=toksV (rxT s)
set_option maxRecDepth 20000 in set_option maxHeartbeats 4000000 in
theorem y_rTokens:CallsY Try.prog 17 (acS (cStr) ac0) (fun p:(List UInt8×Unit)=>yc_rTokens p.1) (fun p:(List UInt8×Unit)=>yr_rTokens p.1):=by
 rintro ⟨s,_u⟩ w fz xs hc hfz hl hx
 refine calls_toL Try.func17 rfl w fz [yp_rletter,yp_rdigit,yp_rone] [] (acS (cStr) ac0) (fun p:(List UInt8×Unit)=>yr_rTokens p.1) _ xs hfz hl hx (Nat.le_of_ble_eq_true rfl) ?_
 clear hx hl hfz xs
 simp only[Try.f17]
 simp only[↓eB,seval,go_sem,yp_rletter,yp_rdigit,yp_rone,yr_rletter,yr_rdigit,yr_rone,yc_rone]
 simp only[impB,impN]
 refine⟨fun h=>?_,fun h=>?_⟩
 ·have hR:rxT s=([],0,53):=by unfold rxT;rw[if_pos h]
  refine ret_with [.nil 2 1000 zTok,.fz 1000] ?_;simp only[↓eB,seval,go_sem,bne,yr_rTokens,hR,toksV,zTok,zTokD]
 ·have hR:rxT s=rxF s s.length 0 []:=by unfold rxT;rw[if_neg (by rw[h];decide)]
  have hs:s.length≤4096:=by simp at h;omega
  refine loop_ok (Y:=Nat×List Tok) (fun y=>rxJ s y.1 y.2) (fun y=>rxI s y.1 y.2) (fun y=>s.length-y.1) (0,[]) ⟨Nat.zero_le _,Nat.le_refl _,s.length,by dsimp only;omega,hR.symm⟩ ?_ ?_
  ·refine to_with [.nil 5 1000 zTok] ?_;simp only[↓eB,seval,go_sem,zTok]
  ·rintro ⟨i,out⟩ ⟨hi,ho,f,hf,hJ⟩
   simp only at hi ho hf hJ
   refine vc_ok [yp_rletter,yp_rdigit,yp_rone] [] _ _ _ ?_
   by_cases hlt:i<s.length
   ·have h1:=natI_lt hlt
    have h2:=natI_ltp hlt
    have h3:=natI_succ hi (n:=s.length) (by omega)
    have h3':=natI_lep hlt
    have h4:((i:Int)≤((i+1:Nat):Int))=True:=natI_lep (by omega)
    obtain⟨f,rfl⟩:∃g,f=g+1:=⟨f-1,by omega⟩
    simp only[rxF]at hJ
    rw[if_neg (Nat.not_le.2 hlt)]at hJ
    have h5:smallB signs:=by decide
    obtain⟨z6,q1,q3⟩:∃z6,decide (((i+2:Nat):Int)≤(s.length:Int))=z6∧(z6=true→i+2≤s.length):=⟨_,rfl,fun h=>by simp at h;omega⟩
    have q2:IntKind.i64.wrap ((i:Int)+2)=((i+2:Nat):Int):=by rw[wrap_i64 (by omega) (by omega)];rfl
    have q4:((i:Int)≤((i+2:Nat):Int))=True:=natI_lep (by omega)
    have q6:(i+2)-i=2:=by omega
    have q7:(i+1)-i=1:=by omega
    have q8:z6=true→((i+2:Nat):Int)≤(s.length:Int):=fun h=>by have:=q3 h;omega
    simp only[↓eB,seval,go_sem,h1,h2,h3,h3',h4,h5,q1,q2,q4,q6,q7,yp_rletter,yp_rdigit,yp_rone,yr_rletter,yr_rdigit,yr_rone,yc_rone]
    simp only[impB,impN]
    refine⟨fun hb=>?_,fun hb=>⟨fun hc=>?_,fun hc=>⟨fun hl=>?_,fun hl=>⟨fun hd=>?_,fun hd=>?_⟩⟩⟩⟩
    ·
     rw[if_pos (show blB (chI s i)=true from hb)]at hJ
     refine⟨(i+1,out),⟨hlt,by dsimp only;omega,f,by dsimp only;omega,hJ⟩,by dsimp only;omega,?_⟩
     refine to_with [] ?_;simp only[↓eB,seval,go_sem,flN_tok,rxI]
    ·
     rw[if_neg (show ¬blB (chI s i)=true by show ¬(_||_||_||_)=true;rw[hb];decide),if_pos hc]at hJ
     have hk1:=spanN_at nlB hlt
     have hc2:((s.getD i 0).toNat:Int)=35:=beq_iff_eq.1 hc
     rw[if_pos (show nlB _=true by show (!(((s.getD i 0).toNat:Int)==10))=true;rw[hc2];rfl)]at hk1
     have hk2:=spanN_le nlB (s.drop i)
     simp only[List.length_drop]at hk2
     obtain⟨k,hk⟩:∃k,spanN nlB (s.drop i)=k:=⟨_,rfl⟩
     rw[hk]at hJ hk1 hk2
     refine loop_ok (Y:=Nat) (fun j=>i≤j∧j≤s.length∧j+spanN nlB (s.drop j)=i+k) (fun j=>rxI s j out) (fun j=>s.length-j) i ⟨Nat.le_refl _,hi,by rw[hk]⟩ ?_ ?_
     ·refine to_with [] ?_;simp only[↓eB,seval,go_sem,flN_tok,rxI]
     ·rintro j ⟨hj1,hj2,hj3⟩
      refine vc_ok [yp_rletter,yp_rdigit,yp_rone] [] _ _ _ ?_
      by_cases hjl:j<s.length
      ·have m1:=natI_lt hjl
       have m2:=natI_ltp hjl
       have m3:=natI_succ hj2 (n:=s.length) (by omega)
       rw[spanN_at _ hjl]at hj3
       simp only[↓eB,seval,go_sem,m1,m2,m3]
       simp only[impB,impN]
       refine⟨fun hq=>?_,fun hq=>?_⟩
       ·rw[if_pos (show nlB _=true from hq)]at hj3
        refine⟨j+1,⟨by omega,hjl,by omega⟩,by omega,?_⟩
        refine to_with [] ?_;simp only[↓eB,seval,go_sem,flN_tok,rxI]
       ·rw[if_neg (show ¬nlB _=true by show ¬(!(_==_))=true;rw[show (!(((s.getD j 0).toNat:Int)==10))=false from hq];decide)]at hj3
        obtain rfl:j=i+k:=by omega
        refine⟨(i+k,out),⟨by dsimp only;omega,by dsimp only;omega,f,by dsimp only;omega,hJ⟩,by dsimp only;omega,?_⟩
        refine to_with [] ?_;simp only[↓eB,seval,go_sem,flN_tok,rxI]
      ·have m1:=natI_ge (Nat.le_of_not_lt hjl)
       rw[spanN_nil _ (Nat.le_of_not_lt hjl)]at hj3
       obtain rfl:j=i+k:=by omega
       simp only[↓eB,seval,go_sem,m1]
       refine⟨(i+k,out),⟨by dsimp only;omega,by dsimp only;omega,f,by dsimp only;omega,hJ⟩,by dsimp only;omega,?_⟩
       refine to_with [] ?_;simp only[↓eB,seval,go_sem,flN_tok,rxI]
    ·
     rw[if_neg (show ¬blB (chI s i)=true by show ¬(_||_||_||_)=true;rw[hb];decide),if_neg (by show ¬(_==_)=true;rw[hc];decide),if_pos hl]at hJ
     have hk1:=spanN_at idB hlt
     rw[if_pos (show idB _=true by show (letB _||digB _)=true;rw[hl];rfl)]at hk1
     have hk2:=spanN_le idB (s.drop i)
     simp only[List.length_drop]at hk2
     obtain⟨k,hk⟩:∃k,spanN idB (s.drop i)=k:=⟨_,rfl⟩
     rw[hk]at hJ hk1 hk2
     refine loop_ok (Y:=Nat) (fun j=>i≤j∧j≤s.length∧j+spanN idB (s.drop j)=i+k) (fun j=>⟨[(0,true,.one (.v (.string (bs s)))),(5,true,.one (.s 1000)),(6,true,.one (.v (.int .i64 (j:Int)))),(8,true,.one (.v (.int .i64 (i:Int))))],[(1000,.vec 0 zTok (out.map cTok))]⟩) (fun j=>s.length-j) i ⟨Nat.le_refl _,hi,by rw[hk]⟩ ?_ ?_
     ·refine to_with [] ?_;simp only[↓eB,seval,go_sem,flN_tok]
     ·rintro j ⟨hj1,hj2,hj3⟩
      refine vc_ok [yp_rletter,yp_rdigit,yp_rone] [] _ _ _ ?_
      have e1:IntKind.i64.wrap (((i+k:Nat):Int)-(i:Int))=(k:Int):=by rw[wrap_i64 (by omega) (by omega)];omega
      have e2:(i+k)-i=k:=by omega
      have e3:((i:Int)≤((i+k:Nat):Int))=True:=natI_lep (by omega)
      have e4:(((i+k:Nat):Int)≤(s.length:Int))=True:=natI_lep (by omega)
      by_cases hjl:j<s.length
      ·have m1:=natI_lt hjl
       have m2:=natI_ltp hjl
       have m3:=natI_succ hj2 (n:=s.length) (by omega)
       rw[spanN_at _ hjl]at hj3
       cases hq:idB (chI s j) with
       |true=>
        rw[if_pos hq]at hj3
        have hq':(letB ((s.getD j 0).toNat:Int)||digB ((s.getD j 0).toNat:Int))=true:=hq
        simp only[↓eB,seval,go_sem,m1,m2,m3,hq',yp_rletter,yp_rdigit,yp_rone,yr_rletter,yr_rdigit]
        refine⟨j+1,⟨by omega,hjl,by omega⟩,by omega,?_⟩
        refine to_with [] ?_;simp only[↓eB,seval,go_sem,flN_tok]
       |false=>
        rw[if_neg (by rw[hq];decide)]at hj3
        obtain rfl:j=i+k:=by omega
        have hq':(letB ((s.getD (i+k) 0).toNat:Int)||digB ((s.getD (i+k) 0).toNat:Int))=false:=hq
        simp only[↓eB,seval,go_sem,m1,m2,m3,hq',e1,e2,e3,e4,yp_rletter,yp_rdigit,yp_rone,yr_rletter,yr_rdigit]
        simp only[impB,impN]
        refine⟨fun hg=>?_,fun hg=>⟨⟨rfl,fun q hq=>(Option.some.inj hq).symm,by simp[rowsStor,C.stor],by decide,by omega,by omega⟩,?_⟩⟩
        ·rw[if_pos hg]at hJ
         refine ret_with [.nil 2 1001 zTok,.fz 1001] ?_;simp only[↓eB,seval,go_sem,bne,yr_rTokens,← hJ,toksV,zTok,zTokD]
        ·rw[if_neg (by rw[hg];decide)]at hJ
         refine⟨(i+k,(out++[(⟨0,(s.drop i).take k,(i:Int)⟩:Tok)])),⟨by dsimp only;omega,by simp;omega,f,by dsimp only;omega,hJ⟩,by dsimp only;omega,
          to_trans (t:=⟨[(0,true,.one (.v (.string (bs s)))),(5,true,.one (.s 166)),(6,true,.one (.v (.int .i64 ((i+k:Nat):Int))))],[(166,.vec 0 zTok ((out++[(⟨0,(s.drop i).take k,(i:Int)⟩:Tok)]).map cTok))]⟩) ?_ ?_⟩
         ·refine to_with [] ?_;simp only[↓eB,seval,go_sem,flN_tok,List.map_append,List.flatMap_append,cTok]
         ·refine to_with [.mv 166 1000] ?_;simp only[↓eB,seval,go_sem,flN_tok,mvC_tok,rxI]
      ·have m1:=natI_ge (Nat.le_of_not_lt hjl)
       rw[spanN_nil _ (Nat.le_of_not_lt hjl)]at hj3
       obtain rfl:j=i+k:=by omega
       simp only[↓eB,seval,go_sem,m1,e1,e2,e3,e4,yp_rletter,yp_rdigit,yp_rone,yr_rletter,yr_rdigit]
       simp only[impB,impN]
       refine⟨fun hg=>?_,fun hg=>⟨⟨rfl,fun q hq=>(Option.some.inj hq).symm,by simp[rowsStor,C.stor],by decide,by omega,by omega⟩,?_⟩⟩
       ·rw[if_pos hg]at hJ
        refine ret_with [.nil 2 1001 zTok,.fz 1001] ?_;simp only[↓eB,seval,go_sem,bne,yr_rTokens,← hJ,toksV,zTok,zTokD]
       ·rw[if_neg (by rw[hg];decide)]at hJ
        refine⟨(i+k,(out++[(⟨0,(s.drop i).take k,(i:Int)⟩:Tok)])),⟨by dsimp only;omega,by simp;omega,f,by dsimp only;omega,hJ⟩,by dsimp only;omega,
         to_trans (t:=⟨[(0,true,.one (.v (.string (bs s)))),(5,true,.one (.s 166)),(6,true,.one (.v (.int .i64 ((i+k:Nat):Int))))],[(166,.vec 0 zTok ((out++[(⟨0,(s.drop i).take k,(i:Int)⟩:Tok)]).map cTok))]⟩) ?_ ?_⟩
        ·refine to_with [] ?_;simp only[↓eB,seval,go_sem,flN_tok,List.map_append,List.flatMap_append,cTok]
        ·refine to_with [.mv 166 1000] ?_;simp only[↓eB,seval,go_sem,flN_tok,mvC_tok,rxI]
    ·
     rw[if_neg (show ¬blB (chI s i)=true by show ¬(_||_||_||_)=true;rw[hb];decide),if_neg (by show ¬(_==_)=true;rw[hc];decide),if_neg (by rw[show letB (chI s i)=false from hl];decide),if_pos hd]at hJ
     have hk1:=spanN_at digB hlt
     rw[if_pos hd]at hk1
     have hk2:=spanN_le digB (s.drop i)
     simp only[List.length_drop]at hk2
     obtain⟨k,hk⟩:∃k,spanN digB (s.drop i)=k:=⟨_,rfl⟩
     rw[hk]at hJ hk1 hk2
     refine loop_ok (Y:=Nat×Int×Bool) (fun y=>i≤y.1∧y.1≤s.length∧y.1+spanN digB (s.drop y.1)=i+k∧dgF (s.drop y.1) y.2.1 y.2.2=dgF (s.drop i) 0 false) (fun y=>⟨[(0,true,.one (.v (.string (bs s)))),(5,true,.one (.s 1000)),(6,true,.one (.v (.int .i64 (y.1:Int)))),(7,true,.one (.v (.int .u8 (chI s i)))),(8,true,.one (.v (.int .i64 (i:Int)))),(9,true,.one (.v (.int .u64 y.2.1))),(10,true,.one (.v (.bool y.2.2)))],[(1000,.vec 0 zTok (out.map cTok))]⟩) (fun y=>s.length-y.1) (i,0,false) ⟨Nat.le_refl _,hi,by dsimp only;rw[hk],rfl⟩ ?_ ?_
     ·refine to_with [] ?_;simp only[↓eB,seval,go_sem,flN_tok,chI]
     ·rintro ⟨j,n,g⟩ ⟨hj1,hj2,hj3,hj4⟩
      simp only at hj1 hj2 hj3 hj4
      refine vc_ok [yp_rletter,yp_rdigit,yp_rone] [] _ _ _ ?_
      have e1:IntKind.i64.wrap (((i+k:Nat):Int)-(i:Int))=(k:Int):=by rw[wrap_i64 (by omega) (by omega)];omega
      have e2:(i+k)-i=k:=by omega
      have e3:((i:Int)≤((i+k:Nat):Int))=True:=natI_lep (by omega)
      have e4:(((i+k:Nat):Int)≤(s.length:Int))=True:=natI_lep (by omega)
      by_cases hjl:j<s.length
      ·have m1:=natI_lt hjl
       have m2:=natI_ltp hjl
       have m3:=natI_succ hj2 (n:=s.length) (by omega)
       rw[spanN_at _ hjl]at hj3
       rw[dgF_at hjl]at hj4
       cases hq:digB (chI s j) with
       |true=>
        rw[if_pos hq]at hj3 hj4
        have hq':digB ((s.getD j 0).toNat:Int)=true:=hq
        simp only[↓eB,seval,go_sem,m1,m2,m3,hq',yp_rletter,yp_rdigit,yp_rone,yr_rletter,yr_rdigit]
        simp only[impB,impN]
        refine⟨fun hg=>?_,fun hg=>?_⟩
        ·rw[if_pos hg]at hj4
         refine⟨(j+1,n,true),⟨by dsimp only;omega,hjl,by dsimp only;omega,hj4⟩,by dsimp only;omega,?_⟩
         refine to_with [] ?_;simp only[↓eB,seval,go_sem,flN_tok]
        ·rw[if_neg (by rw[hg];decide)]at hj4
         refine⟨(j+1,IntKind.u64.wrap (IntKind.u64.wrap (10*n)+IntKind.u64.wrap (IntKind.u8.wrap (chI s j-48))),g),⟨by dsimp only;omega,hjl,by dsimp only;omega,hj4⟩,by dsimp only;omega,?_⟩
         refine to_with [] ?_;simp only[↓eB,seval,go_sem,flN_tok,chI]
       |false=>
        rw[if_neg (by rw[hq];decide)]at hj3 hj4
        obtain rfl:j=i+k:=by omega
        have hq':digB ((s.getD (i+k) 0).toNat:Int)=false:=hq
        simp only[↓eB,seval,go_sem,m1,m2,m3,hq',e1,e2,e3,e4,yp_rletter,yp_rdigit,yp_rone,yr_rletter,yr_rdigit]
        have hG:greB (s.drop i)=(g||decide (9223372036854775807<n)):=by unfold greB;rw[← hj4]
        rw[hG]at hJ
        simp only[impB,impN]
        refine⟨fun hg=>?_,fun hg=>?_⟩
        ·rw[if_pos hg]at hJ
         refine ret_with [.nil 2 1001 zTok,.fz 1001] ?_;simp only[↓eB,seval,go_sem,bne,yr_rTokens,← hJ,toksV,zTok,zTokD]
        ·rw[if_neg (by rw[hg];decide)]at hJ
         refine⟨fun hz=>⟨hz,fun hz2=>by rw[hz,hz2];rfl⟩,fun h5=>?_,fun h5=>⟨⟨rfl,fun q hq=>(Option.some.inj hq).symm,by simp[rowsStor,C.stor],by decide,by omega,by omega⟩,?_⟩⟩
         ·rw[if_pos (by rw[m1];simp only[Bool.true_and];exact h5)]at hJ
          refine ret_with [.nil 2 1001 zTok,.fz 1001] ?_;simp only[↓eB,seval,go_sem,bne,yr_rTokens,← hJ,toksV,zTok,zTokD]
         ·rw[if_neg (by rw[m1];simp only[Bool.true_and];rw[show _=false from h5];decide)]at hJ
          refine⟨(i+k,(out++[(⟨1,(s.drop i).take k,(i:Int)⟩:Tok)])),⟨by dsimp only;omega,by simp;omega,f,by dsimp only;omega,hJ⟩,by dsimp only;omega,
           to_trans (t:=⟨[(0,true,.one (.v (.string (bs s)))),(5,true,.one (.s 227)),(6,true,.one (.v (.int .i64 ((i+k:Nat):Int))))],[(227,.vec 0 zTok ((out++[(⟨1,(s.drop i).take k,(i:Int)⟩:Tok)]).map cTok))]⟩) ?_ ?_⟩
          ·refine to_with [] ?_;simp only[↓eB,seval,go_sem,flN_tok,List.map_append,List.flatMap_append,cTok]
          ·refine to_with [.mv 227 1000] ?_;simp only[↓eB,seval,go_sem,flN_tok,mvC_tok,rxI]
      ·have m1:=natI_ge (Nat.le_of_not_lt hjl)
       rw[spanN_nil _ (Nat.le_of_not_lt hjl)]at hj3
       rw[dgF_nil (Nat.le_of_not_lt hjl)]at hj4
       obtain rfl:j=i+k:=by omega
       simp only[↓eB,seval,go_sem,m1,e1,e2,e3,e4,yp_rletter,yp_rdigit,yp_rone,yr_rletter,yr_rdigit]
       have hG:greB (s.drop i)=(g||decide (9223372036854775807<n)):=by unfold greB;rw[← hj4]
       rw[hG]at hJ
       simp only[impB,impN]
       refine⟨fun hg=>?_,fun hg=>?_⟩
       ·rw[if_pos hg]at hJ
        refine ret_with [.nil 2 1001 zTok,.fz 1001] ?_;simp only[↓eB,seval,go_sem,bne,yr_rTokens,← hJ,toksV,zTok,zTokD]
       ·rw[if_neg (by rw[hg];decide)]at hJ
        refine⟨fun h5=>?_,fun h5=>⟨⟨rfl,fun q hq=>(Option.some.inj hq).symm,by simp[rowsStor,C.stor],by decide,by omega,by omega⟩,?_⟩⟩
        ·rw[if_pos (by rw[m1];simp only[Bool.false_and,Bool.false_or];exact h5)]at hJ
         refine ret_with [.nil 2 1001 zTok,.fz 1001] ?_;simp only[↓eB,seval,go_sem,bne,yr_rTokens,← hJ,toksV,zTok,zTokD]
        ·rw[if_neg (by rw[m1];simp only[Bool.false_and,Bool.false_or];rw[show _=false from h5];decide)]at hJ
         refine⟨(i+k,(out++[(⟨1,(s.drop i).take k,(i:Int)⟩:Tok)])),⟨by dsimp only;omega,by simp;omega,f,by dsimp only;omega,hJ⟩,by dsimp only;omega,
          to_trans (t:=⟨[(0,true,.one (.v (.string (bs s)))),(5,true,.one (.s 227)),(6,true,.one (.v (.int .i64 ((i+k:Nat):Int))))],[(227,.vec 0 zTok ((out++[(⟨1,(s.drop i).take k,(i:Int)⟩:Tok)]).map cTok))]⟩) ?_ ?_⟩
         ·refine to_with [] ?_;simp only[↓eB,seval,go_sem,flN_tok,List.map_append,List.flatMap_append,cTok]
         ·refine to_with [.mv 227 1000] ?_;simp only[↓eB,seval,go_sem,flN_tok,mvC_tok,rxI]
    ·
     rw[if_neg (show ¬blB (chI s i)=true by show ¬(_||_||_||_)=true;rw[hb];decide),if_neg (by show ¬(_==_)=true;rw[hc];decide),if_neg (by rw[show letB (chI s i)=false from hl];decide),if_neg (by rw[show digB (chI s i)=false from hd];decide)]at hJ
     have hT:twoB s i=(z6&&((s.drop i).take 2==[61,61]||(s.drop i).take 2==[33,61]||(s.drop i).take 2==[60,61]||(s.drop i).take 2==[62,61]||(s.drop i).take 2==[38,38]||(s.drop i).take 2==[124,124])):=by unfold twoB;rw[q1]
     clear q1
     repeat refine And.intro (by first|exact fun h=>⟨h,h,h,q8 h⟩|exact fun h=>⟨h,h,h,q8 (and_l h)⟩|exact fun h=>⟨h,fun hx=>by rw[h,hx];rfl⟩) ?_
     rw[← hT]
     have q9:IntKind.i64.wrap ((i:Int)+((2:Nat):Int))=((i+2:Nat):Int):=q2
     have q10:IntKind.i64.wrap ((i:Int)+((1:Nat):Int))=((i+1:Nat):Int):=h3
     refine⟨fun h6=>?_,fun h6=>⟨fun h7=>?_,fun h7=>?_⟩⟩
     ·have h8:=q3 (and_l (by rw[← hT];exact h6))
      have l2:((s.drop i).take 2).length=2:=by simp;omega
      rw[if_pos h6]at hJ
      simp only[l2,q9]
      refine⟨by omega,⟨rfl,fun q hq=>(Option.some.inj hq).symm,by simp[rowsStor,C.stor],by decide,by omega,by omega⟩,?_⟩
      refine⟨(i+2,(out++[(⟨2,(s.drop i).take 2,(i:Int)⟩:Tok)])),⟨by dsimp only;omega,by simp;omega,f,by dsimp only;omega,hJ⟩,by dsimp only;omega,
       to_trans (t:=⟨[(0,true,.one (.v (.string (bs s)))),(5,true,.one (.s 99)),(6,true,.one (.v (.int .i64 ((i+2:Nat):Int))))],[(99,.vec 0 zTok ((out++[(⟨2,(s.drop i).take 2,(i:Int)⟩:Tok)]).map cTok))]⟩) ?_ ?_⟩
      ·refine to_with [] ?_;simp only[↓eB,seval,go_sem,flN_tok,List.map_append,List.flatMap_append,cTok]
      ·refine to_with [.mv 99 1000] ?_;simp only[↓eB,seval,go_sem,flN_tok,mvC_tok,rxI]
     ·rw[if_neg (by rw[h6];decide),if_neg (by rw[show oneB signs (chI s i)=false from not_t h7];decide)]at hJ
      refine ret_with [.nil 2 1001 zTok,.fz 1001] ?_;simp only[↓eB,seval,go_sem,bne,yr_rTokens,← hJ,toksV,zTok,zTokD]
     ·have l1:((s.drop i).take 1).length=1:=by simp;omega
      rw[if_neg (by rw[h6];decide),if_pos (show oneB signs (chI s i)=true from not_f h7)]at hJ
      simp only[l1,q10]
      refine⟨⟨rfl,fun q hq=>(Option.some.inj hq).symm,by simp[rowsStor,C.stor],by decide,by omega,by omega⟩,?_⟩
      refine⟨(i+1,(out++[(⟨2,(s.drop i).take 1,(i:Int)⟩:Tok)])),⟨by dsimp only;omega,by simp;omega,f,by dsimp only;omega,hJ⟩,by dsimp only;omega,
       to_trans (t:=⟨[(0,true,.one (.v (.string (bs s)))),(5,true,.one (.s 99)),(6,true,.one (.v (.int .i64 ((i+1:Nat):Int))))],[(99,.vec 0 zTok ((out++[(⟨2,(s.drop i).take 1,(i:Int)⟩:Tok)]).map cTok))]⟩) ?_ ?_⟩
      ·refine to_with [] ?_;simp only[↓eB,seval,go_sem,flN_tok,List.map_append,List.flatMap_append,cTok]
      ·refine to_with [.mv 99 1000] ?_;simp only[↓eB,seval,go_sem,flN_tok,mvC_tok,rxI]
   ·have hi':i=s.length:=by omega
    subst hi'
    have h1:=natI_ge (Nat.le_refl s.length)
    have hJ:(out,0,0)=rxT s:=by
     cases f with
     |zero=>exact hJ
     |succ f=>simp only[rxF]at hJ;rw[if_pos (Nat.le_refl _)]at hJ;exact hJ
    simp only[↓eB,seval,go_sem,h1]
    refine ret_with [.fz 1000] ?_;simp only[↓eB,seval,go_sem,bne,yr_rTokens,← hJ,toksV,zTok,zTokD,toDss_tok]
end Go.Proofs.Ytjnnmindcbgjhab
