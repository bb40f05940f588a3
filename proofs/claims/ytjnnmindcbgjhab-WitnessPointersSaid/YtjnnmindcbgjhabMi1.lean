/- The parser's small functions, in plain words. No conditions but those in each statement. -/
import Derived.Test.YtjnnmindcbgjhabAs
import Derived.Test.YtjnnmindcbgjhabPa0
set_option linter.unusedVariables false
set_option linter.unusedSimpArgs false
namespace Go.Proofs.Ytjnnmindcbgjhab
open Go Go.Sy Go.RowKit
theorem tk_at (l:List Tok) (i:Nat):(l.map Tok.r).getD i [D.v (Value.int IntKind.i64 0),D.v (Value.string (bs [])),D.v (Value.int IntKind.i64 0)]=Tok.r (l.getD i tk0):=tk_getD l i
abbrev w64i (n:Int):Int:=IntKind.i64.wrap n
def tk (p:Pr):Tok:=p.l.getD p.i.toNat tk0
def isT (t:List UInt8) (p:Pr):Bool:=p.e==0&&decide (p.i<(p.l.length:Int))&&(tk p).k != 1&&(tk p).t==t
def okI (p:Pr):Prop:=0≤p.i∧p.i≤(p.l.length:Int)∧p.l.length≤4096
theorem okI0 {p:Pr} (h:okI p):0≤p.i:=h.1
def wrds:List (List UInt8):=[[102,110],[118,97,114],[112,116,114],[105,102],[101,108,115,101],[119,104,105,108,101],[114,101,116,117,114,110],[97,115,115,101,114,116],[110,117,108,108],[99,101,108,108],[97,114,114,97,121]]
def wordB (s:List UInt8):Bool:=wrds.any (·==s)
def cS (s:List UInt8):List C:=[.v (.string (bs s))]
theorem wr_at {i:Nat} {x:List UInt8} (h:wrds[i]?=some x):(wrds.map cS).getD i [.v (.string (bs []))]=cS x:=by simp[List.getD,h]
theorem drop_get {A:Type} {l:List A} {i:Nat} {x:A} (h:l[i]?=some x):l.drop i=x::l.drop (i+1):=by
 obtain⟨h1,h2⟩:=List.getElem?_eq_some_iff.1 h
 rw[List.drop_eq_getElem_cons h1,h2]
def numW:List UInt8→Int→Int
 |[],n=>n
 |b::l,n=>numW l (w64i (w64i (10*n)+w64i (IntKind.u8.wrap ((b.toNat:Int)-48))))
def nameB (p:Pr):Bool:=p.e==0&&decide (p.i<(p.l.length:Int))&&(tk p).k==0&&!wordB (tk p).t
def failP (c:Int) (p:Pr):Pr:=if (p.e==0)=true then { p with e:=c,at':=if decide (p.i<(p.l.length:Int))=true then (tk p).p else p.en } else p
end Go.Proofs.Ytjnnmindcbgjhab
namespace Go.Proofs.Ytjnnmindcbgjhab
open Go Go.Sy Go.RowKit
theorem y_rTok':CallsY Try.prog 17 (acS cStr ac0) (fun p=>smallB p.1) (fun p=>.tup [.inl (.d (.sl zTk ((rxT p.1).1.map Tok.r))),.inl (.v (.int .i64 (rxT p.1).2.1)),.inl (.v (.int .i64 (rxT p.1).2.2))]):=y_rTokens
abbrev yc_is (p:Pr) (t:List UInt8):Prop:=okI p
abbrev yr_is (p:Pr) (t:List UInt8):Value:=Value.bool (isT t p)
theorem y_is:CallsR Try.prog 25 (ahS (cPt rPr) (ahS (cStr.H) ah0)) (fun p:(Pr×(List UInt8×Unit))=>yc_is p.1 p.2.1) (fun p:(Pr×(List UInt8×Unit))=>ofV (yr_is p.1 p.2.1)):=by
 rintro ⟨p,t,_u⟩ w fz xs hc hfz hl hx
 refine calls_toRL Try.func25 rfl w fz [] [] (ahS (cPt rPr) (ahS (cStr.H) ah0)) (fun p:(Pr×(List UInt8×Unit))=>ofV (yr_is p.1 p.2.1)) _ xs hfz hl hx (Nat.le_of_ble_eq_true rfl) ?_
 clear hx hl hfz xs
 simp only[Try.f25]
 simp only[↓eB,seval,go_sem,cPt_e,cPt_d,rPr_e,rPr_z,Pr.r,tk_at,Tok.r,zTk]
 have h0:0≤p.i:=okI0 hc
 try simp only[impB,impN]
 repeat' first|exact ck|with_reducible apply And.intro|intro _
 all_goals try simp only[bne,Bool.not_eq_true',Bool.not_eq_false',Bool.not_not] at*
 all_goals first
  |(refine ret_with [] ?_;simp only[↓eB,seval,go_sem,bne,yr_is,isT,tk];first|done|(simp only[*,if_true,if_false,Bool.false_eq_true,Bool.true_or,Bool.or_true,Bool.false_or,Bool.or_false,Bool.and_false,Bool.false_and,Bool.true_and,Bool.and_true,Bool.not_true,Bool.not_false,Bool.or_self,Bool.and_self,Int.reduceEq,Int.reduceNeg,Nat.reduceEqDiff,reduceCtorEq,dec_T,dec_F,leC_same,leC_nil,and_self,↓reduceIte];done)|(simp_all [isT,tk];done))
  |omega
  |(simp only[decide_eq_true_eq,decide_eq_false_iff_not]at *;omega)
  |(simp_all [isT,tk];done)
  |(simp_all [isT,tk];omega)
  |trace_state
theorem yh_is:∀p:(Pr×(List UInt8×Unit)),okV ((fun p:(Pr×(List UInt8×Unit))=>yr_is p.1 p.2.1) p)=true:=by intro p;rfl
noncomputable def yp_is {X:Ctx} {w0:World}:Sy.Spec Try.prog X w0:=specR 25 Try.call25 (ahS (cPt rPr) (ahS (cStr.H) ah0)) (fun p:(Pr×(List UInt8×Unit))=>yc_is p.1 p.2.1) (fun p:(Pr×(List UInt8×Unit))=>yr_is p.1 p.2.1) yh_is y_is
abbrev yc_word (s:List UInt8):Prop:=True
abbrev yr_word (s:List UInt8):Value:=Value.bool (wordB s)
theorem y_word:CallsR Try.prog 40 (ahS (cStr.H) ah0) (fun p:(List UInt8×Unit)=>yc_word p.1) (fun p:(List UInt8×Unit)=>ofV (yr_word p.1)):=by
 rintro ⟨s,_u⟩ w fz xs hc hfz hl hx
 refine calls_toRL Try.func40 rfl w fz [] [] (ahS (cStr.H) ah0) (fun p:(List UInt8×Unit)=>ofV (yr_word p.1)) _ xs hfz hl hx (Nat.le_of_ble_eq_true rfl) ?_
 clear hx hl hfz xs
 simp only[Try.f40]
 simp only[↓eB,seval,go_sem]
 refine loop_ok (Y:=Nat) (fun i=>i≤wrds.length∧(wrds.drop i).any (·==s)=wordB s)
  (fun i=>⟨[(0,true,.one (.v (.string (bs s)))),(3,true,.one (.s 1000)),(4,true,.one (.v (.int .i64 (i:Int))))],[(1000,.vec 0 [.v (.string (bs []))] (wrds.map cS))]⟩)
  (fun i=>wrds.length-i) 0 ⟨Nat.zero_le _,rfl⟩ ?_ ?_
 ·refine to_with [.mv 5 1000] ?_;simp only[↓eB,seval,go_sem,wrds,cS]
 ·rintro i ⟨hi,hJ⟩
  refine vc_ok [] [] _ _ _ ?_
  have hl:wrds.length=11:=rfl
  cases hx:wrds[i]? with
  |none=>
   have hi2:wrds.length≤i:=List.getElem?_eq_none_iff.1 hx
   have h1:=natI_ge hi2
   rw[List.drop_eq_nil_of_le hi2]at hJ
   have hR:wordB s=false:=hJ.symm
   simp only[↓eB,seval,go_sem,h1]
   refine ret_with [] ?_;simp only[↓eB,seval,go_sem,bne,yr_word,hR]
  |some x=>
   have hlt:i<wrds.length:=(List.getElem?_eq_some_iff.1 hx).1
   have h1:=natI_lt hlt
   have h2:=natI_ltp hlt
   have h3:=wr_at hx
   have h4:=natI_succ hi (by decide)
   rw[drop_get hx,List.any_cons]at hJ
   simp only[↓eB,seval,go_sem,h1,h2,h3,h4,cS]
   simp only[impB,impN]
   refine⟨hlt,fun hb=>?_,fun hb=>?_⟩
   ·rw[hb,Bool.true_or]at hJ
    refine ret_with [] ?_;simp only[↓eB,seval,go_sem,bne,yr_word,← hJ]
   ·rw[hb,Bool.false_or]at hJ
    refine⟨i+1,⟨hlt,hJ⟩,by omega,to_with [] ?_⟩
    simp only[↓eB,seval,go_sem,chN_of,cS]
    try (simp[wrds,cS,C.names])
theorem yh_word:∀p:(List UInt8×Unit),okV ((fun p:(List UInt8×Unit)=>yr_word p.1) p)=true:=by intro p;rfl
noncomputable def yp_word {X:Ctx} {w0:World}:Sy.Spec Try.prog X w0:=specR 40 Try.call40 (ahS (cStr.H) ah0) (fun p:(List UInt8×Unit)=>yc_word p.1) (fun p:(List UInt8×Unit)=>yr_word p.1) yh_word y_word
abbrev yc_number (s:List UInt8):Prop:=smallB s
abbrev yr_number (s:List UInt8):Value:=Value.int .i64 (numW s 0)
theorem y_number:CallsR Try.prog 23 (ahS (cStr.H) ah0) (fun p:(List UInt8×Unit)=>yc_number p.1) (fun p:(List UInt8×Unit)=>ofV (yr_number p.1)):=by
 rintro ⟨s,_u⟩ w fz xs hc hfz hl hx
 refine calls_toRL Try.func23 rfl w fz [] [] (ahS (cStr.H) ah0) (fun p:(List UInt8×Unit)=>ofV (yr_number p.1)) _ xs hfz hl hx (Nat.le_of_ble_eq_true rfl) ?_
 clear hx hl hfz xs
 simp only[Try.f23]
 simp only[↓eB,seval,go_sem]
 have hs:s.length≤4294967296:=hc
 refine loop_ok (Y:=Nat×Int) (fun y=>y.1≤s.length∧numW (s.drop y.1) y.2=numW s 0)
  (fun y=>⟨[(0,true,.one (.v (.string (bs s)))),(3,true,.one (.v (.int .i64 y.2))),(4,true,.one (.v (.int .i64 (y.1:Int))))],[]⟩)
  (fun y=>s.length-y.1) (0,0) ⟨Nat.zero_le _,rfl⟩ ?_ ?_
 ·refine to_with [] ?_;simp only[↓eB,seval,go_sem]
 ·rintro ⟨i,n⟩ ⟨hi,hJ⟩
  simp only at hi hJ
  refine vc_ok [] [] _ _ _ ?_
  by_cases hlt:i<s.length
  ·have h1:=natI_lt hlt
   have h2:=natI_ltp hlt
   have h3:=natI_succ hi hs
   rw[List.drop_eq_getElem_cons hlt]at hJ
   simp only[numW]at hJ
   have h4:s[i]=s.getD i 0:=by simp[List.getD,hlt]
   rw[h4]at hJ
   simp only[↓eB,seval,go_sem,h1,h2,h3]
   refine⟨(i+1,w64i (w64i (10*n)+w64i (IntKind.u8.wrap (((s.getD i 0).toNat:Int)-48)))),⟨hlt,hJ⟩,by dsimp only;omega,?_⟩
   refine to_with [] ?_;simp only[↓eB,seval,go_sem]
  ·have h1:=natI_ge (Nat.le_of_not_lt hlt)
   rw[List.drop_eq_nil_of_le (Nat.le_of_not_lt hlt)]at hJ
   have hJ':n=numW s 0:=hJ
   simp only[↓eB,seval,go_sem,h1]
   refine ret_with [] ?_;simp only[↓eB,seval,go_sem,bne,yr_number,← hJ']
theorem yh_number:∀p:(List UInt8×Unit),okV ((fun p:(List UInt8×Unit)=>yr_number p.1) p)=true:=by intro p;rfl
noncomputable def yp_number {X:Ctx} {w0:World}:Sy.Spec Try.prog X w0:=specR 23 Try.call23 (ahS (cStr.H) ah0) (fun p:(List UInt8×Unit)=>yc_number p.1) (fun p:(List UInt8×Unit)=>yr_number p.1) yh_number y_number
abbrev yc_named (p:Pr):Prop:=okI p
abbrev yr_named (p:Pr):Value:=Value.bool (nameB p)
theorem y_named:CallsR Try.prog 20 (ahS (cPt rPr) ah0) (fun p:(Pr×Unit)=>yc_named p.1) (fun p:(Pr×Unit)=>ofV (yr_named p.1)):=by
 rintro ⟨p,_u⟩ w fz xs hc hfz hl hx
 refine calls_toRL Try.func20 rfl w fz [yp_word] [] (ahS (cPt rPr) ah0) (fun p:(Pr×Unit)=>ofV (yr_named p.1)) _ xs hfz hl hx (Nat.le_of_ble_eq_true rfl) ?_
 clear hx hl hfz xs
 simp only[Try.f20]
 simp only[↓eB,seval,go_sem,yp_word,cPt_e,cPt_d,rPr_e,rPr_z,Pr.r,tk_at,Tok.r,zTk,yr_word]
 have h0:0≤p.i:=okI0 hc
 try simp only[impB,impN]
 repeat' first|exact ck|with_reducible apply And.intro|intro _
 all_goals try simp only[bne,Bool.not_eq_true',Bool.not_eq_false',Bool.not_not] at*
 all_goals first
  |(refine ret_with [] ?_;simp only[↓eB,seval,go_sem,bne,yr_named,nameB,tk];first|done|(simp only[*,if_true,if_false,Bool.false_eq_true,Bool.true_or,Bool.or_true,Bool.false_or,Bool.or_false,Bool.and_false,Bool.false_and,Bool.true_and,Bool.and_true,Bool.not_true,Bool.not_false,Bool.or_self,Bool.and_self,Int.reduceEq,Int.reduceNeg,Nat.reduceEqDiff,reduceCtorEq,dec_T,dec_F,leC_same,leC_nil,and_self,↓reduceIte];done)|(simp_all [nameB,tk];done))
  |omega
  |(simp only[decide_eq_true_eq,decide_eq_false_iff_not]at *;omega)
  |(simp_all [nameB,tk];done)
  |(simp_all [nameB,tk];omega)
  |trace_state
theorem yh_named:∀p:(Pr×Unit),okV ((fun p:(Pr×Unit)=>yr_named p.1) p)=true:=by intro p;rfl
noncomputable def yp_named {X:Ctx} {w0:World}:Sy.Spec Try.prog X w0:=specR 20 Try.call20 (ahS (cPt rPr) ah0) (fun p:(Pr×Unit)=>yc_named p.1) (fun p:(Pr×Unit)=>yr_named p.1) yh_named y_named
abbrev yc_fail (p:Pr) (c:Int):Prop:=okI p
abbrev yr_fail (p:Pr) (c:Int):SV:=.tup []
abbrev ym_fail (p:Pr) (c:Int):List (Option MV):=[some (zPr,[(failP c p).c])]
noncomputable abbrev ya_fail:ArgM ((Pr)×(Int)×Unit):=(amP (mPr) (amD (cInt .i64) am0))
abbrev yq_fail:Prop:=CallsM Try.prog 21 ((ya_fail).args 0) (ya_fail).mem (fun p:(Pr)×(Int)×Unit=>yc_fail p.1 p.2.1) (fun p:(Pr)×(Int)×Unit=>yr_fail p.1 p.2.1) (fun p:(Pr)×(Int)×Unit=>ym_fail p.1 p.2.1)
theorem yl_fail:∀p,(fun p:(Pr)×(Int)×Unit=>yc_fail p.1 p.2.1) p→lenM ((ya_fail).mem p).length ((fun p:(Pr)×(Int)×Unit=>ym_fail p.1 p.2.1) p)=true:=by intro p _;rfl
theorem yo_fail:∀p,(fun p:(Pr)×(Int)×Unit=>yc_fail p.1 p.2.1) p→outV ((fun p:(Pr)×(Int)×Unit=>ym_fail p.1 p.2.1) p).length ((fun p:(Pr)×(Int)×Unit=>yr_fail p.1 p.2.1) p)=true:=by intro p _;first|rfl|exact ex_out _ _|exact cd_out _ _|(simp[outV,outC,ex_out,cd_out];done)
theorem yn_fail:∀p,(fun p:(Pr)×(Int)×Unit=>yc_fail p.1 p.2.1) p→∀q,some q∈(fun p:(Pr)×(Int)×Unit=>ym_fail p.1 p.2.1) p→∀r∈q.2,∀c∈r,c.names=[]:=by intro p _;exact mem_nm _
theorem y_fail:yq_fail:=by
 rintro ⟨p,c,_u⟩ w M I lab fz xs hc hA hl hx
 refine calls_toML Try.func21 rfl ((ya_fail).mem ⟨p,c,_u⟩) w M I lab fz [] [] ((ya_fail).args 0 ⟨p,c,_u⟩) ((fun p:(Pr)×(Int)×Unit=>ym_fail p.1 p.2.1) ⟨p,c,_u⟩) ((fun p:(Pr)×(Int)×Unit=>yr_fail p.1 p.2.1) ⟨p,c,_u⟩) xs hA hl hx (fun v hv k hk=>by have:=(ya_fail).an 0 ⟨p,c,_u⟩ v hv k hk;omega) (Nat.le_of_ble_eq_true rfl) (Nat.le_of_ble_eq_true rfl) ?_
 clear hx hl hA xs
 simp only[Try.f21]
 simp only[↓eB,seval,go_sem,mPr_e,mPr_z,Pr.c,tk_at,Tok.r,zTk]
 have h0:0≤p.i:=okI0 hc
 try simp only[impB,impN]
 repeat' first|exact ck|with_reducible apply And.intro|intro _
 all_goals try simp only[bne,Bool.not_eq_true',Bool.not_eq_false',Bool.not_not] at*
 all_goals first
  |(refine ret_with [] ?_;simp only[↓eB,seval,go_sem,bne,yr_fail,ym_fail,failP,tk,Pr.c,zTk];first|done|(simp only[*,if_true,if_false,Bool.false_eq_true,Bool.true_or,Bool.or_true,Bool.false_or,Bool.or_false,Bool.and_false,Bool.false_and,Bool.true_and,Bool.and_true,Bool.not_true,Bool.not_false,Bool.or_self,Bool.and_self,Int.reduceEq,Int.reduceNeg,Nat.reduceEqDiff,reduceCtorEq,dec_T,dec_F,leC_same,leC_nil,and_self,↓reduceIte];done)|(simp_all [failP,tk];done))
  |omega
  |(simp only[decide_eq_true_eq,decide_eq_false_iff_not]at *;omega)
  |(simp_all [failP,tk];done)
  |(simp_all [failP,tk];omega)
  |trace_state
noncomputable def yp_fail {X:Ctx} {w0:World}:Sy.Spec Try.prog X w0:=specM 21 Try.call21 (ya_fail) (fun p:(Pr)×(Int)×Unit=>yc_fail p.1 p.2.1) (fun p:(Pr)×(Int)×Unit=>yr_fail p.1 p.2.1) (fun p:(Pr)×(Int)×Unit=>ym_fail p.1 p.2.1) yl_fail yo_fail yn_fail y_fail
end Go.Proofs.Ytjnnmindcbgjhab
