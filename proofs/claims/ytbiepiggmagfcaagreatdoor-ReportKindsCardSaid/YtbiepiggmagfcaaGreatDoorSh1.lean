/- Tokens of a text that is put together. No conditions but those in each statement. -/
import Derived.Test.YtbiepiggmagfcaaGreatDoorPa0
set_option linter.unusedVariables false
set_option linter.unusedSimpArgs false
namespace Go.Proofs.YtbiepiggmagfcaaGreatDoor
open Go Go.Sy Go.RowKit
def rxG:Nat→Nat→List UInt8→List Tok→List Tok×Int×Int
 |0,_,_,out=>(out,0,0)
 |_+1,_,[],out=>(out,0,0)
 |f+1,i,c::r,out=>
  if blB (c.toNat:Int)=true then rxG f (i+1) r out
  else if ((c.toNat:Int)==35)=true then rxG f (i+spanN nlB (c::r)) ((c::r).drop (spanN nlB (c::r))) out
  else if letB (c.toNat:Int)=true then (if decide (32<((spanN idB (c::r):Nat):Int))=true then ([],(i:Int),53) else rxG f (i+spanN idB (c::r)) ((c::r).drop (spanN idB (c::r))) (out++[⟨0,(c::r).take (spanN idB (c::r)),(i:Int)⟩]))
  else if digB (c.toNat:Int)=true then
   (if greB (c::r)=true then ([],(i:Int),53)
    else if (decide (0<((c::r).drop (spanN digB (c::r))).length)&&letB ((((c::r).drop (spanN digB (c::r))).getD 0 0).toNat:Int)||((c.toNat:Int)==48&&decide (1<((spanN digB (c::r):Nat):Int))))=true then ([],(i:Int),50)
    else rxG f (i+spanN digB (c::r)) ((c::r).drop (spanN digB (c::r))) (out++[⟨1,(c::r).take (spanN digB (c::r)),(i:Int)⟩]))
  else if (decide (2≤(c::r).length)&&((c::r).take 2==[61,61]||(c::r).take 2==[33,61]||(c::r).take 2==[60,61]||(c::r).take 2==[62,61]||(c::r).take 2==[38,38]||(c::r).take 2==[124,124]))=true then rxG f (i+2) ((c::r).drop 2) (out++[⟨2,(c::r).take 2,(i:Int)⟩])
  else if oneB signs (c.toNat:Int)=true then rxG f (i+1) r (out++[⟨2,(c::r).take 1,(i:Int)⟩])
  else ([],(i:Int),50)
theorem getD_drop (s:List UInt8) (i k:Nat):(s.drop i).getD k 0=s.getD (i+k) 0:=by simp[List.getD,List.getElem?_drop]
theorem rxF_G (s:List UInt8):∀(f i:Nat) (out:List Tok),i≤s.length→rxF s f i out=rxG f i (s.drop i) out
 |0,i,out,_=>by cases s.drop i<;>rfl
 |f+1,i,out,hi=>by
  by_cases hlt:i<s.length
  ·have hd:s.drop i=s.getD i 0::s.drop (i+1):=by
    rw[List.drop_eq_getElem_cons hlt];simp[List.getD,hlt]
   have hlen:(s.drop i).length=s.length-i:=by simp
   have dd:∀k,(s.drop i).drop k=s.drop (i+k):=fun k=>by rw[List.drop_drop]
   have sp:=fun p=>spanN_le p (s.drop i)
   rw[hlen]at sp
   simp only[rxF]
   rw[if_neg (Nat.not_le.2 hlt)]
   have hG:rxG (f+1) i (s.drop i) out=rxG (f+1) i (s.getD i 0::s.drop (i+1)) out:=by rw[hd]
   rw[hG]
   simp only[rxG,← hd,dd]
   have hc:chI s i=((s.getD i 0).toNat:Int):=rfl
   rw[hc]
   have r1:∀out,rxF s f (i+1) out=rxG f (i+1) (s.drop (i+1)) out:=fun out=>rxF_G s f _ out hlt
   have rS:∀p out,rxF s f (i+spanN p (s.drop i)) out=rxG f (i+spanN p (s.drop i)) (s.drop (i+spanN p (s.drop i))) out:=fun p out=>rxF_G s f _ out (by have:=sp p;omega)
   have e1:decide (((i+spanN digB (s.drop i):Nat):Int)<(s.length:Int))=decide (0<(s.drop (i+spanN digB (s.drop i))).length):=by
    rw[decide_eq_decide,List.length_drop];omega
   have e2:chI s (i+spanN digB (s.drop i))=(((s.drop (i+spanN digB (s.drop i))).getD 0 0).toNat:Int):=by
    rw[getD_drop];rfl
   have e3:twoB s i=(decide (2≤(s.drop i).length)&&((s.drop i).take 2==[61,61]||(s.drop i).take 2==[33,61]||(s.drop i).take 2==[60,61]||(s.drop i).take 2==[62,61]||(s.drop i).take 2==[38,38]||(s.drop i).take 2==[124,124])):=by
    unfold twoB
    rw[show decide (((i+2:Nat):Int)≤(s.length:Int))=decide (2≤(s.drop i).length) by rw[decide_eq_decide,hlen];omega]
   rw[e1,e2,e3]
   split
   ·exact r1 _
   split
   ·exact rS _ _
   split
   ·split
    ·rfl
    ·exact rS _ _
   split
   ·split
    ·rfl
    split
    ·rfl
    ·exact rS _ _
   split
   ·rename_i h
    have h2:i+2≤s.length:=by
     simp only[Bool.and_eq_true,decide_eq_true_eq,hlen]at h;omega
    exact rxF_G s f _ _ h2
   split
   ·exact r1 _
   ·rfl
  ·have he:i=s.length:=by omega
   subst he
   simp only[rxF]
   rw[if_pos (Nat.le_refl _),List.drop_length]
   rfl
def kt (t:Tok):Int×List UInt8:=(t.k,t.t)
def Lx (p:List UInt8) (n:Nat) (ts:List (Int×List UInt8)):Prop:=
 ∀(f i:Nat) (r:List UInt8) (out:List Tok),∃o2,o2.map kt=ts∧rxG (f+n) i (p++r) out=rxG f (i+p.length) r (out++o2)
theorem Lx.app {p q:List UInt8} {n m:Nat} {ts us:List (Int×List UInt8)} (h:Lx p n ts) (k:Lx q m us):Lx (p++q) (n+m) (ts++us):=by
 intro f i r out
 obtain⟨o1,a1,a2⟩:=h (f+m) i (q++r) out
 obtain⟨o2,b1,b2⟩:=k f (i+p.length) r (out++o1)
 refine⟨o1++o2,by rw[List.map_append,a1,b1],?_⟩
 rw[List.append_assoc,show f+(n+m)=f+m+n by omega,a2,b2,List.length_append,Nat.add_assoc,List.append_assoc]
theorem Lx.nil:Lx [] 0 []:=fun f i r out=>⟨[],rfl,by simp⟩
theorem foldl_app (o2 out:List Tok):o2.foldl (fun o t=>o++[t]) out=out++o2:=by
 induction o2 generalizing out with
 |nil=>simp
 |cons a l ih=>rw[List.foldl_cons,ih,List.append_assoc];rfl
end Go.Proofs.YtbiepiggmagfcaaGreatDoor
namespace Go.Proofs.YtbiepiggmagfcaaGreatDoor
open Go Go.Sy Go.RowKit
theorem y_rTok':CallsY Tryz.prog 29 (acS cStr ac0) (fun p=>smallB p.1) (fun p=>.tup [.inl (.d (.sl zTk ((rxT p.1).1.map Tok.r))),.inl (.v (.int .i64 (rxT p.1).2.1)),.inl (.v (.int .i64 (rxT p.1).2.2))]):=y_rTokens
theorem tk_at (l:List Tok) (i:Nat):(l.map Tok.r).getD i [D.v (Value.int IntKind.i64 0),D.v (Value.string (bs [])),D.v (Value.int IntKind.i64 0)]=Tok.r (l.getD i tk0):=tk_getD l i
abbrev w64i (n:Int):Int:=IntKind.i64.wrap n
def tk (p:Pr):Tok:=p.l.getD p.i.toNat tk0
def isT (t:List UInt8) (p:Pr):Bool:=p.e==0&&decide (p.i<(p.l.length:Int))&&(tk p).k != 1&&(tk p).t==t
def okI (p:Pr):Prop:=0≤p.i∧p.i≤(p.l.length:Int)∧p.l.length≤4096
theorem okI0 {p:Pr} (h:okI p):0≤p.i:=h.1
abbrev yc_is (p:Pr) (t:List UInt8):Prop:=okI p
abbrev yr_is (p:Pr) (t:List UInt8):Value:=Value.bool (isT t p)
theorem y_is:CallsR Tryz.prog 34 (ahS (cPt rPr) (ahS (cStr.H) ah0)) (fun p:(Pr×(List UInt8×Unit))=>yc_is p.1 p.2.1) (fun p:(Pr×(List UInt8×Unit))=>ofV (yr_is p.1 p.2.1)):=by
 rintro ⟨p,t,_u⟩ w fz xs hc hfz hl hx
 refine calls_toRL Tryz.func34 rfl w fz [] [] (ahS (cPt rPr) (ahS (cStr.H) ah0)) (fun p:(Pr×(List UInt8×Unit))=>ofV (yr_is p.1 p.2.1)) _ xs hfz hl hx (Nat.le_of_ble_eq_true rfl) ?_
 clear hx hl hfz xs
 simp only[Tryz.f34]
 simp only[↓eB,seval,go_sem,cPt_e,cPt_d,rPr_e,rPr_z,Pr.r,tk_at,Tok.r,zTk]
 have h0:0≤p.i:=okI0 hc
 try simp only[impB,impN]
 repeat' first|exact ck|with_reducible apply And.intro|intro _
 all_goals try simp only[bne,Bool.not_eq_true',Bool.not_eq_false',Bool.not_not] at*
 all_goals first
  |(refine ret_with [] ?_;simp only[↓eB,seval,go_sem,bne,yr_is,isT,tk];first|done|(simp only[*,if_true,if_false,Bool.false_eq_true,Bool.true_or,Bool.or_true,Bool.false_or,Bool.or_false,Bool.and_false,Bool.false_and,Bool.true_and,Bool.and_true,Bool.not_true,Bool.not_false,Bool.or_self,Bool.and_self,Int.reduceEq,Int.reduceNeg,Nat.reduceEqDiff,reduceCtorEq,dec_T,dec_F,leC_same,leC_nil,and_self,↓reduceIte];done)|(simp_all [isT,tk];done))
  |omega
  |(simp only[decide_eq_true_eq,decide_eq_false_iff_not]at *;omega)
  |(simp_all [isT,tk];done)
  |(simp_all [isT,tk];omega)
  |trace_state
theorem yh_is:∀p:(Pr×(List UInt8×Unit)),okV ((fun p:(Pr×(List UInt8×Unit))=>yr_is p.1 p.2.1) p)=true:=by intro p;rfl
noncomputable def yp_is {X:Ctx} {w0:World}:Sy.Spec Tryz.prog X w0:=specR 34 Tryz.call34 (ahS (cPt rPr) (ahS (cStr.H) ah0)) (fun p:(Pr×(List UInt8×Unit))=>yc_is p.1 p.2.1) (fun p:(Pr×(List UInt8×Unit))=>yr_is p.1 p.2.1) yh_is y_is
def wrds:List (List UInt8):=[[102,110],[118,97,114],[112,116,114],[105,102],[101,108,115,101],[119,104,105,108,101],[114,101,116,117,114,110],[97,115,115,101,114,116],[110,117,108,108],[99,101,108,108],[97,114,114,97,121]]
def wordB (s:List UInt8):Bool:=wrds.any (·==s)
def cS (s:List UInt8):List C:=[.v (.string (bs s))]
theorem wr_at {i:Nat} {x:List UInt8} (h:wrds[i]?=some x):(wrds.map cS).getD i [.v (.string (bs []))]=cS x:=by simp[List.getD,h]
theorem drop_get {A:Type} {l:List A} {i:Nat} {x:A} (h:l[i]?=some x):l.drop i=x::l.drop (i+1):=by
 obtain⟨h1,h2⟩:=List.getElem?_eq_some_iff.1 h
 rw[List.drop_eq_getElem_cons h1,h2]
abbrev yc_word (s:List UInt8):Prop:=True
abbrev yr_word (s:List UInt8):Value:=Value.bool (wordB s)
theorem y_word:CallsR Tryz.prog 77 (ahS (cStr.H) ah0) (fun p:(List UInt8×Unit)=>yc_word p.1) (fun p:(List UInt8×Unit)=>ofV (yr_word p.1)):=by
 rintro ⟨s,_u⟩ w fz xs hc hfz hl hx
 refine calls_toRL Tryz.func77 rfl w fz [] [] (ahS (cStr.H) ah0) (fun p:(List UInt8×Unit)=>ofV (yr_word p.1)) _ xs hfz hl hx (Nat.le_of_ble_eq_true rfl) ?_
 clear hx hl hfz xs
 simp only[Tryz.f77]
 simp only[↓eB,seval,go_sem]
 refine loop_ok (Y:=Nat) (fun i=>i≤wrds.length∧(wrds.drop i).any (·==s)=wordB s)
  (fun i=>⟨[(0,true,.one (.v (.string (bs s)))),(3,true,.one (.s 1000)),(4,true,.one (.v (.int .i64 (i:Int))))],[(1000,.vec 0 [.v (.string (bs []))] (wrds.map cS))]⟩)
  (fun i=>wrds.length-i) 0 ⟨Nat.zero_le _,rfl⟩ ?_ ?_
 ·refine to_with [.mv 5 1000] ?_;simp only[↓eB,seval,go_sem,wrds,cS]
 ·rintro i ⟨hi,hJ⟩
  refine vc_ok [] [] _ _ _ ?_
  have hl:wrds.length=11:=rfl
  cases hx:wrds[i]? with
  |none=>
   have hi2:wrds.length≤i:=List.getElem?_eq_none_iff.1 hx
   have h1:=natI_ge hi2
   rw[List.drop_eq_nil_of_le hi2]at hJ
   have hR:wordB s=false:=hJ.symm
   simp only[↓eB,seval,go_sem,h1]
   refine ret_with [] ?_;simp only[↓eB,seval,go_sem,bne,yr_word,hR]
  |some x=>
   have hlt:i<wrds.length:=(List.getElem?_eq_some_iff.1 hx).1
   have h1:=natI_lt hlt
   have h2:=natI_ltp hlt
   have h3:=wr_at hx
   have h4:=natI_succ hi (by decide)
   rw[drop_get hx,List.any_cons]at hJ
   simp only[↓eB,seval,go_sem,h1,h2,h3,h4,cS]
   simp only[impB,impN]
   refine⟨hlt,fun hb=>?_,fun hb=>?_⟩
   ·rw[hb,Bool.true_or]at hJ
    refine ret_with [] ?_;simp only[↓eB,seval,go_sem,bne,yr_word,← hJ]
   ·rw[hb,Bool.false_or]at hJ
    refine⟨i+1,⟨hlt,hJ⟩,by omega,to_with [] ?_⟩
    simp only[↓eB,seval,go_sem,chN_of,cS]
    try (simp[wrds,cS,C.names])
theorem yh_word:∀p:(List UInt8×Unit),okV ((fun p:(List UInt8×Unit)=>yr_word p.1) p)=true:=by intro p;rfl
noncomputable def yp_word {X:Ctx} {w0:World}:Sy.Spec Tryz.prog X w0:=specR 77 Tryz.call77 (ahS (cStr.H) ah0) (fun p:(List UInt8×Unit)=>yc_word p.1) (fun p:(List UInt8×Unit)=>yr_word p.1) yh_word y_word
def numW:List UInt8→Int→Int
 |[],n=>n
 |b::l,n=>numW l (w64i (w64i (10*n)+w64i (IntKind.u8.wrap ((b.toNat:Int)-48))))
abbrev yc_number (s:List UInt8):Prop:=smallB s
abbrev yr_number (s:List UInt8):Value:=Value.int .i64 (numW s 0)
theorem y_number:CallsR Tryz.prog 43 (ahS (cStr.H) ah0) (fun p:(List UInt8×Unit)=>yc_number p.1) (fun p:(List UInt8×Unit)=>ofV (yr_number p.1)):=by
 rintro ⟨s,_u⟩ w fz xs hc hfz hl hx
 refine calls_toRL Tryz.func43 rfl w fz [] [] (ahS (cStr.H) ah0) (fun p:(List UInt8×Unit)=>ofV (yr_number p.1)) _ xs hfz hl hx (Nat.le_of_ble_eq_true rfl) ?_
 clear hx hl hfz xs
 simp only[Tryz.f43]
 simp only[↓eB,seval,go_sem]
 have hs:s.length≤4294967296:=hc
 refine loop_ok (Y:=Nat×Int) (fun y=>y.1≤s.length∧numW (s.drop y.1) y.2=numW s 0)
  (fun y=>⟨[(0,true,.one (.v (.string (bs s)))),(3,true,.one (.v (.int .i64 y.2))),(4,true,.one (.v (.int .i64 (y.1:Int))))],[]⟩)
  (fun y=>s.length-y.1) (0,0) ⟨Nat.zero_le _,rfl⟩ ?_ ?_
 ·refine to_with [] ?_;simp only[↓eB,seval,go_sem]
 ·rintro ⟨i,n⟩ ⟨hi,hJ⟩
  simp only at hi hJ
  refine vc_ok [] [] _ _ _ ?_
  by_cases hlt:i<s.length
  ·have h1:=natI_lt hlt
   have h2:=natI_ltp hlt
   have h3:=natI_succ hi hs
   rw[List.drop_eq_getElem_cons hlt]at hJ
   simp only[numW]at hJ
   have h4:s[i]=s.getD i 0:=by simp[List.getD,hlt]
   rw[h4]at hJ
   simp only[↓eB,seval,go_sem,h1,h2,h3]
   refine⟨(i+1,w64i (w64i (10*n)+w64i (IntKind.u8.wrap (((s.getD i 0).toNat:Int)-48)))),⟨hlt,hJ⟩,by dsimp only;omega,?_⟩
   refine to_with [] ?_;simp only[↓eB,seval,go_sem]
  ·have h1:=natI_ge (Nat.le_of_not_lt hlt)
   rw[List.drop_eq_nil_of_le (Nat.le_of_not_lt hlt)]at hJ
   have hJ':n=numW s 0:=hJ
   simp only[↓eB,seval,go_sem,h1]
   refine ret_with [] ?_;simp only[↓eB,seval,go_sem,bne,yr_number,← hJ']
theorem yh_number:∀p:(List UInt8×Unit),okV ((fun p:(List UInt8×Unit)=>yr_number p.1) p)=true:=by intro p;rfl
noncomputable def yp_number {X:Ctx} {w0:World}:Sy.Spec Tryz.prog X w0:=specR 43 Tryz.call43 (ahS (cStr.H) ah0) (fun p:(List UInt8×Unit)=>yc_number p.1) (fun p:(List UInt8×Unit)=>yr_number p.1) yh_number y_number
def nameB (p:Pr):Bool:=p.e==0&&decide (p.i<(p.l.length:Int))&&(tk p).k==0&&!wordB (tk p).t
abbrev yc_named (p:Pr):Prop:=okI p
abbrev yr_named (p:Pr):Value:=Value.bool (nameB p)
theorem y_named:CallsR Tryz.prog 42 (ahS (cPt rPr) ah0) (fun p:(Pr×Unit)=>yc_named p.1) (fun p:(Pr×Unit)=>ofV (yr_named p.1)):=by
 rintro ⟨p,_u⟩ w fz xs hc hfz hl hx
 refine calls_toRL Tryz.func42 rfl w fz [yp_word] [] (ahS (cPt rPr) ah0) (fun p:(Pr×Unit)=>ofV (yr_named p.1)) _ xs hfz hl hx (Nat.le_of_ble_eq_true rfl) ?_
 clear hx hl hfz xs
 simp only[Tryz.f42]
 simp only[↓eB,seval,go_sem,yp_word,cPt_e,cPt_d,rPr_e,rPr_z,Pr.r,tk_at,Tok.r,zTk,yr_word]
 have h0:0≤p.i:=okI0 hc
 try simp only[impB,impN]
 repeat' first|exact ck|with_reducible apply And.intro|intro _
 all_goals try simp only[bne,Bool.not_eq_true',Bool.not_eq_false',Bool.not_not] at*
 all_goals first
  |(refine ret_with [] ?_;simp only[↓eB,seval,go_sem,bne,yr_named,nameB,tk];first|done|(simp only[*,if_true,if_false,Bool.false_eq_true,Bool.true_or,Bool.or_true,Bool.false_or,Bool.or_false,Bool.and_false,Bool.false_and,Bool.true_and,Bool.and_true,Bool.not_true,Bool.not_false,Bool.or_self,Bool.and_self,Int.reduceEq,Int.reduceNeg,Nat.reduceEqDiff,reduceCtorEq,dec_T,dec_F,leC_same,leC_nil,and_self,↓reduceIte];done)|(simp_all [nameB,tk];done))
  |omega
  |(simp only[decide_eq_true_eq,decide_eq_false_iff_not]at *;omega)
  |(simp_all [nameB,tk];done)
  |(simp_all [nameB,tk];omega)
  |trace_state
theorem yh_named:∀p:(Pr×Unit),okV ((fun p:(Pr×Unit)=>yr_named p.1) p)=true:=by intro p;rfl
noncomputable def yp_named {X:Ctx} {w0:World}:Sy.Spec Tryz.prog X w0:=specR 42 Tryz.call42 (ahS (cPt rPr) ah0) (fun p:(Pr×Unit)=>yc_named p.1) (fun p:(Pr×Unit)=>yr_named p.1) yh_named y_named
def failP (c:Int) (p:Pr):Pr:=if (p.e==0)=true then { p with e:=c,at':=if decide (p.i<(p.l.length:Int))=true then (tk p).p else p.en } else p
abbrev yc_fail (p:Pr) (c:Int):Prop:=okI p
abbrev yr_fail (p:Pr) (c:Int):SV:=.tup []
abbrev ym_fail (p:Pr) (c:Int):List (Option MV):=[some (zPr,[(failP c p).c])]
noncomputable abbrev ya_fail:ArgM ((Pr)×(Int)×Unit):=(amP (mPr) (amD (cInt .i64) am0))
abbrev yq_fail:Prop:=CallsM Tryz.prog 36 ((ya_fail).args 0) (ya_fail).mem (fun p:(Pr)×(Int)×Unit=>yc_fail p.1 p.2.1) (fun p:(Pr)×(Int)×Unit=>yr_fail p.1 p.2.1) (fun p:(Pr)×(Int)×Unit=>ym_fail p.1 p.2.1)
theorem yl_fail:∀p,(fun p:(Pr)×(Int)×Unit=>yc_fail p.1 p.2.1) p→lenM ((ya_fail).mem p).length ((fun p:(Pr)×(Int)×Unit=>ym_fail p.1 p.2.1) p)=true:=by intro p _;rfl
theorem yo_fail:∀p,(fun p:(Pr)×(Int)×Unit=>yc_fail p.1 p.2.1) p→outV ((fun p:(Pr)×(Int)×Unit=>ym_fail p.1 p.2.1) p).length ((fun p:(Pr)×(Int)×Unit=>yr_fail p.1 p.2.1) p)=true:=by intro p _;first|rfl|exact ex_out _ _|exact cd_out _ _|(simp[outV,outC,ex_out,cd_out];done)
theorem yn_fail:∀p,(fun p:(Pr)×(Int)×Unit=>yc_fail p.1 p.2.1) p→∀q,some q∈(fun p:(Pr)×(Int)×Unit=>ym_fail p.1 p.2.1) p→∀r∈q.2,∀c∈r,c.names=[]:=by intro p _;exact mem_nm _
theorem y_fail:yq_fail:=by
 rintro ⟨p,c,_u⟩ w M I lab fz xs hc hA hl hx
 refine calls_toML Tryz.func36 rfl ((ya_fail).mem ⟨p,c,_u⟩) w M I lab fz [] [] ((ya_fail).args 0 ⟨p,c,_u⟩) ((fun p:(Pr)×(Int)×Unit=>ym_fail p.1 p.2.1) ⟨p,c,_u⟩) ((fun p:(Pr)×(Int)×Unit=>yr_fail p.1 p.2.1) ⟨p,c,_u⟩) xs hA hl hx (fun v hv k hk=>by have:=(ya_fail).an 0 ⟨p,c,_u⟩ v hv k hk;omega) (Nat.le_of_ble_eq_true rfl) (Nat.le_of_ble_eq_true rfl) ?_
 clear hx hl hA xs
 simp only[Tryz.f36]
 simp only[↓eB,seval,go_sem,mPr_e,mPr_z,Pr.c,tk_at,Tok.r,zTk]
 have h0:0≤p.i:=okI0 hc
 try simp only[impB,impN]
 repeat' first|exact ck|with_reducible apply And.intro|intro _
 all_goals try simp only[bne,Bool.not_eq_true',Bool.not_eq_false',Bool.not_not] at*
 all_goals first
  |(refine ret_with [] ?_;simp only[↓eB,seval,go_sem,bne,yr_fail,ym_fail,failP,tk,Pr.c,zTk];first|done|(simp only[*,if_true,if_false,Bool.false_eq_true,Bool.true_or,Bool.or_true,Bool.false_or,Bool.or_false,Bool.and_false,Bool.false_and,Bool.true_and,Bool.and_true,Bool.not_true,Bool.not_false,Bool.or_self,Bool.and_self,Int.reduceEq,Int.reduceNeg,Nat.reduceEqDiff,reduceCtorEq,dec_T,dec_F,leC_same,leC_nil,and_self,↓reduceIte];done)|(simp_all [failP,tk];done))
  |omega
  |(simp only[decide_eq_true_eq,decide_eq_false_iff_not]at *;omega)
  |(simp_all [failP,tk];done)
  |(simp_all [failP,tk];omega)
  |trace_state
noncomputable def yp_fail {X:Ctx} {w0:World}:Sy.Spec Tryz.prog X w0:=specM 36 Tryz.call36 (ya_fail) (fun p:(Pr)×(Int)×Unit=>yc_fail p.1 p.2.1) (fun p:(Pr)×(Int)×Unit=>yr_fail p.1 p.2.1) (fun p:(Pr)×(Int)×Unit=>ym_fail p.1 p.2.1) yl_fail yo_fail yn_fail y_fail
end Go.Proofs.YtbiepiggmagfcaaGreatDoor
