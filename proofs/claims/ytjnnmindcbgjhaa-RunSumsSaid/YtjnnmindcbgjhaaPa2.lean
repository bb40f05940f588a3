/- The parser's functions up to sums, walked. No conditions but those in each statement. -/
import Derived.Test.YtjnnmindcbgjhaaMi1
import Derived.Test.YtjnnmindcbgjhaaPm
set_option linter.unusedVariables false
set_option linter.unusedSimpArgs false
namespace Go.Proofs.Ytjnnmindcbgjhaa
open Go Go.Sy Go.RowKit
theorem rPr_d' (l:List Tok) (i en e at' deep n:Int):rPr.d [.sl [D.v (Value.int IntKind.i64 0),D.v (Value.string (bs [])),D.v (Value.int IntKind.i64 0)] (l.map Tok.r),.v (.int .i64 i),.v (.int .i64 en),.v (.int .i64 e),.v (.int .i64 at'),.v (.int .i64 deep),.v (.int .i64 n)]=some ⟨l,i,en,e,at',deep,n⟩:=rPr_d l i en e at' deep n
theorem mPr_d' (l:List Tok) (i en e at' deep n:Int):mPr.d [.d (.sl [D.v (Value.int IntKind.i64 0),D.v (Value.string (bs [])),D.v (Value.int IntKind.i64 0)] (l.map Tok.r)),.v (.int .i64 i),.v (.int .i64 en),.v (.int .i64 e),.v (.int .i64 at'),.v (.int .i64 deep),.v (.int .i64 n)]=some ⟨l,i,en,e,at',deep,n⟩:=mPr_d l i en e at' deep n
abbrev yc_take (p:Pr) (t:List UInt8):Prop:=okP p
abbrev yr_take (p:Pr) (t:List UInt8):SV:=.one (.v (.bool (isT t p)))
abbrev ym_take (p:Pr) (t:List UInt8):List (Option MV):=[some (zPr,[(takP t p).c])]
noncomputable abbrev ya_take:ArgM ((Pr)×(List UInt8)×Unit):=(amP (mPr) (amD (cStr) am0))
abbrev yq_take:Prop:=CallsM Try.prog 54 ((ya_take).args 0) (ya_take).mem (fun p:(Pr)×(List UInt8)×Unit=>yc_take p.1 p.2.1) (fun p:(Pr)×(List UInt8)×Unit=>yr_take p.1 p.2.1) (fun p:(Pr)×(List UInt8)×Unit=>ym_take p.1 p.2.1)
theorem yl_take:∀p,(fun p:(Pr)×(List UInt8)×Unit=>yc_take p.1 p.2.1) p→lenM ((ya_take).mem p).length ((fun p:(Pr)×(List UInt8)×Unit=>ym_take p.1 p.2.1) p)=true:=by intro p _;rfl
theorem yo_take:∀p,(fun p:(Pr)×(List UInt8)×Unit=>yc_take p.1 p.2.1) p→outV ((fun p:(Pr)×(List UInt8)×Unit=>ym_take p.1 p.2.1) p).length ((fun p:(Pr)×(List UInt8)×Unit=>yr_take p.1 p.2.1) p)=true:=by intro p _;first|rfl|exact ex_out _ _|exact cd_out _ _|(simp[outV,outC,ex_out,cd_out];done)
theorem yn_take:∀p,(fun p:(Pr)×(List UInt8)×Unit=>yc_take p.1 p.2.1) p→∀q,some q∈(fun p:(Pr)×(List UInt8)×Unit=>ym_take p.1 p.2.1) p→∀r∈q.2,∀c∈r,c.names=[]:=by intro p _;exact mem_nm _
attribute [local go_sem] Pr.c Tok.r cPt_d mPr_d mPr_d' mPr_e mPr_z pr_eta ptR rPr_d rPr_d' tk_at zTk
theorem y_take:yq_take:=by
 rintro ⟨p,t,_u⟩ w M I lab fz xs hc hA hl hx
 refine calls_toML Try.func54 rfl ((ya_take).mem ⟨p,t,_u⟩) w M I lab fz [yp_is] [] ((ya_take).args 0 ⟨p,t,_u⟩) ((fun p:(Pr)×(List UInt8)×Unit=>ym_take p.1 p.2.1) ⟨p,t,_u⟩) ((fun p:(Pr)×(List UInt8)×Unit=>yr_take p.1 p.2.1) ⟨p,t,_u⟩) xs hA hl hx (fun v hv k hk=>by have:=(ya_take).an 0 ⟨p,t,_u⟩ v hv k hk;omega) (Nat.le_of_ble_eq_true rfl) (Nat.le_of_ble_eq_true rfl) ?_
 clear hx hl hA xs
 simp only[Try.f54]
 simp only[↓eB,seval,go_sem,yp_is,yr_is]
 try simp only[impB,impN]
 repeat' first|exact ck|with_reducible apply And.intro|intro _
 all_goals try simp only[bne,Bool.not_eq_true',Bool.not_eq_false',Bool.not_not] at*
 all_goals first
  |(exact hc.i;done)
  |(refine ret_with [] ?_;simp only[↓eB,seval,go_sem,bne,yr_take,ym_take,takP,adv];first|done|(simp only[*,if_true,if_false,Bool.false_eq_true,Bool.true_or,Bool.or_true,Bool.false_or,Bool.or_false,Bool.and_false,Bool.false_and,Bool.true_and,Bool.and_true,Bool.not_true,Bool.not_false,Bool.or_self,Bool.and_self,Int.reduceEq,Int.reduceNeg,Nat.reduceEqDiff,reduceCtorEq,dec_T,dec_F,leC_same,leC_nil,and_self,↓reduceIte];done)|(simp_all [takP,adv];done))
  |omega
  |(simp only[decide_eq_true_eq,decide_eq_false_iff_not]at *;omega)
  |(simp_all [takP,adv];done)
  |(simp_all [takP,adv];omega)
  |trace_state
noncomputable def yp_take {X:Ctx} {w0:World}:Sy.Spec Try.prog X w0:=specM 54 Try.call54 (ya_take) (fun p:(Pr)×(List UInt8)×Unit=>yc_take p.1 p.2.1) (fun p:(Pr)×(List UInt8)×Unit=>yr_take p.1 p.2.1) (fun p:(Pr)×(List UInt8)×Unit=>ym_take p.1 p.2.1) yl_take yo_take yn_take y_take
abbrev yc_want (p:Pr) (t:List UInt8):Prop:=okP p
abbrev yr_want (p:Pr) (t:List UInt8):SV:=.tup []
abbrev ym_want (p:Pr) (t:List UInt8):List (Option MV):=[some (zPr,[(wanP t p).c])]
noncomputable abbrev ya_want:ArgM ((Pr)×(List UInt8)×Unit):=(amP (mPr) (amD (cStr) am0))
abbrev yq_want:Prop:=CallsM Try.prog 55 ((ya_want).args 0) (ya_want).mem (fun p:(Pr)×(List UInt8)×Unit=>yc_want p.1 p.2.1) (fun p:(Pr)×(List UInt8)×Unit=>yr_want p.1 p.2.1) (fun p:(Pr)×(List UInt8)×Unit=>ym_want p.1 p.2.1)
theorem yl_want:∀p,(fun p:(Pr)×(List UInt8)×Unit=>yc_want p.1 p.2.1) p→lenM ((ya_want).mem p).length ((fun p:(Pr)×(List UInt8)×Unit=>ym_want p.1 p.2.1) p)=true:=by intro p _;rfl
theorem yo_want:∀p,(fun p:(Pr)×(List UInt8)×Unit=>yc_want p.1 p.2.1) p→outV ((fun p:(Pr)×(List UInt8)×Unit=>ym_want p.1 p.2.1) p).length ((fun p:(Pr)×(List UInt8)×Unit=>yr_want p.1 p.2.1) p)=true:=by intro p _;first|rfl|exact ex_out _ _|exact cd_out _ _|(simp[outV,outC,ex_out,cd_out];done)
theorem yn_want:∀p,(fun p:(Pr)×(List UInt8)×Unit=>yc_want p.1 p.2.1) p→∀q,some q∈(fun p:(Pr)×(List UInt8)×Unit=>ym_want p.1 p.2.1) p→∀r∈q.2,∀c∈r,c.names=[]:=by intro p _;exact mem_nm _
theorem y_want:yq_want:=by
 rintro ⟨p,t,_u⟩ w M I lab fz xs hc hA hl hx
 refine calls_toML Try.func55 rfl ((ya_want).mem ⟨p,t,_u⟩) w M I lab fz [yp_take,yp_fail] [] ((ya_want).args 0 ⟨p,t,_u⟩) ((fun p:(Pr)×(List UInt8)×Unit=>ym_want p.1 p.2.1) ⟨p,t,_u⟩) ((fun p:(Pr)×(List UInt8)×Unit=>yr_want p.1 p.2.1) ⟨p,t,_u⟩) xs hA hl hx (fun v hv k hk=>by have:=(ya_want).an 0 ⟨p,t,_u⟩ v hv k hk;omega) (Nat.le_of_ble_eq_true rfl) (Nat.le_of_ble_eq_true rfl) ?_
 clear hx hl hA xs
 simp only[Try.f55]
 simp only[↓eB,seval,go_sem,yp_take,yp_fail]
 try simp only[impB,impN]
 repeat' first|exact ck|with_reducible apply And.intro|intro _
 all_goals try simp only[bne,Bool.not_eq_true',Bool.not_eq_false',Bool.not_not] at*
 all_goals first
  |(exact hc;done)
  |((have h:=okP.i hc;simp_all [takP]);done)
  |(refine ret_with [] ?_;simp only[↓eB,seval,go_sem,bne,yr_want,ym_want,wanP,takP];first|done|(simp only[*,if_true,if_false,Bool.false_eq_true,Bool.true_or,Bool.or_true,Bool.false_or,Bool.or_false,Bool.and_false,Bool.false_and,Bool.true_and,Bool.and_true,Bool.not_true,Bool.not_false,Bool.or_self,Bool.and_self,Int.reduceEq,Int.reduceNeg,Nat.reduceEqDiff,reduceCtorEq,dec_T,dec_F,leC_same,leC_nil,and_self,↓reduceIte];done)|(simp_all [wanP,takP];done))
  |omega
  |(simp only[decide_eq_true_eq,decide_eq_false_iff_not]at *;omega)
  |(simp_all [wanP,takP];done)
  |(simp_all [wanP,takP];omega)
  |trace_state
noncomputable def yp_want {X:Ctx} {w0:World}:Sy.Spec Try.prog X w0:=specM 55 Try.call55 (ya_want) (fun p:(Pr)×(List UInt8)×Unit=>yc_want p.1 p.2.1) (fun p:(Pr)×(List UInt8)×Unit=>yr_want p.1 p.2.1) (fun p:(Pr)×(List UInt8)×Unit=>ym_want p.1 p.2.1) yl_want yo_want yn_want y_want
abbrev yc_name (p:Pr):Prop:=okP p
abbrev yr_name (p:Pr):SV:=.one (.v (.string (bs (namS p))))
abbrev ym_name (p:Pr):List (Option MV):=[some (zPr,[(namP p).c])]
noncomputable abbrev ya_name:ArgM ((Pr)×Unit):=(amP (mPr) am0)
abbrev yq_name:Prop:=CallsM Try.prog 58 ((ya_name).args 0) (ya_name).mem (fun p:(Pr)×Unit=>yc_name p.1) (fun p:(Pr)×Unit=>yr_name p.1) (fun p:(Pr)×Unit=>ym_name p.1)
theorem yl_name:∀p,(fun p:(Pr)×Unit=>yc_name p.1) p→lenM ((ya_name).mem p).length ((fun p:(Pr)×Unit=>ym_name p.1) p)=true:=by intro p _;rfl
theorem yo_name:∀p,(fun p:(Pr)×Unit=>yc_name p.1) p→outV ((fun p:(Pr)×Unit=>ym_name p.1) p).length ((fun p:(Pr)×Unit=>yr_name p.1) p)=true:=by intro p _;first|rfl|exact ex_out _ _|exact cd_out _ _|(simp[outV,outC,ex_out,cd_out];done)
theorem yn_name:∀p,(fun p:(Pr)×Unit=>yc_name p.1) p→∀q,some q∈(fun p:(Pr)×Unit=>ym_name p.1) p→∀r∈q.2,∀c∈r,c.names=[]:=by intro p _;exact mem_nm _
theorem y_name:yq_name:=by
 rintro ⟨p,_u⟩ w M I lab fz xs hc hA hl hx
 refine calls_toML Try.func58 rfl ((ya_name).mem ⟨p,_u⟩) w M I lab fz [yp_named,yp_fail] [] ((ya_name).args 0 ⟨p,_u⟩) ((fun p:(Pr)×Unit=>ym_name p.1) ⟨p,_u⟩) ((fun p:(Pr)×Unit=>yr_name p.1) ⟨p,_u⟩) xs hA hl hx (fun v hv k hk=>by have:=(ya_name).an 0 ⟨p,_u⟩ v hv k hk;omega) (Nat.le_of_ble_eq_true rfl) (Nat.le_of_ble_eq_true rfl) ?_
 clear hx hl hA xs
 simp only[Try.f58]
 rcases nam_cases hc with⟨hb,e1,e2,e3⟩|⟨hb,e1,e2,e3⟩
 all_goals simp only[↓eB,seval,go_sem,yp_named,yp_fail,yr_named,hb,e1,e2,e3]
 all_goals
  try simp only[impB,impN]
  repeat' first|exact ck|with_reducible apply And.intro|intro _
  all_goals try simp only[bne,Bool.not_eq_true',Bool.not_eq_false',Bool.not_not] at*
  all_goals first
   |(exact hc.i;done)
   |(refine ret_with [] ?_;simp only[↓eB,seval,go_sem,bne,yr_name,ym_name,namS,namP,adv,hb,tk];first|done|(simp only[*,if_true,if_false,Bool.false_eq_true,Bool.true_or,Bool.or_true,Bool.false_or,Bool.or_false,Bool.and_false,Bool.false_and,Bool.true_and,Bool.and_true,Bool.not_true,Bool.not_false,Bool.or_self,Bool.and_self,Int.reduceEq,Int.reduceNeg,Nat.reduceEqDiff,reduceCtorEq,dec_T,dec_F,leC_same,leC_nil,and_self,↓reduceIte];done)|(simp_all [namS,namP,adv];done))
   |omega
   |(simp only[decide_eq_true_eq,decide_eq_false_iff_not]at *;omega)
   |(simp_all [namS,namP,adv];done)
   |(simp_all [namS,namP,adv];omega)
   |trace_state
noncomputable def yp_name {X:Ctx} {w0:World}:Sy.Spec Try.prog X w0:=specM 58 Try.call58 (ya_name) (fun p:(Pr)×Unit=>yc_name p.1) (fun p:(Pr)×Unit=>yr_name p.1) (fun p:(Pr)×Unit=>ym_name p.1) yl_name yo_name yn_name y_name
abbrev yc_open (p:Pr):Prop:=okP p
abbrev yr_open (p:Pr):SV:=.one (.v (.bool (opnB p)))
abbrev ym_open (p:Pr):List (Option MV):=[some (zPr,[(opnP p).c])]
noncomputable abbrev ya_open:ArgM ((Pr)×Unit):=(amP (mPr) am0)
abbrev yq_open:Prop:=CallsM Try.prog 62 ((ya_open).args 0) (ya_open).mem (fun p:(Pr)×Unit=>yc_open p.1) (fun p:(Pr)×Unit=>yr_open p.1) (fun p:(Pr)×Unit=>ym_open p.1)
theorem yl_open:∀p,(fun p:(Pr)×Unit=>yc_open p.1) p→lenM ((ya_open).mem p).length ((fun p:(Pr)×Unit=>ym_open p.1) p)=true:=by intro p _;rfl
theorem yo_open:∀p,(fun p:(Pr)×Unit=>yc_open p.1) p→outV ((fun p:(Pr)×Unit=>ym_open p.1) p).length ((fun p:(Pr)×Unit=>yr_open p.1) p)=true:=by intro p _;first|rfl|exact ex_out _ _|exact cd_out _ _|(simp[outV,outC,ex_out,cd_out];done)
theorem yn_open:∀p,(fun p:(Pr)×Unit=>yc_open p.1) p→∀q,some q∈(fun p:(Pr)×Unit=>ym_open p.1) p→∀r∈q.2,∀c∈r,c.names=[]:=by intro p _;exact mem_nm _
theorem y_open:yq_open:=by
 rintro ⟨p,_u⟩ w M I lab fz xs hc hA hl hx
 refine calls_toML Try.func62 rfl ((ya_open).mem ⟨p,_u⟩) w M I lab fz [yp_fail] [] ((ya_open).args 0 ⟨p,_u⟩) ((fun p:(Pr)×Unit=>ym_open p.1) ⟨p,_u⟩) ((fun p:(Pr)×Unit=>yr_open p.1) ⟨p,_u⟩) xs hA hl hx (fun v hv k hk=>by have:=(ya_open).an 0 ⟨p,_u⟩ v hv k hk;omega) (Nat.le_of_ble_eq_true rfl) (Nat.le_of_ble_eq_true rfl) ?_
 clear hx hl hA xs
 simp only[Try.f62]
 simp only[↓eB,seval,go_sem,yp_fail]
 try simp only[impB,impN]
 repeat' first|exact ck|with_reducible apply And.intro|intro _
 all_goals try simp only[bne,Bool.not_eq_true',Bool.not_eq_false',Bool.not_not] at*
 all_goals first
  |(exact hc.i;done)
  |(refine ret_with [] ?_;simp only[↓eB,seval,go_sem,bne,yr_open,ym_open,opnB,opnP];first|done|(simp only[*,if_true,if_false,Bool.false_eq_true,Bool.true_or,Bool.or_true,Bool.false_or,Bool.or_false,Bool.and_false,Bool.false_and,Bool.true_and,Bool.and_true,Bool.not_true,Bool.not_false,Bool.or_self,Bool.and_self,Int.reduceEq,Int.reduceNeg,Nat.reduceEqDiff,reduceCtorEq,dec_T,dec_F,leC_same,leC_nil,and_self,↓reduceIte];done)|(simp_all [opnB,opnP];done))
  |omega
  |(simp only[decide_eq_true_eq,decide_eq_false_iff_not]at *;omega)
  |(simp_all [opnB,opnP];done)
  |(simp_all [opnB,opnP];omega)
  |trace_state
noncomputable def yp_open {X:Ctx} {w0:World}:Sy.Spec Try.prog X w0:=specM 62 Try.call62 (ya_open) (fun p:(Pr)×Unit=>yc_open p.1) (fun p:(Pr)×Unit=>yr_open p.1) (fun p:(Pr)×Unit=>ym_open p.1) yl_open yo_open yn_open y_open
end Go.Proofs.Ytjnnmindcbgjhaa
