/- The program's parser: its small functions. No conditions but those in each statement. -/
import Derived.Test.YtlaggppdgoknjaaGreatDoorSy33
import Derived.Test.YtlaggppdgoknjaaGreatDoorTie
import Derived.Shelf.Strconv.ParseIntPublic10
import Derived.Shelf.Lay
import Derived.Shelf.LaysC
set_option linter.unusedVariables false
set_option linter.unusedSimpArgs false
namespace Go.Proofs
open Go.Shelf
 shelf_lay LaysC.n174 Nm 174 at Tryz as Tryz.laysC174
end Go.Proofs
namespace Go.Proofs.YtlaggppdgoknjaaGreatDoor
open Go Go.Sy Go.RowKit
theorem tkq_at (l:List Tok) (i:Nat):(l.map Tok.r).getD i [D.v (Value.int IntKind.i64 0),D.v (Value.string (bs [])),D.v (Value.int IntKind.i64 0)]=Tok.r (l.getD i tk0):=tk_getD l i
def endB (p:Pr):Bool:=p.i==(p.l.length:Int)
def plcI (p:Pr):Int:=if endB p=true then p.en else (tk p).p
def ahT (n:Int) (p:Pr):List UInt8:=if decide ((p.l.length:Int)≤w64i (p.i+n))=true then [] else (tkA p (w64i (p.i+n))).t
def kdB (k:Int) (p:Pr):Bool:=!endB p&&(tk p).k==k
theorem end_f {p:Pr} (h:okI p) (he:endB p=false):p.i<(p.l.length:Int):=by
 obtain⟨h1,h2,h3⟩:=h
 have:¬p.i=(p.l.length:Int):=by simpa [endB] using he
 omega
abbrev yc_qended (p:Pr):Prop:=okI p
abbrev yr_qended (p:Pr):Value:=Value.bool (endB p)
attribute [local go_sem] Pr.s Tok.r cPt_d cPt_e pr_eta ptR rPq_d' rPq_e rPq_z tkq_at zTk
theorem y_qended:CallsR Tryz.prog 24 (ahS (cPt rPq) ah0) (fun p:(Pr×Unit)=>yc_qended p.1) (fun p:(Pr×Unit)=>ofV (yr_qended p.1)):=by
 rintro ⟨p,_u⟩ w fz xs hc hfz hl hx
 refine calls_toRL Tryz.func24 rfl w fz [] [] (ahS (cPt rPq) ah0) (fun p:(Pr×Unit)=>ofV (yr_qended p.1)) _ xs hfz hl hx (Nat.le_of_ble_eq_true rfl) ?_
 clear hx hl hfz xs
 simp only[Tryz.f24]
 simp only[↓eB,seval,go_sem]
 try simp only[impB,impN]
 repeat' first|exact ck|with_reducible apply And.intro|intro _
 all_goals try simp only[bne,Bool.not_eq_true',Bool.not_eq_false',Bool.not_not] at*
 all_goals first
  |(refine ret_with [] ?_;simp only[↓eB,seval,go_sem,bne,yr_qended,endB];first|done|(simp only[*,if_true,if_false,Bool.false_eq_true,Bool.true_or,Bool.or_true,Bool.false_or,Bool.or_false,Bool.and_false,Bool.false_and,Bool.true_and,Bool.and_true,Bool.not_true,Bool.not_false,Bool.or_self,Bool.and_self,Int.reduceEq,Int.reduceNeg,Nat.reduceEqDiff,reduceCtorEq,dec_T,dec_F,leC_same,leC_nil,and_self,↓reduceIte];done)|(simp_all [endB];done))
  |omega
  |(simp only[decide_eq_true_eq,decide_eq_false_iff_not]at *;omega)
  |(simp_all [endB];done)
  |(simp_all [endB];omega)
  |trace_state
theorem yh_qended:∀p:(Pr×Unit),okV ((fun p:(Pr×Unit)=>yr_qended p.1) p)=true:=by intro p;rfl
noncomputable def yp_qended {X:Ctx} {w0:World}:Sy.Spec Tryz.prog X w0:=specR 24 Tryz.call24 (ahS (cPt rPq) ah0) (fun p:(Pr×Unit)=>yc_qended p.1) (fun p:(Pr×Unit)=>yr_qended p.1) yh_qended y_qended
abbrev yc_qplace (p:Pr):Prop:=okI p
abbrev yr_qplace (p:Pr):Value:=Value.int .i64 (plcI p)
theorem y_qplace:CallsR Tryz.prog 65 (ahS (cPt rPq) ah0) (fun p:(Pr×Unit)=>yc_qplace p.1) (fun p:(Pr×Unit)=>ofV (yr_qplace p.1)):=by
 rintro ⟨p,_u⟩ w fz xs hc hfz hl hx
 refine calls_toRL Tryz.func65 rfl w fz [yp_qended] [] (ahS (cPt rPq) ah0) (fun p:(Pr×Unit)=>ofV (yr_qplace p.1)) _ xs hfz hl hx (Nat.le_of_ble_eq_true rfl) ?_
 clear hx hl hfz xs
 simp only[Tryz.f65]
 simp only[↓eB,seval,go_sem,yp_qended,yr_qended]
 have h0:0≤p.i:=okI0 hc
 have hl:endB p=false→p.i<(p.l.length:Int):=end_f hc
 try simp only[impB,impN]
 repeat' first|exact ck|with_reducible apply And.intro|intro _
 all_goals try simp only[bne,Bool.not_eq_true',Bool.not_eq_false',Bool.not_not] at*
 all_goals first
  |((exact hc);done)
  |((exact hl (by assumption));done)
  |(refine ret_with [] ?_;simp only[↓eB,seval,go_sem,bne,yr_qplace,plcI,tk];first|done|(simp only[*,if_true,if_false,Bool.false_eq_true,Bool.true_or,Bool.or_true,Bool.false_or,Bool.or_false,Bool.and_false,Bool.false_and,Bool.true_and,Bool.and_true,Bool.not_true,Bool.not_false,Bool.or_self,Bool.and_self,Int.reduceEq,Int.reduceNeg,Nat.reduceEqDiff,reduceCtorEq,dec_T,dec_F,leC_same,leC_nil,and_self,↓reduceIte];done)|(simp_all [plcI,tk];done))
  |omega
  |(simp only[decide_eq_true_eq,decide_eq_false_iff_not]at *;omega)
  |(simp_all [plcI,tk];done)
  |(simp_all [plcI,tk];omega)
  |trace_state
theorem yh_qplace:∀p:(Pr×Unit),okV ((fun p:(Pr×Unit)=>yr_qplace p.1) p)=true:=by intro p;rfl
noncomputable def yp_qplace {X:Ctx} {w0:World}:Sy.Spec Tryz.prog X w0:=specR 65 Tryz.call65 (ahS (cPt rPq) ah0) (fun p:(Pr×Unit)=>yc_qplace p.1) (fun p:(Pr×Unit)=>yr_qplace p.1) yh_qplace y_qplace
abbrev yc_qahead (p:Pr) (n:Int):Prop:=okI p∧0≤n∧n≤5
abbrev yr_qahead (p:Pr) (n:Int):Value:=Value.string (bs (ahT n p))
theorem y_qahead:CallsR Tryz.prog 62 (ahS (cPt rPq) (ahS ((cInt .i64).H) ah0)) (fun p:(Pr×(Int×Unit))=>yc_qahead p.1 p.2.1) (fun p:(Pr×(Int×Unit))=>ofV (yr_qahead p.1 p.2.1)):=by
 rintro ⟨p,n,_u⟩ w fz xs hc hfz hl hx
 refine calls_toRL Tryz.func62 rfl w fz [] [] (ahS (cPt rPq) (ahS ((cInt .i64).H) ah0)) (fun p:(Pr×(Int×Unit))=>ofV (yr_qahead p.1 p.2.1)) _ xs hfz hl hx (Nat.le_of_ble_eq_true rfl) ?_
 clear hx hl hfz xs
 simp only[Tryz.f62]
 obtain⟨hc,hn0,hn5⟩:=hc
 dsimp only at hc hn0 hn5
 have h0:0≤p.i:=okI0 hc
 have e1:IntKind.i64.wrap (p.i+n)=p.i+n:=by obtain⟨h1,h2,h3⟩:=hc;exact wrap_i64 (by omega) (by omega)
 cases hl:decide ((p.l.length:Int)≤p.i+n) with
 |true=>
  have hr:ahT n p=[]:=by unfold ahT w64i;rw[e1,if_pos hl]
  simp only[↓eB,seval,go_sem,e1,hl]
  try simp only[impB,impN]
  repeat' first|exact ck|with_reducible apply And.intro|intro _
  all_goals first|(rename_i h;first|exact oI h|exact nah h)|(rename_i _ h _ g;exact sL h g)|decide|omega|(refine ret_with [] ?_;simp only[↓eB,seval,go_sem,bne,yr_qahead,hr])
 |false=>
  have hr:ahT n p=(p.l.getD (p.i+n).toNat tk0).t:=by unfold ahT tkA w64i;rw[e1,if_neg (by rw[hl];decide)]
  have z1:(0≤p.i+n)=True:=by simp;omega
  have z2:(p.i+n<(p.l.length:Int))=True:=by simp at hl ⊢;omega
  simp only[↓eB,seval,go_sem,e1,hl,z1,z2]
  try simp only[impB,impN]
  repeat' first|exact ck|with_reducible apply And.intro|intro _
  all_goals first|(rename_i h;first|exact oI h|exact nah h)|(rename_i _ h _ g;exact sL h g)|decide|omega|(refine ret_with [] ?_;simp only[↓eB,seval,go_sem,bne,yr_qahead,hr])
theorem yh_qahead:∀p:(Pr×(Int×Unit)),okV ((fun p:(Pr×(Int×Unit))=>yr_qahead p.1 p.2.1) p)=true:=by intro p;rfl
noncomputable def yp_qahead {X:Ctx} {w0:World}:Sy.Spec Tryz.prog X w0:=specR 62 Tryz.call62 (ahS (cPt rPq) (ahS ((cInt .i64).H) ah0)) (fun p:(Pr×(Int×Unit))=>yc_qahead p.1 p.2.1) (fun p:(Pr×(Int×Unit))=>yr_qahead p.1 p.2.1) yh_qahead y_qahead
theorem ah_0 {t:List UInt8} {p:Pr} (h:okQ p) (ht:sgT t=true):(ahT 0 p==t)=isT t p:=by
 rw[← isQ_T h.i h.e h.l ht]
 obtain⟨h1,h2,h3⟩:=h.i
 have e1:w64i (p.i+0)=p.i:=by unfold w64i;rw[wrap_i64 (by omega) (by omega)];omega
 unfold ahT isQ
 rw[e1]
 cases hd:decide ((p.l.length:Int)≤p.i) with
 |true=>
  have h4:decide (p.i<(p.l.length:Int))=false:=by simp at hd ⊢;omega
  rw[h4,if_pos rfl,Bool.false_and]
  cases t with
  |nil=>cases ht
  |cons b r=>rfl
 |false=>
  have h4:decide (p.i<(p.l.length:Int))=true:=by simp at hd ⊢;omega
  rw[h4,if_neg (by decide),Bool.true_and];rfl
abbrev yc_qis (p:Pr) (t:List UInt8):Prop:=okQ p∧sgT t=true
abbrev yr_qis (p:Pr) (t:List UInt8):Value:=Value.bool (isT t p)
theorem y_qis:CallsR Tryz.prog 47 (ahS (cPt rPq) (ahS (cStr.H) ah0)) (fun p:(Pr×(List UInt8×Unit))=>yc_qis p.1 p.2.1) (fun p:(Pr×(List UInt8×Unit))=>ofV (yr_qis p.1 p.2.1)):=by
 rintro ⟨p,t,_u⟩ w fz xs hc hfz hl hx
 refine calls_toRL Tryz.func47 rfl w fz [yp_qahead] [] (ahS (cPt rPq) (ahS (cStr.H) ah0)) (fun p:(Pr×(List UInt8×Unit))=>ofV (yr_qis p.1 p.2.1)) _ xs hfz hl hx (Nat.le_of_ble_eq_true rfl) ?_
 clear hx hl hfz xs
 simp only[Tryz.f47]
 obtain⟨hq,ht⟩:=hc;have hI:=hq.i;have e1:=ah_0 hq ht
 all_goals simp only[↓eB,seval,go_sem,yp_qahead,yr_qahead]
 try simp only[impB,impN]
 repeat' first|exact ck|with_reducible apply And.intro|intro _
 all_goals try simp only[bne,Bool.not_eq_true',Bool.not_eq_false',Bool.not_not] at*
 all_goals first
  |(exact hI;done)
  |(refine ret_with [] ?_;simp only[↓eB,seval,go_sem,bne,yr_qis,e1];first|done|(simp only[*,if_true,if_false,Bool.false_eq_true,Bool.true_or,Bool.or_true,Bool.false_or,Bool.or_false,Bool.and_false,Bool.false_and,Bool.true_and,Bool.and_true,Bool.not_true,Bool.not_false,Bool.or_self,Bool.and_self,Int.reduceEq,Int.reduceNeg,Nat.reduceEqDiff,reduceCtorEq,dec_T,dec_F,leC_same,leC_nil,and_self,↓reduceIte];done)|(simp_all [e1];done))
  |omega
  |(simp only[decide_eq_true_eq,decide_eq_false_iff_not]at *;omega)
  |(simp_all [e1];done)
  |(simp_all [e1];omega)
  |trace_state
theorem yh_qis:∀p:(Pr×(List UInt8×Unit)),okV ((fun p:(Pr×(List UInt8×Unit))=>yr_qis p.1 p.2.1) p)=true:=by intro p;rfl
noncomputable def yp_qis {X:Ctx} {w0:World}:Sy.Spec Tryz.prog X w0:=specR 47 Tryz.call47 (ahS (cPt rPq) (ahS (cStr.H) ah0)) (fun p:(Pr×(List UInt8×Unit))=>yc_qis p.1 p.2.1) (fun p:(Pr×(List UInt8×Unit))=>yr_qis p.1 p.2.1) yh_qis y_qis
abbrev yc_qisKind (p:Pr) (k:Int):Prop:=okI p
abbrev yr_qisKind (p:Pr) (k:Int):Value:=Value.bool (kdB k p)
theorem y_qisKind:CallsR Tryz.prog 57 (ahS (cPt rPq) (ahS ((cInt .i64).H) ah0)) (fun p:(Pr×(Int×Unit))=>yc_qisKind p.1 p.2.1) (fun p:(Pr×(Int×Unit))=>ofV (yr_qisKind p.1 p.2.1)):=by
 rintro ⟨p,k,_u⟩ w fz xs hc hfz hl hx
 refine calls_toRL Tryz.func57 rfl w fz [yp_qended] [] (ahS (cPt rPq) (ahS ((cInt .i64).H) ah0)) (fun p:(Pr×(Int×Unit))=>ofV (yr_qisKind p.1 p.2.1)) _ xs hfz hl hx (Nat.le_of_ble_eq_true rfl) ?_
 clear hx hl hfz xs
 simp only[Tryz.f57]
 simp only[↓eB,seval,go_sem,yp_qended,yr_qended]
 have h0:0≤p.i:=okI0 hc
 have hl:endB p=false→p.i<(p.l.length:Int):=end_f hc
 try simp only[impB,impN]
 repeat' first|exact ck|with_reducible apply And.intro|intro _
 all_goals try simp only[bne,Bool.not_eq_true',Bool.not_eq_false',Bool.not_not] at*
 all_goals first
  |((exact hc);done)
  |((exact hl (by assumption));done)
  |(refine ret_with [] ?_;simp only[↓eB,seval,go_sem,bne,yr_qisKind,kdB,tk];first|done|(simp only[*,if_true,if_false,Bool.false_eq_true,Bool.true_or,Bool.or_true,Bool.false_or,Bool.or_false,Bool.and_false,Bool.false_and,Bool.true_and,Bool.and_true,Bool.not_true,Bool.not_false,Bool.or_self,Bool.and_self,Int.reduceEq,Int.reduceNeg,Nat.reduceEqDiff,reduceCtorEq,dec_T,dec_F,leC_same,leC_nil,and_self,↓reduceIte];done)|(simp_all [kdB,tk];done))
  |omega
  |(simp only[decide_eq_true_eq,decide_eq_false_iff_not]at *;omega)
  |(simp_all [kdB,tk];done)
  |(simp_all [kdB,tk];omega)
  |trace_state
theorem yh_qisKind:∀p:(Pr×(Int×Unit)),okV ((fun p:(Pr×(Int×Unit))=>yr_qisKind p.1 p.2.1) p)=true:=by intro p;rfl
noncomputable def yp_qisKind {X:Ctx} {w0:World}:Sy.Spec Tryz.prog X w0:=specR 57 Tryz.call57 (ahS (cPt rPq) (ahS ((cInt .i64).H) ah0)) (fun p:(Pr×(Int×Unit))=>yc_qisKind p.1 p.2.1) (fun p:(Pr×(Int×Unit))=>yr_qisKind p.1 p.2.1) yh_qisKind y_qisKind
end Go.Proofs.YtlaggppdgoknjaaGreatDoor
