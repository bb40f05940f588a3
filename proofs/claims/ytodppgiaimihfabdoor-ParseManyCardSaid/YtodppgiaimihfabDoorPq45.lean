/- The program's parser: what a number says. No conditions but those in each statement. -/
import Derived.Test.YtodppgiaimihfabDoorPq4
import Derived.Lib.AtoiErrMem
set_option linter.unusedVariables false
set_option linter.unusedSimpArgs false
namespace Go.Proofs.YtodppgiaimihfabDoor
open Go Go.Sy Go.RowKit
theorem c_ParseInt (s:List UInt8) (h:NumT s) (hm:s.length≤4096) (w:World):Calls Tryd.prog 39 #[.string (bs s),.int .i64 10,.int .i64 64] w fun e w'=>e= .returned (.tuple #[.int .i64 (numW s 0),.nilIface])∧Below w.heap.size w w':=by
 have e1:(bs s).data.toList=s:=by simp[bs]
 have e2:(bs s).size=s.length:=bs_size s
 refine(Any.strconv_ParseInt_10_at64_ok Tryd.laysC174 (bs s) (by omega) (numW s 0) (by rw[e1];exact num_ok h) w).mono ?_
 rintro e w' ⟨h1,h2⟩
 refine⟨h1,?_⟩
 rcases h2 with rfl|⟨t,rfl⟩
 ·exact Below.refl _ _
 ·exact Lib.bytesWorld_below _ _ _
theorem f_ParseInt (p:List UInt8×Int×Int×Unit) (w:World) (hc:NumT p.1∧p.1.length≤4096∧p.2.1=10∧p.2.2.1=64):Calls Tryd.prog 39 #[.string (bs p.1),.int .i64 p.2.1,.int .i64 p.2.2.1] w fun e w'=>e= .returned (.tuple #[.int .i64 (numW p.1 0),.nilIface])∧Below w.heap.size w w':=by
 obtain⟨s,b,k,u⟩:=p
 obtain⟨h1,h2,h3,h4⟩:=hc
 dsimp only at h1 h2 h3 h4 ⊢
 subst h3 h4
 exact c_ParseInt s h1 h2 w
abbrev yc_ParseInt (s:List UInt8) (b:Int) (k:Int):Prop:=NumT s∧s.length≤4096∧b=10∧k=64
abbrev yr_ParseInt (s:List UInt8) (b:Int) (k:Int):SV:=SV.tup [.inl (.v (.int .i64 (numW s 0))),.inl (.v .nilIface)]
theorem y_ParseInt:CallsY Tryd.prog 39 (acS (cStr) (acS (cInt .i64) (acS (cInt .i64) ac0))) (fun p:(List UInt8×(Int×(Int×Unit)))=>yc_ParseInt p.1 p.2.1 p.2.2.1) (fun p:(List UInt8×(Int×(Int×Unit)))=>yr_ParseInt p.1 p.2.1 p.2.2.1):=of_plainT _ _ _ (fun p=>[.string (bs p.1),.int .i64 p.2.1,.int .i64 p.2.2.1]) (fun p=>.tuple #[.int .i64 (numW p.1 0),.nilIface]) (fun _=>rfl) (fun _=>rfl) (fun _=>rfl) f_ParseInt
theorem yn_ParseInt:∀p:(List UInt8×(Int×(Int×Unit))),((fun p:(List UInt8×(Int×(Int×Unit)))=>yr_ParseInt p.1 p.2.1 p.2.2.1) p).names=[]:=by intro p;first|rfl|simp[SV.names,C.names]
noncomputable def yp_ParseInt {X:Ctx} {w0:World}:Sy.Spec Tryd.prog X w0:=specD 39 Tryd.call39 (acS (cStr) (acS (cInt .i64) (acS (cInt .i64) ac0))) (fun p:(List UInt8×(Int×(Int×Unit)))=>yc_ParseInt p.1 p.2.1 p.2.2.1) (fun p:(List UInt8×(Int×(Int×Unit)))=>yr_ParseInt p.1 p.2.1 p.2.2.1) yn_ParseInt y_ParseInt
theorem kd_num {p:Pr} (h:okQ p) (hk:kdB 1 p=true):ahT 0 p=(tk p).t∧NumT (tk p).t∧(tk p).t.length≤4096∧p.i<(p.l.length:Int)∧((tk p).k==1)=true:=by
 unfold kdB at hk
 simp only[Bool.and_eq_true,Bool.not_eq_true']at hk
 have hlt:=end_f h.i hk.1
 obtain⟨h1,h2,h3⟩:=h.i
 have e1:w64i (p.i+0)=p.i:=by unfold w64i;rw[wrap_i64 (by omega) (by omega)];omega
 have hm:=tk_in h.i hlt
 refine⟨?_,(h.l _ hm).1 (by simpa using hk.2),h.ok.2.2.2.2.2 _ hm,hlt,hk.2⟩
 unfold ahT
 rw[e1,if_neg (by simp;omega)];rfl
abbrev yc_qvalue (p:Pr):Prop:=okQ p∧kdB 1 p=true
abbrev yr_qvalue (p:Pr):Value:=Value.int .i64 (numW (tk p).t 0)
theorem y_qvalue:CallsR Tryd.prog 31 (ahS (cPt rPq) ah0) (fun p:(Pr×Unit)=>yc_qvalue p.1) (fun p:(Pr×Unit)=>ofV (yr_qvalue p.1)):=by
 rintro ⟨p,_u⟩ w fz xs hc hfz hl hx
 refine calls_toRL Tryd.func31 rfl w fz [yp_qahead,yp_ParseInt] [] (ahS (cPt rPq) ah0) (fun p:(Pr×Unit)=>ofV (yr_qvalue p.1)) _ xs hfz hl hx (Nat.le_of_ble_eq_true rfl) ?_
 clear hx hl hfz xs
 simp only[Tryd.f31]
 obtain⟨hq,hk⟩:=hc;have hI:=hq.i;obtain⟨e1,e2,e3,e4,e5⟩:=kd_num hq hk
 all_goals simp only[↓eB,seval,go_sem,yp_qahead,yp_ParseInt,cPt_e,cPt_d,rPq_e,rPq_z,Pr.s,tkq_at,Tok.r,zTk,ptR,rPq_d',pr_eta,yr_qahead,yr_ParseInt,yc_ParseInt,e1,e2,e3]
 try simp only[impB,impN]
 repeat' first|exact ck|with_reducible apply And.intro|intro _
 all_goals first|exact hI|exact e2|exact e3|(rename_i h;first|exact oI h|exact nah h)|(rename_i _ h _ g;exact sL h g)|decide|omega|(refine ret_with [] ?_;simp only[↓eB,seval,go_sem,bne,yr_qvalue])
theorem yh_qvalue:∀p:(Pr×Unit),okV ((fun p:(Pr×Unit)=>yr_qvalue p.1) p)=true:=by intro p;rfl
noncomputable def yp_qvalue {X:Ctx} {w0:World}:Sy.Spec Tryd.prog X w0:=specR 31 Tryd.call31 (ahS (cPt rPq) ah0) (fun p:(Pr×Unit)=>yc_qvalue p.1) (fun p:(Pr×Unit)=>yr_qvalue p.1) yh_qvalue y_qvalue
end Go.Proofs.YtodppgiaimihfabDoor
