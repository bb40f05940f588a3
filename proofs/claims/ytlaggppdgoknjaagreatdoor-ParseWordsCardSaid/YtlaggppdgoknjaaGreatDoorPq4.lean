/- The program's parser: names, failures, opening and closing. No conditions but those in each statement. -/
import Derived.Test.YtlaggppdgoknjaaGreatDoorPq3
set_option linter.unusedVariables false
set_option linter.unusedSimpArgs false
namespace Go.Proofs.YtlaggppdgoknjaaGreatDoor
open Go Go.Sy Go.RowKit
theorem nameB_k {p:Pr} (h:okQ p):nameB p=(kdB 0 p&&!wordB (ahT 0 p)):=by
 obtain⟨h1,h2,h3⟩:=h.i
 have e1:w64i (p.i+0)=p.i:=by unfold w64i;rw[wrap_i64 (by omega) (by omega)];omega
 unfold nameB kdB endB ahT
 rw[e1,h.e]
 cases hd:(p.i==(p.l.length:Int)) with
 |true=>
  have:p.i=(p.l.length:Int):=by simpa using hd
  simp[this]
 |false=>
  have h4:¬p.i=(p.l.length:Int):=by simpa using hd
  have h5:p.i<(p.l.length:Int):=by omega
  have h6:decide ((p.l.length:Int)≤p.i)=false:=by simp;omega
  rw[h6,if_neg (by decide)]
  simp[h5,tkA,tk]
theorem wd_t {t w:List UInt8} (h:(t==w)=true) (hw:wordB w=true):wordB t=true:=by
 have:t=w:=by simpa using h
 rw[this];exact hw
theorem wd_f {t:List UInt8} (h:∀w∈wrds,(t==w)=false):wordB t=false:=by
 cases hb:wordB t with
 |false=>rfl
 |true=>
  unfold wordB at hb
  rw[List.any_eq_true]at hb
  obtain⟨w,hw,he⟩:=hb
  have e:w=t:=by simpa using he
  subst e
  have:=h w hw
  simp at this
abbrev yc_qisName (p:Pr):Prop:=okQ p
abbrev yr_qisName (p:Pr):Value:=Value.bool (nameB p)
attribute [local go_sem] Tok.r cPt_d pr_eta ptR rPq_d' tkq_at zTk
theorem y_qisName:CallsR Tryz.prog 61 (ahS (cPt rPq) ah0) (fun p:(Pr×Unit)=>yc_qisName p.1) (fun p:(Pr×Unit)=>ofV (yr_qisName p.1)):=by
 rintro ⟨p,_u⟩ w fz xs hc hfz hl hx
 refine calls_toRL Tryz.func61 rfl w fz [yp_qisKind,yp_qahead] [] (ahS (cPt rPq) ah0) (fun p:(Pr×Unit)=>ofV (yr_qisName p.1)) _ xs hfz hl hx (Nat.le_of_ble_eq_true rfl) ?_
 clear hx hl hfz xs
 simp only[Tryz.f61]
 have hI:=hc.i
 have e1:=nameB_k hc
 cases hk:kdB 0 p with
 |false=>
  have hb:nameB p=false:=by rw[e1,hk];rfl
  simp only[↓eB,seval,go_sem,yp_qisKind,yr_qisKind,yp_qahead,yr_qahead,cPt_e,rPq_e,rPq_z,Pr.s,hk]
  try simp only[impB,impN]
  repeat' first|exact ck|with_reducible apply And.intro|intro _
  all_goals first|exact hI|(rename_i h;first|exact oI h|exact nah h)|(rename_i _ h _ g;exact sL h g)|decide|omega|(refine ret_with [] ?_;simp only[↓eB,seval,go_sem,bne,yr_qisName,hb])
 |true=>
 rw[hk,Bool.true_and]at e1
 simp only[↓eB,seval,go_sem,yp_qisKind,yr_qisKind,yp_qahead,yr_qahead,cPt_e,rPq_e,rPq_z,Pr.s,hk]
 try simp only[impB,impN]
 repeat' first|exact ck|with_reducible apply And.intro|intro _
 all_goals first
  |exact hI
  |decide
  |(rename_i h1 h2;rw[h1]at h2;cases h2;done)
  |(rename_i h1 _ h2;rw[h1]at h2;cases h2;done)
  |(clear e1;simp_all;done)
  |(
   have hb:nameB p=false:=by rw[e1,wd_t (by assumption) rfl];rfl
   refine ret_with [] ?_;simp only[↓eB,seval,go_sem,bne,yr_qisName,hb];done)
  |(
   have hb:nameB p=true:=by rw[e1,wd_f (by intro w hw;simp only[wrds,List.mem_cons,List.not_mem_nil,or_false]at hw;rcases hw with rfl|rfl|rfl|rfl|rfl|rfl|rfl|rfl|rfl|rfl|rfl<;>assumption)];rfl
   refine ret_with [] ?_;simp only[↓eB,seval,go_sem,bne,yr_qisName,hb];done)
theorem yh_qisName:∀p:(Pr×Unit),okV ((fun p:(Pr×Unit)=>yr_qisName p.1) p)=true:=by intro p;rfl
noncomputable def yp_qisName {X:Ctx} {w0:World}:Sy.Spec Tryz.prog X w0:=specR 61 Tryz.call61 (ahS (cPt rPq) ah0) (fun p:(Pr×Unit)=>yc_qisName p.1) (fun p:(Pr×Unit)=>yr_qisName p.1) yh_qisName y_qisName
theorem failP_plc {c:Int} {p:Pr} (h:okQ p):(failP c p).at'=plcI p∧(failP c p).e=c:=by
 obtain⟨e1,e2⟩:=failP_x (c:=c) h.e
 refine⟨?_,e2⟩
 rw[e1]
 obtain⟨h1,h2,h3⟩:=h.i
 unfold plcI endB
 by_cases hl:p.i<(p.l.length:Int)
 ·rw[if_pos (by simpa using hl),if_neg (by simp;omega)]
 ·rw[if_neg (by simpa using hl),if_pos (by simp;omega)]
theorem failP_w {c:Int} {p:Pr} (h:okQ p) (hc:c≠0):(failP c p).w=(zPq,[[.any,.any,.any,.any,.any,.v (.int .i64 (plcI p)),.v (.int .i64 c)]])∧(failP c p).b=true:=by
 obtain⟨f1,f2⟩:=failP_plc (c:=c) h
 have h0:((failP c p).e==0)=false:=by rw[f2];simpa using hc
 refine⟨?_,b_f h0⟩
 rw[w_f h0];unfold Pr.x;rw[f1,f2]
abbrev yc_qfail (p:Pr) (e:Int):Prop:=okQ p∧e≠0
abbrev yb_qfail (p:Pr) (e:Int):Bool:=(failP e p).b
abbrev yr_qfail (p:Pr) (e:Int):SV:=.tup []
abbrev yv_qfail (p:Pr) (e:Int):MV:=(failP e p).w
noncomputable abbrev ya_qfail:ArgM ((Pr)×(Int)×Unit):=(amP (mPq) (amD (cInt .i64) am0))
abbrev yq_qfail:Prop:=CallsMP Tryz.prog 53 ((ya_qfail).args 0) (ya_qfail).mem (fun p:(Pr)×(Int)×Unit=>yc_qfail p.1 p.2.1) (fun p:(Pr)×(Int)×Unit=>yb_qfail p.1 p.2.1) (fun p:(Pr)×(Int)×Unit=>yr_qfail p.1 p.2.1) (fun p:(Pr)×(Int)×Unit=>[some (yv_qfail p.1 p.2.1)])
theorem yl_qfail:∀p,(fun p:(Pr)×(Int)×Unit=>yc_qfail p.1 p.2.1) p→((fun p:(Pr)×(Int)×Unit=>[some (yv_qfail p.1 p.2.1)]) p).length=((ya_qfail).mem p).length:=by intro p _;rfl
theorem yo_qfail:∀p,(fun p:(Pr)×(Int)×Unit=>yc_qfail p.1 p.2.1) p→outV ((fun p:(Pr)×(Int)×Unit=>[some (yv_qfail p.1 p.2.1)]) p).length ((fun p:(Pr)×(Int)×Unit=>yr_qfail p.1 p.2.1) p)=true:=by intro p _;first|rfl|exact ex_out _ _|exact cd_out _ _|(simp[outV,outC,ex_out,cd_out];done)
theorem yn_qfail:∀p,(fun p:(Pr)×(Int)×Unit=>yc_qfail p.1 p.2.1) p→∀q,some q∈(fun p:(Pr)×(Int)×Unit=>[some (yv_qfail p.1 p.2.1)]) p→∀r∈q.2,∀c∈r,c.names=[]:=by intro p _;exact memw_nm _
theorem y_qfail:yq_qfail:=by
 rintro ⟨p,e,_u⟩ w M I lab fz xs hc hA hl hx
 refine calls_toMP Tryz.func53 rfl _ w M I lab fz (yb_qfail p e) (yv_qfail p e) [yp_qplace] [] ((ya_qfail).args 0 ⟨p,e,_u⟩) (yr_qfail p e) xs hA hl hx (fun v hv k hk=>Nat.lt_of_lt_of_eq ((ya_qfail).an 0 ⟨p,e,_u⟩ v hv k hk).2 (Nat.zero_add _)) (Nat.le_of_ble_eq_true rfl) (yn_qfail ⟨p,e,_u⟩ hc _ (List.mem_singleton.2 rfl)) ?_
 clear hx hl hA xs
 simp only[Tryz.f53]
 obtain⟨hq,he⟩:=hc
 dsimp only at hq he
 have hI:=hq.i
 obtain⟨f1,f2⟩:=failP_w hq he
 simp only[↓eB,seval,go_sem,yp_qplace,yr_qplace,mPq_e,mPq_z,mPq_d,Pr.q,rPq_d,mPq_d',pnOf_t,yb_qfail,yv_qfail,f1,f2]
 try simp only[impB,impN]
 repeat' first|exact ck|with_reducible apply And.intro|intro _
 all_goals first|exact hI|(rename_i h;first|exact oI h|exact nah h)|(rename_i _ h _ g;exact sL h g)|decide|omega|(refine ret_with [] ?_;simp only[↓eB,seval,go_sem,bne,yr_qfail,yb_qfail,yv_qfail,e_RESMP])
noncomputable def yp_qfail {X:Ctx} {w0:World}:Sy.Spec Tryz.prog X w0:=specMP 53 Tryz.call53 (ya_qfail) (fun p:(Pr)×(Int)×Unit=>yc_qfail p.1 p.2.1) (fun p:(Pr)×(Int)×Unit=>yb_qfail p.1 p.2.1) (fun p:(Pr)×(Int)×Unit=>yr_qfail p.1 p.2.1) (fun p:(Pr)×(Int)×Unit=>[some (yv_qfail p.1 p.2.1)]) yl_qfail yo_qfail yn_qfail y_qfail
def nedP (f:Bool) (p:Pr):Pr:=if f=true then p else failP 51 p
theorem ned_f {p:Pr}:nedP false p=failP 51 p:=rfl
theorem ned_t {p:Pr}:nedP true p=p:=rfl
abbrev yc_qneed (p:Pr) (f:Bool):Prop:=okQ p
abbrev yb_qneed (p:Pr) (f:Bool):Bool:=(nedP f p).b
abbrev yr_qneed (p:Pr) (f:Bool):SV:=.tup []
abbrev yv_qneed (p:Pr) (f:Bool):MV:=(nedP f p).w
noncomputable abbrev ya_qneed:ArgM ((Pr)×(Bool)×Unit):=(amP (mPq) (amD (cBool) am0))
abbrev yq_qneed:Prop:=CallsMP Tryz.prog 23 ((ya_qneed).args 0) (ya_qneed).mem (fun p:(Pr)×(Bool)×Unit=>yc_qneed p.1 p.2.1) (fun p:(Pr)×(Bool)×Unit=>yb_qneed p.1 p.2.1) (fun p:(Pr)×(Bool)×Unit=>yr_qneed p.1 p.2.1) (fun p:(Pr)×(Bool)×Unit=>[some (yv_qneed p.1 p.2.1)])
theorem yl_qneed:∀p,(fun p:(Pr)×(Bool)×Unit=>yc_qneed p.1 p.2.1) p→((fun p:(Pr)×(Bool)×Unit=>[some (yv_qneed p.1 p.2.1)]) p).length=((ya_qneed).mem p).length:=by intro p _;rfl
theorem yo_qneed:∀p,(fun p:(Pr)×(Bool)×Unit=>yc_qneed p.1 p.2.1) p→outV ((fun p:(Pr)×(Bool)×Unit=>[some (yv_qneed p.1 p.2.1)]) p).length ((fun p:(Pr)×(Bool)×Unit=>yr_qneed p.1 p.2.1) p)=true:=by intro p _;first|rfl|exact ex_out _ _|exact cd_out _ _|(simp[outV,outC,ex_out,cd_out];done)
theorem yn_qneed:∀p,(fun p:(Pr)×(Bool)×Unit=>yc_qneed p.1 p.2.1) p→∀q,some q∈(fun p:(Pr)×(Bool)×Unit=>[some (yv_qneed p.1 p.2.1)]) p→∀r∈q.2,∀c∈r,c.names=[]:=by intro p _;exact memw_nm _
theorem y_qneed:yq_qneed:=by
 rintro ⟨p,f,_u⟩ w M I lab fz xs hc hA hl hx
 refine calls_toMP Tryz.func23 rfl _ w M I lab fz (yb_qneed p f) (yv_qneed p f) [yp_qfail] [] ((ya_qneed).args 0 ⟨p,f,_u⟩) (yr_qneed p f) xs hA hl hx (fun v hv k hk=>Nat.lt_of_lt_of_eq ((ya_qneed).an 0 ⟨p,f,_u⟩ v hv k hk).2 (Nat.zero_add _)) (Nat.le_of_ble_eq_true rfl) (yn_qneed ⟨p,f,_u⟩ hc _ (List.mem_singleton.2 rfl)) ?_
 clear hx hl hA xs
 simp only[Tryz.f23]
 have hq:okQ p:=hc
 have hn:(51:Int)≠0:=by decide
 cases f with
 |false=>
  obtain⟨f1,f2⟩:=failP_w (c:=51) hq (by decide)
  simp only[↓eB,seval,go_sem,yp_qfail,yb_qfail,yv_qfail,mPq_e,mPq_z,mPq_d,Pr.q,rPq_d,mPq_d',pnOf_t,yb_qneed,yv_qneed,ned_f,f1,f2]
  try simp only[impB,impN]
  repeat' first|exact ck|with_reducible apply And.intro|intro _
  all_goals first|exact hq|exact hn|(rename_i h;first|exact oI h|exact nah h)|(rename_i _ h _ g;exact sL h g)|decide|omega|(refine ret_with [] ?_;simp only[↓eB,seval,go_sem,bne,yr_qneed,yb_qneed,yv_qneed,e_RESMP,ned_f,f1,f2])
 |true=>
  have g1:=w_t hc.e'
  have g2:=b_t hc.e'
  simp only[↓eB,seval,go_sem,yp_qfail,yb_qfail,yv_qfail,mPq_e,mPq_z,mPq_d,Pr.q,rPq_d,mPq_d',pnOf_f,yb_qneed,yv_qneed,ned_t,g1,g2]
  try simp only[impB,impN]
  repeat' first|exact ck|with_reducible apply And.intro|intro _
  all_goals first|exact hq|(rename_i h;first|exact oI h|exact nah h)|(rename_i _ h _ g;exact sL h g)|decide|omega|(refine ret_with [] ?_;simp only[↓eB,seval,go_sem,bne,yr_qneed,yb_qneed,yv_qneed,e_RESMP,ned_t,g1,g2,Pr.q,Pr.x])
noncomputable def yp_qneed {X:Ctx} {w0:World}:Sy.Spec Tryz.prog X w0:=specMP 23 Tryz.call23 (ya_qneed) (fun p:(Pr)×(Bool)×Unit=>yc_qneed p.1 p.2.1) (fun p:(Pr)×(Bool)×Unit=>yb_qneed p.1 p.2.1) (fun p:(Pr)×(Bool)×Unit=>yr_qneed p.1 p.2.1) (fun p:(Pr)×(Bool)×Unit=>[some (yv_qneed p.1 p.2.1)]) yl_qneed yo_qneed yn_qneed y_qneed
end Go.Proofs.YtlaggppdgoknjaaGreatDoor
