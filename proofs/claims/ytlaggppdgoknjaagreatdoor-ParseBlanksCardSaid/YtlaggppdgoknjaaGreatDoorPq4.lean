/- The program's parser: names, failures, opening and closing. No conditions but those in each statement. -/
import Derived.Test.YtlaggppdgoknjaaGreatDoorSy33
import Derived.Test.YtlaggppdgoknjaaGreatDoorCx3
set_option linter.unusedVariables false
set_option linter.unusedSimpArgs false
namespace Go.Proofs.YtlaggppdgoknjaaGreatDoor
open Go Go.Sy Go.RowKit
theorem nameB_k {p:Pr} (h:okQ p):nameB p=(kdB 0 p&&!wordB (ahT 0 p)):=by
 obtain⟨h1,h2,h3⟩:=h.i
 have e1:w64i (p.i+0)=p.i:=by unfold w64i;rw[wrap_i64 (by omega) (by omega)];omega
 unfold nameB kdB endB ahT
 rw[e1,h.e]
 cases hd:(p.i==(p.l.length:Int)) with
 |true=>
  have:p.i=(p.l.length:Int):=by simpa using hd
  simp[this]
 |false=>
  have h4:¬p.i=(p.l.length:Int):=by simpa using hd
  have h5:p.i<(p.l.length:Int):=by omega
  have h6:decide ((p.l.length:Int)≤p.i)=false:=by simp;omega
  rw[h6,if_neg (by decide)]
  simp[h5,tkA,tk]
theorem wd_t {t w:List UInt8} (h:(t==w)=true) (hw:wordB w=true):wordB t=true:=by
 have:t=w:=by simpa using h
 rw[this];exact hw
theorem wd_f {t:List UInt8} (h:∀w∈wrds,(t==w)=false):wordB t=false:=by
 cases hb:wordB t with
 |false=>rfl
 |true=>
  unfold wordB at hb
  rw[List.any_eq_true]at hb
  obtain⟨w,hw,he⟩:=hb
  have e:w=t:=by simpa using he
  subst e
  have:=h w hw
  simp at this
abbrev yc_qisName (p:Pr):Prop:=okQ p
abbrev yr_qisName (p:Pr):Value:=Value.bool (nameB p)
attribute [local go_sem] Pr.q Pr.s Tok.r cPt_d cPt_e mPq_d mPq_d' mPq_e mPq_z pnOf_f pnOf_t pr_eta ptR rPq_d rPq_d' rPq_e rPq_z tkq_at yp_qahead yp_qisKind yp_qplace yr_qahead yr_qisKind yr_qplace zTk
theorem y_qisName:CallsR Tryz.prog 61 (ahS (cPt rPq) ah0) (fun p:(Pr×Unit)=>yc_qisName p.1) (fun p:(Pr×Unit)=>ofV (yr_qisName p.1)):=by
 rintro ⟨p,_u⟩ w fz xs hc hfz hl hx
 refine calls_toRL Tryz.func61 rfl w fz [yp_qisKind,yp_qahead] [] (ahS (cPt rPq) ah0) (fun p:(Pr×Unit)=>ofV (yr_qisName p.1)) _ xs hfz hl hx (Nat.le_of_ble_eq_true rfl) ?_
 clear hx hl hfz xs
 simp only[Tryz.f61]
 have hI:=hc.i
 have e1:=nameB_k hc
 cases hk:kdB 0 p with
 |false=>
  have hb:nameB p=false:=by rw[e1,hk];rfl
  simp only[↓eB,seval,go_sem,hk]
  try simp only[impB,impN]
  repeat' first|exact ck|with_reducible apply And.intro|intro _
  all_goals first|exact hI|(rename_i h;first|exact oI h|exact nah h)|(rename_i _ h _ g;exact sL h g)|decide|omega|(refine ret_with [] ?_;simp only[↓eB,seval,go_sem,bne,yr_qisName,hb])
 |true=>
 rw[hk,Bool.true_and]at e1
 simp only[↓eB,seval,go_sem,hk]
 try simp only[impB,impN]
 repeat' first|exact ck|with_reducible apply And.intro|intro _
 all_goals first
  |exact hI
  |decide
  |(rename_i h1 h2;rw[h1]at h2;cases h2;done)
  |(rename_i h1 _ h2;rw[h1]at h2;cases h2;done)
  |(clear e1;simp_all;done)
  |(
   have hb:nameB p=false:=by rw[e1,wd_t (by assumption) rfl];rfl
   refine ret_with [] ?_;simp only[↓eB,seval,go_sem,bne,yr_qisName,hb];done)
  |(
   have hb:nameB p=true:=by rw[e1,wd_f (by intro w hw;simp only[wrds,List.mem_cons,List.not_mem_nil,or_false]at hw;rcases hw with rfl|rfl|rfl|rfl|rfl|rfl|rfl|rfl|rfl|rfl|rfl<;>assumption)];rfl
   refine ret_with [] ?_;simp only[↓eB,seval,go_sem,bne,yr_qisName,hb];done)
theorem yh_qisName:∀p:(Pr×Unit),okV ((fun p:(Pr×Unit)=>yr_qisName p.1) p)=true:=by intro p;rfl
noncomputable def yp_qisName {X:Ctx} {w0:World}:Sy.Spec Tryz.prog X w0:=specR 61 Tryz.call61 (ahS (cPt rPq) ah0) (fun p:(Pr×Unit)=>yc_qisName p.1) (fun p:(Pr×Unit)=>yr_qisName p.1) yh_qisName y_qisName
theorem failP_plc {c:Int} {p:Pr} (h:okQ p):(failP c p).at'=plcI p∧(failP c p).e=c:=by
 obtain⟨e1,e2⟩:=failP_x (c:=c) h.e
 refine⟨?_,e2⟩
 rw[e1]
 obtain⟨h1,h2,h3⟩:=h.i
 unfold plcI endB
 by_cases hl:p.i<(p.l.length:Int)
 ·rw[if_pos (by simpa using hl),if_neg (by simp;omega)]
 ·rw[if_neg (by simpa using hl),if_pos (by simp;omega)]
theorem failP_w {c:Int} {p:Pr} (h:okQ p) (hc:c≠0):(failP c p).w=(zPq,[[.any,.any,.any,.any,.any,.v (.int .i64 (plcI p)),.v (.int .i64 c)]])∧(failP c p).b=true:=by
 obtain⟨f1,f2⟩:=failP_plc (c:=c) h
 have h0:((failP c p).e==0)=false:=by rw[f2];simpa using hc
 refine⟨?_,b_f h0⟩
 rw[w_f h0];unfold Pr.x;rw[f1,f2]
abbrev yc_qfail (p:Pr) (e:Int):Prop:=okQ p∧e≠0
abbrev yb_qfail (p:Pr) (e:Int):Bool:=(failP e p).b
abbrev yr_qfail (p:Pr) (e:Int):SV:=.tup []
abbrev yv_qfail (p:Pr) (e:Int):MV:=(failP e p).w
noncomputable abbrev ya_qfail:ArgM ((Pr)×(Int)×Unit):=(amP (mPq) (amD (cInt .i64) am0))
abbrev yq_qfail:Prop:=CallsMP Tryz.prog 53 ((ya_qfail).args 0) (ya_qfail).mem (fun p:(Pr)×(Int)×Unit=>yc_qfail p.1 p.2.1) (fun p:(Pr)×(Int)×Unit=>yb_qfail p.1 p.2.1) (fun p:(Pr)×(Int)×Unit=>yr_qfail p.1 p.2.1) (fun p:(Pr)×(Int)×Unit=>[some (yv_qfail p.1 p.2.1)])
theorem yl_qfail:∀p,(fun p:(Pr)×(Int)×Unit=>yc_qfail p.1 p.2.1) p→((fun p:(Pr)×(Int)×Unit=>[some (yv_qfail p.1 p.2.1)]) p).length=((ya_qfail).mem p).length:=by intro p _;rfl
theorem yo_qfail:∀p,(fun p:(Pr)×(Int)×Unit=>yc_qfail p.1 p.2.1) p→outV ((fun p:(Pr)×(Int)×Unit=>[some (yv_qfail p.1 p.2.1)]) p).length ((fun p:(Pr)×(Int)×Unit=>yr_qfail p.1 p.2.1) p)=true:=by intro p _;first|rfl|exact ex_out _ _|exact cd_out _ _|(simp[outV,outC,ex_out,cd_out];done)
theorem yn_qfail:∀p,(fun p:(Pr)×(Int)×Unit=>yc_qfail p.1 p.2.1) p→∀q,some q∈(fun p:(Pr)×(Int)×Unit=>[some (yv_qfail p.1 p.2.1)]) p→∀r∈q.2,∀c∈r,c.names=[]:=by intro p _;exact memw_nm _
theorem y_qfail:yq_qfail:=by
 rintro ⟨p,e,_u⟩ w M I lab fz xs hc hA hl hx
 refine calls_toMP Tryz.func53 rfl _ w M I lab fz (yb_qfail p e) (yv_qfail p e) [yp_qplace] [] ((ya_qfail).args 0 ⟨p,e,_u⟩) (yr_qfail p e) xs hA hl hx (fun v hv k hk=>Nat.lt_of_lt_of_eq ((ya_qfail).an 0 ⟨p,e,_u⟩ v hv k hk).2 (Nat.zero_add _)) (Nat.le_of_ble_eq_true rfl) (yn_qfail ⟨p,e,_u⟩ hc _ (List.mem_singleton.2 rfl)) ?_
 clear hx hl hA xs
 simp only[Tryz.f53]
 obtain⟨hq,he⟩:=hc
 dsimp only at hq he
 have hI:=hq.i
 obtain⟨f1,f2⟩:=failP_w hq he
 simp only[↓eB,seval,go_sem,yb_qfail,yv_qfail,f1,f2]
 try simp only[impB,impN]
 repeat' first|exact ck|with_reducible apply And.intro|intro _
 all_goals first|exact hI|(rename_i h;first|exact oI h|exact nah h)|(rename_i _ h _ g;exact sL h g)|decide|omega|(refine ret_with [] ?_;simp only[↓eB,seval,go_sem,bne,yr_qfail,yb_qfail,yv_qfail,e_RESMP])
noncomputable def yp_qfail {X:Ctx} {w0:World}:Sy.Spec Tryz.prog X w0:=specMP 53 Tryz.call53 (ya_qfail) (fun p:(Pr)×(Int)×Unit=>yc_qfail p.1 p.2.1) (fun p:(Pr)×(Int)×Unit=>yb_qfail p.1 p.2.1) (fun p:(Pr)×(Int)×Unit=>yr_qfail p.1 p.2.1) (fun p:(Pr)×(Int)×Unit=>[some (yv_qfail p.1 p.2.1)]) yl_qfail yo_qfail yn_qfail y_qfail
def nedP (f:Bool) (p:Pr):Pr:=if f=true then p else failP 51 p
theorem ned_f {p:Pr}:nedP false p=failP 51 p:=rfl
theorem ned_t {p:Pr}:nedP true p=p:=rfl
abbrev yc_qneed (p:Pr) (f:Bool):Prop:=okQ p
abbrev yb_qneed (p:Pr) (f:Bool):Bool:=(nedP f p).b
abbrev yr_qneed (p:Pr) (f:Bool):SV:=.tup []
abbrev yv_qneed (p:Pr) (f:Bool):MV:=(nedP f p).w
noncomputable abbrev ya_qneed:ArgM ((Pr)×(Bool)×Unit):=(amP (mPq) (amD (cBool) am0))
abbrev yq_qneed:Prop:=CallsMP Tryz.prog 23 ((ya_qneed).args 0) (ya_qneed).mem (fun p:(Pr)×(Bool)×Unit=>yc_qneed p.1 p.2.1) (fun p:(Pr)×(Bool)×Unit=>yb_qneed p.1 p.2.1) (fun p:(Pr)×(Bool)×Unit=>yr_qneed p.1 p.2.1) (fun p:(Pr)×(Bool)×Unit=>[some (yv_qneed p.1 p.2.1)])
theorem yl_qneed:∀p,(fun p:(Pr)×(Bool)×Unit=>yc_qneed p.1 p.2.1) p→((fun p:(Pr)×(Bool)×Unit=>[some (yv_qneed p.1 p.2.1)]) p).length=((ya_qneed).mem p).length:=by intro p _;rfl
theorem yo_qneed:∀p,(fun p:(Pr)×(Bool)×Unit=>yc_qneed p.1 p.2.1) p→outV ((fun p:(Pr)×(Bool)×Unit=>[some (yv_qneed p.1 p.2.1)]) p).length ((fun p:(Pr)×(Bool)×Unit=>yr_qneed p.1 p.2.1) p)=true:=by intro p _;first|rfl|exact ex_out _ _|exact cd_out _ _|(simp[outV,outC,ex_out,cd_out];done)
theorem yn_qneed:∀p,(fun p:(Pr)×(Bool)×Unit=>yc_qneed p.1 p.2.1) p→∀q,some q∈(fun p:(Pr)×(Bool)×Unit=>[some (yv_qneed p.1 p.2.1)]) p→∀r∈q.2,∀c∈r,c.names=[]:=by intro p _;exact memw_nm _
theorem y_qneed:yq_qneed:=by
 rintro ⟨p,f,_u⟩ w M I lab fz xs hc hA hl hx
 refine calls_toMP Tryz.func23 rfl _ w M I lab fz (yb_qneed p f) (yv_qneed p f) [yp_qfail] [] ((ya_qneed).args 0 ⟨p,f,_u⟩) (yr_qneed p f) xs hA hl hx (fun v hv k hk=>Nat.lt_of_lt_of_eq ((ya_qneed).an 0 ⟨p,f,_u⟩ v hv k hk).2 (Nat.zero_add _)) (Nat.le_of_ble_eq_true rfl) (yn_qneed ⟨p,f,_u⟩ hc _ (List.mem_singleton.2 rfl)) ?_
 clear hx hl hA xs
 simp only[Tryz.f23]
 have hq:okQ p:=hc
 have hn:(51:Int)≠0:=by decide
 cases f with
 |false=>
  obtain⟨f1,f2⟩:=failP_w (c:=51) hq (by decide)
  simp only[↓eB,seval,go_sem,yp_qfail,yb_qfail,yv_qfail,yb_qneed,yv_qneed,ned_f,f1,f2]
  try simp only[impB,impN]
  repeat' first|exact ck|with_reducible apply And.intro|intro _
  all_goals first|exact hq|exact hn|(rename_i h;first|exact oI h|exact nah h)|(rename_i _ h _ g;exact sL h g)|decide|omega|(refine ret_with [] ?_;simp only[↓eB,seval,go_sem,bne,yr_qneed,yb_qneed,yv_qneed,e_RESMP,ned_f,f1,f2])
 |true=>
  have g1:=w_t hc.e'
  have g2:=b_t hc.e'
  simp only[↓eB,seval,go_sem,yp_qfail,yb_qfail,yv_qfail,yb_qneed,yv_qneed,ned_t,g1,g2]
  try simp only[impB,impN]
  repeat' first|exact ck|with_reducible apply And.intro|intro _
  all_goals first|exact hq|(rename_i h;first|exact oI h|exact nah h)|(rename_i _ h _ g;exact sL h g)|decide|omega|(refine ret_with [] ?_;simp only[↓eB,seval,go_sem,bne,yr_qneed,yb_qneed,yv_qneed,e_RESMP,ned_t,g1,g2,Pr.x])
noncomputable def yp_qneed {X:Ctx} {w0:World}:Sy.Spec Tryz.prog X w0:=specMP 23 Tryz.call23 (ya_qneed) (fun p:(Pr)×(Bool)×Unit=>yc_qneed p.1 p.2.1) (fun p:(Pr)×(Bool)×Unit=>yb_qneed p.1 p.2.1) (fun p:(Pr)×(Bool)×Unit=>yr_qneed p.1 p.2.1) (fun p:(Pr)×(Bool)×Unit=>[some (yv_qneed p.1 p.2.1)]) yl_qneed yo_qneed yn_qneed y_qneed
end Go.Proofs.YtlaggppdgoknjaaGreatDoor
namespace Go.Proofs.YtlaggppdgoknjaaGreatDoor
open Go Go.Sy Go.RowKit
theorem wkC_self (c:C):wkC c c:=by cases c<;>first|exact trivial|exact rfl|exact .inl rfl|exact .inr rfl|simp[wkC]
theorem wkR_p:∀r:List C,wkR r r
 |[]=>trivial
 |c::r=>⟨wkC_self c,wkR_p r⟩
theorem wkR_self (r:List C):wkR r r=True:=eq_true (wkR_p r)
theorem go_w {p:Pr} (he:(p.e==0)=true):p.w=(zPq,[p.q])∧p.b=false:=⟨w_t he,b_t he⟩
theorem okQ.hn {p:Pr} (h:okQ p):0≤p.i:=h.ok.1
def opP (p:Pr):Pr:=if opnB p=true then adv (opnP p) else opnP p
theorem opP_t {p:Pr} (h:opnB p=true):opP p=adv (opnP p):=by unfold opP;rw[if_pos h]
theorem opP_f {p:Pr} (h:opnB p=false):opP p=opnP p:=by unfold opP;rw[if_neg (by rw[h];decide)]
theorem opn_52 {p:Pr} (h:okQ p) (hb:opnB p=false):opP p=failP 52 p∧(p.deep==40)=true:=by
 rw[opP_f hb]
 unfold opnB at hb
 unfold opnP
 rw[h.e']at hb ⊢
 simp only[Bool.true_and,Bool.not_eq_false',decide_eq_true_eq]at hb
 rw[if_pos rfl,if_pos (by simpa using hb)]
 have:=h.ok.2.2.2.2.1
 exact⟨rfl,by simp;omega⟩
theorem opn_40 {p:Pr} (h:okQ p) (hb:opnB p=true):(p.deep==40)=false∧IntKind.i64.wrap (p.deep+1)=p.deep+1∧opP p=adv { p with deep:=p.deep+1 }:=by
 obtain⟨h1,h2,h3⟩:=opn_e h.ok hb
 have h4:=h.ok.2.2.2.1
 refine⟨by simp;omega,wrap_i64 (by omega) (by omega),by rw[opP_t hb,h3]⟩
theorem opP_okQ {p:Pr} (h:okQ p) (hi:p.i<(p.l.length:Int)) (hb:opnB p=true):okQ (opP p):=by
 rw[opP_t hb]
 have h1:=opn_adv h.ok hb hi
 refine⟨h1.ok,?_,?_⟩
 ·show (opnP p).e=0
  rw[(opn_e h.ok hb).2.2];exact h.e
 ·show lexd (opnP p).l
  rw[(opn_e h.ok hb).2.2];exact h.l
def decP (n most:Int) (p:Pr):Pr:=if (nameB p&&decide (most≤n))=true then failP 53 p else namP p
theorem dec_nx {n most:Int} {p:Pr} (h:okP p):Nx p (decP n most p):=by
 unfold decP;split
 ·exact fail_nx 53 h
 ·exact nam_nx h
theorem nam_f {p:Pr} (hb:nameB p=false):namP p=failP 51 p:=by unfold namP;rw[if_neg (by rw[hb];decide)]
theorem nam_t {p:Pr} (hb:nameB p=true):namP p=adv p:=by unfold namP;rw[if_pos hb]
theorem wan_f {t:List UInt8} {p:Pr} (hb:isT t p=false):wanP t p=failP 51 p:=by unfold wanP;rw[if_neg (by rw[hb];decide)]
theorem wan_t {t:List UInt8} {p:Pr} (hb:isT t p=true):wanP t p=adv p:=by unfold wanP;rw[if_pos hb]
theorem adv_e {p:Pr} (h:okQ p):((adv p).e==0)=true:=by show (p.e==0)=true;exact h.e'
theorem adv_okQ {p:Pr} (h:okQ p) (hi:p.i<(p.l.length:Int)):okQ (adv p):=h.nx (adv_nx h.ok hi h.e) (adv_e h)
theorem isT_okQ {t:List UInt8} {p:Pr} (h:okQ p) (hi:isT t p=true):okQ (adv p):=adv_okQ h (isT_e hi).2
def okN (p:Pr):Prop:=0≤p.n∧p.n≤200
def NN (f:Nat) (st:Pr→R Sm):Prop:=∀p,okP p→dpU f p→okN p→(st p).2.e=0→okN (st p).2
theorem nx_e00 {p q:Pr} (h:Nx p q) (h0:q.e=0):p.e=0:=by
 by_cases h1:p.e=0
 ·exact h1
 ·rw[(h.e h1).1]at h0;exact absurd h0 h1
theorem okN.of {p q:Pr} (h:okN p) (e:q.n=p.n):okN q:=by unfold okN;rw[e];exact h
theorem stmtsL_okN {st:Pr→R Sm} (hu:∀p,okP p→Nx p (st p).2) {f:Nat} (hn:NN f st):∀(k:Nat) (l:List Sm) (p:Pr),okP p→dpU f p→okN p→(stmtsL st k l p).2.e=0→okN (stmtsL st k l p).2
 |0,l,p,h,hd,h0,_=>h0
 |k+1,l,p,h,hd,h0,he=>by
  simp only[stmtsL]at he ⊢
  split
  ·rename_i e0
   rw[if_pos e0]at he
   split
   ·exact h0
   rename_i hi
   rw[if_neg hi]at he
   split
   ·rename_i hb
    rw[if_pos hb]at he
    exact absurd he (failP_ne (by decide) p)
   ·rename_i hb
    rw[if_neg hb]at he
    have h2:=hu p h
    have h3:=stmtsL_nx hu k (l++[(st p).1]) (st p).2 h2.ok
    exact stmtsL_okN hu hn k _ _ h2.ok (dp_nx h2 hd) (hn p h hd h0 (nx_e00 h3 he)) he
  ·exact h0
theorem stmtsW_okN {st:Pr→R Sm} (hu:∀p,okP p→Nx p (st p).2) {f:Nat} (hn:NN f st) {p:Pr} (h:okP p) (hd:dpU f p) (h0:okN p) (he:(stmtsW st p).2.e=0):okN (stmtsW st p).2:=stmtsL_okN hu hn _ _ p h hd h0 he
theorem blkW_okN {st:Pr→R Sm} (hu:∀p,okP p→Nx p (st p).2) {f:Nat} (hn:NN f st) {p:Pr} (h:okP p) (hd:dpU (f+1) p) (h0:okN p) (he:(blkW st p).2.e=0):okN (blkW st p).2:=by
 unfold blkW at he ⊢
 split
 ·rename_i hi
  rw[if_pos hi]at he
  split
  ·rename_i hb
   rw[if_pos hb]at he
   have h1:=opn_adv h hb (isT_e hi).2
   have h2:(adv (opnP p)).n=p.n:=opn_n p
   exact(stmtsW_okN hu hn h1.ok (opn_dp h hb hd) (h0.of h2) he).of rfl
  ·rename_i hb
   rw[if_neg hb]at he
   exact h0.of (opn_n p)
 ·exact h0.of (fail_n _ _)
theorem stmB_okN {st:Pr→R Sm} (hu:∀p,okP p→Nx p (st p).2) {f:Nat} (hn:NN f st) (no:Int) {p:Pr} (h:okP p) (hd:dpU (f+1) p) (h0:okN p) (he:(stmB st no p).2.e=0):okN (stmB st no p).2:=by
 unfold stmB at he ⊢
 split
 ·exact h0.of (by simp only[wan_n,exS_n,adv_n])
 rename_i c1
 rw[if_neg c1]at he
 split
 ·exact h0.of (by simp only[wan_n,ifC,cdS_n,adv_n])
 rename_i c2
 rw[if_neg c2]at he
 have blk:∀{t:List UInt8},isT t p=true→(ifB (blkW st) p).2.e=0→okN (ifB (blkW st) p).2:=by
  intro t hi he
  have h1:=ifC_nx h hi
  have h2:=h1.trans (wan_nx (t:=[41]) h1.ok)
  exact blkW_okN hu hn h2.ok (dp_nx h2 hd) (h0.of (by simp only[wan_n,ifC,cdS_n,adv_n])) he
 split
 ·rename_i c3
  rw[if_pos c3]at he
  exact blk c3 he
 rename_i c3
 rw[if_neg c3]at he
 split
 ·rename_i c4
  rw[if_pos c4]at he
  split
  ·rename_i c5
   rw[if_pos c5]at he
   have h1:=ifB_nx hu h c4
   have h2:=isT_adv h1.ok c5
   have h3:=blkW_nx hu h2.ok
   have h4:=blk c4 (nx_e00 (h2.trans h3) he)
   exact blkW_okN hu hn h2.ok (dp_nx (h1.trans h2) hd) h4 he
  ·rename_i c5
   rw[if_neg c5]at he
   exact blk c4 he
 rename_i c4
 rw[if_neg c4]at he
 split
 ·exact h0.of (by simp only[wan_n,exS_n,nam_n,adv_n])
 split
 ·exact h0.of (by simp only[wan_n,argW_n,nam_n,adv_n])
 split
 ·exact h0.of (by simp only[wan_n,exS_n,nam_n,adv_n])
 ·exact h0.of (by simp only[wan_n,val_n,nam_n])
theorem kno_f {st:Pr→R Sm} (hu:∀p,okP p→Nx p (st p).2) {no:Int} {p:Pr} (h:okP p) (hk:knoB p=false):(stmB st no p).2.e≠0:=by
 simp only[knoB,Bool.or_eq_false_iff]at hk
 obtain⟨⟨⟨⟨⟨k1,k2⟩,k3⟩,k4⟩,k5⟩,k6⟩:=hk
 unfold stmB
 simp only[k2,k3,k4,k5,k6,Bool.false_eq_true,if_false]
 have hn:=nam_nx h
 have h0:(namP p).e≠0:=by rw[nam_f k1];exact failP_ne (by decide) p
 have q0:∀t,isT t (namP p)=false:=by
  intro t
  unfold isT
  have:((namP p).e==0)=false:=by simpa using h0
  rw[this];rfl
 simp only[q0,Bool.false_eq_true,if_false]
 intro he
 have h1:=wan_nx (t:=[61]) hn.ok
 have h2:=h1.trans (val_nx h1.ok)
 have h3:=h2.trans (wan_nx (t:=[59]) h2.ok)
 exact h0 (nx_e00 h3 he)
theorem stm_okN:∀f:Nat,NN f (stmF f)
 |0=>by
  intro p h hd _ _
  have h3:p.deep≤40:=h.2.2.2.2.1
  have h4:41≤p.deep+((0:Nat):Int):=hd
  exact absurd h4 (by simp;omega)
 |f+1=>by
  intro p h hd h0 he
  simp only[stmF]at he ⊢
  split
  ·rename_i c
   rw[if_pos c]at he
   exact absurd he (failP_ne (by decide) p)
  ·rename_i c
   rw[if_neg c]at he
   have hx:=nxt_nx h
   cases hk:knoB p with
   |false=>exact absurd he (kno_f (stm_nx f) hx.ok hk)
   |true=>
    rw[hk]at c
    simp only[Bool.true_and,decide_eq_true_eq]at c
    obtain⟨a1,a2⟩:=h0
    have e1:(nxt p).n=p.n+1:=by show w64i (p.n+1)=_;unfold w64i;rw[wrap_i64 (by omega) (by omega)]
    exact stmB_okN (stm_nx f) (stm_okN f) _ hx.ok (dp_nx hx hd) (by unfold okN;rw[e1];omega) he
end Go.Proofs.YtlaggppdgoknjaaGreatDoor
