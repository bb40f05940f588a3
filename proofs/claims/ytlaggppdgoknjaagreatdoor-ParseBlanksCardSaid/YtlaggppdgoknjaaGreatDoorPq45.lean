/- The program's parser: what a number says. No conditions but those in each statement. -/
import Derived.Test.YtlaggppdgoknjaaGreatDoorPq4
import Derived.Lib.AtoiErrMem
import Derived.Test.YtlaggppdgoknjaaGreatDoorSy33
set_option linter.unusedVariables false
set_option linter.unusedSimpArgs false
namespace Go.Proofs.YtlaggppdgoknjaaGreatDoor
open Go Go.Sy Go.RowKit
theorem c_ParseInt (s:List UInt8) (h:NumT s) (hm:s.length≤4096) (w:World):Calls Tryz.prog 74 #[.string (bs s),.int .i64 10,.int .i64 64] w fun e w'=>e= .returned (.tuple #[.int .i64 (numW s 0),.nilIface])∧Below w.heap.size w w':=by
 have e1:(bs s).data.toList=s:=by simp[bs]
 have e2:(bs s).size=s.length:=bs_size s
 refine(Any.strconv_ParseInt_10_at64_ok Tryz.laysC174 (bs s) (by omega) (numW s 0) (by rw[e1];exact num_ok h) w).mono ?_
 rintro e w' ⟨h1,h2⟩
 refine⟨h1,?_⟩
 rcases h2 with rfl|⟨t,rfl⟩
 ·exact Below.refl _ _
 ·exact Lib.bytesWorld_below _ _ _
theorem f_ParseInt (p:List UInt8×Int×Int×Unit) (w:World) (hc:NumT p.1∧p.1.length≤4096∧p.2.1=10∧p.2.2.1=64):Calls Tryz.prog 74 #[.string (bs p.1),.int .i64 p.2.1,.int .i64 p.2.2.1] w fun e w'=>e= .returned (.tuple #[.int .i64 (numW p.1 0),.nilIface])∧Below w.heap.size w w':=by
 obtain⟨s,b,k,u⟩:=p
 obtain⟨h1,h2,h3,h4⟩:=hc
 dsimp only at h1 h2 h3 h4 ⊢
 subst h3 h4
 exact c_ParseInt s h1 h2 w
abbrev yc_ParseInt (s:List UInt8) (b:Int) (k:Int):Prop:=NumT s∧s.length≤4096∧b=10∧k=64
abbrev yr_ParseInt (s:List UInt8) (b:Int) (k:Int):SV:=SV.tup [.inl (.v (.int .i64 (numW s 0))),.inl (.v .nilIface)]
theorem y_ParseInt:CallsY Tryz.prog 74 (acS (cStr) (acS (cInt .i64) (acS (cInt .i64) ac0))) (fun p:(List UInt8×(Int×(Int×Unit)))=>yc_ParseInt p.1 p.2.1 p.2.2.1) (fun p:(List UInt8×(Int×(Int×Unit)))=>yr_ParseInt p.1 p.2.1 p.2.2.1):=of_plainT _ _ _ (fun p=>[.string (bs p.1),.int .i64 p.2.1,.int .i64 p.2.2.1]) (fun p=>.tuple #[.int .i64 (numW p.1 0),.nilIface]) (fun _=>rfl) (fun _=>rfl) (fun _=>rfl) f_ParseInt
theorem yn_ParseInt:∀p:(List UInt8×(Int×(Int×Unit))),((fun p:(List UInt8×(Int×(Int×Unit)))=>yr_ParseInt p.1 p.2.1 p.2.2.1) p).names=[]:=by intro p;first|rfl|simp[SV.names,C.names]
noncomputable def yp_ParseInt {X:Ctx} {w0:World}:Sy.Spec Tryz.prog X w0:=specD 74 Tryz.call74 (acS (cStr) (acS (cInt .i64) (acS (cInt .i64) ac0))) (fun p:(List UInt8×(Int×(Int×Unit)))=>yc_ParseInt p.1 p.2.1 p.2.2.1) (fun p:(List UInt8×(Int×(Int×Unit)))=>yr_ParseInt p.1 p.2.1 p.2.2.1) yn_ParseInt y_ParseInt
theorem kd_num {p:Pr} (h:okQ p) (hk:kdB 1 p=true):ahT 0 p=(tk p).t∧NumT (tk p).t∧(tk p).t.length≤4096∧p.i<(p.l.length:Int)∧((tk p).k==1)=true:=by
 unfold kdB at hk
 simp only[Bool.and_eq_true,Bool.not_eq_true']at hk
 have hlt:=end_f h.i hk.1
 obtain⟨h1,h2,h3⟩:=h.i
 have e1:w64i (p.i+0)=p.i:=by unfold w64i;rw[wrap_i64 (by omega) (by omega)];omega
 have hm:=tk_in h.i hlt
 refine⟨?_,(h.l _ hm).1 (by simpa using hk.2),h.ok.2.2.2.2.2 _ hm,hlt,hk.2⟩
 unfold ahT
 rw[e1,if_neg (by simp;omega)];rfl
abbrev yc_qvalue (p:Pr):Prop:=okQ p∧kdB 1 p=true
abbrev yr_qvalue (p:Pr):Value:=Value.int .i64 (numW (tk p).t 0)
theorem y_qvalue:CallsR Tryz.prog 58 (ahS (cPt rPq) ah0) (fun p:(Pr×Unit)=>yc_qvalue p.1) (fun p:(Pr×Unit)=>ofV (yr_qvalue p.1)):=by
 rintro ⟨p,_u⟩ w fz xs hc hfz hl hx
 refine calls_toRL Tryz.func58 rfl w fz [yp_qahead,yp_ParseInt] [] (ahS (cPt rPq) ah0) (fun p:(Pr×Unit)=>ofV (yr_qvalue p.1)) _ xs hfz hl hx (Nat.le_of_ble_eq_true rfl) ?_
 clear hx hl hfz xs
 simp only[Tryz.f58]
 obtain⟨hq,hk⟩:=hc;have hI:=hq.i;obtain⟨e1,e2,e3,e4,e5⟩:=kd_num hq hk
 all_goals simp only[↓eB,seval,go_sem,yp_qahead,yp_ParseInt,cPt_e,cPt_d,rPq_e,rPq_z,Pr.s,tkq_at,Tok.r,zTk,ptR,rPq_d',pr_eta,yr_qahead,yr_ParseInt,yc_ParseInt,e1,e2,e3]
 try simp only[impB,impN]
 repeat' first|exact ck|with_reducible apply And.intro|intro _
 all_goals first|exact hI|exact e2|exact e3|(rename_i h;first|exact oI h|exact nah h)|(rename_i _ h _ g;exact sL h g)|decide|omega|(refine ret_with [] ?_;simp only[↓eB,seval,go_sem,bne,yr_qvalue])
theorem yh_qvalue:∀p:(Pr×Unit),okV ((fun p:(Pr×Unit)=>yr_qvalue p.1) p)=true:=by intro p;rfl
noncomputable def yp_qvalue {X:Ctx} {w0:World}:Sy.Spec Tryz.prog X w0:=specR 58 Tryz.call58 (ahS (cPt rPq) ah0) (fun p:(Pr×Unit)=>yc_qvalue p.1) (fun p:(Pr×Unit)=>yr_qvalue p.1) yh_qvalue y_qvalue
end Go.Proofs.YtlaggppdgoknjaaGreatDoor
namespace Go.Proofs.YtlaggppdgoknjaaGreatDoor
open Go Go.Sy Go.RowKit
def Ps (p q:Pr):Prop:=p.e≠0→q.e=p.e∧q.at'=p.at'
theorem Nx.ps {p q:Pr} (h:Nx p q):Ps p q:=h.e
theorem Ps.refl (p:Pr):Ps p p:=fun _=>⟨rfl,rfl⟩
theorem Ps.trans {p q r:Pr} (h1:Ps p q) (h2:Ps q r):Ps p r:=fun h=>by
 obtain⟨a,b⟩:=h1 h
 obtain⟨c,d⟩:=h2 (by rw[a];exact h)
 exact⟨c.trans a,d.trans b⟩
theorem Ps.shut {p q:Pr} (h:Ps p q):Ps p (shut q):=h
theorem ps_w {p q:Pr} (k:Ps p q) (he:(p.e==0)=false):q.w=(zPq,[p.x])∧q.b=true∧p.w=(zPq,[p.x])∧p.b=true:=by
 obtain⟨h1,h2⟩:=pan k he
 exact⟨by rw[w_f h1,h2],b_f h1,w_f he,b_f he⟩
theorem ps_e {p q:Pr} (k:Ps p q) (h:q.e=0):p.e=0:=by
 by_cases h1:p.e=0
 ·exact h1
 ·rw[(k h1).1]at h;exact absurd h h1
theorem opn_ps {p:Pr} (h:okQ p) (hb:opnB p=false):((opP p).e==0)=false:=by
 rw[(opn_52 h hb).1,(failP_x h.e).2];rfl
theorem isT_ex {s t:List UInt8} {p:Pr} (h:isT s p=true) (hn:(s==t)=false):isT t p=false:=by
 cases h2:isT t p with
 |false=>rfl
 |true=>
  unfold isT at h h2
  simp only[Bool.and_eq_true,beq_iff_eq]at h h2
  rw[← h.2,h2.2]at hn
  simp at hn
theorem unQ {p:Pr} (h:okQ p) (f:Nat):unF (f+1) p=if isT [45] p=true then (if opnB p=true then (.mk 7 0 [] (unF f (opP p)).1 .nil,shut (unF f (opP p)).2) else (.nil,opP p))
  else if isT [40] p=true then (if opnB p=true then ((sumW (unF f) (opP p)).1,shut (wanP [41] (sumW (unF f) (opP p)).2)) else (.nil,opP p))
  else if kdB 1 p=true then (.mk 0 (numW (tk p).t 0) [] .nil .nil,adv p) else (if nameB p=true then .mk 1 0 (namS p) .nil .nil else .nil,namP p):=by
 have e0:∀t,isT t p=true→outB p=false:=by
  intro t ht
  obtain⟨e1,e2⟩:=isT_e ht
  unfold outB;simp[e1];omega
 simp only[unF]
 cases i0:isT [45] p with
 |true=>
  rw[e0 _ i0]
  cases ob:opnB p with
  |true=>simp only[Bool.false_eq_true,if_false,if_true,opP_t ob]
  |false=>simp only[Bool.false_eq_true,if_false,if_true,opP_f ob]
 |false=>
 cases i1:isT [40] p with
 |true=>
  rw[e0 _ i1]
  cases ob:opnB p with
  |true=>simp only[Bool.false_eq_true,if_false,if_true,opP_t ob]
  |false=>simp only[Bool.false_eq_true,if_false,if_true,opP_f ob]
 |false=>
 simp only[Bool.false_eq_true,if_false]
 have hI:=h.i
 cases ho:outB p with
 |true=>
  have h1:(p.l.length:Int)≤p.i:=by
   unfold outB at ho;rw[h.e]at ho;simpa using ho
  have h2:endB p=true:=by unfold endB;have:=hI.2.1;simp;omega
  have h3:kdB 1 p=false:=by unfold kdB;rw[h2];rfl
  have h4:nameB p=false:=by
   cases hn:nameB p with
   |false=>rfl
   |true=>have:=(nameB_e hn).2;omega
  simp only[h3,h4,if_true,Bool.false_eq_true,if_false,nam_f h4]
 |false=>
  have h1:¬(p.l.length:Int)≤p.i:=by
   unfold outB at ho;rw[h.e]at ho;simpa using ho
  have h2:endB p=false:=by unfold endB;simp;omega
  have h3:kdB 1 p=((tk p).k==1):=by unfold kdB;rw[h2];rfl
  rw[h3]
  simp only[Bool.false_eq_true,if_false]
  cases hk:((tk p).k==1) with
  |true=>simp only[if_true]
  |false=>
   simp only[Bool.false_eq_true,if_false]
   cases hn:nameB p with
   |true=>simp only[if_true]
   |false=>simp only[Bool.false_eq_true,if_false,nam_f hn]
theorem ahT_at {p:Pr} (h:okQ p) {n:Int} (h0:0≤n) (h5:n≤5) (hl:p.i+n<(p.l.length:Int)):ahT n p=(p.l.getD (p.i+n).toNat tk0).t:=by
 obtain⟨h1,h2,h3⟩:=h.i
 unfold ahT tkA w64i
 rw[wrap_i64 (by omega) (by omega),if_neg (by simp;omega)]
theorem ahT_no {p:Pr} (h:okQ p) {n:Int} (h0:0≤n) (h5:n≤5) (hl:¬p.i+n<(p.l.length:Int)):ahT n p=[]:=by
 obtain⟨h1,h2,h3⟩:=h.i
 unfold ahT w64i
 rw[wrap_i64 (by omega) (by omega),if_pos (by simp;omega)]
theorem ahB_q {p:Pr} (h:okQ p) {t:List UInt8} (ht:sgT t=true):ahB t p=(nameB p&&ahT 1 p==t):=by
 obtain⟨h1,h2,h3⟩:=h.i
 have e1:w64i (p.i+1)=p.i+1:=by unfold w64i;rw[wrap_i64 (by omega) (by omega)]
 unfold ahB tkA
 rw[e1]
 by_cases hl:p.i+1<(p.l.length:Int)
 ·rw[ahT_at h (by omega) (by omega) hl];simp[hl]
 ·rw[ahT_no h (by omega) (by omega) hl]
  have:(([]:List UInt8)==t)=false:=by cases t with
   |nil=>cases ht
   |cons b r=>rfl
  rw[this];simp[hl]
theorem nul_q {p:Pr} (h:okQ p):nullB p=(nameB p&&(ahT 1 p==[61,61]||ahT 1 p==[33,61])&&ahT 2 p==[110,117,108,108]):=by
 obtain⟨h1,h2,h3⟩:=h.i
 have e1:w64i (p.i+1)=p.i+1:=by unfold w64i;rw[wrap_i64 (by omega) (by omega)]
 have e2:w64i (p.i+2)=p.i+2:=by unfold w64i;rw[wrap_i64 (by omega) (by omega)]
 unfold nullB tkA
 rw[e1,e2]
 by_cases hl:p.i+2<(p.l.length:Int)
 ·rw[ahT_at h (n:=1) (by omega) (by omega) (by omega),ahT_at h (n:=2) (by omega) (by omega) hl]
  have:decide (p.i+2<(p.l.length:Int))=true:=by simpa using hl
  rw[this]
  cases nameB p<;>cases ((p.l.getD (p.i+2).toNat tk0).t==[110,117,108,108])<;>cases ((p.l.getD (p.i+1).toNat tk0).t==[61,61])<;>cases ((p.l.getD (p.i+1).toNat tk0).t==[33,61])<;>rfl
 ·rw[ahT_no h (n:=2) (by omega) (by omega) hl]
  have:decide (p.i+2<(p.l.length:Int))=false:=by simpa using hl
  rw[this]
  have h4:(([]:List UInt8)==[110,117,108,108])=false:=rfl
  rw[h4];simp
theorem nulC_q {p:Pr} (h:okQ p) (hn:nullB p=true):nulC p=if (ahT 1 p==[61,61])=true then .mk 9 .nil .nil .nil .nil (tk p).t else .mk 8 .nil .nil (.mk 9 .nil .nil .nil .nil (tk p).t) .nil []:=by
 obtain⟨n1,n2,n3,n4,n5⟩:=null_e h.ok hn
 have h1:=ahT_at h (n:=1) (by omega) (by omega) (by omega)
 rw[nul_q h]at hn
 unfold nulC tkA
 rw[n5,← h1]
 cases h2:(ahT 1 p==[61,61]) with
 |true=>
  have:(ahT 1 p==[33,61])=false:=by
   have:ahT 1 p=[61,61]:=by simpa using h2
   rw[this];rfl
  rw[this];rfl
 |false=>
  rw[h2]at hn
  simp only[Bool.false_or,Bool.and_eq_true]at hn
  rw[hn.1.2];rfl
theorem notQ {p:Pr} (f:Nat):notF (f+1) p=if isT [33] p=true then (if opnB p=true then (.mk 8 .nil .nil (notF f (opP p)).1 .nil [],shut (notF f (opP p)).2) else (.nil,opP p))
  else if isT [40] p=true then (if opnB p=true then ((conW (notF f) (opP p)).1,shut (wanP [41] (conW (notF f) (opP p)).2)) else (.nil,opP p))
  else if nullB p=true then (nulC p,adv3 p) else cmpF (exS p).2 (exS p).1 cmpO 0:=by
 simp only[notF]
 cases ob:opnB p with
 |true=>simp only[if_true,opP_t ob]
 |false=>simp only[Bool.false_eq_true,if_false,opP_f ob]
theorem ahB_is {p:Pr} (h:okQ p) {t:List UInt8} (ht:sgT t=true) (hb:ahB t p=true):isT t (adv p)=true∧nameB p=true:=by
 obtain⟨hn,h1,h2,h3⟩:=ahB_e h.ok hb
 have hi:(adv p).i=p.i+1:=adv_i h.ok (nameB_e hn).2
 have ha:=adv_okQ h (nameB_e hn).2
 refine⟨?_,hn⟩
 rw[← isQ_T ha.i ha.e ha.l ht]
 unfold isQ tk
 rw[hi]
 have h4:decide (p.i+1<((adv p).l.length:Int))=true:=by show decide (p.i+1<(p.l.length:Int))=true;simpa using h1
 rw[h4]
 show (true&&(p.l.getD (p.i+1).toNat tk0).t==t)=true
 rw[h3];rfl
theorem kno_q {p:Pr} (h:okQ p):knoB p=(nameB p||ahT 0 p==[42]||ahT 0 p==tRet||ahT 0 p==tAss||ahT 0 p==tIf||ahT 0 p==tWhi):=by
 unfold knoB
 rw[ah_0 h (t:=[42]) rfl,ah_0 h (t:=tRet) rfl,ah_0 h (t:=tAss) rfl,ah_0 h (t:=tIf) rfl,ah_0 h (t:=tWhi) rfl]
theorem kno_ps {st:Pr→R Sm} (hu:∀p,okP p→Nx p (st p).2) {no:Int} {p:Pr} (h:okP p) (hk:knoB p=false):Ps (failP 51 p) (stmB st no p).2:=by
 simp only[knoB,Bool.or_eq_false_iff]at hk
 obtain⟨⟨⟨⟨⟨k1,k2⟩,k3⟩,k4⟩,k5⟩,k6⟩:=hk
 unfold stmB
 simp only[k2,k3,k4,k5,k6,Bool.false_eq_true,if_false]
 have hn:=nam_nx h
 have h0:(namP p).e≠0:=by rw[nam_f k1];exact failP_ne (by decide) p
 have q0:∀t,isT t (namP p)=false:=by
  intro t
  unfold isT
  have:((namP p).e==0)=false:=by simpa using h0
  rw[this];rfl
 simp only[q0,Bool.false_eq_true,if_false]
 have h1:=wan_nx (t:=[61]) hn.ok
 have h2:=h1.trans (val_nx h1.ok)
 have h3:=h2.trans (wan_nx (t:=[59]) h2.ok)
 rw[← nam_f k1]
 exact h3.ps
theorem failP_nxt (c:Int) (p:Pr) (h:p.e=0):(failP c (nxt p)).e=(failP c p).e∧(failP c (nxt p)).at'=(failP c p).at':=by
 have h2:(nxt p).e=0:=h
 obtain⟨a1,a2⟩:=failP_x (c:=c) h
 obtain⟨b1,b2⟩:=failP_x (c:=c) h2
 rw[a1,a2,b1,b2]
 exact⟨rfl,rfl⟩
theorem stm_kno {f:Nat} {p:Pr} (h:okQ p) (hk:knoB p=false):Ps (failP 51 p) (stmF (f+1) p).2:=by
 simp only[stmF,hk,Bool.false_and,Bool.false_eq_true,if_false]
 have hx:=nxt_nx h.ok
 have h1:=kno_ps (stm_nx f) (no:=p.n) hx.ok (p:=nxt p) (show knoB (nxt p)=false from hk)
 obtain⟨e1,e2⟩:=failP_nxt 51 p h.e
 intro h0
 obtain⟨a,b⟩:=h1 (by rw[e1];exact h0)
 exact⟨a.trans e1,b.trans e2⟩
theorem stm_end {p:Pr} (h:okQ p) (hb:decide ((p.l.length:Int)≤p.i)=true):knoB p=false:=by
 have h1:¬p.i<(p.l.length:Int):=by simp at hb;omega
 have h2:∀t,isT t p=false:=by
  intro t
  cases ht:isT t p with
  |false=>rfl
  |true=>exact absurd (isT_e ht).2 h1
 have h3:nameB p=false:=by
  cases ht:nameB p with
  |false=>rfl
  |true=>exact absurd (nameB_e ht).2 h1
 unfold knoB
 simp[h2,h3]
def argM (k:Nat) (l:List Ar) (q:Pr):R (List Ar):=if isT [41] q=true then (l,adv q) else argL k l (wanP [44] q)
theorem argM_S {k:Nat} {l:List Ar} {p:Pr} (he:p.e=0):argL (k+1) l p=argM k (l++[⟨false,[],(exS p).1⟩]) (exS p).2:=by
 simp only[argL,he,argM]
 simp
theorem argL_f (k:Nat) (l:List Ar) {p:Pr} (he:p.e≠0):argL k l p=([],p):=by
 cases k with
 |zero=>rfl
 |succ k=>simp only[argL];rw[if_neg (by simpa using he)]
theorem argM_nx {k:Nat} {l:List Ar} {q:Pr} (h:okP q):Nx q (argM k l q).2:=by
 unfold argM
 split
 ·rename_i hi;exact isT_adv h hi
 ·exact(wan_nx h).trans (argL_nx _ _ _ (wan_nx h).ok)
structure NR where
 k:Int
 x:List UInt8
 y:List UInt8
 e:Ex
 f:Ex
 a:Option (List Ar)
def nmdF (p:Pr):R NR:=
 if isT [91] (namP p)=true then (⟨7,[],namS p,(exS (adv (namP p))).1,(exS (wanP [61] (wanP [93] (exS (adv (namP p))).2))).1,none⟩,(exS (wanP [61] (wanP [93] (exS (adv (namP p))).2))).2)
 else if isT [40] (namP p)=true then (⟨8,[],namS p,.nil,.nil,some (argW (adv (namP p))).1⟩,(argW (adv (namP p))).2)
 else (⟨(valF (wanP [61] (namP p))).1.k,namS p,(valF (wanP [61] (namP p))).1.y,(valF (wanP [61] (namP p))).1.e,.nil,(valF (wanP [61] (namP p))).1.a⟩,(valF (wanP [61] (namP p))).2)
theorem nmd_nx {p:Pr} (h:okP p):Nx p (nmdF p).2:=by
 have hn:=nam_nx h
 unfold nmdF
 split
 ·rename_i hi
  have h1:=hn.trans (isT_adv hn.ok hi)
  have h2:=h1.trans (exS_nx h1.ok)
  have h3:=h2.trans (wan_nx (t:=[93]) h2.ok)
  have h4:=h3.trans (wan_nx (t:=[61]) h3.ok)
  exact h4.trans (exS_nx h4.ok)
 split
 ·rename_i hi
  have h1:=hn.trans (isT_adv hn.ok hi)
  exact h1.trans (argW_nx h1.ok)
 ·have h1:=hn.trans (wan_nx (t:=[61]) hn.ok)
  exact h1.trans (val_nx h1.ok)
theorem stm_nmd {st:Pr→R Sm} {no:Int} {p:Pr} (k1:isT tIf p=false) (k2:isT tWhi p=false) (k3:isT tAss p=false) (k4:isT tRet p=false) (k5:isT [42] p=false) :
  stmB st no p=(.mk (nmdF p).1.k (nmdF p).1.x (nmdF p).1.y (nmdF p).1.e (nmdF p).1.f .nil ((nmdF p).1.a.getD []) [] [] no,wanP [59] (nmdF p).2):=by
 unfold stmB nmdF
 simp only[k1,k2,k3,k4,k5,Bool.false_eq_true,if_false]
 cases i1:isT [91] (namP p) with
 |true=>
  have i2:=isT_ex i1 (t:=[40]) rfl
  simp only[i2,if_true,Bool.false_eq_true,if_false,Option.getD_none]
 |false=>
 cases i2:isT [40] (namP p) with
 |true=>simp only[if_true,Bool.false_eq_true,if_false,Option.getD_some]
 |false=>simp only[Bool.false_eq_true,if_false]
theorem adv_fold (p:Pr):(⟨p.l,IntKind.i64.wrap (p.i+1),p.en,p.e,p.at',p.deep,p.n⟩:Pr)=adv p:=rfl
theorem nxt_fold (p:Pr):(⟨p.l,p.i,p.en,p.e,p.at',p.deep,IntKind.i64.wrap (p.n+1)⟩:Pr)=nxt p:=rfl
end Go.Proofs.YtlaggppdgoknjaaGreatDoor
