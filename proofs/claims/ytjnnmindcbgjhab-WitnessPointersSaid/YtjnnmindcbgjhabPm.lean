/- The parser, in plain words. No conditions but those in each statement. -/
import Derived.Test.YtjnnmindcbgjhabMi1
set_option linter.unusedVariables false
set_option linter.unusedSimpArgs false
namespace Go.Proofs.Ytjnnmindcbgjhab
open Go Go.Sy Go.RowKit
def adv (p:Pr):Pr:={ p with i:=w64i (p.i+1) }
def takP (t:List UInt8) (p:Pr):Pr:=if isT t p=true then adv p else p
def wanP (t:List UInt8) (p:Pr):Pr:=if isT t p=true then adv p else failP 51 p
def namS (p:Pr):List UInt8:=if nameB p=true then (tk p).t else []
def namP (p:Pr):Pr:=if nameB p=true then adv p else failP 51 p
def opnB (p:Pr):Bool:=p.e==0&&!decide (40≤p.deep)
def opnP (p:Pr):Pr:=if (p.e==0)=true then (if decide (40≤p.deep)=true then failP 52 p else { p with deep:=w64i (p.deep+1) }) else p
def shut (p:Pr):Pr:={ p with deep:=w64i (p.deep-1) }
def outB (p:Pr):Bool:=p.e != 0||decide ((p.l.length:Int)≤p.i)
abbrev R (A:Type):=A×Pr
def prodL (u:Pr→R Ex):Nat→Ex→Pr→R Ex
 |0,a,p=>(a,p)
 |k+1,a,p=>
  if (p.e==0)=true then
   (
    if isT [42] p=true then prodL u k (.mk 4 0 [] a (u (adv p)).1) (u (adv p)).2
    else if isT [47] p=true then prodL u k (.mk 5 0 [] a (u (adv p)).1) (u (adv p)).2
    else if isT [37] p=true then prodL u k (.mk 6 0 [] a (u (adv p)).1) (u (adv p)).2
    else (a,p))
  else (a,p)
def prodW (u:Pr→R Ex) (p:Pr):R Ex:=prodL u p.l.length (u p).1 (u p).2
def sumL (u:Pr→R Ex):Nat→Ex→Pr→R Ex
 |0,a,p=>(a,p)
 |k+1,a,p=>
  if (p.e==0)=true then
   (
    if isT [45] p=true then sumL u k (.mk 3 0 [] a (prodW u (adv p)).1) (prodW u (adv p)).2
    else if isT [43] p=true then sumL u k (.mk 2 0 [] a (prodW u (adv p)).1) (prodW u (adv p)).2
    else (a,p))
  else (a,p)
def sumW (u:Pr→R Ex) (p:Pr):R Ex:=sumL u p.l.length (prodW u p).1 (prodW u p).2
def unF:Nat→Pr→R Ex
 |0,p=>(.nil,p)
 |f+1,p=>
  if outB p=true then (.nil,failP 51 p)
  else if isT [45] p=true then
   (if opnB p=true then (.mk 7 0 [] (unF f (adv (opnP p))).1 .nil,shut (unF f (adv (opnP p))).2) else (.nil,opnP p))
  else if isT [40] p=true then
   (if opnB p=true then ((sumW (unF f) (adv (opnP p))).1,shut (wanP [41] (sumW (unF f) (adv (opnP p))).2)) else (.nil,opnP p))
  else if ((tk p).k==1)=true then (.mk 0 (numW (tk p).t 0) [] .nil .nil,adv p)
  else if nameB p=true then (.mk 1 0 (namS p) .nil .nil,namP p)
  else (.nil,failP 51 p)
def okP (p:Pr):Prop:=0≤p.i∧p.i≤(p.l.length:Int)∧p.l.length≤4096∧0≤p.deep∧p.deep≤40∧∀x∈p.l,x.t.length≤4096
structure Nx (p q:Pr):Prop where
 ok:okP q
 l:q.l=p.l
 en:q.en=p.en
 i:p.i≤q.i
 d:q.deep=p.deep
 e:p.e≠0→q.e=p.e∧q.at'=p.at'
theorem Nx.refl {p:Pr} (h:okP p):Nx p p:=⟨h,rfl,rfl,Int.le_refl _,rfl,fun _=>⟨rfl,rfl⟩⟩
theorem Nx.trans {p q r:Pr} (h1:Nx p q) (h2:Nx q r):Nx p r:=
 ⟨h2.ok,h2.l.trans h1.l,h2.en.trans h1.en,Int.le_trans h1.i h2.i,h2.d.trans h1.d,fun h=>by
  obtain⟨e1,e2⟩:=h1.e h
  obtain⟨e3,e4⟩:=h2.e (by rw[e1];exact h)
  exact⟨e3.trans e1,e4.trans e2⟩⟩
theorem okP.i {p:Pr} (h:okP p):okI p:=⟨h.1,h.2.1,h.2.2.1⟩
theorem isT_e {t:List UInt8} {p:Pr} (h:isT t p=true):p.e=0∧p.i<(p.l.length:Int):=by
 unfold isT at h
 simp only[Bool.and_eq_true,beq_iff_eq,decide_eq_true_eq]at h
 exact⟨h.1.1.1,h.1.1.2⟩
theorem nameB_e {p:Pr} (h:nameB p=true):p.e=0∧p.i<(p.l.length:Int):=by
 unfold nameB at h
 simp only[Bool.and_eq_true,beq_iff_eq,decide_eq_true_eq]at h
 exact⟨h.1.1.1,h.1.1.2⟩
theorem adv_i {p:Pr} (h:okP p) (hi:p.i<(p.l.length:Int)):(adv p).i=p.i+1:=by
 obtain⟨h1,h2,h3,_⟩:=h
 show w64i (p.i+1)=_
 unfold w64i
 rw[wrap_i64 (by omega) (by omega)]
theorem adv_nx {p:Pr} (h:okP p) (hi:p.i<(p.l.length:Int)) (he:p.e=0):Nx p (adv p):=by
 have e:=adv_i h hi
 obtain⟨h1,h2,h3,h4,h5,h6⟩:=h
 exact⟨⟨by rw[e];omega,by rw[e];show p.i+1≤(p.l.length:Int);omega,h3,h4,h5,h6⟩,rfl,rfl,by rw[e];omega,rfl,fun h=>absurd he h⟩
theorem failP_e (c:Int) (p:Pr):(failP c p).l=p.l∧(failP c p).i=p.i∧(failP c p).en=p.en∧(failP c p).deep=p.deep∧(failP c p).n=p.n:=by
 unfold failP;split<;>exact⟨rfl,rfl,rfl,rfl,rfl⟩
theorem fail_nx {p:Pr} (c:Int) (h:okP p):Nx p (failP c p):=by
 obtain⟨e1,e2,e3,e4,e5⟩:=failP_e c p
 refine⟨?_,e1,e3,by rw[e2];exact Int.le_refl _,e4,fun he=>?_⟩
 ·unfold okP;rw[e1,e2,e4];exact h
 ·unfold failP;rw[if_neg (by simpa using he)];exact⟨rfl,rfl⟩
theorem tak_nx {t:List UInt8} {p:Pr} (h:okP p):Nx p (takP t p):=by
 unfold takP;split
 ·rename_i hi;exact adv_nx h (isT_e hi).2 (isT_e hi).1
 ·exact .refl h
theorem wan_nx {t:List UInt8} {p:Pr} (h:okP p):Nx p (wanP t p):=by
 unfold wanP;split
 ·rename_i hi;exact adv_nx h (isT_e hi).2 (isT_e hi).1
 ·exact fail_nx 51 h
theorem nam_nx {p:Pr} (h:okP p):Nx p (namP p):=by
 unfold namP;split
 ·rename_i hi;exact adv_nx h (nameB_e hi).2 (nameB_e hi).1
 ·exact fail_nx 51 h
theorem opn_no {p:Pr} (h:okP p) (hb:opnB p=false):Nx p (opnP p):=by
 unfold opnB at hb
 unfold opnP
 split
 ·rename_i he
  rw[he]at hb
  simp only[Bool.true_and,Bool.not_eq_false']at hb
  rw[if_pos hb]
  exact fail_nx 52 h
 ·exact .refl h
theorem opn_e {p:Pr} (h:okP p) (hb:opnB p=true):p.e=0∧p.deep<40∧opnP p={ p with deep:=p.deep+1 }:=by
 unfold opnB at hb
 simp only[Bool.and_eq_true,beq_iff_eq,Bool.not_eq_true',decide_eq_false_iff_not]at hb
 obtain⟨h1,h2,h3,h4,h5,h6⟩:=h
 refine⟨hb.1,by omega,?_⟩
 unfold opnP
 rw[if_pos (by simpa using hb.1),if_neg (by simpa using hb.2)]
 unfold w64i
 rw[wrap_i64 (by omega) (by omega)]
theorem opn_ok {p:Pr} (h:okP p) (hb:opnB p=true):okP (opnP p):=by
 obtain⟨h1,h2,h3⟩:=opn_e h hb
 rw[h3]
 obtain⟨h1,h2,h3,h4,h5,h6⟩:=h
 exact⟨h1,h2,h3,by show 0≤p.deep+1;omega,by show p.deep+1≤40;omega,h6⟩
theorem shut_nx {p q:Pr} (h:okP p) (hb:opnB p=true) (hq:Nx (opnP p) q):Nx p (shut q):=by
 obtain⟨h1,h2,h3⟩:=opn_e h hb
 obtain⟨⟨o1,o2,o3,o4,o5,o6⟩,e1,e2,e3,e4,e6⟩:=hq
 rw[h3]at e1 e2 e3 e4 e6
 simp only at e1 e2 e3 e4 e6
 have hd:(shut q).deep=p.deep:=by
  show w64i (q.deep-1)=_
  rw[e4];unfold w64i
  rw[wrap_i64 (by omega) (by omega)];omega
 obtain⟨k1,k2,k3,k4,k5,k6⟩:=h
 exact⟨⟨o1,o2,o3,by rw[hd];exact k4,by rw[hd];exact k5,o6⟩,e1,e2,e3,hd,fun he=>absurd h1 he⟩
theorem prodL_nx {u:Pr→R Ex} (hu:∀p,okP p→Nx p (u p).2):∀(k:Nat) (a:Ex) (p:Pr),okP p→Nx p (prodL u k a p).2
 |0,a,p,h=>.refl h
 |k+1,a,p,h=>by
  simp only[prodL]
  (repeat' split)
  ·rename_i he hi
   have h1:=adv_nx h (isT_e hi).2 (isT_e hi).1
   have h2:=hu _ h1.ok
   exact(h1.trans h2).trans (prodL_nx hu k _ _ h2.ok)
  ·rename_i he _ hi
   have h1:=adv_nx h (isT_e hi).2 (isT_e hi).1
   have h2:=hu _ h1.ok
   exact(h1.trans h2).trans (prodL_nx hu k _ _ h2.ok)
  ·rename_i he _ _ hi
   have h1:=adv_nx h (isT_e hi).2 (isT_e hi).1
   have h2:=hu _ h1.ok
   exact(h1.trans h2).trans (prodL_nx hu k _ _ h2.ok)
  ·exact .refl h
  ·exact .refl h
theorem prodW_nx {u:Pr→R Ex} (hu:∀p,okP p→Nx p (u p).2) (p:Pr) (h:okP p):Nx p (prodW u p).2:=(hu p h).trans (prodL_nx hu _ _ _ (hu p h).ok)
theorem sumL_nx {u:Pr→R Ex} (hu:∀p,okP p→Nx p (u p).2):∀(k:Nat) (a:Ex) (p:Pr),okP p→Nx p (sumL u k a p).2
 |0,a,p,h=>.refl h
 |k+1,a,p,h=>by
  simp only[sumL]
  (repeat' split)
  ·rename_i he hi
   have h1:=adv_nx h (isT_e hi).2 (isT_e hi).1
   have h2:=prodW_nx hu _ h1.ok
   exact(h1.trans h2).trans (sumL_nx hu k _ _ h2.ok)
  ·rename_i he _ hi
   have h1:=adv_nx h (isT_e hi).2 (isT_e hi).1
   have h2:=prodW_nx hu _ h1.ok
   exact(h1.trans h2).trans (sumL_nx hu k _ _ h2.ok)
  ·exact .refl h
  ·exact .refl h
theorem sumW_nx {u:Pr→R Ex} (hu:∀p,okP p→Nx p (u p).2) (p:Pr) (h:okP p):Nx p (sumW u p).2:=(prodW_nx hu p h).trans (sumL_nx hu _ _ _ (prodW_nx hu p h).ok)
theorem opn_l {p:Pr} (h:okP p) (hb:opnB p=true):(opnP p).i=p.i∧(opnP p).l=p.l∧(opnP p).e=p.e:=by
 rw[(opn_e h hb).2.2];exact⟨rfl,rfl,rfl⟩
theorem opn_adv {p:Pr} (h:okP p) (hb:opnB p=true) (hi:p.i<(p.l.length:Int)):Nx (opnP p) (adv (opnP p)):=by
 obtain⟨e1,e2,e3⟩:=opn_l h hb
 exact adv_nx (opn_ok h hb) (by rw[e1,e2];exact hi) (by rw[e3];exact(opn_e h hb).1)
theorem un_nx:∀(f:Nat) (p:Pr),okP p→Nx p (unF f p).2
 |0,p,h=>.refl h
 |f+1,p,h=>by
  simp only[unF]
  split
  ·exact fail_nx 51 h
  ·split
   ·rename_i hi
    split
    ·rename_i hb
     have h1:=opn_adv h hb (isT_e hi).2
     exact shut_nx h hb (h1.trans (un_nx f _ h1.ok))
    ·rename_i hb;exact opn_no h (by simpa using hb)
   ·split
    ·rename_i hi
     split
     ·rename_i hb
      have h1:=opn_adv h hb (isT_e hi).2
      have h2:=h1.trans (sumW_nx (un_nx f) _ h1.ok)
      exact shut_nx h hb (h2.trans (wan_nx h2.ok))
     ·rename_i hb;exact opn_no h (by simpa using hb)
    ·split
     ·rename_i ho _ _ _
      unfold outB at ho
      simp only[Bool.or_eq_true,bne_iff_ne,ne_eq,decide_eq_true_eq,not_or,Decidable.not_not]at ho
      exact adv_nx h (by omega) ho.1
     ·split
      ·exact nam_nx h
      ·exact fail_nx 51 h
abbrev dpU (f:Nat) (p:Pr):Prop:=41≤p.deep+(f:Int)
theorem tk_back {p:Pr} (h:okP p) (hi:p.i<(p.l.length:Int)):w64i (w64i (p.i+1)-1)=p.i:=by
 obtain⟨h1,h2,h3,_⟩:=h
 unfold w64i
 rw[wrap_i64 (n:=p.i+1) (by omega) (by omega),wrap_i64 (by omega) (by omega)];omega
theorem nam_cases {p:Pr} (h:okP p):(nameB p=false∧nameB p=false∧nameB p=false∧nameB p=false)∨(nameB p=true∧IntKind.i64.wrap (IntKind.i64.wrap (p.i+1)-1)=p.i∧(0≤p.i)=True∧(p.i<(p.l.length:Int))=True):=by
 cases hb:nameB p with
 |false=>exact .inl ⟨rfl,rfl,rfl,rfl⟩
 |true=>exact .inr ⟨rfl,tk_back h (nameB_e hb).2,by simp[h.1],by simp[(nameB_e hb).2]⟩
theorem tk_mem {p:Pr} (h:okP p) (hi:p.i<(p.l.length:Int)):smallB (tk p).t:=by
 obtain⟨h1,h2,h3,h4,h5,h8⟩:=h
 have hm:tk p∈p.l:=by
  unfold tk
  have:p.i.toNat<p.l.length:=by omega
  rw[List.getD,List.getElem?_eq_getElem this];exact List.getElem_mem this
 have:=h8 _ hm
 show _≤4294967296
 omega
abbrev exS:Pr→R Ex:=sumW (unF 41)
theorem dp41 {p:Pr} (h:okP p):dpU 41 p:=by
 have:=h.2.2.2.1
 show 41≤p.deep+((41:Nat):Int)
 simp;omega
theorem wan_i {t:List UInt8} {p:Pr} (h:okP p) (h0:(wanP t p).e=0):(wanP t p).i=p.i+1:=by
 unfold wanP at h0 ⊢
 cases ic:isT t p with
 |true=>rw[ic]at h0;rw[if_pos rfl];exact adv_i h (isT_e ic).2
 |false=>
  rw[ic,if_neg (by decide)]at h0
  unfold failP at h0
  split at h0
  ·exact absurd h0 (show ¬((51:Int)=0) by decide)
  ·rename_i hne;exact absurd (by simpa using h0) hne
theorem takP_t {t:List UInt8} {p:Pr} (h:isT t p=true):takP t p=adv p:=by unfold takP;rw[if_pos h]
theorem takP_f {t:List UInt8} {p:Pr} (h:isT t p=false):takP t p=p:=by unfold takP;rw[if_neg (by rw[h];decide)]
end Go.Proofs.Ytjnnmindcbgjhab
namespace Go.Proofs.Ytjnnmindcbgjhab
open Go Go.Sy Go.RowKit
theorem rPr_d' (l:List Tok) (i en e at' deep n:Int):rPr.d [.sl [D.v (Value.int IntKind.i64 0),D.v (Value.string (bs [])),D.v (Value.int IntKind.i64 0)] (l.map Tok.r),.v (.int .i64 i),.v (.int .i64 en),.v (.int .i64 e),.v (.int .i64 at'),.v (.int .i64 deep),.v (.int .i64 n)]=some ⟨l,i,en,e,at',deep,n⟩:=rPr_d l i en e at' deep n
theorem mPr_d' (l:List Tok) (i en e at' deep n:Int):mPr.d [.d (.sl [D.v (Value.int IntKind.i64 0),D.v (Value.string (bs [])),D.v (Value.int IntKind.i64 0)] (l.map Tok.r)),.v (.int .i64 i),.v (.int .i64 en),.v (.int .i64 e),.v (.int .i64 at'),.v (.int .i64 deep),.v (.int .i64 n)]=some ⟨l,i,en,e,at',deep,n⟩:=mPr_d l i en e at' deep n
abbrev yc_take (p:Pr) (t:List UInt8):Prop:=okP p
abbrev yr_take (p:Pr) (t:List UInt8):SV:=.one (.v (.bool (isT t p)))
abbrev ym_take (p:Pr) (t:List UInt8):List (Option MV):=[some (zPr,[(takP t p).c])]
noncomputable abbrev ya_take:ArgM ((Pr)×(List UInt8)×Unit):=(amP (mPr) (amD (cStr) am0))
abbrev yq_take:Prop:=CallsM Try.prog 18 ((ya_take).args 0) (ya_take).mem (fun p:(Pr)×(List UInt8)×Unit=>yc_take p.1 p.2.1) (fun p:(Pr)×(List UInt8)×Unit=>yr_take p.1 p.2.1) (fun p:(Pr)×(List UInt8)×Unit=>ym_take p.1 p.2.1)
theorem yl_take:∀p,(fun p:(Pr)×(List UInt8)×Unit=>yc_take p.1 p.2.1) p→lenM ((ya_take).mem p).length ((fun p:(Pr)×(List UInt8)×Unit=>ym_take p.1 p.2.1) p)=true:=by intro p _;rfl
theorem yo_take:∀p,(fun p:(Pr)×(List UInt8)×Unit=>yc_take p.1 p.2.1) p→outV ((fun p:(Pr)×(List UInt8)×Unit=>ym_take p.1 p.2.1) p).length ((fun p:(Pr)×(List UInt8)×Unit=>yr_take p.1 p.2.1) p)=true:=by intro p _;first|rfl|exact ex_out _ _|exact cd_out _ _|(simp[outV,outC,ex_out,cd_out];done)
theorem yn_take:∀p,(fun p:(Pr)×(List UInt8)×Unit=>yc_take p.1 p.2.1) p→∀q,some q∈(fun p:(Pr)×(List UInt8)×Unit=>ym_take p.1 p.2.1) p→∀r∈q.2,∀c∈r,c.names=[]:=by intro p _;exact mem_nm _
attribute [local go_sem] Pr.c Tok.r cPt_d mPr_d mPr_d' mPr_e mPr_z pr_eta ptR rPr_d rPr_d' tk_at zTk
theorem y_take:yq_take:=by
 rintro ⟨p,t,_u⟩ w M I lab fz xs hc hA hl hx
 refine calls_toML Try.func18 rfl ((ya_take).mem ⟨p,t,_u⟩) w M I lab fz [yp_is] [] ((ya_take).args 0 ⟨p,t,_u⟩) ((fun p:(Pr)×(List UInt8)×Unit=>ym_take p.1 p.2.1) ⟨p,t,_u⟩) ((fun p:(Pr)×(List UInt8)×Unit=>yr_take p.1 p.2.1) ⟨p,t,_u⟩) xs hA hl hx (fun v hv k hk=>by have:=(ya_take).an 0 ⟨p,t,_u⟩ v hv k hk;omega) (Nat.le_of_ble_eq_true rfl) (Nat.le_of_ble_eq_true rfl) ?_
 clear hx hl hA xs
 simp only[Try.f18]
 simp only[↓eB,seval,go_sem,yp_is,yr_is]
 try simp only[impB,impN]
 repeat' first|exact ck|with_reducible apply And.intro|intro _
 all_goals try simp only[bne,Bool.not_eq_true',Bool.not_eq_false',Bool.not_not] at*
 all_goals first
  |(exact hc.i;done)
  |(refine ret_with [] ?_;simp only[↓eB,seval,go_sem,bne,yr_take,ym_take,takP,adv];first|done|(simp only[*,if_true,if_false,Bool.false_eq_true,Bool.true_or,Bool.or_true,Bool.false_or,Bool.or_false,Bool.and_false,Bool.false_and,Bool.true_and,Bool.and_true,Bool.not_true,Bool.not_false,Bool.or_self,Bool.and_self,Int.reduceEq,Int.reduceNeg,Nat.reduceEqDiff,reduceCtorEq,dec_T,dec_F,leC_same,leC_nil,and_self,↓reduceIte];done)|(simp_all [takP,adv];done))
  |omega
  |(simp only[decide_eq_true_eq,decide_eq_false_iff_not]at *;omega)
  |(simp_all [takP,adv];done)
  |(simp_all [takP,adv];omega)
  |trace_state
noncomputable def yp_take {X:Ctx} {w0:World}:Sy.Spec Try.prog X w0:=specM 18 Try.call18 (ya_take) (fun p:(Pr)×(List UInt8)×Unit=>yc_take p.1 p.2.1) (fun p:(Pr)×(List UInt8)×Unit=>yr_take p.1 p.2.1) (fun p:(Pr)×(List UInt8)×Unit=>ym_take p.1 p.2.1) yl_take yo_take yn_take y_take
abbrev yc_want (p:Pr) (t:List UInt8):Prop:=okP p
abbrev yr_want (p:Pr) (t:List UInt8):SV:=.tup []
abbrev ym_want (p:Pr) (t:List UInt8):List (Option MV):=[some (zPr,[(wanP t p).c])]
noncomputable abbrev ya_want:ArgM ((Pr)×(List UInt8)×Unit):=(amP (mPr) (amD (cStr) am0))
abbrev yq_want:Prop:=CallsM Try.prog 19 ((ya_want).args 0) (ya_want).mem (fun p:(Pr)×(List UInt8)×Unit=>yc_want p.1 p.2.1) (fun p:(Pr)×(List UInt8)×Unit=>yr_want p.1 p.2.1) (fun p:(Pr)×(List UInt8)×Unit=>ym_want p.1 p.2.1)
theorem yl_want:∀p,(fun p:(Pr)×(List UInt8)×Unit=>yc_want p.1 p.2.1) p→lenM ((ya_want).mem p).length ((fun p:(Pr)×(List UInt8)×Unit=>ym_want p.1 p.2.1) p)=true:=by intro p _;rfl
theorem yo_want:∀p,(fun p:(Pr)×(List UInt8)×Unit=>yc_want p.1 p.2.1) p→outV ((fun p:(Pr)×(List UInt8)×Unit=>ym_want p.1 p.2.1) p).length ((fun p:(Pr)×(List UInt8)×Unit=>yr_want p.1 p.2.1) p)=true:=by intro p _;first|rfl|exact ex_out _ _|exact cd_out _ _|(simp[outV,outC,ex_out,cd_out];done)
theorem yn_want:∀p,(fun p:(Pr)×(List UInt8)×Unit=>yc_want p.1 p.2.1) p→∀q,some q∈(fun p:(Pr)×(List UInt8)×Unit=>ym_want p.1 p.2.1) p→∀r∈q.2,∀c∈r,c.names=[]:=by intro p _;exact mem_nm _
theorem y_want:yq_want:=by
 rintro ⟨p,t,_u⟩ w M I lab fz xs hc hA hl hx
 refine calls_toML Try.func19 rfl ((ya_want).mem ⟨p,t,_u⟩) w M I lab fz [yp_take,yp_fail] [] ((ya_want).args 0 ⟨p,t,_u⟩) ((fun p:(Pr)×(List UInt8)×Unit=>ym_want p.1 p.2.1) ⟨p,t,_u⟩) ((fun p:(Pr)×(List UInt8)×Unit=>yr_want p.1 p.2.1) ⟨p,t,_u⟩) xs hA hl hx (fun v hv k hk=>by have:=(ya_want).an 0 ⟨p,t,_u⟩ v hv k hk;omega) (Nat.le_of_ble_eq_true rfl) (Nat.le_of_ble_eq_true rfl) ?_
 clear hx hl hA xs
 simp only[Try.f19]
 simp only[↓eB,seval,go_sem,yp_take,yp_fail]
 try simp only[impB,impN]
 repeat' first|exact ck|with_reducible apply And.intro|intro _
 all_goals try simp only[bne,Bool.not_eq_true',Bool.not_eq_false',Bool.not_not] at*
 all_goals first
  |(exact hc;done)
  |((have h:=okP.i hc;simp_all [takP]);done)
  |(refine ret_with [] ?_;simp only[↓eB,seval,go_sem,bne,yr_want,ym_want,wanP,takP];first|done|(simp only[*,if_true,if_false,Bool.false_eq_true,Bool.true_or,Bool.or_true,Bool.false_or,Bool.or_false,Bool.and_false,Bool.false_and,Bool.true_and,Bool.and_true,Bool.not_true,Bool.not_false,Bool.or_self,Bool.and_self,Int.reduceEq,Int.reduceNeg,Nat.reduceEqDiff,reduceCtorEq,dec_T,dec_F,leC_same,leC_nil,and_self,↓reduceIte];done)|(simp_all [wanP,takP];done))
  |omega
  |(simp only[decide_eq_true_eq,decide_eq_false_iff_not]at *;omega)
  |(simp_all [wanP,takP];done)
  |(simp_all [wanP,takP];omega)
  |trace_state
noncomputable def yp_want {X:Ctx} {w0:World}:Sy.Spec Try.prog X w0:=specM 19 Try.call19 (ya_want) (fun p:(Pr)×(List UInt8)×Unit=>yc_want p.1 p.2.1) (fun p:(Pr)×(List UInt8)×Unit=>yr_want p.1 p.2.1) (fun p:(Pr)×(List UInt8)×Unit=>ym_want p.1 p.2.1) yl_want yo_want yn_want y_want
abbrev yc_name (p:Pr):Prop:=okP p
abbrev yr_name (p:Pr):SV:=.one (.v (.string (bs (namS p))))
abbrev ym_name (p:Pr):List (Option MV):=[some (zPr,[(namP p).c])]
noncomputable abbrev ya_name:ArgM ((Pr)×Unit):=(amP (mPr) am0)
abbrev yq_name:Prop:=CallsM Try.prog 22 ((ya_name).args 0) (ya_name).mem (fun p:(Pr)×Unit=>yc_name p.1) (fun p:(Pr)×Unit=>yr_name p.1) (fun p:(Pr)×Unit=>ym_name p.1)
theorem yl_name:∀p,(fun p:(Pr)×Unit=>yc_name p.1) p→lenM ((ya_name).mem p).length ((fun p:(Pr)×Unit=>ym_name p.1) p)=true:=by intro p _;rfl
theorem yo_name:∀p,(fun p:(Pr)×Unit=>yc_name p.1) p→outV ((fun p:(Pr)×Unit=>ym_name p.1) p).length ((fun p:(Pr)×Unit=>yr_name p.1) p)=true:=by intro p _;first|rfl|exact ex_out _ _|exact cd_out _ _|(simp[outV,outC,ex_out,cd_out];done)
theorem yn_name:∀p,(fun p:(Pr)×Unit=>yc_name p.1) p→∀q,some q∈(fun p:(Pr)×Unit=>ym_name p.1) p→∀r∈q.2,∀c∈r,c.names=[]:=by intro p _;exact mem_nm _
theorem y_name:yq_name:=by
 rintro ⟨p,_u⟩ w M I lab fz xs hc hA hl hx
 refine calls_toML Try.func22 rfl ((ya_name).mem ⟨p,_u⟩) w M I lab fz [yp_named,yp_fail] [] ((ya_name).args 0 ⟨p,_u⟩) ((fun p:(Pr)×Unit=>ym_name p.1) ⟨p,_u⟩) ((fun p:(Pr)×Unit=>yr_name p.1) ⟨p,_u⟩) xs hA hl hx (fun v hv k hk=>by have:=(ya_name).an 0 ⟨p,_u⟩ v hv k hk;omega) (Nat.le_of_ble_eq_true rfl) (Nat.le_of_ble_eq_true rfl) ?_
 clear hx hl hA xs
 simp only[Try.f22]
 rcases nam_cases hc with⟨hb,e1,e2,e3⟩|⟨hb,e1,e2,e3⟩
 all_goals simp only[↓eB,seval,go_sem,yp_named,yp_fail,yr_named,hb,e1,e2,e3]
 all_goals
  try simp only[impB,impN]
  repeat' first|exact ck|with_reducible apply And.intro|intro _
  all_goals try simp only[bne,Bool.not_eq_true',Bool.not_eq_false',Bool.not_not] at*
  all_goals first
   |(exact hc.i;done)
   |(refine ret_with [] ?_;simp only[↓eB,seval,go_sem,bne,yr_name,ym_name,namS,namP,adv,hb,tk];first|done|(simp only[*,if_true,if_false,Bool.false_eq_true,Bool.true_or,Bool.or_true,Bool.false_or,Bool.or_false,Bool.and_false,Bool.false_and,Bool.true_and,Bool.and_true,Bool.not_true,Bool.not_false,Bool.or_self,Bool.and_self,Int.reduceEq,Int.reduceNeg,Nat.reduceEqDiff,reduceCtorEq,dec_T,dec_F,leC_same,leC_nil,and_self,↓reduceIte];done)|(simp_all [namS,namP,adv];done))
   |omega
   |(simp only[decide_eq_true_eq,decide_eq_false_iff_not]at *;omega)
   |(simp_all [namS,namP,adv];done)
   |(simp_all [namS,namP,adv];omega)
   |trace_state
noncomputable def yp_name {X:Ctx} {w0:World}:Sy.Spec Try.prog X w0:=specM 22 Try.call22 (ya_name) (fun p:(Pr)×Unit=>yc_name p.1) (fun p:(Pr)×Unit=>yr_name p.1) (fun p:(Pr)×Unit=>ym_name p.1) yl_name yo_name yn_name y_name
abbrev yc_open (p:Pr):Prop:=okP p
abbrev yr_open (p:Pr):SV:=.one (.v (.bool (opnB p)))
abbrev ym_open (p:Pr):List (Option MV):=[some (zPr,[(opnP p).c])]
noncomputable abbrev ya_open:ArgM ((Pr)×Unit):=(amP (mPr) am0)
abbrev yq_open:Prop:=CallsM Try.prog 26 ((ya_open).args 0) (ya_open).mem (fun p:(Pr)×Unit=>yc_open p.1) (fun p:(Pr)×Unit=>yr_open p.1) (fun p:(Pr)×Unit=>ym_open p.1)
theorem yl_open:∀p,(fun p:(Pr)×Unit=>yc_open p.1) p→lenM ((ya_open).mem p).length ((fun p:(Pr)×Unit=>ym_open p.1) p)=true:=by intro p _;rfl
theorem yo_open:∀p,(fun p:(Pr)×Unit=>yc_open p.1) p→outV ((fun p:(Pr)×Unit=>ym_open p.1) p).length ((fun p:(Pr)×Unit=>yr_open p.1) p)=true:=by intro p _;first|rfl|exact ex_out _ _|exact cd_out _ _|(simp[outV,outC,ex_out,cd_out];done)
theorem yn_open:∀p,(fun p:(Pr)×Unit=>yc_open p.1) p→∀q,some q∈(fun p:(Pr)×Unit=>ym_open p.1) p→∀r∈q.2,∀c∈r,c.names=[]:=by intro p _;exact mem_nm _
theorem y_open:yq_open:=by
 rintro ⟨p,_u⟩ w M I lab fz xs hc hA hl hx
 refine calls_toML Try.func26 rfl ((ya_open).mem ⟨p,_u⟩) w M I lab fz [yp_fail] [] ((ya_open).args 0 ⟨p,_u⟩) ((fun p:(Pr)×Unit=>ym_open p.1) ⟨p,_u⟩) ((fun p:(Pr)×Unit=>yr_open p.1) ⟨p,_u⟩) xs hA hl hx (fun v hv k hk=>by have:=(ya_open).an 0 ⟨p,_u⟩ v hv k hk;omega) (Nat.le_of_ble_eq_true rfl) (Nat.le_of_ble_eq_true rfl) ?_
 clear hx hl hA xs
 simp only[Try.f26]
 simp only[↓eB,seval,go_sem,yp_fail]
 try simp only[impB,impN]
 repeat' first|exact ck|with_reducible apply And.intro|intro _
 all_goals try simp only[bne,Bool.not_eq_true',Bool.not_eq_false',Bool.not_not] at*
 all_goals first
  |(exact hc.i;done)
  |(refine ret_with [] ?_;simp only[↓eB,seval,go_sem,bne,yr_open,ym_open,opnB,opnP];first|done|(simp only[*,if_true,if_false,Bool.false_eq_true,Bool.true_or,Bool.or_true,Bool.false_or,Bool.or_false,Bool.and_false,Bool.false_and,Bool.true_and,Bool.and_true,Bool.not_true,Bool.not_false,Bool.or_self,Bool.and_self,Int.reduceEq,Int.reduceNeg,Nat.reduceEqDiff,reduceCtorEq,dec_T,dec_F,leC_same,leC_nil,and_self,↓reduceIte];done)|(simp_all [opnB,opnP];done))
  |omega
  |(simp only[decide_eq_true_eq,decide_eq_false_iff_not]at *;omega)
  |(simp_all [opnB,opnP];done)
  |(simp_all [opnB,opnP];omega)
  |trace_state
noncomputable def yp_open {X:Ctx} {w0:World}:Sy.Spec Try.prog X w0:=specM 26 Try.call26 (ya_open) (fun p:(Pr)×Unit=>yc_open p.1) (fun p:(Pr)×Unit=>yr_open p.1) (fun p:(Pr)×Unit=>ym_open p.1) yl_open yo_open yn_open y_open
end Go.Proofs.Ytjnnmindcbgjhab
