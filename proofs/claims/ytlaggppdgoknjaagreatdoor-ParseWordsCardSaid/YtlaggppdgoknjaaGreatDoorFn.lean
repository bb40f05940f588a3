/- What does not count statements. No conditions but those in each statement. -/
import Derived.Test.YtlaggppdgoknjaaGreatDoorPp
import Derived.Test.YtlaggppdgoknjaaGreatDoorSy33
set_option linter.unusedVariables false
set_option linter.unusedSimpArgs false
namespace Go.Proofs.YtlaggppdgoknjaaGreatDoor
open Go Go.Sy Go.RowKit
theorem fail_n (c:Int) (p:Pr):(failP c p).n=p.n:=(failP_e c p).2.2.2.2
theorem adv_n (p:Pr):(adv p).n=p.n:=rfl
theorem shut_n (p:Pr):(shut p).n=p.n:=rfl
theorem wan_n (t:List UInt8) (p:Pr):(wanP t p).n=p.n:=by unfold wanP;split;exact rfl;exact fail_n _ _
theorem tak_n (t:List UInt8) (p:Pr):(takP t p).n=p.n:=by unfold takP;split<;>rfl
theorem nam_n (p:Pr):(namP p).n=p.n:=by unfold namP;split;exact rfl;exact fail_n _ _
theorem opn_n (p:Pr):(opnP p).n=p.n:=by
 unfold opnP
 split
 ·split
  ·exact fail_n _ _
  ·rfl
 ·rfl
theorem prodL_n {u:Pr→R Ex} (hu:∀p,(u p).2.n=p.n):∀(k:Nat) (a:Ex) (p:Pr),(prodL u k a p).2.n=p.n
 |0,a,p=>rfl
 |k+1,a,p=>by
  simp only[prodL]
  repeat' split
  all_goals first|rfl|(rw[prodL_n hu k,hu];rfl)
theorem prodW_n {u:Pr→R Ex} (hu:∀p,(u p).2.n=p.n) (p:Pr):(prodW u p).2.n=p.n:=by unfold prodW;rw[prodL_n hu,hu]
theorem sumL_n {u:Pr→R Ex} (hu:∀p,(u p).2.n=p.n):∀(k:Nat) (a:Ex) (p:Pr),(sumL u k a p).2.n=p.n
 |0,a,p=>rfl
 |k+1,a,p=>by
  simp only[sumL]
  repeat' split
  all_goals first|rfl|(rw[sumL_n hu k,prodW_n hu];rfl)
theorem sumW_n {u:Pr→R Ex} (hu:∀p,(u p).2.n=p.n) (p:Pr):(sumW u p).2.n=p.n:=by unfold sumW;rw[sumL_n hu,prodW_n hu]
theorem un_n:∀(f:Nat) (p:Pr),(unF f p).2.n=p.n
 |0,p=>rfl
 |f+1,p=>by
  simp only[unF]
  repeat' split
  all_goals first
   |rfl
   |exact fail_n _ _
   |exact opn_n _
   |exact nam_n _
   |(rw[shut_n,un_n f,adv_n,opn_n])
   |(rw[shut_n,wan_n,sumW_n (un_n f),adv_n,opn_n])
theorem exS_n (p:Pr):(exS p).2.n=p.n:=sumW_n (un_n 41) p
theorem cmpF_n (a:Ex):∀(l:List (List UInt8)) (k:Int) (q:Pr),(cmpF q a l k).2.n=q.n
 |[],k,q=>fail_n _ _
 |t::l,k,q=>by
  simp only[cmpF]
  split
  ·rw[exS_n,adv_n]
  ·exact cmpF_n a l (k+1) q
theorem andL_n {u:Pr→R Cd} (hu:∀p,(u p).2.n=p.n):∀(k:Nat) (a:Cd) (p:Pr),(andL u k a p).2.n=p.n
 |0,a,p=>rfl
 |k+1,a,p=>by
  simp only[andL]
  split
  ·rw[andL_n hu k,hu];rfl
  ·rfl
theorem andW_n {u:Pr→R Cd} (hu:∀p,(u p).2.n=p.n) (p:Pr):(andW u p).2.n=p.n:=by unfold andW;rw[andL_n hu,hu]
theorem conL_n {u:Pr→R Cd} (hu:∀p,(u p).2.n=p.n):∀(k:Nat) (a:Cd) (p:Pr),(conL u k a p).2.n=p.n
 |0,a,p=>rfl
 |k+1,a,p=>by
  simp only[conL]
  split
  ·rw[conL_n hu k,andW_n hu];rfl
  ·rfl
theorem conW_n {u:Pr→R Cd} (hu:∀p,(u p).2.n=p.n) (p:Pr):(conW u p).2.n=p.n:=by unfold conW;rw[conL_n hu,andW_n hu]
theorem not_n:∀(f:Nat) (p:Pr),(notF f p).2.n=p.n
 |0,p=>rfl
 |f+1,p=>by
  simp only[notF]
  repeat' split
  all_goals first
   |rfl
   |exact opn_n _
   |(rw[shut_n,not_n f,adv_n,opn_n])
   |(rw[shut_n,wan_n,conW_n (not_n f),adv_n,opn_n])
   |(rw[cmpF_n,exS_n])
theorem cdS_n (p:Pr):(cdS p).2.n=p.n:=conW_n (not_n 41) p
theorem argL_n:∀(k:Nat) (l:List Ar) (p:Pr),(argL k l p).2.n=p.n
 |0,l,p=>rfl
 |k+1,l,p=>by
  simp only[argL]
  repeat' split
  ·rw[adv_n,exS_n]
  ·rw[argL_n k,wan_n,exS_n]
  ·rfl
theorem argW_n (p:Pr):(argW p).2.n=p.n:=by
 unfold argW
 split
 ·rfl
 ·exact argL_n _ _ _
theorem val_n (p:Pr):(valF p).2.n=p.n:=by
 unfold valF
 repeat' split
 all_goals first
  |rfl
  |(rw[nam_n,adv_n])
  |(rw[wan_n,exS_n,adv_n,nam_n])
  |(rw[argW_n,adv_n,nam_n])
  |exact exS_n _
theorem mor_n (l:List Vr) (m:Int) (p:Pr):(morP l m p).n=p.n:=by unfold morP;split;exact fail_n _ _;exact nam_n _
end Go.Proofs.YtlaggppdgoknjaaGreatDoor
namespace Go.Proofs.YtlaggppdgoknjaaGreatDoor
open Go Go.Sy Go.RowKit
theorem wkC_self (c:C):wkC c c:=by cases c<;>first|exact trivial|exact rfl|exact .inl rfl|exact .inr rfl|simp[wkC]
theorem wkR_p:∀r:List C,wkR r r
 |[]=>trivial
 |c::r=>⟨wkC_self c,wkR_p r⟩
theorem wkR_self (r:List C):wkR r r=True:=eq_true (wkR_p r)
theorem go_w {p:Pr} (he:(p.e==0)=true):p.w=(zPq,[p.q])∧p.b=false:=⟨w_t he,b_t he⟩
theorem okQ.hn {p:Pr} (h:okQ p):0≤p.i:=h.ok.1
def opP (p:Pr):Pr:=if opnB p=true then adv (opnP p) else opnP p
theorem opP_t {p:Pr} (h:opnB p=true):opP p=adv (opnP p):=by unfold opP;rw[if_pos h]
theorem opP_f {p:Pr} (h:opnB p=false):opP p=opnP p:=by unfold opP;rw[if_neg (by rw[h];decide)]
theorem opn_52 {p:Pr} (h:okQ p) (hb:opnB p=false):opP p=failP 52 p∧(p.deep==40)=true:=by
 rw[opP_f hb]
 unfold opnB at hb
 unfold opnP
 rw[h.e']at hb ⊢
 simp only[Bool.true_and,Bool.not_eq_false',decide_eq_true_eq]at hb
 rw[if_pos rfl,if_pos (by simpa using hb)]
 have:=h.ok.2.2.2.2.1
 exact⟨rfl,by simp;omega⟩
theorem opn_40 {p:Pr} (h:okQ p) (hb:opnB p=true):(p.deep==40)=false∧IntKind.i64.wrap (p.deep+1)=p.deep+1∧opP p=adv { p with deep:=p.deep+1 }:=by
 obtain⟨h1,h2,h3⟩:=opn_e h.ok hb
 have h4:=h.ok.2.2.2.1
 refine⟨by simp;omega,wrap_i64 (by omega) (by omega),by rw[opP_t hb,h3]⟩
theorem opP_okQ {p:Pr} (h:okQ p) (hi:p.i<(p.l.length:Int)) (hb:opnB p=true):okQ (opP p):=by
 rw[opP_t hb]
 have h1:=opn_adv h.ok hb hi
 refine⟨h1.ok,?_,?_⟩
 ·show (opnP p).e=0
  rw[(opn_e h.ok hb).2.2];exact h.e
 ·show lexd (opnP p).l
  rw[(opn_e h.ok hb).2.2];exact h.l
def decP (n most:Int) (p:Pr):Pr:=if (nameB p&&decide (most≤n))=true then failP 53 p else namP p
theorem dec_nx {n most:Int} {p:Pr} (h:okP p):Nx p (decP n most p):=by
 unfold decP;split
 ·exact fail_nx 53 h
 ·exact nam_nx h
theorem nam_f {p:Pr} (hb:nameB p=false):namP p=failP 51 p:=by unfold namP;rw[if_neg (by rw[hb];decide)]
theorem nam_t {p:Pr} (hb:nameB p=true):namP p=adv p:=by unfold namP;rw[if_pos hb]
theorem wan_f {t:List UInt8} {p:Pr} (hb:isT t p=false):wanP t p=failP 51 p:=by unfold wanP;rw[if_neg (by rw[hb];decide)]
theorem wan_t {t:List UInt8} {p:Pr} (hb:isT t p=true):wanP t p=adv p:=by unfold wanP;rw[if_pos hb]
theorem adv_e {p:Pr} (h:okQ p):((adv p).e==0)=true:=by show (p.e==0)=true;exact h.e'
theorem adv_okQ {p:Pr} (h:okQ p) (hi:p.i<(p.l.length:Int)):okQ (adv p):=h.nx (adv_nx h.ok hi h.e) (adv_e h)
theorem isT_okQ {t:List UInt8} {p:Pr} (h:okQ p) (hi:isT t p=true):okQ (adv p):=adv_okQ h (isT_e hi).2
def okN (p:Pr):Prop:=0≤p.n∧p.n≤200
def NN (f:Nat) (st:Pr→R Sm):Prop:=∀p,okP p→dpU f p→okN p→(st p).2.e=0→okN (st p).2
theorem nx_e00 {p q:Pr} (h:Nx p q) (h0:q.e=0):p.e=0:=by
 by_cases h1:p.e=0
 ·exact h1
 ·rw[(h.e h1).1]at h0;exact absurd h0 h1
theorem okN.of {p q:Pr} (h:okN p) (e:q.n=p.n):okN q:=by unfold okN;rw[e];exact h
theorem stmtsL_okN {st:Pr→R Sm} (hu:∀p,okP p→Nx p (st p).2) {f:Nat} (hn:NN f st):∀(k:Nat) (l:List Sm) (p:Pr),okP p→dpU f p→okN p→(stmtsL st k l p).2.e=0→okN (stmtsL st k l p).2
 |0,l,p,h,hd,h0,_=>h0
 |k+1,l,p,h,hd,h0,he=>by
  simp only[stmtsL]at he ⊢
  split
  ·rename_i e0
   rw[if_pos e0]at he
   split
   ·exact h0
   rename_i hi
   rw[if_neg hi]at he
   split
   ·rename_i hb
    rw[if_pos hb]at he
    exact absurd he (failP_ne (by decide) p)
   ·rename_i hb
    rw[if_neg hb]at he
    have h2:=hu p h
    have h3:=stmtsL_nx hu k (l++[(st p).1]) (st p).2 h2.ok
    exact stmtsL_okN hu hn k _ _ h2.ok (dp_nx h2 hd) (hn p h hd h0 (nx_e00 h3 he)) he
  ·exact h0
theorem stmtsW_okN {st:Pr→R Sm} (hu:∀p,okP p→Nx p (st p).2) {f:Nat} (hn:NN f st) {p:Pr} (h:okP p) (hd:dpU f p) (h0:okN p) (he:(stmtsW st p).2.e=0):okN (stmtsW st p).2:=stmtsL_okN hu hn _ _ p h hd h0 he
theorem blkW_okN {st:Pr→R Sm} (hu:∀p,okP p→Nx p (st p).2) {f:Nat} (hn:NN f st) {p:Pr} (h:okP p) (hd:dpU (f+1) p) (h0:okN p) (he:(blkW st p).2.e=0):okN (blkW st p).2:=by
 unfold blkW at he ⊢
 split
 ·rename_i hi
  rw[if_pos hi]at he
  split
  ·rename_i hb
   rw[if_pos hb]at he
   have h1:=opn_adv h hb (isT_e hi).2
   have h2:(adv (opnP p)).n=p.n:=opn_n p
   exact(stmtsW_okN hu hn h1.ok (opn_dp h hb hd) (h0.of h2) he).of rfl
  ·rename_i hb
   rw[if_neg hb]at he
   exact h0.of (opn_n p)
 ·exact h0.of (fail_n _ _)
theorem stmB_okN {st:Pr→R Sm} (hu:∀p,okP p→Nx p (st p).2) {f:Nat} (hn:NN f st) (no:Int) {p:Pr} (h:okP p) (hd:dpU (f+1) p) (h0:okN p) (he:(stmB st no p).2.e=0):okN (stmB st no p).2:=by
 unfold stmB at he ⊢
 split
 ·exact h0.of (by simp only[wan_n,exS_n,adv_n])
 rename_i c1
 rw[if_neg c1]at he
 split
 ·exact h0.of (by simp only[wan_n,ifC,cdS_n,adv_n])
 rename_i c2
 rw[if_neg c2]at he
 have blk:∀{t:List UInt8},isT t p=true→(ifB (blkW st) p).2.e=0→okN (ifB (blkW st) p).2:=by
  intro t hi he
  have h1:=ifC_nx h hi
  have h2:=h1.trans (wan_nx (t:=[41]) h1.ok)
  exact blkW_okN hu hn h2.ok (dp_nx h2 hd) (h0.of (by simp only[wan_n,ifC,cdS_n,adv_n])) he
 split
 ·rename_i c3
  rw[if_pos c3]at he
  exact blk c3 he
 rename_i c3
 rw[if_neg c3]at he
 split
 ·rename_i c4
  rw[if_pos c4]at he
  split
  ·rename_i c5
   rw[if_pos c5]at he
   have h1:=ifB_nx hu h c4
   have h2:=isT_adv h1.ok c5
   have h3:=blkW_nx hu h2.ok
   have h4:=blk c4 (nx_e00 (h2.trans h3) he)
   exact blkW_okN hu hn h2.ok (dp_nx (h1.trans h2) hd) h4 he
  ·rename_i c5
   rw[if_neg c5]at he
   exact blk c4 he
 rename_i c4
 rw[if_neg c4]at he
 split
 ·exact h0.of (by simp only[wan_n,exS_n,nam_n,adv_n])
 split
 ·exact h0.of (by simp only[wan_n,argW_n,nam_n,adv_n])
 split
 ·exact h0.of (by simp only[wan_n,exS_n,nam_n,adv_n])
 ·exact h0.of (by simp only[wan_n,val_n,nam_n])
theorem kno_f {st:Pr→R Sm} (hu:∀p,okP p→Nx p (st p).2) {no:Int} {p:Pr} (h:okP p) (hk:knoB p=false):(stmB st no p).2.e≠0:=by
 simp only[knoB,Bool.or_eq_false_iff]at hk
 obtain⟨⟨⟨⟨⟨k1,k2⟩,k3⟩,k4⟩,k5⟩,k6⟩:=hk
 unfold stmB
 simp only[k2,k3,k4,k5,k6,Bool.false_eq_true,if_false]
 have hn:=nam_nx h
 have h0:(namP p).e≠0:=by rw[nam_f k1];exact failP_ne (by decide) p
 have q0:∀t,isT t (namP p)=false:=by
  intro t
  unfold isT
  have:((namP p).e==0)=false:=by simpa using h0
  rw[this];rfl
 simp only[q0,Bool.false_eq_true,if_false]
 intro he
 have h1:=wan_nx (t:=[61]) hn.ok
 have h2:=h1.trans (val_nx h1.ok)
 have h3:=h2.trans (wan_nx (t:=[59]) h2.ok)
 exact h0 (nx_e00 h3 he)
theorem stm_okN:∀f:Nat,NN f (stmF f)
 |0=>by
  intro p h hd _ _
  have h3:p.deep≤40:=h.2.2.2.2.1
  have h4:41≤p.deep+((0:Nat):Int):=hd
  exact absurd h4 (by simp;omega)
 |f+1=>by
  intro p h hd h0 he
  simp only[stmF]at he ⊢
  split
  ·rename_i c
   rw[if_pos c]at he
   exact absurd he (failP_ne (by decide) p)
  ·rename_i c
   rw[if_neg c]at he
   have hx:=nxt_nx h
   cases hk:knoB p with
   |false=>exact absurd he (kno_f (stm_nx f) hx.ok hk)
   |true=>
    rw[hk]at c
    simp only[Bool.true_and,decide_eq_true_eq]at c
    obtain⟨a1,a2⟩:=h0
    have e1:(nxt p).n=p.n+1:=by show w64i (p.n+1)=_;unfold w64i;rw[wrap_i64 (by omega) (by omega)]
    exact stmB_okN (stm_nx f) (stm_okN f) _ hx.ok (dp_nx hx hd) (by unfold okN;rw[e1];omega) he
end Go.Proofs.YtlaggppdgoknjaaGreatDoor
