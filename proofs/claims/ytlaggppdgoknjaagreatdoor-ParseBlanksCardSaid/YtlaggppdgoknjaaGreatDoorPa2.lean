/- The parser's functions up to sums, walked. No conditions but those in each statement. -/
import Derived.Test.YtlaggppdgoknjaaGreatDoorMi1
import Derived.Test.YtlaggppdgoknjaaGreatDoorAt
set_option linter.unusedVariables false
set_option linter.unusedSimpArgs false
namespace Go.Proofs.YtlaggppdgoknjaaGreatDoor
open Go Go.Sy Go.RowKit
end Go.Proofs.YtlaggppdgoknjaaGreatDoor
namespace Go.Proofs.YtlaggppdgoknjaaGreatDoor
open Go Go.Sy Go.RowKit
end Go.Proofs.YtlaggppdgoknjaaGreatDoor
namespace Go.Proofs.YtlaggppdgoknjaaGreatDoor
open Go Go.Sy Go.RowKit
def tkA (p:Pr) (k:Int):Tok:=p.l.getD k.toNat tk0
def nullB (p:Pr):Bool:=nameB p&&decide (w64i (p.i+2)<(p.l.length:Int))&&(tkA p (w64i (p.i+2))).t==[110,117,108,108]&&((tkA p (w64i (p.i+1))).t==[61,61]||(tkA p (w64i (p.i+1))).t==[33,61])
def adv3 (p:Pr):Pr:={ p with i:=w64i (p.i+3) }
def cmpO:List (List UInt8):=[[61,61],[33,61],[60],[60,61],[62],[62,61]]
def cmpF (q:Pr) (a:Ex):List (List UInt8)→Int→R Cd
 |[],_=>(.nil,failP 51 q)
 |t::l,k=>if isT t q=true then (.mk k a (exS (adv q)).1 .nil .nil [],(exS (adv q)).2) else cmpF q a l (k+1)
def andL (nt:Pr→R Cd):Nat→Cd→Pr→R Cd
 |0,c,p=>(c,p)
 |k+1,c,p=>if isT [38,38] p=true then andL nt k (.mk 6 .nil .nil c (nt (adv p)).1 []) (nt (adv p)).2 else (c,p)
def andW (nt:Pr→R Cd) (p:Pr):R Cd:=andL nt p.l.length (nt p).1 (nt p).2
def conL (nt:Pr→R Cd):Nat→Cd→Pr→R Cd
 |0,c,p=>(c,p)
 |k+1,c,p=>if isT [124,124] p=true then conL nt k (.mk 7 .nil .nil c (andW nt (adv p)).1 []) (andW nt (adv p)).2 else (c,p)
def conW (nt:Pr→R Cd) (p:Pr):R Cd:=conL nt p.l.length (andW nt p).1 (andW nt p).2
def nulC (p:Pr):Cd:=if ((tkA p (w64i (p.i+1))).t==[33,61])=true then .mk 8 .nil .nil (.mk 9 .nil .nil .nil .nil (tk p).t) .nil [] else .mk 9 .nil .nil .nil .nil (tk p).t
def notF:Nat→Pr→R Cd
 |0,p=>(.nil,p)
 |f+1,p=>
  if isT [33] p=true then
   (if opnB p=true then (.mk 8 .nil .nil (notF f (adv (opnP p))).1 .nil [],shut (notF f (adv (opnP p))).2) else (.nil,opnP p))
  else if isT [40] p=true then
   (if opnB p=true then ((conW (notF f) (adv (opnP p))).1,shut (wanP [41] (conW (notF f) (adv (opnP p))).2)) else (.nil,opnP p))
  else if nullB p=true then (nulC p,adv3 p)
  else cmpF (exS p).2 (exS p).1 cmpO 0
abbrev cdS:Pr→R Cd:=conW (notF 41)
def argL:Nat→List Ar→Pr→R (List Ar)
 |0,_,p=>([],p)
 |k+1,l,p=>
  if (p.e==0)=true then
   (if isT [41] (exS p).2=true then (l++[⟨false,[],(exS p).1⟩],adv (exS p).2) else argL k (l++[⟨false,[],(exS p).1⟩]) (wanP [44] (exS p).2))
  else ([],p)
def argW (p:Pr):R (List Ar):=if isT [41] p=true then ([],adv p) else argL (p.l.length+1) [] p
theorem exS_nx {p:Pr} (h:okP p):Nx p (exS p).2:=sumW_nx (un_nx 41) p h
theorem isT_adv {t:List UInt8} {p:Pr} (h:okP p) (hi:isT t p=true):Nx p (adv p):=adv_nx h (isT_e hi).2 (isT_e hi).1
theorem null_e {p:Pr} (h:okP p) (hb:nullB p=true):p.e=0∧p.i+2<(p.l.length:Int)∧w64i (p.i+3)=p.i+3∧w64i (p.i+2)=p.i+2∧w64i (p.i+1)=p.i+1:=by
 unfold nullB at hb
 simp only[Bool.and_eq_true,decide_eq_true_eq]at hb
 obtain⟨h1,h2,h3,_⟩:=h
 have e2:w64i (p.i+2)=p.i+2:=by unfold w64i;rw[wrap_i64 (by omega) (by omega)]
 rw[e2]at hb
 refine⟨(nameB_e hb.1.1.1).1,hb.1.1.2,?_,e2,?_⟩<;>unfold w64i<;>rw[wrap_i64 (by omega) (by omega)]
theorem adv3_nx {p:Pr} (h:okP p) (hb:nullB p=true):Nx p (adv3 p):=by
 obtain⟨e1,e2,e3,_⟩:=null_e h hb
 obtain⟨h1,h2,h3,h4⟩:=h
 have e:(adv3 p).i=p.i+3:=e3
 exact⟨⟨by rw[e];omega,by rw[e];show p.i+3≤(p.l.length:Int);omega,h3,h4⟩,rfl,rfl,by rw[e];omega,rfl,fun h=>absurd e1 h⟩
theorem cmpF_nx (a:Ex):∀(l:List (List UInt8)) (k:Int) (q:Pr),okP q→Nx q (cmpF q a l k).2
 |[],k,q,h=>fail_nx 51 h
 |t::l,k,q,h=>by
  simp only[cmpF]
  split
  ·rename_i hi
   have h1:=isT_adv h hi
   exact h1.trans (exS_nx h1.ok)
  ·exact cmpF_nx a l (k+1) q h
theorem andL_nx {u:Pr→R Cd} (hu:∀p,okP p→Nx p (u p).2):∀(k:Nat) (a:Cd) (p:Pr),okP p→Nx p (andL u k a p).2
 |0,a,p,h=>.refl h
 |k+1,a,p,h=>by
  simp only[andL]
  split
  ·rename_i hi
   have h1:=isT_adv h hi
   have h2:=hu _ h1.ok
   exact(h1.trans h2).trans (andL_nx hu k _ _ h2.ok)
  ·exact .refl h
theorem andW_nx {u:Pr→R Cd} (hu:∀p,okP p→Nx p (u p).2) (p:Pr) (h:okP p):Nx p (andW u p).2:=(hu p h).trans (andL_nx hu _ _ _ (hu p h).ok)
theorem conL_nx {u:Pr→R Cd} (hu:∀p,okP p→Nx p (u p).2):∀(k:Nat) (a:Cd) (p:Pr),okP p→Nx p (conL u k a p).2
 |0,a,p,h=>.refl h
 |k+1,a,p,h=>by
  simp only[conL]
  split
  ·rename_i hi
   have h1:=isT_adv h hi
   have h2:=andW_nx hu _ h1.ok
   exact(h1.trans h2).trans (conL_nx hu k _ _ h2.ok)
  ·exact .refl h
theorem conW_nx {u:Pr→R Cd} (hu:∀p,okP p→Nx p (u p).2) (p:Pr) (h:okP p):Nx p (conW u p).2:=(andW_nx hu p h).trans (conL_nx hu _ _ _ (andW_nx hu p h).ok)
theorem not_nx:∀(f:Nat) (p:Pr),okP p→Nx p (notF f p).2
 |0,p,h=>.refl h
 |f+1,p,h=>by
  simp only[notF]
  split
  ·rename_i hi
   split
   ·rename_i hb
    have h1:=opn_adv h hb (isT_e hi).2
    exact shut_nx h hb (h1.trans (not_nx f _ h1.ok))
   ·rename_i hb;exact opn_no h (by simpa using hb)
  ·split
   ·rename_i hi
    split
    ·rename_i hb
     have h1:=opn_adv h hb (isT_e hi).2
     have h2:=h1.trans (conW_nx (not_nx f) _ h1.ok)
     exact shut_nx h hb (h2.trans (wan_nx h2.ok))
    ·rename_i hb;exact opn_no h (by simpa using hb)
   ·split
    ·rename_i hb;exact adv3_nx h hb
    ·have h1:=exS_nx h
     exact h1.trans (cmpF_nx _ _ _ _ h1.ok)
theorem cdS_nx {p:Pr} (h:okP p):Nx p (cdS p).2:=conW_nx (not_nx 41) p h
theorem argL_nx:∀(k:Nat) (l:List Ar) (p:Pr),okP p→Nx p (argL k l p).2
 |0,l,p,h=>.refl h
 |k+1,l,p,h=>by
  simp only[argL]
  split
  ·have h1:=exS_nx h
   split
   ·rename_i hi;exact h1.trans (isT_adv h1.ok hi)
   ·have h2:=h1.trans (wan_nx (t:=[44]) h1.ok)
    exact h2.trans (argL_nx k _ _ h2.ok)
  ·exact .refl h
theorem argW_nx {p:Pr} (h:okP p):Nx p (argW p).2:=by
 unfold argW
 split
 ·rename_i hi;exact isT_adv h hi
 ·exact argL_nx _ _ _ h
theorem opn_dp {f:Nat} {p:Pr} (h:okP p) (ob:opnB p=true) (hd:dpU (f+1) p):dpU f (adv (opnP p)):=by
 have h3:=(opn_e h ob).2.2
 show 41≤(opnP p).deep+(f:Int)
 rw[h3];have:41≤p.deep+((f+1:Nat):Int):=hd;simp only;omega
end Go.Proofs.YtlaggppdgoknjaaGreatDoor
namespace Go.Proofs.YtlaggppdgoknjaaGreatDoor
open Go Go.Sy Go.RowKit
end Go.Proofs.YtlaggppdgoknjaaGreatDoor
namespace Go.Proofs.YtlaggppdgoknjaaGreatDoor
open Go Go.Sy Go.RowKit
abbrev tNull:List UInt8:=[110,117,108,108]
abbrev tRet:List UInt8:=[114,101,116,117,114,110]
abbrev tAss:List UInt8:=[97,115,115,101,114,116]
abbrev tIf:List UInt8:=[105,102]
abbrev tWhi:List UInt8:=[119,104,105,108,101]
abbrev tElse:List UInt8:=[101,108,115,101]
abbrev tVar:List UInt8:=[118,97,114]
abbrev tPtr:List UInt8:=[112,116,114]
abbrev tFn:List UInt8:=[102,110]
structure VR where
 k:Int
 y:List UInt8
 e:Ex
 a:Option (List Ar)
def ahB (t:List UInt8) (p:Pr):Bool:=nameB p&&decide (w64i (p.i+1)<(p.l.length:Int))&&(tkA p (w64i (p.i+1))).t==t
def valF (p:Pr):R VR:=
 if isT tNull p=true then (⟨3,[],.nil,none⟩,adv p)
 else if isT [38] p=true then (⟨1,namS (adv p),.nil,none⟩,namP (adv p))
 else if isT [42] p=true then (⟨4,namS (adv p),.nil,none⟩,namP (adv p))
 else if ahB [91] p=true then (⟨6,namS p,(exS (adv (namP p))).1,none⟩,wanP [93] (exS (adv (namP p))).2)
 else if ahB [40] p=true then (⟨8,namS p,.nil,some (argW (adv (namP p))).1⟩,(argW (adv (namP p))).2)
 else (⟨0,[],(exS p).1,none⟩,(exS p).2)
def nxt (p:Pr):Pr:={ p with n:=w64i (p.n+1) }
def knoB (p:Pr):Bool:=nameB p||isT [42] p||isT tRet p||isT tAss p||isT tIf p||isT tWhi p
def sm0 (no:Int):Sm:=.mk 0 [] [] .nil .nil .nil [] [] [] no
def stmtsL (st:Pr→R Sm):Nat→List Sm→Pr→R (List Sm)
 |0,l,p=>(l,p)
 |k+1,l,p=>
  if (p.e==0)=true then
   (
    if isT [125] p=true then (l,adv p)
    else if decide ((p.l.length:Int)≤p.i)=true then ([],failP 51 p)
    else stmtsL st k (l++[(st p).1]) (st p).2)
  else (l,p)
def stmtsW (st:Pr→R Sm) (p:Pr):R (List Sm):=stmtsL st (p.l.length+1) [] p
def blkW (st:Pr→R Sm) (p:Pr):R (List Sm):=
 if isT [123] p=true then
  (if opnB p=true then ((stmtsW st (adv (opnP p))).1,shut (stmtsW st (adv (opnP p))).2) else ([],opnP p))
 else ([],failP 51 p)
def ifC (p:Pr):R Cd:=cdS (wanP [40] (adv p))
def ifB (blk:Pr→R (List Sm)) (p:Pr):R (List Sm):=blk (wanP [41] (ifC p).2)
def stmB (st:Pr→R Sm) (no:Int) (p:Pr):R Sm:=
 if isT tRet p=true then (.mk 9 [] [] (exS (adv p)).1 .nil .nil [] [] [] no,wanP [59] (exS (adv p)).2)
 else if isT tAss p=true then (.mk 12 [] [] .nil .nil (ifC p).1 [] [] [] no,wanP [59] (wanP [41] (ifC p).2))
 else if isT tWhi p=true then (.mk 11 [] [] .nil .nil (ifC p).1 [] (ifB (blkW st) p).1 [] no,(ifB (blkW st) p).2)
 else if isT tIf p=true then
  (if isT tElse (ifB (blkW st) p).2=true then
   (.mk 10 [] [] .nil .nil (ifC p).1 [] (ifB (blkW st) p).1 (blkW st (adv (ifB (blkW st) p).2)).1 no,(blkW st (adv (ifB (blkW st) p).2)).2)
   else (.mk 10 [] [] .nil .nil (ifC p).1 [] (ifB (blkW st) p).1 [] no,(ifB (blkW st) p).2))
 else if isT [42] p=true then
  (.mk 5 (namS (adv p)) [] (exS (wanP [61] (namP (adv p)))).1 .nil .nil [] [] [] no,wanP [59] (exS (wanP [61] (namP (adv p)))).2)
 else if isT [40] (namP p)=true then
  (.mk 8 [] (namS p) .nil .nil .nil (argW (adv (namP p))).1 [] [] no,wanP [59] (argW (adv (namP p))).2)
 else if isT [91] (namP p)=true then
  (.mk 7 [] (namS p) (exS (adv (namP p))).1 (exS (wanP [61] (wanP [93] (exS (adv (namP p))).2))).1 .nil [] [] [] no,wanP [59] (exS (wanP [61] (wanP [93] (exS (adv (namP p))).2))).2)
 else (.mk (valF (wanP [61] (namP p))).1.k (namS p) (valF (wanP [61] (namP p))).1.y (valF (wanP [61] (namP p))).1.e .nil .nil ((valF (wanP [61] (namP p))).1.a.getD []) [] [] no,wanP [59] (valF (wanP [61] (namP p))).2)
def stmF:Nat→Pr→R Sm
 |0,p=>(sm0 p.n,p)
 |f+1,p=>if (knoB p&&decide (200≤p.n))=true then (sm0 p.n,failP 53 p) else stmB (stmF f) p.n (nxt p)
abbrev bodS:Pr→R (List Sm):=stmtsW (stmF 41)
theorem nxt_nx {p:Pr} (h:okP p):Nx p (nxt p):=⟨h,rfl,rfl,Int.le_refl _,rfl,fun _=>⟨rfl,rfl⟩⟩
theorem val_nx {p:Pr} (h:okP p):Nx p (valF p).2:=by
 unfold valF
 split
 ·rename_i hi;exact isT_adv h hi
 split
 ·rename_i hi;have h1:=isT_adv h hi;exact h1.trans (nam_nx h1.ok)
 split
 ·rename_i hi;have h1:=isT_adv h hi;exact h1.trans (nam_nx h1.ok)
 have key:∀t,ahB t p=true→Nx p (adv (namP p)):=by
  intro t hb
  unfold ahB at hb
  simp only[Bool.and_eq_true,decide_eq_true_eq]at hb
  have hn:=hb.1.1
  have h1:=nam_nx h
  have e:namP p=adv p:=by unfold namP;rw[if_pos hn]
  rw[e]at h1 ⊢
  have e2:=adv_i h (nameB_e hn).2
  have h3:w64i (p.i+1)=p.i+1:=e2
  rw[h3]at hb
  exact h1.trans (adv_nx h1.ok (by rw[e2];exact hb.1.2) (nameB_e hn).1)
 split
 ·rename_i hb
  have h1:=key _ hb
  have h2:=h1.trans (exS_nx h1.ok)
  exact h2.trans (wan_nx h2.ok)
 split
 ·rename_i hb
  have h1:=key _ hb
  exact h1.trans (argW_nx h1.ok)
 ·exact exS_nx h
theorem stmtsL_nx {st:Pr→R Sm} (hu:∀p,okP p→Nx p (st p).2):∀(k:Nat) (l:List Sm) (p:Pr),okP p→Nx p (stmtsL st k l p).2
 |0,l,p,h=>.refl h
 |k+1,l,p,h=>by
  simp only[stmtsL]
  split
  ·split
   ·rename_i hi;exact isT_adv h hi
   ·split
    ·exact fail_nx 51 h
    ·have h1:=hu p h
     exact h1.trans (stmtsL_nx hu k _ _ h1.ok)
  ·exact .refl h
theorem stmtsW_nx {st:Pr→R Sm} (hu:∀p,okP p→Nx p (st p).2) {p:Pr} (h:okP p):Nx p (stmtsW st p).2:=stmtsL_nx hu _ _ _ h
theorem blkW_nx {st:Pr→R Sm} (hu:∀p,okP p→Nx p (st p).2) {p:Pr} (h:okP p):Nx p (blkW st p).2:=by
 unfold blkW
 split
 ·rename_i hi
  split
  ·rename_i hb
   have h1:=opn_adv h hb (isT_e hi).2
   exact shut_nx h hb (h1.trans (stmtsW_nx hu h1.ok))
  ·rename_i hb;exact opn_no h (by simpa using hb)
 ·exact fail_nx 51 h
theorem ifC_nx {p:Pr} {t:List UInt8} (h:okP p) (hi:isT t p=true):Nx p (ifC p).2:=by
 have h1:=isT_adv h hi
 have h2:=h1.trans (wan_nx (t:=[40]) h1.ok)
 exact h2.trans (cdS_nx h2.ok)
theorem ifB_nx {st:Pr→R Sm} (hu:∀p,okP p→Nx p (st p).2) {p:Pr} {t:List UInt8} (h:okP p) (hi:isT t p=true):Nx p (ifB (blkW st) p).2:=by
 have h1:=ifC_nx h hi
 have h2:=h1.trans (wan_nx (t:=[41]) h1.ok)
 exact h2.trans (blkW_nx hu h2.ok)
theorem stmB_nx {st:Pr→R Sm} (hu:∀p,okP p→Nx p (st p).2) (no:Int) {p:Pr} (h:okP p):Nx p (stmB st no p).2:=by
 unfold stmB
 split
 ·rename_i hi
  have h1:=isT_adv h hi
  have h2:=h1.trans (exS_nx h1.ok)
  exact h2.trans (wan_nx h2.ok)
 split
 ·rename_i hi
  have h1:=ifC_nx h hi
  have h2:=h1.trans (wan_nx (t:=[41]) h1.ok)
  exact h2.trans (wan_nx h2.ok)
 split
 ·rename_i hi;exact ifB_nx hu h hi
 split
 ·rename_i hi
  split
  ·rename_i hi2
   have h1:=ifB_nx hu h hi
   have h2:=h1.trans (isT_adv h1.ok hi2)
   exact h2.trans (blkW_nx hu h2.ok)
  ·exact ifB_nx hu h hi
 split
 ·rename_i hi
  have h1:=isT_adv h hi
  have h2:=h1.trans (nam_nx h1.ok)
  have h3:=h2.trans (wan_nx (t:=[61]) h2.ok)
  have h4:=h3.trans (exS_nx h3.ok)
  exact h4.trans (wan_nx h4.ok)
 have hn:=nam_nx h
 split
 ·rename_i hi
  have h1:=hn.trans (isT_adv hn.ok hi)
  have h2:=h1.trans (argW_nx h1.ok)
  exact h2.trans (wan_nx h2.ok)
 split
 ·rename_i hi
  have h1:=hn.trans (isT_adv hn.ok hi)
  have h2:=h1.trans (exS_nx h1.ok)
  have h3:=h2.trans (wan_nx (t:=[93]) h2.ok)
  have h4:=h3.trans (wan_nx (t:=[61]) h3.ok)
  have h5:=h4.trans (exS_nx h4.ok)
  exact h5.trans (wan_nx h5.ok)
 ·have h1:=hn.trans (wan_nx (t:=[61]) hn.ok)
  have h2:=h1.trans (val_nx h1.ok)
  exact h2.trans (wan_nx h2.ok)
theorem stm_nx:∀(f:Nat) (p:Pr),okP p→Nx p (stmF f p).2
 |0,p,h=>.refl h
 |f+1,p,h=>by
  simp only[stmF]
  split
  ·exact fail_nx 53 h
  ·have h1:=nxt_nx h
   exact h1.trans (stmB_nx (stm_nx f) _ h1.ok)
theorem ahB_e {t:List UInt8} {p:Pr} (h:okP p) (hb:ahB t p=true):nameB p=true∧p.i+1<(p.l.length:Int)∧IntKind.i64.wrap (p.i+1)=p.i+1∧((p.l.getD (p.i+1).toNat tk0).t==t)=true:=by
 have n5:IntKind.i64.wrap (p.i+1)=p.i+1:=by obtain⟨h1,h2,h3,_⟩:=h;exact wrap_i64 (by omega) (by omega)
 unfold ahB tkA at hb
 simp only[w64i,n5,Bool.and_eq_true,decide_eq_true_eq]at hb
 exact⟨hb.1.1,hb.1.2,n5,hb.2⟩
theorem ahB_nx {t:List UInt8} {p:Pr} (h:okP p) (hb:ahB t p=true):Nx p (adv (namP p)):=by
 obtain⟨hn,h2,h3,_⟩:=ahB_e h hb
 have h1:=nam_nx h
 have e:namP p=adv p:=by unfold namP;rw[if_pos hn]
 rw[e]at h1 ⊢
 have e2:=adv_i h (nameB_e hn).2
 exact h1.trans (adv_nx h1.ok (by rw[e2];exact h2) (nameB_e hn).1)
theorem wan_pr {t:List UInt8} {p q:Pr} (h:okP q) (hi:p.i≤q.i) (h0:(wanP t q).e=0):p.i+1≤(wanP t q).i:=by rw[wan_i h h0];omega
theorem stmB_pr {st:Pr→R Sm} (hu:∀p,okP p→Nx p (st p).2) (no:Int) {p:Pr} (h:okP p) (h0:(stmB st no p).2.e=0):p.i+1≤(stmB st no p).2.i:=by
 have hB:∀{t:List UInt8},isT t p=true→p.i+1≤(ifB (blkW st) p).2.i:=by
  intro t hi
  have h1:=isT_adv h hi
  have h2:=wan_nx (t:=[40]) h1.ok
  have h3:=h2.trans (cdS_nx h2.ok)
  have h4:=h3.trans (wan_nx (t:=[41]) h3.ok)
  have h5:=(h4.trans (blkW_nx hu h4.ok)).i
  rw[adv_i h (isT_e hi).2]at h5
  exact h5
 have hn:=nam_nx h
 revert h0
 unfold stmB
 split
 ·rename_i hi
  intro h0
  have h1:=isT_adv h hi
  have h2:=h1.trans (exS_nx h1.ok)
  exact wan_pr h2.ok h2.i h0
 split
 ·rename_i hi
  intro h0
  have h1:=ifC_nx h hi
  have h2:=h1.trans (wan_nx (t:=[41]) h1.ok)
  exact wan_pr h2.ok h2.i h0
 split
 ·rename_i hi;exact fun _=>hB hi
 split
 ·rename_i hi
  split
  ·rename_i hi2
   intro _
   have h1:=ifB_nx hu h hi
   have h2:=isT_adv h1.ok hi2
   have h3:=(h2.trans (blkW_nx hu h2.ok)).i
   exact Int.le_trans (hB hi) h3
  ·exact fun _=>hB hi
 split
 ·rename_i hi
  intro h0
  have h1:=isT_adv h hi
  have h2:=h1.trans (nam_nx h1.ok)
  have h3:=h2.trans (wan_nx (t:=[61]) h2.ok)
  have h4:=h3.trans (exS_nx h3.ok)
  exact wan_pr h4.ok h4.i h0
 split
 ·rename_i hi
  intro h0
  have h1:=hn.trans (isT_adv hn.ok hi)
  have h2:=h1.trans (argW_nx h1.ok)
  exact wan_pr h2.ok h2.i h0
 split
 ·rename_i hi
  intro h0
  have h1:=hn.trans (isT_adv hn.ok hi)
  have h2:=h1.trans (exS_nx h1.ok)
  have h3:=h2.trans (wan_nx (t:=[93]) h2.ok)
  have h4:=h3.trans (wan_nx (t:=[61]) h3.ok)
  have h5:=h4.trans (exS_nx h4.ok)
  exact wan_pr h5.ok h5.i h0
 ·intro h0
  have h1:=hn.trans (wan_nx (t:=[61]) hn.ok)
  have h2:=h1.trans (val_nx h1.ok)
  exact wan_pr h2.ok h2.i h0
theorem failP_ne {c:Int} (hc:c≠0) (p:Pr):(failP c p).e≠0:=by
 unfold failP
 split
 ·exact hc
 ·rename_i h;simpa using h
theorem stm_pr (f:Nat) {p:Pr} (h:okP p) (h0:(stmF (f+1) p).2.e=0):p.i+1≤(stmF (f+1) p).2.i:=by
 revert h0
 simp only[stmF]
 split
 ·exact fun h0=>absurd h0 (failP_ne (by decide) p)
 ·exact fun h0=>stmB_pr (stm_nx f) _ (nxt_nx h).ok h0
theorem dp_nx {f:Nat} {p q:Pr} (h:Nx p q) (hd:dpU f p):dpU f q:=by unfold dpU;rw[h.d];exact hd
end Go.Proofs.YtlaggppdgoknjaaGreatDoor
