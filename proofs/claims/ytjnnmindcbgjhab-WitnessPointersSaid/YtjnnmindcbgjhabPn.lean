/- Conditions and arguments, in plain words. No conditions but those in each statement. -/
import Derived.Test.YtjnnmindcbgjhabPm
set_option linter.unusedVariables false
set_option linter.unusedSimpArgs false
namespace Go.Proofs.Ytjnnmindcbgjhab
open Go Go.Sy Go.RowKit
def tkA (p:Pr) (k:Int):Tok:=p.l.getD k.toNat tk0
def nullB (p:Pr):Bool:=nameB p&&decide (w64i (p.i+2)<(p.l.length:Int))&&(tkA p (w64i (p.i+2))).t==[110,117,108,108]&&((tkA p (w64i (p.i+1))).t==[61,61]||(tkA p (w64i (p.i+1))).t==[33,61])
def adv3 (p:Pr):Pr:={ p with i:=w64i (p.i+3) }
def cmpO:List (List UInt8):=[[61,61],[33,61],[60],[60,61],[62],[62,61]]
def cmpF (q:Pr) (a:Ex):List (List UInt8)→Int→R Cd
 |[],_=>(.nil,failP 51 q)
 |t::l,k=>if isT t q=true then (.mk k a (exS (adv q)).1 .nil .nil [],(exS (adv q)).2) else cmpF q a l (k+1)
def andL (nt:Pr→R Cd):Nat→Cd→Pr→R Cd
 |0,c,p=>(c,p)
 |k+1,c,p=>if isT [38,38] p=true then andL nt k (.mk 6 .nil .nil c (nt (adv p)).1 []) (nt (adv p)).2 else (c,p)
def andW (nt:Pr→R Cd) (p:Pr):R Cd:=andL nt p.l.length (nt p).1 (nt p).2
def conL (nt:Pr→R Cd):Nat→Cd→Pr→R Cd
 |0,c,p=>(c,p)
 |k+1,c,p=>if isT [124,124] p=true then conL nt k (.mk 7 .nil .nil c (andW nt (adv p)).1 []) (andW nt (adv p)).2 else (c,p)
def conW (nt:Pr→R Cd) (p:Pr):R Cd:=conL nt p.l.length (andW nt p).1 (andW nt p).2
def nulC (p:Pr):Cd:=if ((tkA p (w64i (p.i+1))).t==[33,61])=true then .mk 8 .nil .nil (.mk 9 .nil .nil .nil .nil (tk p).t) .nil [] else .mk 9 .nil .nil .nil .nil (tk p).t
def notF:Nat→Pr→R Cd
 |0,p=>(.nil,p)
 |f+1,p=>
  if isT [33] p=true then
   (if opnB p=true then (.mk 8 .nil .nil (notF f (adv (opnP p))).1 .nil [],shut (notF f (adv (opnP p))).2) else (.nil,opnP p))
  else if isT [40] p=true then
   (if opnB p=true then ((conW (notF f) (adv (opnP p))).1,shut (wanP [41] (conW (notF f) (adv (opnP p))).2)) else (.nil,opnP p))
  else if nullB p=true then (nulC p,adv3 p)
  else cmpF (exS p).2 (exS p).1 cmpO 0
abbrev cdS:Pr→R Cd:=conW (notF 41)
def argL:Nat→List Ar→Pr→R (List Ar)
 |0,_,p=>([],p)
 |k+1,l,p=>
  if (p.e==0)=true then
   (if isT [41] (exS p).2=true then (l++[⟨false,[],(exS p).1⟩],adv (exS p).2) else argL k (l++[⟨false,[],(exS p).1⟩]) (wanP [44] (exS p).2))
  else ([],p)
def argW (p:Pr):R (List Ar):=if isT [41] p=true then ([],adv p) else argL (p.l.length+1) [] p
theorem exS_nx {p:Pr} (h:okP p):Nx p (exS p).2:=sumW_nx (un_nx 41) p h
theorem isT_adv {t:List UInt8} {p:Pr} (h:okP p) (hi:isT t p=true):Nx p (adv p):=adv_nx h (isT_e hi).2 (isT_e hi).1
theorem null_e {p:Pr} (h:okP p) (hb:nullB p=true):p.e=0∧p.i+2<(p.l.length:Int)∧w64i (p.i+3)=p.i+3∧w64i (p.i+2)=p.i+2∧w64i (p.i+1)=p.i+1:=by
 unfold nullB at hb
 simp only[Bool.and_eq_true,decide_eq_true_eq]at hb
 obtain⟨h1,h2,h3,_⟩:=h
 have e2:w64i (p.i+2)=p.i+2:=by unfold w64i;rw[wrap_i64 (by omega) (by omega)]
 rw[e2]at hb
 refine⟨(nameB_e hb.1.1.1).1,hb.1.1.2,?_,e2,?_⟩<;>unfold w64i<;>rw[wrap_i64 (by omega) (by omega)]
theorem adv3_nx {p:Pr} (h:okP p) (hb:nullB p=true):Nx p (adv3 p):=by
 obtain⟨e1,e2,e3,_⟩:=null_e h hb
 obtain⟨h1,h2,h3,h4⟩:=h
 have e:(adv3 p).i=p.i+3:=e3
 exact⟨⟨by rw[e];omega,by rw[e];show p.i+3≤(p.l.length:Int);omega,h3,h4⟩,rfl,rfl,by rw[e];omega,rfl,fun h=>absurd e1 h⟩
theorem cmpF_nx (a:Ex):∀(l:List (List UInt8)) (k:Int) (q:Pr),okP q→Nx q (cmpF q a l k).2
 |[],k,q,h=>fail_nx 51 h
 |t::l,k,q,h=>by
  simp only[cmpF]
  split
  ·rename_i hi
   have h1:=isT_adv h hi
   exact h1.trans (exS_nx h1.ok)
  ·exact cmpF_nx a l (k+1) q h
theorem andL_nx {u:Pr→R Cd} (hu:∀p,okP p→Nx p (u p).2):∀(k:Nat) (a:Cd) (p:Pr),okP p→Nx p (andL u k a p).2
 |0,a,p,h=>.refl h
 |k+1,a,p,h=>by
  simp only[andL]
  split
  ·rename_i hi
   have h1:=isT_adv h hi
   have h2:=hu _ h1.ok
   exact(h1.trans h2).trans (andL_nx hu k _ _ h2.ok)
  ·exact .refl h
theorem andW_nx {u:Pr→R Cd} (hu:∀p,okP p→Nx p (u p).2) (p:Pr) (h:okP p):Nx p (andW u p).2:=(hu p h).trans (andL_nx hu _ _ _ (hu p h).ok)
theorem conL_nx {u:Pr→R Cd} (hu:∀p,okP p→Nx p (u p).2):∀(k:Nat) (a:Cd) (p:Pr),okP p→Nx p (conL u k a p).2
 |0,a,p,h=>.refl h
 |k+1,a,p,h=>by
  simp only[conL]
  split
  ·rename_i hi
   have h1:=isT_adv h hi
   have h2:=andW_nx hu _ h1.ok
   exact(h1.trans h2).trans (conL_nx hu k _ _ h2.ok)
  ·exact .refl h
theorem conW_nx {u:Pr→R Cd} (hu:∀p,okP p→Nx p (u p).2) (p:Pr) (h:okP p):Nx p (conW u p).2:=(andW_nx hu p h).trans (conL_nx hu _ _ _ (andW_nx hu p h).ok)
theorem not_nx:∀(f:Nat) (p:Pr),okP p→Nx p (notF f p).2
 |0,p,h=>.refl h
 |f+1,p,h=>by
  simp only[notF]
  split
  ·rename_i hi
   split
   ·rename_i hb
    have h1:=opn_adv h hb (isT_e hi).2
    exact shut_nx h hb (h1.trans (not_nx f _ h1.ok))
   ·rename_i hb;exact opn_no h (by simpa using hb)
  ·split
   ·rename_i hi
    split
    ·rename_i hb
     have h1:=opn_adv h hb (isT_e hi).2
     have h2:=h1.trans (conW_nx (not_nx f) _ h1.ok)
     exact shut_nx h hb (h2.trans (wan_nx h2.ok))
    ·rename_i hb;exact opn_no h (by simpa using hb)
   ·split
    ·rename_i hb;exact adv3_nx h hb
    ·have h1:=exS_nx h
     exact h1.trans (cmpF_nx _ _ _ _ h1.ok)
theorem cdS_nx {p:Pr} (h:okP p):Nx p (cdS p).2:=conW_nx (not_nx 41) p h
theorem argL_nx:∀(k:Nat) (l:List Ar) (p:Pr),okP p→Nx p (argL k l p).2
 |0,l,p,h=>.refl h
 |k+1,l,p,h=>by
  simp only[argL]
  split
  ·have h1:=exS_nx h
   split
   ·rename_i hi;exact h1.trans (isT_adv h1.ok hi)
   ·have h2:=h1.trans (wan_nx (t:=[44]) h1.ok)
    exact h2.trans (argL_nx k _ _ h2.ok)
  ·exact .refl h
theorem argW_nx {p:Pr} (h:okP p):Nx p (argW p).2:=by
 unfold argW
 split
 ·rename_i hi;exact isT_adv h hi
 ·exact argL_nx _ _ _ h
theorem opn_dp {f:Nat} {p:Pr} (h:okP p) (ob:opnB p=true) (hd:dpU (f+1) p):dpU f (adv (opnP p)):=by
 have h3:=(opn_e h ob).2.2
 show 41≤(opnP p).deep+(f:Int)
 rw[h3];have:41≤p.deep+((f+1:Nat):Int):=hd;simp only;omega
end Go.Proofs.Ytjnnmindcbgjhab
