/- The program's parser: a function in plain words. No conditions but those in each statement. -/
import Derived.Test.YtlaggppdgoknjaaGreatDoorPq45
set_option linter.unusedVariables false
set_option linter.unusedSimpArgs false
namespace Go.Proofs.YtlaggppdgoknjaaGreatDoor
open Go Go.Sy Go.RowKit
theorem mor_dec (l:List Vr) (most:Int) (p:Pr):morP l most p=decP (l.length:Int) most p:=rfl
theorem mor_l {l:List Vr} {ptr:Bool} {most:Int} {p:Pr} (h:(morP l most p).e=0):morL l ptr most p=l++[⟨namS p,ptr⟩]:=by
 unfold morL
 unfold morP at h
 split
 ·rename_i hb
  rw[if_pos hb]at h
  exact absurd h (failP_ne (by decide) p)
 ·rfl
theorem parL_f (k:Nat) (l:List Vr) {p:Pr} (he:p.e≠0):parL k l p=(l,p):=by
 cases k with
 |zero=>rfl
 |succ k=>simp only[parL];rw[if_neg (by simpa using he)]
def parM (k:Nat) (l:List Vr) (q:Pr):R (List Vr):=if isT [41] q=true then (l,adv q) else parL k l (wanP [44] q)
theorem parM_S {k:Nat} {l:List Vr} {p:Pr} (he:p.e=0):parL (k+1) l p=parM k (morL l (isT [42] p) 6 (takP [42] p)) (morP l 6 (takP [42] p)):=by
 simp only[parL,he,parM]
 simp
theorem parM_nx {k:Nat} {l:List Vr} {q:Pr} (h:okP q):Nx q (parM k l q).2:=by
 unfold parM
 split
 ·rename_i hi;exact isT_adv h hi
 ·exact(wan_nx h).trans (parL_nx _ _ _ (wan_nx h).ok)
theorem opeP_t {p:Pr} (h:okQ p) (hi:isT [123] p=true):opeP p=opP p:=by
 unfold opeP
 rw[if_pos hi]
 cases hb:opnB p with
 |true=>rw[if_pos rfl,opP_t hb]
 |false=>
  rw[if_neg (by decide),opP_f hb]
  have h1:=(opn_52 h hb).1
  rw[opP_f hb]at h1
  rw[h1]
  have h2:(failP 52 p).e≠0:=failP_ne (by decide) p
  show failP 51 (failP 52 p)=failP 52 p
  generalize failP 52 p=q at h2
  unfold failP;rw[if_neg (by simpa using h2)]
theorem opeP_f {p:Pr} (hi:isT [123] p=false):opeP p=failP 51 p:=by unfold opeP;rw[if_neg (by rw[hi];decide)]
def fq1 (p:Pr):Pr:=wanP tFn p
def fq2 (p:Pr):Pr:=namP (fq1 p)
def fq3 (p:Pr):Pr:=wanP [40] (fq2 p)
def fqP (p:Pr):R (List Vr):=parW (fq3 p)
def fqL (p:Pr):R (List Vr):=locW (opeP (fqP p).2)
def fqB (p:Pr):R (List Sm):=bodS (fqL p).2
def fnQ (p:Pr):R Fn:=(⟨namS (fq1 p),(fqP p).1,(fqL p).1,(fqB p).1⟩,shut (fqB p).2)
theorem locW_nx {p:Pr} (h:okP p):Nx p (locW p).2:=locL_nx _ _ _ h
theorem bodS_nx {p:Pr} (h:okP p):Nx p (bodS p).2:=stmtsW_nx (stm_nx 41) h
theorem ope_e {p:Pr} (h:p.e≠0):opeP p=p:=by
 have hi:isT [123] p=false:=by
  cases hi:isT [123] p with
  |false=>rfl
  |true=>exact absurd (isT_e hi).1 h
 rw[opeP_f hi];unfold failP;rw[if_neg (by simpa using h)]
theorem ope_ok' {p:Pr} (h:okP p):okP (opeP p):=by
 unfold opeP
 split
 ·rename_i hi
  split
  ·rename_i hb;exact(opn_adv h hb (isT_e hi).2).ok
  ·rename_i hb;exact(fail_nx 51 (opn_no h (by simpa using hb)).ok).ok
 ·exact(fail_nx 51 h).ok
theorem ope_ps (p:Pr):Ps p (opeP p):=fun h=>by rw[ope_e h];exact⟨rfl,rfl⟩
theorem fq_ps {p:Pr} (h:okP (fq3 p)):Ps (fqP p).2 (fnQ p).2:=by
 have h1:=(parW_nx h).ok
 have h2:=ope_ok' h1
 have h3:=locW_nx h2
 have h4:=bodS_nx h3.ok
 exact(((ope_ps _).trans h3.ps).trans h4.ps).shut
end Go.Proofs.YtlaggppdgoknjaaGreatDoor
