/- The program's parser: its start. No conditions but those in each statement. -/
import Derived.Test.YtlaggppdgoknjaaGreatDoorPq11
import Derived.Test.YtlaggppdgoknjaaGreatDoorSy33
import Derived.Test.YtlaggppdgoknjaaGreatDoorSy36
set_option linter.unusedVariables false
set_option linter.unusedSimpArgs false
namespace Go.Proofs.YtlaggppdgoknjaaGreatDoor
open Go Go.Sy Go.RowKit
theorem toks_eq (s:List UInt8):toksV (lxT s)= .tup [.inl (.d (.sl zTk ((rxT s).1.map Tok.r))),.inl (.v (.int .i64 (rxT s).2.1)),.inl (.v (.int .i64 (rxT s).2.2))]:=by rw[lx_rx];rfl
theorem y_qTok:CallsY Tryz.prog 44 (acS cStr ac0) (fun p:List UInt8×Unit=>smallB p.1) (fun p=>.tup [.inl (.d (.sl zTk ((rxT p.1).1.map Tok.r))),.inl (.v (.int .i64 (rxT p.1).2.1)),.inl (.v (.int .i64 (rxT p.1).2.2))]):=by
 have h:(fun p:List UInt8×Unit=>yr_Tokens p.1)=(fun p=>.tup [.inl (.d (.sl zTk ((rxT p.1).1.map Tok.r))),.inl (.v (.int .i64 (rxT p.1).2.1)),.inl (.v (.int .i64 (rxT p.1).2.2))]):=by
  funext p;exact toks_eq p.1
 rw[← h];exact y_Tokens
noncomputable def yp_qTok {X:Ctx} {w0:World}:Sy.Spec Tryz.prog X w0:=specD 44 Tryz.call44 (acS cStr ac0) (fun p=>smallB p.1) (fun p=>.tup [.inl (.d (.sl zTk ((rxT p.1).1.map Tok.r))),.inl (.v (.int .i64 (rxT p.1).2.1)),.inl (.v (.int .i64 (rxT p.1).2.2))]) (by intro p;rfl) y_qTok
def pofB (s:List UInt8):Bool:=(rxT s).2.2 != 0
def pofR (s:List UInt8):SV:=if pofB s=true then .tup [.inl (.v (.pointer none)),.inl (.v (.int .i64 (rxT s).2.1)),.inl (.v (.int .i64 (rxT s).2.2))] else .tup [.inl (.p 0 0 0),.inl (.v (.int .i64 0)),.inl (.v (.int .i64 0))]
def pofM (s:List UInt8):List (Option MV):=if pofB s=true then [] else [some (zPq,[(p0 (rxT s).1 (s.length:Int)).q])]
theorem pof_t {s:List UInt8} (h:pofB s=true):pofR s= .tup [.inl (.v (.pointer none)),.inl (.v (.int .i64 (rxT s).2.1)),.inl (.v (.int .i64 (rxT s).2.2))]∧pofM s=[]:=by unfold pofR pofM;rw[h];exact⟨rfl,rfl⟩
theorem pof_f {s:List UInt8} (h:pofB s=false):pofR s= .tup [.inl (.p 0 0 0),.inl (.v (.int .i64 0)),.inl (.v (.int .i64 0))]∧pofM s=[some (zPq,[(p0 (rxT s).1 (s.length:Int)).q])]:=by unfold pofR pofM;rw[h];exact⟨rfl,rfl⟩
theorem pof_len (s:List UInt8):lenM 0 (pofM s)=true:=by
 cases h:pofB s with
 |true=>rw[(pof_t h).2];rfl
 |false=>rw[(pof_f h).2];rfl
theorem pof_out (s:List UInt8):outV (pofM s).length (pofR s)=true:=by
 cases h:pofB s with
 |true=>rw[(pof_t h).1,(pof_t h).2];rfl
 |false=>rw[(pof_f h).1,(pof_f h).2];rfl
theorem pof_nm (s:List UInt8):∀q,some q∈pofM s→∀r∈q.2,∀c∈r,c.names=[]:=by
 cases h:pofB s with
 |true=>rw[(pof_t h).2];intro q hq;cases hq
 |false=>rw[(pof_f h).2];exact memq_nm _
abbrev yc_qparserOf (s:List UInt8):Prop:=smallB s
abbrev yr_qparserOf (s:List UInt8):SV:=pofR s
abbrev ym_qparserOf (s:List UInt8):List (Option MV):=pofM s
noncomputable abbrev ya_qparserOf:ArgM ((List UInt8)×Unit):=(amD (cStr) am0)
abbrev yq_qparserOf:Prop:=CallsM Tryz.prog 20 ((ya_qparserOf).args 0) (ya_qparserOf).mem (fun p:(List UInt8)×Unit=>yc_qparserOf p.1) (fun p:(List UInt8)×Unit=>yr_qparserOf p.1) (fun p:(List UInt8)×Unit=>ym_qparserOf p.1)
theorem yl_qparserOf:∀p,(fun p:(List UInt8)×Unit=>yc_qparserOf p.1) p→lenM ((ya_qparserOf).mem p).length ((fun p:(List UInt8)×Unit=>ym_qparserOf p.1) p)=true:=by intro p _;exact pof_len _
theorem yo_qparserOf:∀p,(fun p:(List UInt8)×Unit=>yc_qparserOf p.1) p→outV ((fun p:(List UInt8)×Unit=>ym_qparserOf p.1) p).length ((fun p:(List UInt8)×Unit=>yr_qparserOf p.1) p)=true:=by intro p _;exact pof_out _
theorem yn_qparserOf:∀p,(fun p:(List UInt8)×Unit=>yc_qparserOf p.1) p→∀q,some q∈(fun p:(List UInt8)×Unit=>ym_qparserOf p.1) p→∀r∈q.2,∀c∈r,c.names=[]:=by intro p _;exact pof_nm _
attribute [local go_sem] Pr.q Pr.s Tok.r cPt_d cPt_e mPq_d mPq_d' mPq_e mPq_z pnOf_f pnOf_t pr_eta ptR rPq_d rPq_d' rPq_e rPq_z tkq_at yp_qTok zTk
theorem y_qparserOf:yq_qparserOf:=by
 rintro ⟨s,_u⟩ w M I lab fz xs hc hA hl hx
 refine calls_toML Tryz.func20 rfl ((ya_qparserOf).mem ⟨s,_u⟩) w M I lab fz [yp_qTok] [] ((ya_qparserOf).args 0 ⟨s,_u⟩) ((fun p:(List UInt8)×Unit=>ym_qparserOf p.1) ⟨s,_u⟩) ((fun p:(List UInt8)×Unit=>yr_qparserOf p.1) ⟨s,_u⟩) xs hA hl hx (fun v hv k hk=>by have:=(ya_qparserOf).an 0 ⟨s,_u⟩ v hv k hk;omega) (Nat.le_of_ble_eq_true rfl) (lenM_len (yl_qparserOf ⟨s,_u⟩ hc) |>.1) ?_
 clear hx hl hA xs
 simp only[Tryz.f20]
 have hs:smallB s:=hc
 cases h:pofB s with
 |true=>
  obtain⟨e1,e2⟩:=pof_t h
  unfold pofB at h
  simp only[↓eB,seval,go_sem,h]
  try simp only[impB,impN]
  repeat' first|exact ck|with_reducible apply And.intro|intro _
  all_goals first|exact hs|(rename_i h;first|exact oI h|exact nah h)|(rename_i _ h _ g;exact sL h g)|decide|omega|(refine ret_with [] ?_;simp only[↓eB,seval,go_sem,bne,yr_qparserOf,ym_qparserOf,e1,e2])
 |false=>
  obtain⟨e1,e2⟩:=pof_f h
  unfold pofB at h
  simp only[↓eB,seval,go_sem,h]
  try simp only[impB,impN]
  repeat' first|exact ck|with_reducible apply And.intro|intro _
  all_goals first|exact hs|(rename_i h;first|exact oI h|exact nah h)|(rename_i _ h _ g;exact sL h g)|decide|omega|(refine ret_with [.mv 23 0] ?_;simp only[↓eB,seval,go_sem,bne,yr_qparserOf,ym_qparserOf,e1,e2,Pr.x,p0])
noncomputable def yp_qparserOf {X:Ctx} {w0:World}:Sy.Spec Tryz.prog X w0:=specM 20 Tryz.call20 (ya_qparserOf) (fun p:(List UInt8)×Unit=>yc_qparserOf p.1) (fun p:(List UInt8)×Unit=>yr_qparserOf p.1) (fun p:(List UInt8)×Unit=>ym_qparserOf p.1) yl_qparserOf yo_qparserOf yn_qparserOf y_qparserOf
end Go.Proofs.YtlaggppdgoknjaaGreatDoor
namespace Go.Sy
open Go Go.RowKit
inductive ML where
 |vec (z:List C) (es:List (List C))
 |mp (ag:Bool) (es:List (List UInt8×List C))
def ML.ch:ML→Ch
 | .vec z es=>.vec 0 z es
 | .mp ag es=>.mp ag es
def rnC (f:Nat→Nat):C→C
 | .s n=>.s (f n)
 | .p n i j=>.p (f n) i j
 | .any=>.any
 | .v x=>.v x
 | .d x=>.d x
 | .df z es=>.df z es
 | .dp cs=>.dp cs
 | .ov z es=>.ov z es
 | .fn g caps=>.fn g caps
 | .vw k u p=>.vw k u p
 | .q k u p s m o=>.q k u p s m o
def rnV (f:Nat→Nat):SV→SV
 | .one c=>.one (rnC f c)
 | .agg l=>.agg (l.map (rnC f))
 | .tup l=>.tup l
def ML.ren (f:Nat→Nat):ML→ML
 | .vec z es=>.vec z (es.map fun r=>r.map (rnC f))
 | .mp ag es=>.mp ag (es.map fun p=>(p.1,p.2.map (rnC f)))
def okL (n:Nat) (c:C):Prop:=c.names=[]∨(∃k,c= .s k∧k<n)∨∃k i j,c= .p k i j∧k<n
def ML.cells:ML→List C
 | .vec _ es=>es.flatMap id
 | .mp _ es=>es.flatMap (·.2)
def okML (n:Nat) (m:ML):Prop:=∀c∈m.cells,okL n c
def okVL (n:Nat):SV→Prop
 | .one c=>okL n c
 | .agg l=>∀c∈l,okL n c
 | .tup _=>False
def chM:Option Ch→ML→Prop
 |some (.vec _ z es),.vec z' es'=>es=es'∧z.length=z'.length∧(zT z'=none∨zT z'=zT z)
 |some (.mp ag es),.mp ag' es'=>ag=ag'∧es=es'
 |_,_=>False
def nmK (ks:List Nat) (i:Nat):Nat:=(ks[i]?).getD 0
structure ArgL (A:Type) where
 d:Hp→List SV→Option (A×List Nat)
 args:A→List SV
 mem:A→List ML
 h:∀(H:Hp) (l:List SV) (a:A) (ks:List Nat),d H l=some (a,ks)→l=(args a).map (rnV (nmK ks))∧ks.length=(mem a).length∧∀(i k:Nat),ks[i]?=some k→∃m,(mem a)[i]?=some m∧chM (H k) (m.ren (nmK ks))
 n:∀a,∀m∈mem a,okML (mem a).length m
 an:∀a,∀v∈args a,okVL (mem a).length v
 l:∀(H H':Hp) (v:List SV) (a:A) (ks:List Nat),d H v=some (a,ks)→(∀k∈ks,H' k=H k)→d H' v=some (a,ks)
end Go.Sy
namespace Go.Sy
open Go Go.RowKit
section
variable {P:Program}
end
end Go.Sy
namespace Go.Sy
open Go Go.RowKit
def pnL:Nat→List (Option MV)→List (Nat×List C×List (List C))
 |_,[]=>[]
 |i,none::r=>pnL (i+1) r
 |i,some q::r=>(i,q)::pnL (i+1) r
theorem pnL_nil (i:Nat):pnL i []=[]:=rfl
theorem pnL_none (i:Nat) (r:List (Option MV)):pnL i (none::r)=pnL (i+1) r:=rfl
theorem pnL_some (i:Nat) (q:MV) (r:List (Option MV)):pnL i (some q::r)=(i,q)::pnL (i+1) r:=rfl
theorem pnL_mem:∀(l:List (Option MV)) (i k:Nat) (q:MV),l[k]?=some (some q)→(i+k,q)∈pnL i l
 |[],i,k,q,h=>by simp at h
 |o::r,i,0,q,h=>by
  simp only[List.getElem?_cons_zero,Option.some.injEq]at h
  subst h
  simp[pnL]
 |o::r,i,k+1,q,h=>by
  have h1:=pnL_mem r (i+1) k q (by simpa using h)
  have e:i+1+k=i+(k+1):=by omega
  rw[e]at h1
  cases o with
  |none=>exact h1
  |some q'=>exact List.mem_cons_of_mem _ h1
theorem pnAll_mem:∀{l:List (Nat×List C×List (List C))} {H:Hp} {k:Nat} {q:MV},pnAll l H→(k,q)∈l→pn1 (H k) q.1 q.2
 |[],_,_,_,_,h=>by cases h
 |(k0,z,es)::r,H,k,q,hp,h=>by
  obtain⟨h1,h2⟩:=hp
  rcases List.mem_cons.1 h with e|h
  ·simp only[Prod.mk.injEq]at e
   obtain⟨rfl,rfl⟩:=e
   exact h1
  ·exact pnAll_mem h2 h
def pnOL (b:Bool) (l:List (Option MV)):Option (List (Nat×List C×List (List C))):=if b=true then some (pnL 0 l) else none
theorem pnOL_t (l:List (Option MV)):pnOL true l=some (pnL 0 l):=rfl
theorem pnOL_f (l:List (Option MV)):pnOL false l=none:=rfl
abbrev mXL (M fz:Nat→Prop) (I:Nm) (n:Nat) (b:Bool) (pa:List (Option MV)):Ctx:=⟨M,fz,memF I 0 n,pnOL b pa,[],[]⟩
section
variable {P:Program}
end
end Go.Sy
