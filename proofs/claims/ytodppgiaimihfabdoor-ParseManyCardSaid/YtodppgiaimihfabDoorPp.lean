/- Functions, in plain words. No conditions but those in each statement. -/
import Derived.Test.YtodppgiaimihfabDoorPo
import Derived.Test.YtodppgiaimihfabDoorSy28
set_option linter.unusedVariables false
set_option linter.unusedSimpArgs false
namespace Go.Proofs.YtodppgiaimihfabDoor
open Go Go.Sy Go.RowKit
def morB (l:List Vr) (most:Int) (p:Pr):Bool:=nameB p&&decide (most≤(l.length:Int))
def morL (l:List Vr) (ptr:Bool) (most:Int) (p:Pr):List Vr:=if morB l most p=true then l else l++[⟨namS p,ptr⟩]
def morP (l:List Vr) (most:Int) (p:Pr):Pr:=if morB l most p=true then failP 53 p else namP p
theorem mor_nx {l:List Vr} {most:Int} {p:Pr} (h:okP p):Nx p (morP l most p):=by
 unfold morP;split
 ·exact fail_nx 53 h
 ·exact nam_nx h
def parL:Nat→List Vr→Pr→R (List Vr)
 |0,l,p=>(l,p)
 |k+1,l,p=>
  if (p.e==0)=true then
   (
    if isT [41] (morP l 6 (takP [42] p))=true then (morL l (isT [42] p) 6 (takP [42] p),adv (morP l 6 (takP [42] p)))
    else parL k (morL l (isT [42] p) 6 (takP [42] p)) (wanP [44] (morP l 6 (takP [42] p))))
  else (l,p)
def parW (p:Pr):R (List Vr):=if isT [41] p=true then ([],adv p) else parL (p.l.length+1) [] p
def locB (p:Pr):Bool:=isT tVar p||isT tPtr p
def locL:Nat→List Vr→Pr→R (List Vr)
 |0,l,p=>(l,p)
 |k+1,l,p=>
  if locB p=true then locL k (morL l (isT tPtr p) 20 (adv p)) (wanP [59] (morP l 20 (adv p)))
  else (l,p)
def locW (p:Pr):R (List Vr):=locL p.l.length [] p
def opeP (p:Pr):Pr:=if isT [123] p=true then (if opnB p=true then adv (opnP p) else failP 51 (opnP p)) else failP 51 p
def endP (p:Pr):Pr:=if (p.e==0&&decide (p.i<(p.l.length:Int)))=true then failP 51 p else p
def p0 (l:List Tok) (n:Int):Pr:=⟨l,0,n,0,0,0,0⟩
def hdP (l:List Tok) (n:Int):Pr:=wanP tFn (p0 l n)
def hd2 (l:List Tok) (n:Int):Pr:=wanP [40] (namP (hdP l n))
def fp3 (l:List Tok) (n:Int):R (List Vr):=parW (hd2 l n)
def fp4 (l:List Tok) (n:Int):R (List Vr):=locW (opeP (fp3 l n).2)
def fp5 (l:List Tok) (n:Int):R (List Sm):=bodS (fp4 l n).2
def fp6 (l:List Tok) (n:Int):Pr:=endP (fp5 l n).2
def funF (s:List UInt8):Fn×Int×Int:=
 if (rxT s).2.2 != 0 then (fn0,(rxT s).2.1,(rxT s).2.2)
 else if (fp6 (rxT s).1 (s.length:Int)).e != 0 then (fn0,(fp6 (rxT s).1 (s.length:Int)).at',(fp6 (rxT s).1 (s.length:Int)).e)
 else (⟨namS (hdP (rxT s).1 (s.length:Int)),(fp3 (rxT s).1 (s.length:Int)).1,(fp4 (rxT s).1 (s.length:Int)).1,(fp5 (rxT s).1 (s.length:Int)).1⟩,0,0)
theorem rxF_ok (s:List UInt8) (hs:s.length≤4096):∀(f i:Nat) (out:List Tok),i≤s.length→out.length≤i→(∀x∈out,x.t.length≤4096)→(rxF s f i out).1.length≤4096∧∀x∈(rxF s f i out).1,x.t.length≤4096
 |0,i,out,hi,ho,hx=>⟨by show out.length≤4096;omega,hx⟩
 |f+1,i,out,hi,ho,hx=>by
  have hnil:([]:List Tok).length≤4096∧∀x∈([]:List Tok),x.t.length≤4096:=⟨by simp,by simp⟩
  have hsn:∀(k n:Nat) (kd:Int),0<n→i+n≤s.length→(rxF s f (i+n) (out++[⟨kd,(s.drop i).take k,(i:Int)⟩])).1.length≤4096∧∀x∈(rxF s f (i+n) (out++[⟨kd,(s.drop i).take k,(i:Int)⟩])).1,x.t.length≤4096:=by
   intro k n kd hn hin
   refine rxF_ok s hs f (i+n) _ hin (by simp;omega) ?_
   intro x hxm
   rcases List.mem_append.1 hxm with h|h
   ·exact hx x h
   ·simp only[List.mem_singleton]at h;subst h;simp only[List.length_take,List.length_drop];omega
  simp only[rxF]
  split
  ·exact⟨by show out.length≤4096;omega,hx⟩
  ·rename_i hlt
   have hlt:i<s.length:=by omega
   have sp:=fun p=>spanN_le p (s.drop i)
   simp only[List.length_drop]at sp
   split
   ·exact rxF_ok s hs f _ _ (by omega) (by omega) hx
   split
   ·exact rxF_ok s hs f _ _ (by have:=sp nlB;omega) (by omega) hx
   split
   ·rename_i hl
    have h1:=spanN_at idB hlt
    rw[if_pos (show idB _=true by show (letB _||digB _)=true;rw[hl];rfl)]at h1
    split
    ·exact hnil
    ·exact hsn _ _ 0 (by omega) (by have:=sp idB;omega)
   split
   ·rename_i hd
    have h1:=spanN_at digB hlt
    rw[if_pos hd]at h1
    split
    ·exact hnil
    split
    ·exact hnil
    ·exact hsn _ _ 1 (by omega) (by have:=sp digB;omega)
   split
   ·rename_i ht
    unfold twoB at ht
    simp only[Bool.and_eq_true,decide_eq_true_eq]at ht
    exact hsn 2 2 2 (by omega) (by omega)
   split
   ·exact hsn 1 1 2 (by omega) (by omega)
   ·exact hnil
theorem rxT_ok (s:List UInt8):(rxT s).1.length≤4096∧∀x∈(rxT s).1,x.t.length≤4096:=by
 unfold rxT
 split
 ·exact⟨by simp,by simp⟩
 ·rename_i h
  exact rxF_ok s (by simp at h;omega) _ 0 [] (Nat.zero_le _) (Nat.le_refl _) (by simp)
theorem p0_ok (s:List UInt8) (n:Int):okP (p0 (rxT s).1 n):=⟨Int.le_refl _,by show (0:Int)≤_;omega,(rxT_ok s).1,Int.le_refl _,by show (0:Int)≤40;decide,(rxT_ok s).2⟩
theorem hdP_nx (s:List UInt8) (n:Int):Nx (p0 (rxT s).1 n) (hdP (rxT s).1 n):=wan_nx (p0_ok s n)
theorem hd2_nx (s:List UInt8) (n:Int):Nx (p0 (rxT s).1 n) (hd2 (rxT s).1 n):=by
 have h1:=hdP_nx s n
 have h2:=h1.trans (nam_nx h1.ok)
 exact h2.trans (wan_nx h2.ok)
theorem parL_nx:∀(k:Nat) (l:List Vr) (p:Pr),okP p→Nx p (parL k l p).2
 |0,l,p,h=>.refl h
 |k+1,l,p,h=>by
  simp only[parL]
  split
  ·have h1:=tak_nx (t:=[42]) h
   have h2:=h1.trans (mor_nx (l:=l) (most:=6) h1.ok)
   split
   ·rename_i hi;exact h2.trans (isT_adv h2.ok hi)
   ·have h3:=h2.trans (wan_nx (t:=[44]) h2.ok)
    exact h3.trans (parL_nx k _ _ h3.ok)
  ·exact .refl h
theorem parW_nx {p:Pr} (h:okP p):Nx p (parW p).2:=by
 unfold parW;split
 ·rename_i hi;exact isT_adv h hi
 ·exact parL_nx _ _ _ h
theorem locB_e {p:Pr} (h:locB p=true):p.e=0∧p.i<(p.l.length:Int):=by
 unfold locB at h
 simp only[Bool.or_eq_true]at h
 rcases h with h|h<;>exact isT_e h
theorem locL_nx:∀(k:Nat) (l:List Vr) (p:Pr),okP p→Nx p (locL k l p).2
 |0,l,p,h=>.refl h
 |k+1,l,p,h=>by
  simp only[locL]
  split
  ·rename_i hb
   have h1:=adv_nx h (locB_e hb).2 (locB_e hb).1
   have h2:=h1.trans (mor_nx (l:=l) (most:=20) h1.ok)
   have h3:=h2.trans (wan_nx (t:=[59]) h2.ok)
   exact h3.trans (locL_nx k _ _ h3.ok)
  ·exact .refl h
end Go.Proofs.YtodppgiaimihfabDoor
namespace Go.Sy
open Go Go.RowKit
def sC (k:Nat):C→C
 | .p _ x y=>.p k x y
 |c=>c
def sR (k:Nat) (es:List (List C)):List (List C):=es.map fun r=>r.map (sC k)
def sI:Nat→Nat→List (List C)→List (List C)
 |0,k,es=>sR k es
 |_+1,_,es=>es
def cOK (i:Nat) (c:C):Prop:=c.names=[]∨i=0∧∃x y,c= .p 0 x y
structure ArgN (A:Type) where
 d:Hp→List SV→Option (A×List Nat)
 args:A→List SV
 mem:A→List MV
 h:∀(H:Hp) (l:List SV) (a:A) (ks:List Nat),d H l=some (a,ks)→(args a).length=l.length∧ks.length=(mem a).length∧∀(i k:Nat),ks[i]?=some k→∃u z m,H k=some (.vec u z (sI i k m.2))∧(mem a)[i]?=some m∧z.length=m.1.length∧(zT m.1=none∨zT m.1=zT z)
 ha:∀(H:Hp) (l:List SV) (a:A) (ks:List Nat) (j:Nat) (v v':SV) (x:Value) {hh:Heap} {fz:Nat→Prop} {lab lab':Lab} {I I':Nm} {H0 H':Hp},d H l=some (a,ks)→l[j]?=some v→(args a)[j]?=some v'→(∀i k,ks[i]?=some k→I' i=I k)→SDen hh fz lab I H0 v x→SDen hh fz lab' I' H' v' x
 n:∀a (i:Nat) m,(mem a)[i]?=some m→∀r∈m.2,∀c∈r,cOK i c
 an:∀a,∀v∈args a,∀k∈v.names,k<(mem a).length
 l:∀(H H':Hp) (v:List SV) (a:A) (ks:List Nat),d H v=some (a,ks)→(∀k∈ks,H' k=H k)→d H' v=some (a,ks)
section
variable {P:Program}
end
abbrev T0:World→Prop:=fun _=>True
structure RowB (B:Type) where
 z:List C
 d:Nat→List C→Option B
 e:B→List C
 h:∀k r b,d k r=some b→r=(e b).map (sC k)
 n:∀b,∀c∈e b,cOK 0 c
end Go.Sy
namespace Go.Sy
open Go Go.RowKit
section
variable {X:Ctx} {w0 w:World} {I:Nm} {lab:Lab} {fz:Nat→Prop} {H:Hp}
end
section
variable {P:Program}
end
end Go.Sy
