/- The tokens of a text: signs and words begin with no digit, numbers are digits that fit. No conditions but those in each statement. -/
import Derived.Test.YtlaggppdgoknjaaGreatDoorLe4
import Derived.Test.YtlaggppdgoknjaaGreatDoorMi1
import Derived.Lib.ParseIntBTie
import Derived.Test.YtlaggppdgoknjaaGreatDoorSy28
set_option linter.unusedVariables false
set_option linter.unusedSimpArgs false
namespace Go.Proofs.YtlaggppdgoknjaaGreatDoor
open Go Go.Sy Go.RowKit
def sgT (t:List UInt8):Bool:=match t with
 |[]=>false
 |b::_=>!digB (b.toNat:Int)
structure NumT (t:List UInt8):Prop where
 ne:t≠[]
 d:∀b∈t,dig b
 v:val t 0≤9223372036854775807
def tkO (x:Tok):Prop:=(x.k=1→NumT x.t)∧(x.k≠1→sgT x.t=true)
def lexd (l:List Tok):Prop:=∀x∈l,tkO x
theorem sg_num {t:List UInt8} (h:NumT t):sgT t=false:=by
 cases t with
 |nil=>rfl
 |cons b r=>
  have:=(dig_iff b).2 (h.d b (List.mem_cons_self ..))
  simp[sgT,this]
theorem sg_at {s:List UInt8} {i k:Nat} (h:i<s.length) (hk:0<k) (hd:digB (chI s i)=false):sgT ((s.drop i).take k)=true:=by
 rw[List.drop_eq_getElem_cons h]
 obtain⟨n,rfl⟩:∃n,k=n+1:=⟨k-1,by omega⟩
 simp only[List.take_succ_cons,sgT]
 have:chI s i=(s[i].toNat:Int):=by simp[chI,List.getD,h]
 rw[← this,hd];rfl
theorem num_at {s:List UInt8} {i:Nat} (h:i<s.length) (hd:digB (chI s i)=true) (hg:greB (s.drop i)=false):NumT ((s.drop i).take (spanN digB (s.drop i))):=by
 have h1:=spanN_at digB h
 rw[if_pos hd]at h1
 have hall:∀b∈(s.drop i).take (spanN digB (s.drop i)),dig b:=fun b hb=>(dig_iff b).1 (span_all digB _ b hb)
 refine⟨?_,hall,?_⟩
 ·intro e
  have:=congrArg List.length e
  simp only[List.length_take,List.length_drop,List.length_nil]at this
  omega
 ·have h2:=dgF_val _ 0 false hall (by omega)
  have h3:gre (dgF (s.drop i) 0 false)=greB (s.drop i):=rfl
  rw[dgF_span]at h3
  rw[Int.natCast_zero,h3,hg]at h2
  simp at h2
  exact h2
theorem rxF_lex (s:List UInt8):∀(f i:Nat) (out:List Tok),lexd out→lexd (rxF s f i out).1
 |0,i,out,h=>h
 |f+1,i,out,h=>by
  have hnil:lexd ([]:List Tok):=fun x hx=>by cases hx
  have hsn:∀(x:Tok),tkO x→lexd (out++[x]):=by
   intro x hx y hy
   rcases List.mem_append.1 hy with hy|hy
   ·exact h y hy
   ·simp only[List.mem_singleton]at hy;subst hy;exact hx
  simp only[rxF]
  split
  ·exact h
  rename_i hlt
  have hlt:i<s.length:=by omega
  split
  ·exact rxF_lex s f _ _ h
  split
  ·exact rxF_lex s f _ _ h
  split
  ·rename_i hl
   have h1:=spanN_at idB hlt
   rw[if_pos (show idB _=true by show (letB _||digB _)=true;rw[hl];rfl)]at h1
   split
   ·exact hnil
   ·exact rxF_lex s f _ _ (hsn _ ⟨fun hk=>absurd (show (0:Int)=1 from hk) (by decide),fun _=>sg_at hlt (by omega) (let_not_dig hl)⟩)
  split
  ·rename_i hd
   split
   ·exact hnil
   rename_i hg
   split
   ·exact hnil
   ·exact rxF_lex s f _ _ (hsn _ ⟨fun _=>num_at hlt hd (by simpa using hg),fun hk=>absurd rfl hk⟩)
  rename_i hd
  have hd:digB (chI s i)=false:=by simpa using hd
  split
  ·exact rxF_lex s f _ _ (hsn _ ⟨fun hk=>absurd (show (2:Int)=1 from hk) (by decide),fun _=>sg_at hlt (by omega) hd⟩)
  split
  ·exact rxF_lex s f _ _ (hsn _ ⟨fun hk=>absurd (show (2:Int)=1 from hk) (by decide),fun _=>sg_at hlt (by omega) hd⟩)
  ·exact hnil
theorem rxT_lex (s:List UInt8):lexd (rxT s).1:=by
 unfold rxT
 split
 ·intro x hx;cases hx
 ·exact rxF_lex s _ _ _ (fun x hx=>by cases hx)
theorem numW_val:∀(l:List UInt8) (n:Nat),(∀b∈l,dig b)→val l n≤9223372036854775807→numW l (n:Int)=(val l n:Int)
 |[],n,_,_=>rfl
 |b::r,n,hd,hv=>by
  have hb:=hd b (List.mem_cons_self ..)
  obtain⟨h1,h2⟩:=hb
  have h3:=val_ge r (10*n+(b.toNat-48))
  simp only[val]at hv ⊢
  have e1:w64i (10*(n:Int))=10*(n:Int):=wrap_i64 (by omega) (by omega)
  have e2:IntKind.u8.wrap ((b.toNat:Int)-48)=(b.toNat:Int)-48:=wrap_u8 (by omega) (by omega)
  have e3:w64i ((b.toNat:Int)-48)=(b.toNat:Int)-48:=wrap_i64 (by omega) (by omega)
  have e4:w64i (10*(n:Int)+((b.toNat:Int)-48))=((10*n+(b.toNat-48):Nat):Int):=by
   unfold w64i;rw[wrap_i64 (by omega) (by omega)];omega
  simp only[numW,e1,e2,e3,e4]
  exact numW_val r _ (fun c hc=>hd c (List.mem_cons_of_mem _ hc)) hv
theorem parseM_val (M:Nat) (hM:9223372036854775807≤M):∀(l:List UInt8) (n:Nat),(∀b∈l,dig b)→val l n≤9223372036854775807→Lib.parseUintM M n l= .ok (val l n)
 |[],n,_,_=>rfl
 |b::r,n,hd,hv=>by
  have hb:=hd b (List.mem_cons_self ..)
  obtain⟨h1,h2⟩:=hb
  have h3:=val_ge r (10*n+(b.toNat-48))
  simp only[val]at hv ⊢
  simp only[Lib.parseUintM]
  rw[if_pos ⟨h1,h2⟩,if_neg (by omega),if_neg (by omega)]
  have e:n*10+(b.toNat-48)=10*n+(b.toNat-48):=by omega
  rw[e]
  exact parseM_val M hM r _ (fun c hc=>hd c (List.mem_cons_of_mem _ hc)) hv
theorem num_ok {t:List UInt8} (h:NumT t):Lib.parseIntB 64 t= .ok (numW t 0):=by
 obtain⟨hne,hd,hv⟩:=h
 have h1:=numW_val t 0 hd hv
 have h2:=parseM_val (2 ^ 64-1) (by decide) t 0 hd hv
 cases t with
 |nil=>exact absurd rfl hne
 |cons c r=>
  obtain⟨hc1,hc2⟩:=hd c (List.mem_cons_self ..)
  have n43:¬(c.toNat=43∨c.toNat=45):=by omega
  have n45:¬c.toNat=45:=by omega
  have h3:Lib.parseUintB 64 (c::r)= .ok (val (c::r) 0):=by
   unfold Lib.parseUintB;rw[if_neg (by simp)];exact h2
  have e2:(2:Nat) ^ (64-1)=9223372036854775808:=by decide
  have h4:¬(9223372036854775808≤val (c::r) 0):=by omega
  have h1':numW (c::r) 0=(val (c::r) 0:Int):=h1
  rw[h1']
  unfold Lib.parseIntB
  have n43':¬c.toNat=43:=by omega
  simp only[n43',n45,or_self,if_false,h3,e2,h4,and_false,false_and]
theorem tk_in {p:Pr} (h:okI p) (hi:p.i<(p.l.length:Int)):tk p∈p.l:=by
 obtain⟨h1,h2,h3⟩:=h
 unfold tk
 have:p.i.toNat<p.l.length:=by omega
 rw[List.getD,List.getElem?_eq_getElem this];exact List.getElem_mem this
def isQ (t:List UInt8) (p:Pr):Bool:=decide (p.i<(p.l.length:Int))&&(tk p).t==t
theorem isQ_T {t:List UInt8} {p:Pr} (h:okI p) (he:p.e=0) (hl:lexd p.l) (ht:sgT t=true):isQ t p=isT t p:=by
 unfold isQ isT
 rw[he]
 cases hd:decide (p.i<(p.l.length:Int)) with
 |false=>rfl
 |true=>
  have hi:p.i<(p.l.length:Int):=by simpa using hd
  have hk:=hl _ (tk_in h hi)
  cases h1:((tk p).t==t) with
  |false=>simp
  |true=>
   have h2:(tk p).t=t:=by simpa using h1
   have h3:(tk p).k≠1:=by
    intro h3
    have:=sg_num (hk.1 h3)
    rw[h2,ht]at this;cases this
   have:((tk p).k != 1)=true:=by simpa using h3
   rw[this];rfl
end Go.Proofs.YtlaggppdgoknjaaGreatDoor
namespace Go.Sy
open Go Go.RowKit
def sC (k:Nat):C→C
 | .p _ x y=>.p k x y
 |c=>c
def sR (k:Nat) (es:List (List C)):List (List C):=es.map fun r=>r.map (sC k)
def sI:Nat→Nat→List (List C)→List (List C)
 |0,k,es=>sR k es
 |_+1,_,es=>es
def cOK (i:Nat) (c:C):Prop:=c.names=[]∨i=0∧∃x y,c= .p 0 x y
structure ArgN (A:Type) where
 d:Hp→List SV→Option (A×List Nat)
 args:A→List SV
 mem:A→List MV
 h:∀(H:Hp) (l:List SV) (a:A) (ks:List Nat),d H l=some (a,ks)→(args a).length=l.length∧ks.length=(mem a).length∧∀(i k:Nat),ks[i]?=some k→∃u z m,H k=some (.vec u z (sI i k m.2))∧(mem a)[i]?=some m∧z.length=m.1.length∧(zT m.1=none∨zT m.1=zT z)
 ha:∀(H:Hp) (l:List SV) (a:A) (ks:List Nat) (j:Nat) (v v':SV) (x:Value) {hh:Heap} {fz:Nat→Prop} {lab lab':Lab} {I I':Nm} {H0 H':Hp},d H l=some (a,ks)→l[j]?=some v→(args a)[j]?=some v'→(∀i k,ks[i]?=some k→I' i=I k)→SDen hh fz lab I H0 v x→SDen hh fz lab' I' H' v' x
 n:∀a (i:Nat) m,(mem a)[i]?=some m→∀r∈m.2,∀c∈r,cOK i c
 an:∀a,∀v∈args a,∀k∈v.names,k<(mem a).length
 l:∀(H H':Hp) (v:List SV) (a:A) (ks:List Nat),d H v=some (a,ks)→(∀k∈ks,H' k=H k)→d H' v=some (a,ks)
section
variable {P:Program}
end
abbrev T0:World→Prop:=fun _=>True
structure RowB (B:Type) where
 z:List C
 d:Nat→List C→Option B
 e:B→List C
 h:∀k r b,d k r=some b→r=(e b).map (sC k)
 n:∀b,∀c∈e b,cOK 0 c
end Go.Sy
namespace Go.Sy
open Go Go.RowKit
section
variable {X:Ctx} {w0 w:World} {I:Nm} {lab:Lab} {fz:Nat→Prop} {H:Hp}
end
section
variable {P:Program}
end
end Go.Sy
