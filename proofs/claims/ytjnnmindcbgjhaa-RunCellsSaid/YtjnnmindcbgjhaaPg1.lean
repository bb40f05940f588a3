/- One unit of a program: parsed and resolved. No conditions but those in each statement. -/
import Derived.Test.YtjnnmindcbgjhaaPa9
import Derived.Test.YtjnnmindcbgjhaaRs3
import Derived.Test.YtjnnmindcbgjhaaAs
import Derived.Test.YtjnnmindcbgjhaaPp
import Derived.Test.YtjnnmindcbgjhaaSy28
set_option linter.unusedVariables false
set_option linter.unusedSimpArgs false
namespace Go.Proofs.Ytjnnmindcbgjhaa
open Go Go.Sy Go.RowKit
structure Un where
 s:List UInt8
 t:List UInt8
def Un.c (u:Un):List C:=[.v (.string (bs u.s)),.v (.string (bs u.t))]
abbrev zUc:List C:=[.v (.string (bs [])),.v (.string (bs []))]
theorem unc_nm (u:Un):∀c∈u.c,c.names=[]:=by
 intro c hc
 simp only[Un.c,List.mem_cons,List.not_mem_nil,or_false]at hc
 rcases hc with rfl|rfl<;>rfl
noncomputable def mUn:RowM Un:=rowMOf zUc Un.c unc_nm
theorem mUn_z:mUn.z=zUc:=rfl
theorem mUn_e:mUn.e=Un.c:=rfl
theorem unc_inj (a b:Un) (h:a.c=b.c):a=b:=by
 obtain⟨s,t⟩:=a
 obtain⟨s',t'⟩:=b
 simp only[Un.c,List.cons.injEq,C.v.injEq,Value.string.injEq,and_true]at h
 rw[bs_inj h.1,bs_inj h.2]
theorem mem_us (l:List Un):∀q,some q∈[some ((zUc,l.map Un.c):MV)]→∀r∈q.2,∀c∈r,c.names=[]:=by
 intro q hq r hr c hc
 simp only[List.mem_singleton,Option.some.injEq]at hq
 subst hq
 obtain⟨u,_,rfl⟩:=List.mem_map.1 hr
 exact unc_nm u c hc
def fl3:List C:=[.v (.bool false),.v (.bool false),.v (.bool false)]
end Go.Proofs.Ytjnnmindcbgjhaa
namespace Go.Proofs.Ytjnnmindcbgjhaa
open Go Go.Sy Go.RowKit
def rxG:Nat→Nat→List UInt8→List Tok→List Tok×Int×Int
 |0,_,_,out=>(out,0,0)
 |_+1,_,[],out=>(out,0,0)
 |f+1,i,c::r,out=>
  if blB (c.toNat:Int)=true then rxG f (i+1) r out
  else if ((c.toNat:Int)==35)=true then rxG f (i+spanN nlB (c::r)) ((c::r).drop (spanN nlB (c::r))) out
  else if letB (c.toNat:Int)=true then (if decide (32<((spanN idB (c::r):Nat):Int))=true then ([],(i:Int),53) else rxG f (i+spanN idB (c::r)) ((c::r).drop (spanN idB (c::r))) (out++[⟨0,(c::r).take (spanN idB (c::r)),(i:Int)⟩]))
  else if digB (c.toNat:Int)=true then
   (
    if greB (c::r)=true then ([],(i:Int),53)
    else if (decide (0<((c::r).drop (spanN digB (c::r))).length)&&letB ((((c::r).drop (spanN digB (c::r))).getD 0 0).toNat:Int)||((c.toNat:Int)==48&&decide (1<((spanN digB (c::r):Nat):Int))))=true then ([],(i:Int),50)
    else rxG f (i+spanN digB (c::r)) ((c::r).drop (spanN digB (c::r))) (out++[⟨1,(c::r).take (spanN digB (c::r)),(i:Int)⟩]))
  else if (decide (2≤(c::r).length)&&((c::r).take 2==[61,61]||(c::r).take 2==[33,61]||(c::r).take 2==[60,61]||(c::r).take 2==[62,61]||(c::r).take 2==[38,38]||(c::r).take 2==[124,124]))=true then rxG f (i+2) ((c::r).drop 2) (out++[⟨2,(c::r).take 2,(i:Int)⟩])
  else if oneB signs (c.toNat:Int)=true then rxG f (i+1) r (out++[⟨2,(c::r).take 1,(i:Int)⟩])
  else ([],(i:Int),50)
def kt (t:Tok):Int×List UInt8:=(t.k,t.t)
def Lx (p:List UInt8) (n:Nat) (ts:List (Int×List UInt8)):Prop:=
 ∀(f i:Nat) (r:List UInt8) (out:List Tok),∃o2,o2.map kt=ts∧rxG (f+n) i (p++r) out=rxG f (i+p.length) r (out++o2)
theorem Lx.app {p q:List UInt8} {n m:Nat} {ts us:List (Int×List UInt8)} (h:Lx p n ts) (k:Lx q m us):Lx (p++q) (n+m) (ts++us):=by
 intro f i r out
 obtain⟨o1,a1,a2⟩:=h (f+m) i (q++r) out
 obtain⟨o2,b1,b2⟩:=k f (i+p.length) r (out++o1)
 refine⟨o1++o2,by rw[List.map_append,a1,b1],?_⟩
 rw[List.append_assoc,show f+(n+m)=f+m+n by omega,a2,b2,List.length_append,Nat.add_assoc,List.append_assoc]
theorem Lx.nil:Lx [] 0 []:=fun f i r out=>⟨[],rfl,by simp⟩
end Go.Proofs.Ytjnnmindcbgjhaa
namespace Go.Proofs.Ytjnnmindcbgjhaa
open Go Go.Sy Go.RowKit
abbrev Kt:=Int×List UInt8
structure Sfx (p:Pr) (ts:List Kt):Prop where
 ok:okP p
 e:p.e=0
 t:(p.l.drop p.i.toNat).map kt=ts
section
variable {p:Pr} {k:Int} {t:List UInt8} {ts:List Kt}
theorem Sfx.lt (h:Sfx p ((k,t)::ts)):p.i<(p.l.length:Int):=by
 have:=congrArg List.length h.t
 simp only[List.length_map,List.length_drop,List.length_cons]at this
 have:=h.ok.1
 omega
theorem Sfx.hd (h:Sfx p ((k,t)::ts)):(tk p).k=k∧(tk p).t=t:=by
 have hlt:=h.lt
 have h0:=h.ok.1
 have hi:p.i.toNat<p.l.length:=by omega
 have e:=h.t
 rw[List.drop_eq_getElem_cons hi,List.map_cons]at e
 have e1:=(List.cons.inj e).1
 have e2:tk p=p.l[p.i.toNat]:=by simp[tk,List.getD,hi]
 rw[e2]
 exact⟨congrArg Prod.fst e1,congrArg Prod.snd e1⟩
theorem Sfx.adv (h:Sfx p ((k,t)::ts)):Sfx (adv p) ts:=by
 have hlt:=h.lt
 have h0:=h.ok.1
 have hi:p.i.toNat<p.l.length:=by omega
 refine⟨(adv_nx h.ok hlt h.e).ok,h.e,?_⟩
 have e:=h.t
 rw[List.drop_eq_getElem_cons hi,List.map_cons]at e
 have ei:(Go.Proofs.Ytjnnmindcbgjhaa.adv p).i.toNat=p.i.toNat+1:=by rw[adv_i h.ok hlt];omega
 show (p.l.drop (Go.Proofs.Ytjnnmindcbgjhaa.adv p).i.toNat).map kt=ts
 rw[ei]
 exact(List.cons.inj e).2
theorem Sfx.isT (h:Sfx p ((k,t)::ts)) (u:List UInt8):isT u p=(k != 1&&t==u):=by
 obtain⟨h1,h2⟩:=h.hd
 have h3:=h.lt
 have h4:=h.e
 unfold Go.Proofs.Ytjnnmindcbgjhaa.isT
 rw[h1,h2,h4]
 simp[h3]
theorem Sfx.nameB (h:Sfx p ((k,t)::ts)):nameB p=(k==0&&!wordB t):=by
 obtain⟨h1,h2⟩:=h.hd
 have h3:=h.lt
 have h4:=h.e
 unfold Go.Proofs.Ytjnnmindcbgjhaa.nameB
 rw[h1,h2,h4]
 simp[h3]
theorem Sfx.outB (h:Sfx p ((k,t)::ts)):outB p=false:=by
 have h3:=h.lt
 unfold Go.Proofs.Ytjnnmindcbgjhaa.outB
 rw[h.e]
 simp;omega
theorem Sfx.wan (h:Sfx p ((k,t)::ts)) (hk:(k != 1)=true):wanP t p=Go.Proofs.Ytjnnmindcbgjhaa.adv p:=by
 unfold wanP
 rw[if_pos (by rw[h.isT,hk];simp)]
theorem Sfx.nam (h:Sfx p ((0,t)::ts)) (hw:wordB t=false):namP p=Go.Proofs.Ytjnnmindcbgjhaa.adv p:=by
 unfold namP
 rw[if_pos (by rw[h.nameB,hw];rfl)]
theorem Sfx.nil (h:Sfx p []):p.i=(p.l.length:Int):=by
 have:=congrArg List.length h.t
 simp only[List.length_map,List.length_drop,List.length_nil]at this
 have:=h.ok.1
 have:=h.ok.2.1
 omega
theorem Sfx.len (h:Sfx p ts):(ts.length:Int)=(p.l.length:Int)-p.i:=by
 have:=congrArg List.length h.t
 simp only[List.length_map,List.length_drop]at this
 have:=h.ok.1
 have:=h.ok.2.1
 omega
end
end Go.Proofs.Ytjnnmindcbgjhaa
namespace Go.Sy
open Go Go.RowKit
def sC (k:Nat):C→C
 | .p _ x y=>.p k x y
 |c=>c
def sR (k:Nat) (es:List (List C)):List (List C):=es.map fun r=>r.map (sC k)
def sI:Nat→Nat→List (List C)→List (List C)
 |0,k,es=>sR k es
 |_+1,_,es=>es
def cOK (i:Nat) (c:C):Prop:=c.names=[]∨i=0∧∃x y,c= .p 0 x y
structure ArgN (A:Type) where
 d:Hp→List SV→Option (A×List Nat)
 args:A→List SV
 mem:A→List MV
 h:∀(H:Hp) (l:List SV) (a:A) (ks:List Nat),d H l=some (a,ks)→(args a).length=l.length∧ks.length=(mem a).length∧∀(i k:Nat),ks[i]?=some k→∃u z m,H k=some (.vec u z (sI i k m.2))∧(mem a)[i]?=some m∧z.length=m.1.length∧(zT m.1=none∨zT m.1=zT z)
 ha:∀(H:Hp) (l:List SV) (a:A) (ks:List Nat) (j:Nat) (v v':SV) (x:Value) {hh:Heap} {fz:Nat→Prop} {lab lab':Lab} {I I':Nm} {H0 H':Hp},d H l=some (a,ks)→l[j]?=some v→(args a)[j]?=some v'→(∀i k,ks[i]?=some k→I' i=I k)→SDen hh fz lab I H0 v x→SDen hh fz lab' I' H' v' x
 n:∀a (i:Nat) m,(mem a)[i]?=some m→∀r∈m.2,∀c∈r,cOK i c
 an:∀a,∀v∈args a,∀k∈v.names,k<(mem a).length
 l:∀(H H':Hp) (v:List SV) (a:A) (ks:List Nat),d H v=some (a,ks)→(∀k∈ks,H' k=H k)→d H' v=some (a,ks)
section
variable {P:Program}
end
abbrev T0:World→Prop:=fun _=>True
structure RowB (B:Type) where
 z:List C
 d:Nat→List C→Option B
 e:B→List C
 h:∀k r b,d k r=some b→r=(e b).map (sC k)
 n:∀b,∀c∈e b,cOK 0 c
end Go.Sy
namespace Go.Sy
open Go Go.RowKit
section
variable {X:Ctx} {w0 w:World} {I:Nm} {lab:Lab} {fz:Nat→Prop} {H:Hp}
end
section
variable {P:Program}
end
end Go.Sy
