/- Sums as they are written, with their parentheses: the parser reads each as what it says. No conditions but those in each statement. -/
import Derived.Test.YtjnnmindcbgjhaaPg1
set_option linter.unusedVariables false
set_option linter.unusedSimpArgs false
open List (length_append length_cons)
namespace Go.Proofs.Ytjnnmindcbgjhaa
open Go Go.Sy Go.RowKit
inductive Cx where
 |num (d:List UInt8)
 |var (s:List UInt8)
 |neg (u:Cx)
 |par (u:Cx)
 |bin (o:Int) (a b:Cx)
def opK (o:Int):List UInt8:=if o=2 then [43] else if o=3 then [45] else if o=4 then [42] else if o=5 then [47] else [37]
def Cx.tk:Cx→List Kt
 | .num d=>[(1,d)]
 | .var s=>[(0,s)]
 | .neg u=>(2,[45])::u.tk
 | .par u=>(2,[40])::(u.tk++[(2,[41])])
 | .bin o a b=>a.tk++(2,opK o)::b.tk
def Cx.v:Cx→Ex
 | .num d=>.mk 0 (numW d 0) [] .nil .nil
 | .var s=>.mk 1 0 s .nil .nil
 | .neg u=>.mk 7 0 [] u.v .nil
 | .par u=>u.v
 | .bin o a b=>.mk o 0 [] a.v b.v
def Cx.dp:Cx→Nat
 | .num _=>0
 | .var _=>0
 | .neg u=>u.dp+1
 | .par u=>u.dp+1
 | .bin _ a b=>max a.dp b.dp
def Cx.lv:Cx→Nat
 | .bin o _ _=>if o≤3 then 2 else 1
 |_=>0
def Cx.wf:Cx→Prop
 | .num _=>True
 | .var s=>DZ s=false
 | .neg u=>u.lv=0∧u.wf
 | .par u=>u.wf
 | .bin o a b=>((o=2∨o=3)∧b.lv≤1∧a.wf∧b.wf)∨((o=4∨o=5∨o=6)∧a.lv≤1∧b.lv=0∧a.wf∧b.wf)
def S5 (a:Kt):Prop:=∀u∈([[42],[47],[37]]:List (List UInt8)),(a.1 != 1&&a.2==u)=false
theorem Ht.mul {a:Kt} (h:Ht a):S5 a:=fun u hu=>h u (by
 simp only[List.mem_cons,List.not_mem_nil,or_false]at hu ⊢
 rcases hu with rfl|rfl|rfl<;>simp)
theorem dY {u:Pr→R Ex} {p:Pr} {a:Kt} {ts:List Kt} (h:Sfx p (a::ts)) (ho:S5 a) (e:Ex):∀k,Ej u k e p=(e,p)
 |0=>rfl
 |k+1=>by
  simp only[Ej]
  rw[if_pos (by rw[h.e];rfl),if_neg (by rw[h.isT,ho [42] (by decide)];decide),if_neg (by rw[h.isT,ho [47] (by decide)];decide),if_neg (by rw[h.isT,ho [37] (by decide)];decide)]
theorem Sfx.lenN {p:Pr} {ts:List Kt} (h:Sfx p ts):ts.length≤p.l.length:=by
 have:=h.len
 have:=h.ok.1
 omega
structure Rdx (f:Nat) (p:Pr) (c:Cx) (a:Kt) (ts:List Kt):Prop where
 s:Sfx p (c.tk++a::ts)
 d:(c.dp:Int)+p.deep≤40
 f:41≤p.deep+(f:Int)
structure Afx (p q:Pr) (a:Kt) (ts:List Kt):Prop where
 s:Sfx q (a::ts)
 d:q.deep=p.deep
 l:q.l=p.l
theorem Afx.of {p q:Pr} {a:Kt} {ts:List Kt} (h:Nx p q) (s:Sfx q (a::ts)):Afx p q a ts:=⟨s,h.d,h.l⟩
theorem qs {f:Nat} {p:Pr} {ts:List Kt} (h:Sfx p ((2,[45])::ts)) (hb:DH p=true):unF (f+1) p=(.mk 7 0 [] (unF f (adv (Ai p))).1 .nil,shut (unF f (adv (Ai p))).2):=by
 simp only[unF]
 rw[if_neg (by rw[h.outB];decide),if_pos (by rw[h.isT];decide),if_pos hb]
theorem qt {f:Nat} {p:Pr} {ts:List Kt} (h:Sfx p ((2,[40])::ts)) (hb:DH p=true):unF (f+1) p=((GJ (unF f) (adv (Ai p))).1,shut (AX [41] (GJ (unF f) (adv (Ai p))).2)):=by
 simp only[unF]
 rw[if_neg (by rw[h.outB];decide),if_neg (by rw[h.isT];decide),if_pos (by rw[h.isT];decide),if_pos hb]
theorem qu {f:Nat} {p:Pr} {d:List UInt8} {ts:List Kt} (h:Sfx p ((1,d)::ts)):unF (f+1) p=(.mk 0 (numW d 0) [] .nil .nil,adv p):=by
 simp only[unF]
 rw[if_neg (by rw[h.outB];decide),if_neg (by rw[h.isT];simp),if_neg (by rw[h.isT];simp),if_pos (by rw[h.hd.1];decide),h.hd.2]
theorem qv {f:Nat} {p:Pr} {s:List UInt8} {ts:List Kt} (h:Sfx p ((0,s)::ts)) (hw:DZ s=false) (h1:s≠[45]) (h2:s≠[40]):unF (f+1) p=(.mk 1 0 s .nil .nil,adv p):=by
 have hn:nameB p=true:=by rw[h.nameB,hw];rfl
 simp only[unF]
 rw[if_neg (by rw[h.outB];decide),if_neg (by rw[h.isT];simpa using h1),if_neg (by rw[h.isT];simpa using h2),if_neg (by rw[h.hd.1];decide),if_pos hn,h.nam hw]
 unfold CY
 rw[if_pos hn,h.hd.2]
def lh (s:List UInt8):Prop:=∃c r,s=c::r∧EN (c.toNat:Int)=true
def dh (s:List UInt8):Prop:=∃c r,s=c::r∧Bk (c.toNat:Int)=true
theorem lh_ne {s:List UInt8} {c:UInt8} {r:List UInt8} (h:lh s) (hc:EN (c.toNat:Int)=false:=by decide):s≠c::r:=by
 rintro rfl
 obtain⟨c',r',e,h⟩:=h
 simp only[List.cons.injEq]at e
 rw[← e.1,hc]at h;cases h
theorem Yp {s:List UInt8} {c:UInt8} {r:List UInt8} (h:dh s) (hc:Bk (c.toNat:Int)=false:=by decide):s≠c::r:=by
 rintro rfl
 obtain⟨c',r',e,h⟩:=h
 simp only[List.cons.injEq]at e
 rw[← e.1,hc]at h;cases h
def Cx.nm:Cx→Prop
 | .num d=>dh d
 | .var s=>lh s
 | .neg u=>u.nm
 | .par u=>u.nm
 | .bin _ a b=>a.nm∧b.nm
theorem QO {p q:Pr} {a:Kt} {ts:List Kt} (h:okP p) (hb:DH p=true) (hq:Nx (Ai p) q) (s:Sfx q (a::ts)):Sfx (shut q) (a::ts):=
 ⟨(HF h hb hq).ok,s.e,s.t⟩
theorem A4O (o:Int) (h:o=2∨o=3):S5 (2,opK o):=by
 intro u hu
 rcases h with rfl|rfl
 ·revert u;decide
 ·revert u;decide
theorem S6:Ht (2,[41]):=by intro u hu;revert hu;revert u;decide
theorem Rdx.opn {f:Nat} {p:Pr} {t:List UInt8} {ts:List Kt} {d:Nat} (h:Sfx p ((2,t)::ts)) (hd:((d+1:Nat):Int)+p.deep≤40) (hf:41≤p.deep+((f+1:Nat):Int)) :
  DH p=true∧Sfx (adv (Ai p)) ts∧(d:Int)+(adv (Ai p)).deep≤40∧41≤(adv (Ai p)).deep+(f:Int)∧Nx (Ai p) (adv (Ai p)):=by
 obtain⟨h1,h2,h3⟩:=Z3 h (by omega)
 have h4:(adv (Ai p)).deep=p.deep+1:=h3
 refine⟨h1,h2.adv,by omega,by omega,Fg h.ok h1 h.lt⟩
mutual
theorem QP:∀(c:Cx) (f:Nat) (p:Pr) (a:Kt) (ts:List Kt),c.wf→c.nm→c.lv=0→Rdx f p c a ts→∃q,unF f p=(c.v,q)∧Afx p q a ts
 | .num d,f,p,a,ts,_,_,_,h=>by
  obtain⟨f,rfl⟩:∃g,f=g+1:=⟨f-1,by have:=h.f;have:=h.s.ok.2.2.2.2.1;omega⟩
  have hs:Sfx p ((1,d)::a::ts):=h.s
  exact⟨adv p,qu hs,hs.adv,rfl,rfl⟩
 | .var s,f,p,a,ts,hw,hn,_,h=>by
  obtain⟨f,rfl⟩:∃g,f=g+1:=⟨f-1,by have:=h.f;have:=h.s.ok.2.2.2.2.1;omega⟩
  have hs:Sfx p ((0,s)::a::ts):=h.s
  exact⟨adv p,qv hs hw (lh_ne hn) (lh_ne hn),hs.adv,rfl,rfl⟩
 | .neg u,f,p,a,ts,hw,hn,_,h=>by
  obtain⟨f,rfl⟩:∃g,f=g+1:=⟨f-1,by have:=h.f;have:=h.s.ok.2.2.2.2.1;omega⟩
  have hs:Sfx p ((2,[45])::(u.tk++a::ts)):=h.s
  obtain⟨hb,s1,d1,f1,n1⟩:=Rdx.opn (d:=u.dp) hs h.d h.f
  obtain⟨q,e1,e2⟩:=QP u f _ a ts hw.2 hn hw.1 ⟨s1,d1,f1⟩
  have n2:Nx (adv (Ai p)) q:=by have:=IQ f _ s1.ok;rw[e1]at this;exact this
  refine⟨shut q,by rw[qs hs hb,e1];rfl,Afx.of (HF hs.ok hb (n1.trans n2)) (QO hs.ok hb (n1.trans n2) e2.s)⟩
 | .par u,f,p,a,ts,hw,hn,_,h=>by
  obtain⟨f,rfl⟩:∃g,f=g+1:=⟨f-1,by have:=h.f;have:=h.s.ok.2.2.2.2.1;omega⟩
  have hs:Sfx p ((2,[40])::(u.tk++(2,[41])::a::ts)):=by
   have:(Cx.par u).tk++a::ts=(2,[40])::(u.tk++(2,[41])::a::ts):=by simp[Cx.tk]
   rw[← this];exact h.s
  obtain⟨hb,s1,d1,f1,n1⟩:=Rdx.opn (d:=u.dp) hs h.d h.f
  obtain⟨q,e1,e2⟩:=aC u f _ (2,[41]) (a::ts) hw hn S6 ⟨s1,d1,f1⟩
  have n2:Nx (adv (Ai p)) q:=by have:=QW (IQ f) _ s1.ok;rw[e1]at this;exact this
  have e3:AX [41] q=adv q:=e2.s.wan (by decide)
  have n3:=n1.trans (n2.trans (DI e2.s.ok e2.s.lt e2.s.e))
  refine⟨shut (adv q),by rw[qt hs hb,e1];show (u.v,shut (AX [41] q))=_;rw[e3];rfl,Afx.of (HF hs.ok hb n3) (QO hs.ok hb n3 e2.s.adv)⟩
 | .bin o x y,f,p,a,ts,hw,hn,hl,h=>by
  simp only[Cx.lv]at hl
  split at hl<;>omega
theorem VQ:∀(c:Cx) (f:Nat) (p:Pr) (a:Kt) (ts:List Kt),c.wf→c.nm→c.lv≤1→Rdx f p c a ts→
  ∃q j,Afx p q a ts∧j≤c.tk.length∧∀k,Ej (unF f) (k+j) (unF f p).1 (unF f p).2=Ej (unF f) k c.v q
 | .num d,f,p,a,ts,hw,hn,hl,h=>by
  obtain⟨q,e1,e2⟩:=QP (.num d) f p a ts hw hn rfl h
  exact⟨q,0,e2,Nat.zero_le _,fun k=>by rw[e1];rfl⟩
 | .var s,f,p,a,ts,hw,hn,hl,h=>by
  obtain⟨q,e1,e2⟩:=QP (.var s) f p a ts hw hn rfl h
  exact⟨q,0,e2,Nat.zero_le _,fun k=>by rw[e1];rfl⟩
 | .neg u,f,p,a,ts,hw,hn,hl,h=>by
  obtain⟨q,e1,e2⟩:=QP (.neg u) f p a ts hw hn rfl h
  exact⟨q,0,e2,Nat.zero_le _,fun k=>by rw[e1];rfl⟩
 | .par u,f,p,a,ts,hw,hn,hl,h=>by
  obtain⟨q,e1,e2⟩:=QP (.par u) f p a ts hw hn rfl h
  exact⟨q,0,e2,Nat.zero_le _,fun k=>by rw[e1];rfl⟩
 | .bin o x y,f,p,a,ts,hw,hn,hl,h=>by
  rcases hw with⟨ho,_⟩|⟨ho,x1,y0,wx,wy⟩
  ·simp only[Cx.lv]at hl
   rw[if_pos (by omega)]at hl
   omega
  have ht:(Cx.bin o x y).tk++a::ts=x.tk++(2,opK o)::(y.tk++a::ts):=by simp[Cx.tk]
  have hs:Sfx p (x.tk++(2,opK o)::(y.tk++a::ts)):=by rw[← ht];exact h.s
  have hd:=h.d
  simp only[Cx.dp]at hd
  obtain⟨q1,j,e1,e2,e3⟩:=VQ x f p (2,opK o) (y.tk++a::ts) wx hn.1 x1 ⟨hs,by omega,h.f⟩
  obtain⟨q2,g1,g2⟩:=QP y f (adv q1) a ts wy hn.2 y0 ⟨e1.s.adv,by show _+q1.deep≤40;rw[e1.d];omega,by show 41≤q1.deep+_;rw[e1.d];exact h.f⟩
  refine⟨q2,j+1,⟨g2.s,g2.d.trans e1.d,g2.l.trans e1.l⟩,by simp only[Cx.tk,length_append,length_cons];omega,fun k=>?_⟩
  rw[show k+(j+1)=(k+1)+j by omega,e3]
  simp only[Ej]
  rw[if_pos (by rw[e1.s.e];rfl)]
  rcases ho with rfl|rfl|rfl
  ·rw[if_pos (by rw[e1.s.isT];decide),g1];rfl
  ·rw[if_neg (by rw[e1.s.isT];decide),if_pos (by rw[e1.s.isT];decide),g1];rfl
  ·rw[if_neg (by rw[e1.s.isT];decide),if_neg (by rw[e1.s.isT];decide),if_pos (by rw[e1.s.isT];decide),g1];rfl
theorem XW:∀(c:Cx) (f:Nat) (p:Pr) (a:Kt) (ts:List Kt),c.wf→c.nm→S5 a→Rdx f p c a ts→
  ∃q j,Afx p q a ts∧j≤c.tk.length∧∀k,HZ (unF f) (k+j) (Dd (unF f) p).1 (Dd (unF f) p).2=HZ (unF f) k c.v q
 | .num d,f,p,a,ts,hw,hn,ha,h=>by
  obtain⟨q,e1,e2⟩:=Lr (.num d) f p a ts hw hn ha (Nat.zero_le _) h
  exact⟨q,0,e2,Nat.zero_le _,fun k=>by rw[e1];rfl⟩
 | .var s,f,p,a,ts,hw,hn,ha,h=>by
  obtain⟨q,e1,e2⟩:=Lr (.var s) f p a ts hw hn ha (Nat.zero_le _) h
  exact⟨q,0,e2,Nat.zero_le _,fun k=>by rw[e1];rfl⟩
 | .neg u,f,p,a,ts,hw,hn,ha,h=>by
  obtain⟨q,e1,e2⟩:=Lr (.neg u) f p a ts hw hn ha (Nat.zero_le _) h
  exact⟨q,0,e2,Nat.zero_le _,fun k=>by rw[e1];rfl⟩
 | .par u,f,p,a,ts,hw,hn,ha,h=>by
  obtain⟨q,e1,e2⟩:=Lr (.par u) f p a ts hw hn ha (Nat.zero_le _) h
  exact⟨q,0,e2,Nat.zero_le _,fun k=>by rw[e1];rfl⟩
 | .bin o x y,f,p,a,ts,hw,hn,ha,h=>by
  rcases hw with⟨ho,y1,wx,wy⟩|hw'
  ·have ht:(Cx.bin o x y).tk++a::ts=x.tk++(2,opK o)::(y.tk++a::ts):=by simp[Cx.tk]
   have hs:Sfx p (x.tk++(2,opK o)::(y.tk++a::ts)):=by rw[← ht];exact h.s
   have hd:=h.d
   simp only[Cx.dp]at hd
   obtain⟨q1,j,e1,e2,e3⟩:=XW x f p (2,opK o) (y.tk++a::ts) wx hn.1 (A4O o ho) ⟨hs,by omega,h.f⟩
   obtain⟨q2,g1,g2⟩:=Lr y f (adv q1) a ts wy hn.2 ha y1 ⟨e1.s.adv,by show _+q1.deep≤40;rw[e1.d];omega,by show 41≤q1.deep+_;rw[e1.d];exact h.f⟩
   refine⟨q2,j+1,⟨g2.s,g2.d.trans e1.d,g2.l.trans e1.l⟩,by simp only[Cx.tk,length_append,length_cons];omega,fun k=>?_⟩
   rw[show k+(j+1)=(k+1)+j by omega,e3]
   simp only[HZ]
   rw[if_pos (by rw[e1.s.e];rfl)]
   rcases ho with rfl|rfl
   ·rw[if_neg (by rw[e1.s.isT];decide),if_pos (by rw[e1.s.isT];decide),g1];rfl
   ·rw[if_pos (by rw[e1.s.isT];decide),g1];rfl
  ·have hl:(Cx.bin o x y).lv≤1:=by simp only[Cx.lv];rw[if_neg (by have:=hw'.1;omega)];exact Nat.le_refl _
   obtain⟨q,e1,e2⟩:=Lr (.bin o x y) f p a ts (.inr hw') hn ha hl h
   exact⟨q,0,e2,Nat.zero_le _,fun k=>by rw[e1];rfl⟩
theorem Lr:∀(c:Cx) (f:Nat) (p:Pr) (a:Kt) (ts:List Kt),c.wf→c.nm→S5 a→c.lv≤1→Rdx f p c a ts→∃q,Dd (unF f) p=(c.v,q)∧Afx p q a ts:=by
 intro c f p a ts hw hn ha hl h
 obtain⟨q,j,e1,e2,e3⟩:=VQ c f p a ts hw hn hl h
 have h1:=h.s.lenN
 simp only[length_append,length_cons]at h1
 refine⟨q,?_,e1⟩
 unfold Dd
 have h2:=e3 (p.l.length-j)
 rw[show p.l.length-j+j=p.l.length by omega]at h2
 rw[h2,dY e1.s ha]
theorem aC:∀(c:Cx) (f:Nat) (p:Pr) (a:Kt) (ts:List Kt),c.wf→c.nm→Ht a→Rdx f p c a ts→∃q,GJ (unF f) p=(c.v,q)∧Afx p q a ts:=by
 intro c f p a ts hw hn ha h
 obtain⟨q,j,e1,e2,e3⟩:=XW c f p a ts hw hn ha.mul h
 have h1:=h.s.lenN
 simp only[length_append,length_cons]at h1
 refine⟨q,?_,e1⟩
 unfold GJ
 have h2:=e3 (p.l.length-j)
 rw[show p.l.length-j+j=p.l.length by omega]at h2
 rw[h2,kL e1.s ha]
end
theorem Iq {c:Cx} {p:Pr} {a:Kt} {ts:List Kt} (hw:c.wf) (hn:c.nm) (ha:Ht a) (h:Sfx p (c.tk++a::ts)) (hd:(c.dp:Int)+p.deep≤40):∃q,exS p=(c.v,q)∧Afx p q a ts:=
 aC c 41 p a ts hw hn ha ⟨h,hd,by have:=h.ok.2.2.2.1;omega⟩
end Go.Proofs.Ytjnnmindcbgjhaa
