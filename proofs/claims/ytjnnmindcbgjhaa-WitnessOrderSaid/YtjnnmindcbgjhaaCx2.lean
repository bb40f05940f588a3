/- Conditions as they are written: the parser reads each as what it says. No conditions but those in each statement. -/
import Derived.Test.YtjnnmindcbgjhaaCx1
set_option linter.unusedVariables false
set_option linter.unusedSimpArgs false
open List (length_append length_cons)
namespace Go.Proofs.Ytjnnmindcbgjhaa
open Go Go.Sy Go.RowKit
inductive Cc where
 |cmp (o:Nat) (a b:Cx)
 |nul (s:List UInt8) (ne:Bool)
 |not (u:Cc)
 |par (u:Cc)
 |and (a b:Cc)
 |or (a b:Cc)
abbrev MK:List UInt8:=[110,117,108,108]
def neT (ne:Bool):List UInt8:=if ne=true then [33,61] else [61,61]
def cpT (o:Nat):List UInt8:=cmpO.getD o []
def Cc.tk:Cc→List Kt
 | .cmp o a b=>a.tk++(2,cpT o)::b.tk
 | .nul s ne=>[(0,s),(2,neT ne),(0,MK)]
 | .not u=>(2,[33])::u.tk
 | .par u=>(2,[40])::(u.tk++[(2,[41])])
 | .and a b=>a.tk++(2,[38,38])::b.tk
 | .or a b=>a.tk++(2,[124,124])::b.tk
def Cc.v:Cc→Cd
 | .cmp o a b=>.mk (o:Int) a.v b.v .nil .nil []
 | .nul s ne=>if ne=true then .mk 8 .nil .nil (.mk 9 .nil .nil .nil .nil s) .nil [] else .mk 9 .nil .nil .nil .nil s
 | .not u=>.mk 8 .nil .nil u.v .nil []
 | .par u=>u.v
 | .and a b=>.mk 6 .nil .nil a.v b.v []
 | .or a b=>.mk 7 .nil .nil a.v b.v []
def Cc.dp:Cc→Nat
 | .cmp _ a b=>max a.dp b.dp
 | .nul _ _=>0
 | .not u=>u.dp+1
 | .par u=>u.dp+1
 | .and a b=>max a.dp b.dp
 | .or a b=>max a.dp b.dp
def Cc.lv:Cc→Nat
 | .and _ _=>1
 | .or _ _=>2
 |_=>0
def Cx.fs:Cx→Kt
 | .num d=>(1,d)
 | .var s=>(0,s)
 | .neg _=>(2,[45])
 | .par _=>(2,[40])
 | .bin _ a _=>a.fs
theorem Cx.tk_fs:∀c:Cx,∃r,c.tk=c.fs::r
 | .num d=>⟨_,rfl⟩
 | .var s=>⟨_,rfl⟩
 | .neg u=>⟨_,rfl⟩
 | .par u=>⟨_,rfl⟩
 | .bin o a b=>by
  obtain⟨r,h⟩:=a.tk_fs
  exact⟨r++(2,opK o)::b.tk,by simp only[Cx.tk,h,Cx.fs,List.cons_append]⟩
def Cc.wf:Cc→Prop
 | .cmp o a b=>o<6∧a.wf∧b.wf∧a.nm∧b.nm∧a.fs≠(2,[40])
 | .nul s _=>DZ s=false∧lh s
 | .not u=>u.wf∧u.lv=0
 | .par u=>u.wf
 | .and a b=>a.wf∧b.wf∧a.lv≤1∧b.lv=0
 | .or a b=>a.wf∧b.wf∧b.lv≤1
theorem Cx.no_cp:∀(c:Cx),c.nm→∀t∈c.tk,t.2≠[61,61]∧t.2≠[33,61]
 | .num d,h,t,ht=>by
  rw[Cx.tk,List.mem_singleton]at ht;subst ht
  exact⟨Yp h,Yp h⟩
 | .var s,h,t,ht=>by
  rw[Cx.tk,List.mem_singleton]at ht;subst ht
  exact⟨lh_ne h,lh_ne h⟩
 | .neg u,h,t,ht=>by
  rcases List.mem_cons.1 ht with rfl|ht
  ·exact⟨by decide,by decide⟩
  ·exact u.no_cp h t ht
 | .par u,h,t,ht=>by
  rcases List.mem_cons.1 ht with rfl|ht
  ·exact⟨by decide,by decide⟩
  rcases List.mem_append.1 ht with ht|ht
  ·exact u.no_cp h t ht
  ·rw[List.mem_singleton.1 ht];exact⟨by decide,by decide⟩
 | .bin o a b,h,t,ht=>by
  rcases List.mem_append.1 ht with ht|ht
  ·exact a.no_cp h.1 t ht
  rcases List.mem_cons.1 ht with rfl|ht
  ·simp only[opK];repeat' split
   all_goals exact⟨by decide,by decide⟩
  ·exact b.no_cp h.2 t ht
theorem dZ:DZ MK=true:=by decide
theorem Cx.fs_nul {c:Cx} (hw:c.wf) (hn:c.nm):c.fs.2≠MK:=by
 induction c with
 |num d=>exact Yp hn
 |var s=>
  intro h
  have h:s=MK:=h
  rw[h]at hw
  have:DZ MK=false:=hw
  rw[dZ]at this;cases this
 |neg u _=>show [45]≠MK;decide
 |par u _=>show [40]≠MK;decide
 |bin o a b ih _=>
  refine ih ?_ hn.1
  rcases hw with⟨_,_,h,_⟩|⟨_,_,_,h,_⟩<;>exact h
theorem Sfx.tkA1 {p:Pr} {a b:Kt} {ts:List Kt} (h:Sfx p (a::b::ts)):w64i (p.i+1)=p.i+1∧(tkA p (p.i+1)).t=b.2:=by
 obtain⟨k,t⟩:=a
 obtain⟨k',t'⟩:=b
 have hl:=h.len
 simp only[length_cons]at hl
 obtain⟨o1,o2,o3,_⟩:=h.ok
 refine⟨by unfold w64i;rw[wrap_i64 (by omega) (by omega)],?_⟩
 have i1:=Ek h.ok h.lt
 have:=h.adv.hd.2
 rw[← this]
 show (p.l.getD (p.i+1).toNat tk0).t=(p.l.getD (Go.Proofs.Ytjnnmindcbgjhaa.adv p).i.toNat tk0).t
 rw[i1]
theorem Sfx.tkA2 {p:Pr} {a b c:Kt} {ts:List Kt} (h:Sfx p (a::b::c::ts)):w64i (p.i+2)=p.i+2∧(tkA p (p.i+2)).t=c.2∧p.i+2<(p.l.length:Int):=by
 obtain⟨k,t⟩:=a
 obtain⟨k',t'⟩:=b
 obtain⟨k2,t2⟩:=c
 have hl:=h.len
 simp only[length_cons]at hl
 obtain⟨o1,o2,o3,_⟩:=h.ok
 refine⟨by unfold w64i;rw[wrap_i64 (by omega) (by omega)],?_,by omega⟩
 have i1:=Ek h.ok h.lt
 have i2:=Ek h.adv.ok h.adv.lt
 have:=h.adv.adv.hd.2
 rw[← this]
 show (p.l.getD (p.i+2).toNat tk0).t=(p.l.getD (Go.Proofs.Ytjnnmindcbgjhaa.adv (Go.Proofs.Ytjnnmindcbgjhaa.adv p)).i.toNat tk0).t
 rw[i2,i1,show p.i+1+1=p.i+2 by omega]
theorem dc {p:Pr} {a b:Cx} {o:Nat} {ts:List Kt} (ho:o<6) (ha:a.nm) (hb:b.wf) (hbn:b.nm) (h:Sfx p (a.tk++(2,cpT o)::(b.tk++ts))):He p=false:=by
 obtain⟨ra,ea⟩:=a.tk_fs
 obtain⟨rb,eb⟩:=b.tk_fs
 have hcp:=a.no_cp ha
 have hnl:=Cx.fs_nul hb hbn
 rw[ea,eb]at h
 rw[ea]at hcp
 cases ra with
 |nil=>
  have h:Sfx p (a.fs::(2,cpT o)::b.fs::(rb++ts)):=by simpa using h
  obtain⟨e2,e3,_⟩:=h.tkA2
  unfold He
  rw[e2,e3]
  have:(b.fs.2==[110,117,108,108])=false:=by rw[beq_eq_false_iff_ne];exact hnl
  rw[this];simp
 |cons t ra=>
  have h:Sfx p (a.fs::t::(ra++(2,cpT o)::(b.fs::rb++ts))):=by simpa using h
  obtain⟨e2,e3⟩:=h.tkA1
  obtain⟨c1,c2⟩:=hcp t (by simp)
  unfold He
  rw[e2,e3]
  have d1:(t.2==[61,61])=false:=by rw[beq_eq_false_iff_ne];exact c1
  have d2:(t.2==[33,61])=false:=by rw[beq_eq_false_iff_ne];exact c2
  rw[d1,d2];simp
theorem qw (o:Nat) (h:o<6):Ht (2,cpT o):=by
 intro u hu
 revert hu;revert u
 match o,h with
 |0,_=>decide
 |1,_=>decide
 |2,_=>decide
 |3,_=>decide
 |4,_=>decide
 |5,_=>decide
theorem qx {o:Nat} {q:Pr} {ts:List Kt} (h:Sfx q ((2,cpT o)::ts)) (ho:o<6) (a:Ex):Jr q a cmpO 0=(.mk (o:Int) a (exS (adv q)).1 .nil .nil [],(exS (adv q)).2):=by
 simp only[cmpO,Jr]
 match o,ho with
 |0,_=>rw[if_pos (by rw[h.isT];decide)];rfl
 |1,_=>rw[if_neg (by rw[h.isT];decide),if_pos (by rw[h.isT];decide)];rfl
 |2,_=>rw[if_neg (by rw[h.isT];decide),if_neg (by rw[h.isT];decide),if_pos (by rw[h.isT];decide)];rfl
 |3,_=>rw[if_neg (by rw[h.isT];decide),if_neg (by rw[h.isT];decide),if_neg (by rw[h.isT];decide),if_pos (by rw[h.isT];decide)];rfl
 |4,_=>rw[if_neg (by rw[h.isT];decide),if_neg (by rw[h.isT];decide),if_neg (by rw[h.isT];decide),if_neg (by rw[h.isT];decide),if_pos (by rw[h.isT];decide)];rfl
 |5,_=>rw[if_neg (by rw[h.isT];decide),if_neg (by rw[h.isT];decide),if_neg (by rw[h.isT];decide),if_neg (by rw[h.isT];decide),if_neg (by rw[h.isT];decide),if_pos (by rw[h.isT];decide)];rfl
structure Rdc (f:Nat) (p:Pr) (c:Cc) (a:Kt) (ts:List Kt):Prop where
 s:Sfx p (c.tk++a::ts)
 d:(c.dp:Int)+p.deep≤40
 f:41≤p.deep+(f:Int)
def Ux (a:Kt):Prop:=(a.1 != 1&&a.2==[38,38])=false
def qy (a:Kt):Prop:=(a.1 != 1&&a.2==[124,124])=false
theorem jQ {nt:Pr→R Cd} {p:Pr} {a:Kt} {ts:List Kt} (h:Sfx p (a::ts)) (ho:Ux a) (c:Cd):∀k,JA nt k c p=(c,p)
 |0=>rfl
 |k+1=>by
  simp only[JA]
  rw[if_neg (by rw[h.isT,ho];decide)]
theorem jR {nt:Pr→R Cd} {p:Pr} {a:Kt} {ts:List Kt} (h:Sfx p (a::ts)) (ho:qy a) (c:Cd):∀k,JB nt k c p=(c,p)
 |0=>rfl
 |k+1=>by
  simp only[JB]
  rw[if_neg (by rw[h.isT,ho];decide)]
theorem qz:Ht (2,[38,38]):=by intro u hu;revert hu;revert u;decide
theorem yH:Ht (2,[124,124]):=by intro u hu;revert hu;revert u;decide
theorem jT {f:Nat} {p:Pr} {a:Kt} {ts:List Kt} (h:Sfx p (a::ts)) (h1:(a.1 != 1&&a.2==[33])=false) (h2:(a.1 != 1&&a.2==[40])=false) (h3:He p=false):B5 (f+1) p=Jr (exS p).2 (exS p).1 cmpO 0:=by
 simp only[B5]
 rw[if_neg (by rw[h.isT,h1];decide),if_neg (by rw[h.isT,h2];decide),if_neg (by rw[h3];decide)]
theorem Cx.fs_ex:∀(c:Cx),c.nm→(c.fs.1 != 1&&c.fs.2==[33])=false
 | .num d,_=>rfl
 | .var s,h=>by
  have:(s==[33])=false:=by rw[beq_eq_false_iff_ne];exact lh_ne h
  simp only[Cx.fs,this,Bool.and_false]
 | .neg _,_=>rfl
 | .par _,_=>rfl
 | .bin _ a _,h=>a.fs_ex h.1
theorem Cx.fs_pa:∀(c:Cx),c.nm→c.fs≠(2,[40])→(c.fs.1 != 1&&c.fs.2==[40])=false
 | .num d,_,_=>rfl
 | .var s,h,_=>by
  have:(s==[40])=false:=by rw[beq_eq_false_iff_ne];exact lh_ne h
  simp only[Cx.fs,this,Bool.and_false]
 | .neg _,_,_=>rfl
 | .par _,_,h=>absurd rfl h
 | .bin _ a _,h,h2=>a.fs_pa h.1 h2
theorem jU {f:Nat} {p:Pr} {s:List UInt8} {ne:Bool} {ts:List Kt} (h:Sfx p ((0,s)::(2,neT ne)::(0,MK)::ts)) (hw:DZ s=false) (hl:lh s):∃q,B5 (f+1) p=((Cc.nul s ne).v,q)∧Sfx q ts∧q.deep=p.deep∧q.l=p.l:=by
 obtain⟨e2,e3,e4⟩:=h.tkA2
 obtain⟨e5,e6⟩:=h.tkA1
 have hn:nameB p=true:=by rw[h.nameB,hw];rfl
 have hb:He p=true:=by
  unfold He
  rw[e2,e3,e5,e6,hn]
  cases ne<;>simp[e4,neT]
 have d1:(s==[33])=false:=by rw[beq_eq_false_iff_ne];exact lh_ne hl
 have d2:(s==[40])=false:=by rw[beq_eq_false_iff_ne];exact lh_ne hl
 have h3:P1 p=adv (adv (adv p)):=by
  have i1:=Ek h.ok h.lt
  have i2:=Ek h.adv.ok h.adv.lt
  have i3:=Ek h.adv.adv.ok h.adv.adv.lt
  obtain⟨_,_,q,_,_⟩:=Vi h.ok hb
  have e1:(P1 p).i=(adv (adv (adv p))).i:=by
   show w64i (p.i+3)=_
   rw[q,i3,i2,i1];omega
  show (⟨p.l,w64i (p.i+3),p.en,p.e,p.at',p.deep,p.n⟩:Pr)=⟨p.l,(adv (adv (adv p))).i,p.en,p.e,p.at',p.deep,p.n⟩
  rw[← e1];rfl
 refine⟨P1 p,?_,by rw[h3];exact h.adv.adv.adv,rfl,rfl⟩
 simp only[B5]
 rw[if_neg (by rw[h.isT,d1];decide),if_neg (by rw[h.isT,d2];decide),if_pos hb]
 have hv:Pn p=(Cc.nul s ne).v:=by
  unfold Pn
  rw[e5,e6,h.hd.2]
  cases ne<;>rfl
 rw[hv]
theorem not_not {f:Nat} {p:Pr} {ts:List Kt} (h:Sfx p ((2,[33])::ts)) (hb:DH p=true):B5 (f+1) p=(.mk 8 .nil .nil (B5 f (adv (Ai p))).1 .nil [],shut (B5 f (adv (Ai p))).2):=by
 simp only[B5]
 rw[if_pos (by rw[h.isT];decide),if_pos hb]
theorem jV {f:Nat} {p:Pr} {ts:List Kt} (h:Sfx p ((2,[40])::ts)) (hb:DH p=true):B5 (f+1) p=((Hw (B5 f) (adv (Ai p))).1,shut (AX [41] (Hw (B5 f) (adv (Ai p))).2)):=by
 simp only[B5]
 rw[if_neg (by rw[h.isT];decide),if_pos (by rw[h.isT];decide),if_pos hb]
mutual
theorem Nw:∀(c:Cc) (f:Nat) (p:Pr) (a:Kt) (ts:List Kt),c.wf→c.lv=0→Ht a→Rdc f p c a ts→∃q,B5 f p=(c.v,q)∧Afx p q a ts
 | .cmp o x y,f,p,a,ts,hw,_,ha,h=>by
  obtain⟨f,rfl⟩:∃g,f=g+1:=⟨f-1,by have:=h.f;have:=h.s.ok.2.2.2.2.1;omega⟩
  obtain⟨ho,wx,wy,nx,ny,nf⟩:=hw
  have hs:Sfx p (x.tk++(2,cpT o)::(y.tk++a::ts)):=by
   have:(Cc.cmp o x y).tk++a::ts=x.tk++(2,cpT o)::(y.tk++a::ts):=by simp[Cc.tk]
   rw[← this];exact h.s
  have hd:=h.d
  simp only[Cc.dp]at hd
  obtain⟨q1,e1,e2⟩:=Iq wx nx (qw o ho) hs (by omega)
  obtain⟨q2,g1,g2⟩:=Iq wy ny ha e2.s.adv (by show _+q1.deep≤40;rw[e2.d];omega)
  obtain⟨r,er⟩:=x.tk_fs
  have hs':=hs
  rw[er,List.cons_append]at hs'
  refine⟨q2,?_,⟨g2.s,g2.d.trans e2.d,g2.l.trans e2.l⟩⟩
  rw[jT hs' (x.fs_ex nx) (x.fs_pa nx nf) (dc ho nx wy ny hs),e1,qx e2.s ho,g1];rfl
 | .nul s ne,f,p,a,ts,hw,_,ha,h=>by
  obtain⟨f,rfl⟩:∃g,f=g+1:=⟨f-1,by have:=h.f;have:=h.s.ok.2.2.2.2.1;omega⟩
  obtain⟨q,e1,e2,e3,e4⟩:=jU (f:=f) (ne:=ne) (ts:=a::ts) h.s hw.1 hw.2
  exact⟨q,e1,e2,e3,e4⟩
 | .not u,f,p,a,ts,hw,_,ha,h=>by
  obtain⟨f,rfl⟩:∃g,f=g+1:=⟨f-1,by have:=h.f;have:=h.s.ok.2.2.2.2.1;omega⟩
  have hs:Sfx p ((2,[33])::(u.tk++a::ts)):=h.s
  obtain⟨hb,s1,d1,f1,n1⟩:=Rdx.opn (d:=u.dp) hs h.d h.f
  obtain⟨q,e1,e2⟩:=Nw u f _ a ts hw.1 hw.2 ha ⟨s1,d1,f1⟩
  have n2:Nx (adv (Ai p)) q:=by have:=Iu f _ s1.ok;rw[e1]at this;exact this
  exact⟨shut q,by rw[not_not hs hb,e1];rfl,Afx.of (HF hs.ok hb (n1.trans n2)) (QO hs.ok hb (n1.trans n2) e2.s)⟩
 | .par u,f,p,a,ts,hw,_,ha,h=>by
  obtain⟨f,rfl⟩:∃g,f=g+1:=⟨f-1,by have:=h.f;have:=h.s.ok.2.2.2.2.1;omega⟩
  have hs:Sfx p ((2,[40])::(u.tk++(2,[41])::a::ts)):=by
   have:(Cc.par u).tk++a::ts=(2,[40])::(u.tk++(2,[41])::a::ts):=by simp[Cc.tk]
   rw[← this];exact h.s
  obtain⟨hb,s1,d1,f1,n1⟩:=Rdx.opn (d:=u.dp) hs h.d h.f
  obtain⟨q,e1,e2⟩:=aD u f _ (2,[41]) (a::ts) hw S6 rfl rfl ⟨s1,d1,f1⟩
  have n2:Nx (adv (Ai p)) q:=by have:=QX (Iu f) _ s1.ok;rw[e1]at this;exact this
  have e3:AX [41] q=adv q:=e2.s.wan (by decide)
  have n3:=n1.trans (n2.trans (DI e2.s.ok e2.s.lt e2.s.e))
  exact⟨shut (adv q),by rw[jV hs hb,e1];show (u.v,shut (AX [41] q))=_;rw[e3];rfl,Afx.of (HF hs.ok hb n3) (QO hs.ok hb n3 e2.s.adv)⟩
 | .and x y,f,p,a,ts,hw,hl,ha,h=>by cases hl
 | .or x y,f,p,a,ts,hw,hl,ha,h=>by cases hl
theorem XX:∀(c:Cc) (f:Nat) (p:Pr) (a:Kt) (ts:List Kt),c.wf→c.lv≤1→Ht a→Rdc f p c a ts→
  ∃q j,Afx p q a ts∧j≤c.tk.length∧∀k,JA (B5 f) (k+j) (B5 f p).1 (B5 f p).2=JA (B5 f) k c.v q
 | .and x y,f,p,a,ts,hw,hl,ha,h=>by
  obtain⟨wx,wy,lx,ly⟩:=hw
  have hs:Sfx p (x.tk++(2,[38,38])::(y.tk++a::ts)):=by
   have:(Cc.and x y).tk++a::ts=x.tk++(2,[38,38])::(y.tk++a::ts):=by simp[Cc.tk]
   rw[← this];exact h.s
  have hd:=h.d
  simp only[Cc.dp]at hd
  obtain⟨q1,j,e1,e2,e3⟩:=XX x f p (2,[38,38]) (y.tk++a::ts) wx lx qz ⟨hs,by omega,h.f⟩
  obtain⟨q2,g1,g2⟩:=Nw y f (adv q1) a ts wy ly ha ⟨e1.s.adv,by show _+q1.deep≤40;rw[e1.d];omega,by show 41≤q1.deep+_;rw[e1.d];exact h.f⟩
  refine⟨q2,j+1,⟨g2.s,g2.d.trans e1.d,g2.l.trans e1.l⟩,by simp only[Cc.tk,length_append,length_cons];omega,fun k=>?_⟩
  rw[show k+(j+1)=(k+1)+j by omega,e3]
  simp only[JA]
  rw[if_pos (by rw[e1.s.isT];decide),g1];rfl
 | .or x y,f,p,a,ts,hw,hl,ha,h=>by
  simp only[Cc.lv]at hl;omega
 | .cmp o x y,f,p,a,ts,hw,hl,ha,h=>by
  obtain⟨q,e1,e2⟩:=Nw (.cmp o x y) f p a ts hw rfl ha h
  exact⟨q,0,e2,Nat.zero_le _,fun k=>by rw[e1];rfl⟩
 | .nul s ne,f,p,a,ts,hw,hl,ha,h=>by
  obtain⟨q,e1,e2⟩:=Nw (.nul s ne) f p a ts hw rfl ha h
  exact⟨q,0,e2,Nat.zero_le _,fun k=>by rw[e1];rfl⟩
 | .not u,f,p,a,ts,hw,hl,ha,h=>by
  obtain⟨q,e1,e2⟩:=Nw (.not u) f p a ts hw rfl ha h
  exact⟨q,0,e2,Nat.zero_le _,fun k=>by rw[e1];rfl⟩
 | .par u,f,p,a,ts,hw,hl,ha,h=>by
  obtain⟨q,e1,e2⟩:=Nw (.par u) f p a ts hw rfl ha h
  exact⟨q,0,e2,Nat.zero_le _,fun k=>by rw[e1];rfl⟩
theorem Ny:∀(c:Cc) (f:Nat) (p:Pr) (a:Kt) (ts:List Kt),c.wf→c.lv≤1→Ht a→Ux a→Rdc f p c a ts→∃q,GK (B5 f) p=(c.v,q)∧Afx p q a ts:=by
 intro c f p a ts hw hl ha hb h
 obtain⟨q,j,e1,e2,e3⟩:=XX c f p a ts hw hl ha h
 have h1:=h.s.lenN
 simp only[length_append,length_cons]at h1
 refine⟨q,?_,e1⟩
 unfold GK
 have h2:=e3 (p.l.length-j)
 rw[show p.l.length-j+j=p.l.length by omega]at h2
 rw[h2,jQ e1.s hb]
theorem XY:∀(c:Cc) (f:Nat) (p:Pr) (a:Kt) (ts:List Kt),c.wf→Ht a→Ux a→Rdc f p c a ts→
  ∃q j,Afx p q a ts∧j≤c.tk.length∧∀k,JB (B5 f) (k+j) (GK (B5 f) p).1 (GK (B5 f) p).2=JB (B5 f) k c.v q
 | .or x y,f,p,a,ts,hw,ha,hb,h=>by
  obtain⟨wx,wy,ly⟩:=hw
  have hs:Sfx p (x.tk++(2,[124,124])::(y.tk++a::ts)):=by
   have:(Cc.or x y).tk++a::ts=x.tk++(2,[124,124])::(y.tk++a::ts):=by simp[Cc.tk]
   rw[← this];exact h.s
  have hd:=h.d
  simp only[Cc.dp]at hd
  obtain⟨q1,j,e1,e2,e3⟩:=XY x f p (2,[124,124]) (y.tk++a::ts) wx yH rfl ⟨hs,by omega,h.f⟩
  obtain⟨q2,g1,g2⟩:=Ny y f (adv q1) a ts wy ly ha hb ⟨e1.s.adv,by show _+q1.deep≤40;rw[e1.d];omega,by show 41≤q1.deep+_;rw[e1.d];exact h.f⟩
  refine⟨q2,j+1,⟨g2.s,g2.d.trans e1.d,g2.l.trans e1.l⟩,by simp only[Cc.tk,length_append,length_cons];omega,fun k=>?_⟩
  rw[show k+(j+1)=(k+1)+j by omega,e3]
  simp only[JB]
  rw[if_pos (by rw[e1.s.isT];decide),g1];rfl
 | .and x y,f,p,a,ts,hw,ha,hb,h=>by
  obtain⟨q,e1,e2⟩:=Ny (.and x y) f p a ts hw (Nat.le_refl _) ha hb h
  exact⟨q,0,e2,Nat.zero_le _,fun k=>by rw[e1];rfl⟩
 | .cmp o x y,f,p,a,ts,hw,ha,hb,h=>by
  obtain⟨q,e1,e2⟩:=Ny (.cmp o x y) f p a ts hw (Nat.zero_le _) ha hb h
  exact⟨q,0,e2,Nat.zero_le _,fun k=>by rw[e1];rfl⟩
 | .nul s ne,f,p,a,ts,hw,ha,hb,h=>by
  obtain⟨q,e1,e2⟩:=Ny (.nul s ne) f p a ts hw (Nat.zero_le _) ha hb h
  exact⟨q,0,e2,Nat.zero_le _,fun k=>by rw[e1];rfl⟩
 | .not u,f,p,a,ts,hw,ha,hb,h=>by
  obtain⟨q,e1,e2⟩:=Ny (.not u) f p a ts hw (Nat.zero_le _) ha hb h
  exact⟨q,0,e2,Nat.zero_le _,fun k=>by rw[e1];rfl⟩
 | .par u,f,p,a,ts,hw,ha,hb,h=>by
  obtain⟨q,e1,e2⟩:=Ny (.par u) f p a ts hw (Nat.zero_le _) ha hb h
  exact⟨q,0,e2,Nat.zero_le _,fun k=>by rw[e1];rfl⟩
theorem aD:∀(c:Cc) (f:Nat) (p:Pr) (a:Kt) (ts:List Kt),c.wf→Ht a→Ux a→qy a→Rdc f p c a ts→∃q,Hw (B5 f) p=(c.v,q)∧Afx p q a ts:=by
 intro c f p a ts hw ha hb hc h
 obtain⟨q,j,e1,e2,e3⟩:=XY c f p a ts hw ha hb h
 have h1:=h.s.lenN
 simp only[length_append,length_cons]at h1
 refine⟨q,?_,e1⟩
 unfold Hw
 have h2:=e3 (p.l.length-j)
 rw[show p.l.length-j+j=p.l.length by omega]at h2
 rw[h2,jR e1.s hc]
end
theorem rA {c:Cc} {p:Pr} {ts:List Kt} (hw:c.wf) (h:Sfx p (c.tk++(2,[41])::ts)) (hd:(c.dp:Int)+p.deep≤40):∃q,cdS p=(c.v,q)∧Afx p q (2,[41]) ts:=
 aD c 41 p (2,[41]) ts hw S6 rfl rfl ⟨h,hd,by have:=h.ok.2.2.2.1;omega⟩
end Go.Proofs.Ytjnnmindcbgjhaa
