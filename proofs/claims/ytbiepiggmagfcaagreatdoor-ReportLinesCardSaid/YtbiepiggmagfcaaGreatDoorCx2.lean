/- Conditions as they are written: the parser reads each as what it says. No conditions but those in each statement. -/
import Derived.Test.YtbiepiggmagfcaaGreatDoorPp
set_option linter.unusedVariables false
set_option linter.unusedSimpArgs false
open List (length_append length_cons cons_append)
namespace Go.Proofs.YtbiepiggmagfcaaGreatDoor
open Go Go.Sy Go.RowKit
inductive Cc where
 |cmp (o:Nat) (a b:Cx)
 |nul (s:List UInt8) (ne:Bool)
 |not (u:Cc)
 |par (u:Cc)
 |and (a b:Cc)
 |or (a b:Cc)
abbrev E5:List UInt8:=[110,117,108,108]
def neT (ne:Bool):List UInt8:=if ne=true then [33,61] else [61,61]
def cpT (o:Nat):List UInt8:=cmpO.getD o []
def Cc.tk:Cc→List Kt
 | .cmp o a b=>a.tk++(2,cpT o)::b.tk
 | .nul s ne=>[(0,s),(2,neT ne),(0,E5)]
 | .not u=>(2,[33])::u.tk
 | .par u=>(2,[40])::(u.tk++[(2,[41])])
 | .and a b=>a.tk++(2,[38,38])::b.tk
 | .or a b=>a.tk++(2,[124,124])::b.tk
def Cc.v:Cc→Cd
 | .cmp o a b=>.mk (o:Int) a.v b.v .nil .nil []
 | .nul s ne=>if ne=true then .mk 8 .nil .nil (.mk 9 .nil .nil .nil .nil s) .nil [] else .mk 9 .nil .nil .nil .nil s
 | .not u=>.mk 8 .nil .nil u.v .nil []
 | .par u=>u.v
 | .and a b=>.mk 6 .nil .nil a.v b.v []
 | .or a b=>.mk 7 .nil .nil a.v b.v []
def Cc.dp:Cc→Nat
 | .cmp _ a b=>max a.dp b.dp
 | .nul _ _=>0
 | .not u=>u.dp+1
 | .par u=>u.dp+1
 | .and a b=>max a.dp b.dp
 | .or a b=>max a.dp b.dp
def Cc.lv:Cc→Nat
 | .and _ _=>1
 | .or _ _=>2
 |_=>0
def Cx.fs:Cx→Kt
 | .num d=>(1,d)
 | .var s=>(0,s)
 | .neg _=>(2,[45])
 | .par _=>(2,[40])
 | .bin _ a _=>a.fs
theorem Cx.tk_fs:∀c:Cx,∃r,c.tk=c.fs::r
 | .num d=>⟨_,rfl⟩
 | .var s=>⟨_,rfl⟩
 | .neg u=>⟨_,rfl⟩
 | .par u=>⟨_,rfl⟩
 | .bin o a b=>by
  obtain⟨r,h⟩:=a.tk_fs
  exact⟨r++(2,opK o)::b.tk,by simp only[Cx.tk,h,Cx.fs,cons_append]⟩
def Cc.wf:Cc→Prop
 | .cmp o a b=>o<6∧a.wf∧b.wf∧a.nm∧b.nm∧a.fs≠(2,[40])
 | .nul s _=>Dz s=false∧lh s
 | .not u=>u.wf∧u.lv=0
 | .par u=>u.wf
 | .and a b=>a.wf∧b.wf∧a.lv≤1∧b.lv=0
 | .or a b=>a.wf∧b.wf∧b.lv≤1
theorem Cx.no_cp:∀(c:Cx),c.nm→∀t∈c.tk,t.2≠[61,61]∧t.2≠[33,61]
 | .num d,h,t,ht=>by
  rw[Cx.tk,List.mem_singleton]at ht;subst ht
  exact⟨bq h,bq h⟩
 | .var s,h,t,ht=>by
  rw[Cx.tk,List.mem_singleton]at ht;subst ht
  exact⟨lh_ne h,lh_ne h⟩
 | .neg u,h,t,ht=>by
  rcases List.mem_cons.1 ht with rfl|ht
  ·exact⟨by decide,by decide⟩
  ·exact u.no_cp h t ht
 | .par u,h,t,ht=>by
  rcases List.mem_cons.1 ht with rfl|ht
  ·exact⟨by decide,by decide⟩
  rcases List.mem_append.1 ht with ht|ht
  ·exact u.no_cp h t ht
  ·rw[List.mem_singleton.1 ht];exact⟨by decide,by decide⟩
 | .bin o a b,h,t,ht=>by
  rcases List.mem_append.1 ht with ht|ht
  ·exact a.no_cp h.1 t ht
  rcases List.mem_cons.1 ht with rfl|ht
  ·simp only[opK];repeat' split
   all_goals exact⟨by decide,by decide⟩
  ·exact b.no_cp h.2 t ht
theorem jC:Dz E5=true:=by decide
theorem Cx.fs_nul {c:Cx} (hw:c.wf) (hn:c.nm):c.fs.2≠E5:=by
 induction c with
 |num d=>exact bq hn
 |var s=>
  intro h
  have h:s=E5:=h
  rw[h]at hw
  have:Dz E5=false:=hw
  rw[jC]at this;cases this
 |neg u _=>show [45]≠E5;decide
 |par u _=>show [40]≠E5;decide
 |bin o a b ih _=>
  refine ih ?_ hn.1
  rcases hw with⟨_,_,h,_⟩|⟨_,_,_,h,_⟩<;>exact h
theorem Sfx.tkA1 {p:Pr} {a b:Kt} {ts:List Kt} (h:Sfx p (a::b::ts)):Ad (p.i+1)=p.i+1∧(tkA p (p.i+1)).t=b.2:=by
 obtain⟨k,t⟩:=a
 obtain⟨k',t'⟩:=b
 have hl:=h.len
 simp only[length_cons]at hl
 obtain⟨o1,o2,o3,_⟩:=h.ok
 refine⟨by unfold Ad;rw[wrap_i64 (by omega) (by omega)],?_⟩
 have i1:=DF h.ok h.lt
 have:=h.adv.hd.2
 rw[← this]
 show (p.l.getD (p.i+1).toNat tk0).t=(p.l.getD (Go.Proofs.YtbiepiggmagfcaaGreatDoor.adv p).i.toNat tk0).t
 rw[i1]
theorem Sfx.tkA2 {p:Pr} {a b c:Kt} {ts:List Kt} (h:Sfx p (a::b::c::ts)):Ad (p.i+2)=p.i+2∧(tkA p (p.i+2)).t=c.2∧p.i+2<(p.l.length:Int):=by
 obtain⟨k,t⟩:=a
 obtain⟨k',t'⟩:=b
 obtain⟨k2,t2⟩:=c
 have hl:=h.len
 simp only[length_cons]at hl
 obtain⟨o1,o2,o3,_⟩:=h.ok
 refine⟨by unfold Ad;rw[wrap_i64 (by omega) (by omega)],?_,by omega⟩
 have i1:=DF h.ok h.lt
 have i2:=DF h.adv.ok h.adv.lt
 have:=h.adv.adv.hd.2
 rw[← this]
 show (p.l.getD (p.i+2).toNat tk0).t=(p.l.getD (Go.Proofs.YtbiepiggmagfcaaGreatDoor.adv (Go.Proofs.YtbiepiggmagfcaaGreatDoor.adv p)).i.toNat tk0).t
 rw[i2,i1,show p.i+1+1=p.i+2 by omega]
theorem jD {p:Pr} {a b:Cx} {o:Nat} {ts:List Kt} (ho:o<6) (ha:a.nm) (hb:b.wf) (hbn:b.nm) (h:Sfx p (a.tk++(2,cpT o)::(b.tk++ts))):FE p=false:=by
 obtain⟨ra,ea⟩:=a.tk_fs
 obtain⟨rb,eb⟩:=b.tk_fs
 have hcp:=a.no_cp ha
 have hnl:=Cx.fs_nul hb hbn
 rw[ea,eb]at h
 rw[ea]at hcp
 cases ra with
 |nil=>
  have h:Sfx p (a.fs::(2,cpT o)::b.fs::(rb++ts)):=by simpa using h
  obtain⟨e2,e3,_⟩:=h.tkA2
  unfold FE
  rw[e2,e3]
  have:(b.fs.2==[110,117,108,108])=false:=by rw[beq_eq_false_iff_ne];exact hnl
  rw[this];simp
 |cons t ra=>
  have h:Sfx p (a.fs::t::(ra++(2,cpT o)::(b.fs::rb++ts))):=by simpa using h
  obtain⟨e2,e3⟩:=h.tkA1
  obtain⟨c1,c2⟩:=hcp t (by simp)
  unfold FE
  rw[e2,e3]
  have d1:(t.2==[61,61])=false:=by rw[beq_eq_false_iff_ne];exact c1
  have d2:(t.2==[33,61])=false:=by rw[beq_eq_false_iff_ne];exact c2
  rw[d1,d2];simp
theorem v8 (o:Nat) (h:o<6):FW (2,cpT o):=by
 intro u hu
 revert hu;revert u
 match o,h with
 |0,_=>decide
 |1,_=>decide
 |2,_=>decide
 |3,_=>decide
 |4,_=>decide
 |5,_=>decide
theorem vA {o:Nat} {q:Pr} {ts:List Kt} (h:Sfx q ((2,cpT o)::ts)) (ho:o<6) (a:Ex):Hu q a cmpO 0=(.mk (o:Int) a (exS (adv q)).1 .nil .nil [],(exS (adv q)).2):=by
 simp only[cmpO,Hu]
 match o,ho with
 |0,_=>rw[if_pos (by rw[h.isT];decide)];rfl
 |1,_=>rw[if_neg (by rw[h.isT];decide),if_pos (by rw[h.isT];decide)];rfl
 |2,_=>rw[if_neg (by rw[h.isT];decide),if_neg (by rw[h.isT];decide),if_pos (by rw[h.isT];decide)];rfl
 |3,_=>rw[if_neg (by rw[h.isT];decide),if_neg (by rw[h.isT];decide),if_neg (by rw[h.isT];decide),if_pos (by rw[h.isT];decide)];rfl
 |4,_=>rw[if_neg (by rw[h.isT];decide),if_neg (by rw[h.isT];decide),if_neg (by rw[h.isT];decide),if_neg (by rw[h.isT];decide),if_pos (by rw[h.isT];decide)];rfl
 |5,_=>rw[if_neg (by rw[h.isT];decide),if_neg (by rw[h.isT];decide),if_neg (by rw[h.isT];decide),if_neg (by rw[h.isT];decide),if_neg (by rw[h.isT];decide),if_pos (by rw[h.isT];decide)];rfl
structure Rdc (f:Nat) (p:Pr) (c:Cc) (a:Kt) (ts:List Kt):Prop where
 s:Sfx p (c.tk++a::ts)
 d:(c.dp:Int)+p.deep≤40
 f:41≤p.deep+(f:Int)
def Vt (a:Kt):Prop:=(a.1 != 1&&a.2==[38,38])=false
def vC (a:Kt):Prop:=(a.1 != 1&&a.2==[124,124])=false
theorem o8 {nt:Pr→R Cd} {p:Pr} {a:Kt} {ts:List Kt} (h:Sfx p (a::ts)) (ho:Vt a) (c:Cd):∀k,Gt nt k c p=(c,p)
 |0=>rfl
 |k+1=>by
  simp only[Gt]
  rw[if_neg (by rw[h.isT,ho];decide)]
theorem o9 {nt:Pr→R Cd} {p:Pr} {a:Kt} {ts:List Kt} (h:Sfx p (a::ts)) (ho:vC a) (c:Cd):∀k,Gu nt k c p=(c,p)
 |0=>rfl
 |k+1=>by
  simp only[Gu]
  rw[if_neg (by rw[h.isT,ho];decide)]
theorem vD:FW (2,[38,38]):=by intro u hu;revert hu;revert u;decide
theorem A1b:FW (2,[124,124]):=by intro u hu;revert hu;revert u;decide
theorem oA {f:Nat} {p:Pr} {a:Kt} {ts:List Kt} (h:Sfx p (a::ts)) (h1:(a.1 != 1&&a.2==[33])=false) (h2:(a.1 != 1&&a.2==[40])=false) (h3:FE p=false):AZ (f+1) p=Hu (exS p).2 (exS p).1 cmpO 0:=by
 simp only[AZ]
 rw[if_neg (by rw[h.isT,h1];decide),if_neg (by rw[h.isT,h2];decide),if_neg (by rw[h3];decide)]
theorem Cx.fs_ex:∀(c:Cx),c.nm→(c.fs.1 != 1&&c.fs.2==[33])=false
 | .num d,_=>rfl
 | .var s,h=>by
  have:(s==[33])=false:=by rw[beq_eq_false_iff_ne];exact lh_ne h
  simp only[Cx.fs,this,Bool.and_false]
 | .neg _,_=>rfl
 | .par _,_=>rfl
 | .bin _ a _,h=>a.fs_ex h.1
theorem Cx.fs_pa:∀(c:Cx),c.nm→c.fs≠(2,[40])→(c.fs.1 != 1&&c.fs.2==[40])=false
 | .num d,_,_=>rfl
 | .var s,h,_=>by
  have:(s==[40])=false:=by rw[beq_eq_false_iff_ne];exact lh_ne h
  simp only[Cx.fs,this,Bool.and_false]
 | .neg _,_,_=>rfl
 | .par _,_,h=>absurd rfl h
 | .bin _ a _,h,h2=>a.fs_pa h.1 h2
theorem oB {f:Nat} {p:Pr} {s:List UInt8} {ne:Bool} {ts:List Kt} (h:Sfx p ((0,s)::(2,neT ne)::(0,E5)::ts)) (hw:Dz s=false) (hl:lh s):∃q,AZ (f+1) p=((Cc.nul s ne).v,q)∧Sfx q ts∧q.deep=p.deep∧q.l=p.l:=by
 obtain⟨e2,e3,e4⟩:=h.tkA2
 obtain⟨e5,e6⟩:=h.tkA1
 have hn:nameB p=true:=by rw[h.nameB,hw];rfl
 have hb:FE p=true:=by
  unfold FE
  rw[e2,e3,e5,e6,hn]
  cases ne<;>simp[e4,neT]
 have d1:(s==[33])=false:=by rw[beq_eq_false_iff_ne];exact lh_ne hl
 have d2:(s==[40])=false:=by rw[beq_eq_false_iff_ne];exact lh_ne hl
 have h3:O6 p=adv (adv (adv p)):=by
  have i1:=DF h.ok h.lt
  have i2:=DF h.adv.ok h.adv.lt
  have i3:=DF h.adv.adv.ok h.adv.adv.lt
  obtain⟨_,_,q,_,_⟩:=X0 h.ok hb
  have e1:(O6 p).i=(adv (adv (adv p))).i:=by
   show Ad (p.i+3)=_
   rw[q,i3,i2,i1];omega
  show (⟨p.l,Ad (p.i+3),p.en,p.e,p.at',p.deep,p.n⟩:Pr)=⟨p.l,(adv (adv (adv p))).i,p.en,p.e,p.at',p.deep,p.n⟩
  rw[← e1];rfl
 refine⟨O6 p,?_,by rw[h3];exact h.adv.adv.adv,rfl,rfl⟩
 simp only[AZ]
 rw[if_neg (by rw[h.isT,d1];decide),if_neg (by rw[h.isT,d2];decide),if_pos hb]
 have hv:PK p=(Cc.nul s ne).v:=by
  unfold PK
  rw[e5,e6,h.hd.2]
  cases ne<;>rfl
 rw[hv]
theorem not_not {f:Nat} {p:Pr} {ts:List Kt} (h:Sfx p ((2,[33])::ts)) (hb:C7 p=true):AZ (f+1) p=(.mk 8 .nil .nil (AZ f (adv (AG p))).1 .nil [],shut (AZ f (adv (AG p))).2):=by
 simp only[AZ]
 rw[if_pos (by rw[h.isT];decide),if_pos hb]
theorem oC {f:Nat} {p:Pr} {ts:List Kt} (h:Sfx p ((2,[40])::ts)) (hb:C7 p=true):AZ (f+1) p=((FV (AZ f) (adv (AG p))).1,shut (AD [41] (FV (AZ f) (adv (AG p))).2)):=by
 simp only[AZ]
 rw[if_neg (by rw[h.isT];decide),if_pos (by rw[h.isT];decide),if_pos hb]
mutual
theorem Mp:∀(c:Cc) (f:Nat) (p:Pr) (a:Kt) (ts:List Kt),c.wf→c.lv=0→FW a→Rdc f p c a ts→∃q,AZ f p=(c.v,q)∧Afx p q a ts
 | .cmp o x y,f,p,a,ts,hw,_,ha,h=>by
  obtain⟨f,rfl⟩:∃g,f=g+1:=⟨f-1,by have:=h.f;have:=h.s.ok.2.2.2.2.1;omega⟩
  obtain⟨ho,wx,wy,nx,ny,nf⟩:=hw
  have hs:Sfx p (x.tk++(2,cpT o)::(y.tk++a::ts)):=by
   have:(Cc.cmp o x y).tk++a::ts=x.tk++(2,cpT o)::(y.tk++a::ts):=by simp[Cc.tk]
   rw[← this];exact h.s
  have hd:=h.d
  simp only[Cc.dp]at hd
  obtain⟨q1,e1,e2⟩:=GX wx nx (v8 o ho) hs (by omega)
  obtain⟨q2,g1,g2⟩:=GX wy ny ha e2.s.adv (by show _+q1.deep≤40;rw[e2.d];omega)
  obtain⟨r,er⟩:=x.tk_fs
  have hs':=hs
  rw[er,cons_append]at hs'
  refine⟨q2,?_,⟨g2.s,g2.d.trans e2.d,g2.l.trans e2.l⟩⟩
  rw[oA hs' (x.fs_ex nx) (x.fs_pa nx nf) (jD ho nx wy ny hs),e1,vA e2.s ho,g1];rfl
 | .nul s ne,f,p,a,ts,hw,_,ha,h=>by
  obtain⟨f,rfl⟩:∃g,f=g+1:=⟨f-1,by have:=h.f;have:=h.s.ok.2.2.2.2.1;omega⟩
  obtain⟨q,e1,e2,e3,e4⟩:=oB (f:=f) (ne:=ne) (ts:=a::ts) h.s hw.1 hw.2
  exact⟨q,e1,e2,e3,e4⟩
 | .not u,f,p,a,ts,hw,_,ha,h=>by
  obtain⟨f,rfl⟩:∃g,f=g+1:=⟨f-1,by have:=h.f;have:=h.s.ok.2.2.2.2.1;omega⟩
  have hs:Sfx p ((2,[33])::(u.tk++a::ts)):=h.s
  obtain⟨hb,s1,d1,f1,n1⟩:=Rdx.opn (d:=u.dp) hs h.d h.f
  obtain⟨q,e1,e2⟩:=Mp u f _ a ts hw.1 hw.2 ha ⟨s1,d1,f1⟩
  have n2:Nx (adv (AG p)) q:=by have:=GV f _ s1.ok;rw[e1]at this;exact this
  exact⟨shut q,by rw[not_not hs hb,e1];rfl,Afx.of (F5 hs.ok hb (n1.trans n2)) (Qe hs.ok hb (n1.trans n2) e2.s)⟩
 | .par u,f,p,a,ts,hw,_,ha,h=>by
  obtain⟨f,rfl⟩:∃g,f=g+1:=⟨f-1,by have:=h.f;have:=h.s.ok.2.2.2.2.1;omega⟩
  have hs:Sfx p ((2,[40])::(u.tk++(2,[41])::a::ts)):=by
   have:(Cc.par u).tk++a::ts=(2,[40])::(u.tk++(2,[41])::a::ts):=by simp[Cc.tk]
   rw[← this];exact h.s
  obtain⟨hb,s1,d1,f1,n1⟩:=Rdx.opn (d:=u.dp) hs h.d h.f
  obtain⟨q,e1,e2⟩:=dy u f _ (2,[41]) (a::ts) hw Sj rfl rfl ⟨s1,d1,f1⟩
  have n2:Nx (adv (AG p)) q:=by have:=Qc (GV f) _ s1.ok;rw[e1]at this;exact this
  have e3:AD [41] q=adv q:=e2.s.wan (by decide)
  have n3:=n1.trans (n2.trans (C8 e2.s.ok e2.s.lt e2.s.e))
  exact⟨shut (adv q),by rw[oC hs hb,e1];show (u.v,shut (AD [41] q))=_;rw[e3];rfl,Afx.of (F5 hs.ok hb n3) (Qe hs.ok hb n3 e2.s.adv)⟩
 | .and x y,f,p,a,ts,hw,hl,ha,h=>by cases hl
 | .or x y,f,p,a,ts,hw,hl,ha,h=>by cases hl
theorem Yp:∀(c:Cc) (f:Nat) (p:Pr) (a:Kt) (ts:List Kt),c.wf→c.lv≤1→FW a→Rdc f p c a ts→
  ∃q j,Afx p q a ts∧j≤c.tk.length∧∀k,Gt (AZ f) (k+j) (AZ f p).1 (AZ f p).2=Gt (AZ f) k c.v q
 | .and x y,f,p,a,ts,hw,hl,ha,h=>by
  obtain⟨wx,wy,lx,ly⟩:=hw
  have hs:Sfx p (x.tk++(2,[38,38])::(y.tk++a::ts)):=by
   have:(Cc.and x y).tk++a::ts=x.tk++(2,[38,38])::(y.tk++a::ts):=by simp[Cc.tk]
   rw[← this];exact h.s
  have hd:=h.d
  simp only[Cc.dp]at hd
  obtain⟨q1,j,e1,e2,e3⟩:=Yp x f p (2,[38,38]) (y.tk++a::ts) wx lx vD ⟨hs,by omega,h.f⟩
  obtain⟨q2,g1,g2⟩:=Mp y f (adv q1) a ts wy ly ha ⟨e1.s.adv,by show _+q1.deep≤40;rw[e1.d];omega,by show 41≤q1.deep+_;rw[e1.d];exact h.f⟩
  refine⟨q2,j+1,⟨g2.s,g2.d.trans e1.d,g2.l.trans e1.l⟩,by simp only[Cc.tk,length_append,length_cons];omega,fun k=>?_⟩
  rw[show k+(j+1)=(k+1)+j by omega,e3]
  simp only[Gt]
  rw[if_pos (by rw[e1.s.isT];decide),g1];rfl
 | .or x y,f,p,a,ts,hw,hl,ha,h=>by
  simp only[Cc.lv]at hl;omega
 | .cmp o x y,f,p,a,ts,hw,hl,ha,h=>by
  obtain⟨q,e1,e2⟩:=Mp (.cmp o x y) f p a ts hw rfl ha h
  exact⟨q,0,e2,Nat.zero_le _,fun k=>by rw[e1];rfl⟩
 | .nul s ne,f,p,a,ts,hw,hl,ha,h=>by
  obtain⟨q,e1,e2⟩:=Mp (.nul s ne) f p a ts hw rfl ha h
  exact⟨q,0,e2,Nat.zero_le _,fun k=>by rw[e1];rfl⟩
 | .not u,f,p,a,ts,hw,hl,ha,h=>by
  obtain⟨q,e1,e2⟩:=Mp (.not u) f p a ts hw rfl ha h
  exact⟨q,0,e2,Nat.zero_le _,fun k=>by rw[e1];rfl⟩
 | .par u,f,p,a,ts,hw,hl,ha,h=>by
  obtain⟨q,e1,e2⟩:=Mp (.par u) f p a ts hw rfl ha h
  exact⟨q,0,e2,Nat.zero_le _,fun k=>by rw[e1];rfl⟩
theorem Mq:∀(c:Cc) (f:Nat) (p:Pr) (a:Kt) (ts:List Kt),c.wf→c.lv≤1→FW a→Vt a→Rdc f p c a ts→∃q,EP (AZ f) p=(c.v,q)∧Afx p q a ts:=by
 intro c f p a ts hw hl ha hb h
 obtain⟨q,j,e1,e2,e3⟩:=Yp c f p a ts hw hl ha h
 have h1:=h.s.lenN
 simp only[length_append,length_cons]at h1
 refine⟨q,?_,e1⟩
 unfold EP
 have h2:=e3 (p.l.length-j)
 rw[show p.l.length-j+j=p.l.length by omega]at h2
 rw[h2,o8 e1.s hb]
theorem Yq:∀(c:Cc) (f:Nat) (p:Pr) (a:Kt) (ts:List Kt),c.wf→FW a→Vt a→Rdc f p c a ts→
  ∃q j,Afx p q a ts∧j≤c.tk.length∧∀k,Gu (AZ f) (k+j) (EP (AZ f) p).1 (EP (AZ f) p).2=Gu (AZ f) k c.v q
 | .or x y,f,p,a,ts,hw,ha,hb,h=>by
  obtain⟨wx,wy,ly⟩:=hw
  have hs:Sfx p (x.tk++(2,[124,124])::(y.tk++a::ts)):=by
   have:(Cc.or x y).tk++a::ts=x.tk++(2,[124,124])::(y.tk++a::ts):=by simp[Cc.tk]
   rw[← this];exact h.s
  have hd:=h.d
  simp only[Cc.dp]at hd
  obtain⟨q1,j,e1,e2,e3⟩:=Yq x f p (2,[124,124]) (y.tk++a::ts) wx A1b rfl ⟨hs,by omega,h.f⟩
  obtain⟨q2,g1,g2⟩:=Mq y f (adv q1) a ts wy ly ha hb ⟨e1.s.adv,by show _+q1.deep≤40;rw[e1.d];omega,by show 41≤q1.deep+_;rw[e1.d];exact h.f⟩
  refine⟨q2,j+1,⟨g2.s,g2.d.trans e1.d,g2.l.trans e1.l⟩,by simp only[Cc.tk,length_append,length_cons];omega,fun k=>?_⟩
  rw[show k+(j+1)=(k+1)+j by omega,e3]
  simp only[Gu]
  rw[if_pos (by rw[e1.s.isT];decide),g1];rfl
 | .and x y,f,p,a,ts,hw,ha,hb,h=>by
  obtain⟨q,e1,e2⟩:=Mq (.and x y) f p a ts hw (Nat.le_refl _) ha hb h
  exact⟨q,0,e2,Nat.zero_le _,fun k=>by rw[e1];rfl⟩
 | .cmp o x y,f,p,a,ts,hw,ha,hb,h=>by
  obtain⟨q,e1,e2⟩:=Mq (.cmp o x y) f p a ts hw (Nat.zero_le _) ha hb h
  exact⟨q,0,e2,Nat.zero_le _,fun k=>by rw[e1];rfl⟩
 | .nul s ne,f,p,a,ts,hw,ha,hb,h=>by
  obtain⟨q,e1,e2⟩:=Mq (.nul s ne) f p a ts hw (Nat.zero_le _) ha hb h
  exact⟨q,0,e2,Nat.zero_le _,fun k=>by rw[e1];rfl⟩
 | .not u,f,p,a,ts,hw,ha,hb,h=>by
  obtain⟨q,e1,e2⟩:=Mq (.not u) f p a ts hw (Nat.zero_le _) ha hb h
  exact⟨q,0,e2,Nat.zero_le _,fun k=>by rw[e1];rfl⟩
 | .par u,f,p,a,ts,hw,ha,hb,h=>by
  obtain⟨q,e1,e2⟩:=Mq (.par u) f p a ts hw (Nat.zero_le _) ha hb h
  exact⟨q,0,e2,Nat.zero_le _,fun k=>by rw[e1];rfl⟩
theorem dy:∀(c:Cc) (f:Nat) (p:Pr) (a:Kt) (ts:List Kt),c.wf→FW a→Vt a→vC a→Rdc f p c a ts→∃q,FV (AZ f) p=(c.v,q)∧Afx p q a ts:=by
 intro c f p a ts hw ha hb hc h
 obtain⟨q,j,e1,e2,e3⟩:=Yq c f p a ts hw ha hb h
 have h1:=h.s.lenN
 simp only[length_append,length_cons]at h1
 refine⟨q,?_,e1⟩
 unfold FV
 have h2:=e3 (p.l.length-j)
 rw[show p.l.length-j+j=p.l.length by omega]at h2
 rw[h2,o9 e1.s hc]
end
theorem vE {c:Cc} {p:Pr} {ts:List Kt} (hw:c.wf) (h:Sfx p (c.tk++(2,[41])::ts)) (hd:(c.dp:Int)+p.deep≤40):∃q,cdS p=(c.v,q)∧Afx p q (2,[41]) ts:=
 dy c 41 p (2,[41]) ts hw Sj rfl rfl ⟨h,hd,by have:=h.ok.2.2.2.1;omega⟩
end Go.Proofs.YtbiepiggmagfcaaGreatDoor
namespace Go.Proofs.YtbiepiggmagfcaaGreatDoor
open Go Go.Sy Go.RowKit
def nmO (s:List UInt8):Prop:=Dz s=false∧lh s
theorem nmO.ne {s w:List UInt8} (h:nmO s) (hw:Dz w=true:=by decide):(s==w)=false:=by
 rw[beq_eq_false_iff_ne]
 rintro rfl
 have h1:=h.1
 rw[hw]at h1;cases h1
inductive Cs where
 |asg (x:List UInt8) (e:Cx)
 |adr (x y:List UInt8)
 |nul (x:List UInt8)
 |lod (x y:List UInt8)
 |sto (x:List UInt8) (e:Cx)
 |idx (x y:List UInt8) (e:Cx)
 |put (y:List UInt8) (e f:Cx)
 |cal (x:Option (List UInt8)) (y:List UInt8) (l:List Cx)
 |ret (e:Cx)
 |ass (c:Cc)
 |whi (c:Cc) (b:List Cs)
 |ite (c:Cc) (b:List Cs) (e:Option (List Cs))
abbrev kO (c:UInt8):Kt:=(2,[c])
def agK:List Cx→List Kt
 |[]=>[kO 41]
 |[c]=>c.tk++[kO 41]
 |c::l=>c.tk++kO 44::agK l
mutual
def Cs.tk:Cs→List Kt
 | .asg x e=>(0,x)::kO 61::(e.tk++[kO 59])
 | .adr x y=>[(0,x),kO 61,kO 38,(0,y),kO 59]
 | .nul x=>[(0,x),kO 61,(0,E5),kO 59]
 | .lod x y=>[(0,x),kO 61,kO 42,(0,y),kO 59]
 | .sto x e=>kO 42::(0,x)::kO 61::(e.tk++[kO 59])
 | .idx x y e=>(0,x)::kO 61::(0,y)::kO 91::(e.tk++[kO 93,kO 59])
 | .put y e f=>(0,y)::kO 91::(e.tk++kO 93::kO 61::(f.tk++[kO 59]))
 | .cal none y l=>(0,y)::kO 40::(agK l++[kO 59])
 | .cal (some x) y l=>(0,x)::kO 61::(0,y)::kO 40::(agK l++[kO 59])
 | .ret e=>(0,UG)::(e.tk++[kO 59])
 | .ass c=>(0,PQ)::kO 40::(c.tk++[kO 41,kO 59])
 | .whi c b=>(0,PR)::kO 40::(c.tk++kO 41::kO 123::(tkB b++[kO 125]))
 | .ite c b none=>(0,tIf)::kO 40::(c.tk++kO 41::kO 123::(tkB b++[kO 125]))
 | .ite c b (some e)=>(0,tIf)::kO 40::(c.tk++kO 41::kO 123::(tkB b++kO 125::(0,FF)::kO 123::(tkB e++[kO 125])))
def tkB:List Cs→List Kt
 |[]=>[]
 |s::l=>s.tk++tkB l
end
mutual
def Cs.ct:Cs→Nat
 | .whi _ b=>1+ctB b
 | .ite _ b none=>1+ctB b
 | .ite _ b (some e)=>1+ctB b+ctB e
 |_=>1
def ctB:List Cs→Nat
 |[]=>0
 |s::l=>s.ct+ctB l
end
def agA (l:List Cx):List Ar:=l.map fun c=>⟨false,[],c.v⟩
mutual
def Cs.v (n:Int):Cs→Sm
 | .asg x e=>.mk 0 x [] e.v .nil .nil [] [] [] n
 | .adr x y=>.mk 1 x y .nil .nil .nil [] [] [] n
 | .nul x=>.mk 3 x [] .nil .nil .nil [] [] [] n
 | .lod x y=>.mk 4 x y .nil .nil .nil [] [] [] n
 | .sto x e=>.mk 5 x [] e.v .nil .nil [] [] [] n
 | .idx x y e=>.mk 6 x y e.v .nil .nil [] [] [] n
 | .put y e f=>.mk 7 [] y e.v f.v .nil [] [] [] n
 | .cal none y l=>.mk 8 [] y .nil .nil .nil (agA l) [] [] n
 | .cal (some x) y l=>.mk 8 x y .nil .nil .nil (agA l) [] [] n
 | .ret e=>.mk 9 [] [] e.v .nil .nil [] [] [] n
 | .ass c=>.mk 12 [] [] .nil .nil c.v [] [] [] n
 | .whi c b=>.mk 11 [] [] .nil .nil c.v [] (vB (n+1) b) [] n
 | .ite c b none=>.mk 10 [] [] .nil .nil c.v [] (vB (n+1) b) [] n
 | .ite c b (some e)=>.mk 10 [] [] .nil .nil c.v [] (vB (n+1) b) (vB (n+1+ctB b) e) n
def vB (n:Int):List Cs→List Sm
 |[]=>[]
 |s::l=>s.v n::vB (n+s.ct) l
end
def agD:List Cx→Nat
 |[]=>0
 |c::l=>max c.dp (agD l)
mutual
def Cs.dp:Cs→Nat
 | .asg _ e=>e.dp
 | .sto _ e=>e.dp
 | .idx _ _ e=>e.dp
 | .put _ e f=>max e.dp f.dp
 | .cal _ _ l=>agD l
 | .ret e=>e.dp
 | .ass c=>c.dp
 | .whi c b=>max c.dp (dpB b+1)
 | .ite c b none=>max c.dp (dpB b+1)
 | .ite c b (some e)=>max c.dp (max (dpB b+1) (dpB e+1))
 |_=>0
def dpB:List Cs→Nat
 |[]=>0
 |s::l=>max s.dp (dpB l)
end
def exO (e:Cx):Prop:=e.wf∧e.nm
mutual
def Cs.wf:Cs→Prop
 | .asg x e=>nmO x∧exO e
 | .adr x y=>nmO x∧nmO y
 | .nul x=>nmO x
 | .lod x y=>nmO x∧nmO y
 | .sto x e=>nmO x∧exO e
 | .idx x y e=>nmO x∧nmO y∧exO e
 | .put y e f=>nmO y∧exO e∧exO f
 | .cal none y l=>nmO y∧∀e∈l,exO e
 | .cal (some x) y l=>nmO x∧nmO y∧∀e∈l,exO e
 | .ret e=>exO e
 | .ass c=>c.wf
 | .whi c b=>c.wf∧wfB b
 | .ite c b none=>c.wf∧wfB b
 | .ite c b (some e)=>c.wf∧wfB b∧wfB e
def wfB:List Cs→Prop
 |[]=>True
 |s::l=>s.wf∧wfB l
end
theorem A7L:FW (kO 44):=by intro u hu;revert hu;revert u;decide
theorem bD:FW (kO 59):=by intro u hu;revert hu;revert u;decide
theorem vF:FW (kO 93):=by intro u hu;revert hu;revert u;decide
theorem mQ:∀(l:List Cx) (p:Pr) (acc:List Ar) (k:Nat) (ts:List Kt),l≠[]→(∀e∈l,exO e)→Sfx p (agK l++ts)→(agD l:Int)+p.deep≤40→l.length≤k→∃q,GQ k acc p=(acc++agA l,q)∧Sfx q ts∧q.deep=p.deep∧q.l=p.l
 |[],_,_,_,_,h,_,_,_,_=>absurd rfl h
 |[c],p,acc,k,ts,_,hw,h,hd,hk=>by
  obtain⟨k,rfl⟩:∃j,k=j+1:=⟨k-1,by simp only[length_cons]at hk;omega⟩
  have h:Sfx p (c.tk++kO 41::ts):=by simpa [agK] using h
  obtain⟨w1,w2⟩:=hw c (by simp)
  obtain⟨q,e1,e2⟩:=GX w1 w2 Sj h (by simp only[agD]at hd;omega)
  refine⟨adv q,?_,e2.s.adv,e2.d,e2.l⟩
  simp only[GQ]
  rw[if_pos (by rw[h.e];rfl),e1,if_pos (by rw[e2.s.isT];decide)];rfl
 |c::d::l,p,acc,k,ts,_,hw,h,hd,hk=>by
  obtain⟨k,rfl⟩:∃j,k=j+1:=⟨k-1,by simp only[length_cons]at hk;omega⟩
  have h:Sfx p (c.tk++kO 44::(agK (d::l)++ts)):=by simpa [agK] using h
  obtain⟨w1,w2⟩:=hw c (by simp)
  have hd':(max c.dp (agD (d::l)):Nat)+p.deep≤40:=hd
  obtain⟨q,e1,e2⟩:=GX w1 w2 A7L h (by omega)
  obtain⟨q2,g1,g2,g3,g4⟩:=mQ (d::l) (adv q) (acc++[⟨false,[],c.v⟩]) k ts (by simp) (fun e he=>hw e (List.mem_cons_of_mem _ he)) e2.s.adv (by show _+q.deep≤40;rw[e2.d];omega) (by simp only[length_cons]at hk ⊢;omega)
  refine⟨q2,?_,g2,g3.trans e2.d,g4.trans e2.l⟩
  simp only[GQ]
  rw[if_pos (by rw[h.e];rfl),e1,if_neg (by rw[e2.s.isT];decide)]
  dsimp only
  rw[e2.s.wan (by decide),g1,List.append_assoc];rfl
theorem Tr:∀l:List Cx,l.length≤(agK l).length
 |[]=>Nat.zero_le _
 |[c]=>by simp[agK]
 |c::d::l=>by
  have:=Tr (d::l)
  simp only[agK,length_append,length_cons]at this ⊢;omega
theorem Cx.fs_cl {c:Cx} (hw:c.wf) (hn:c.nm):(c.fs.1 != 1&&c.fs.2==[41])=false:=by
 induction c with
 |num d=>rfl
 |var s=>simp only[Cx.fs,beq_eq_false_iff_ne.2 (lh_ne hn:s≠[41]),Bool.and_false]
 |neg u _=>rfl
 |par u _=>rfl
 |bin o a b ih _=>
  refine ih ?_ hn.1
  rcases hw with⟨_,_,h,_⟩|⟨_,_,_,h,_⟩<;>exact h
theorem mR (l:List Cx) (p:Pr) (ts:List Kt) (hw:∀e∈l,exO e) (h:Sfx p (agK l++ts)) (hd:(agD l:Int)+p.deep≤40):∃q,Cw p=(agA l,q)∧Sfx q ts∧q.deep=p.deep∧q.l=p.l:=by
 unfold Cw
 cases l with
 |nil=>
  have h:Sfx p (kO 41::ts):=h
  rw[if_pos (by rw[h.isT];decide)]
  exact⟨adv p,rfl,h.adv,rfl,rfl⟩
 |cons c l=>
  have hf:isT [41] p=false:=by
   obtain⟨w1,w2⟩:=hw c (by simp)
   obtain⟨r,er⟩:=c.tk_fs
   have hh:∃t,agK (c::l)=c.fs::t:=by
    cases l with
    |nil=>exact⟨r++[kO 41],by simp[agK,er]⟩
    |cons d l=>exact⟨r++kO 44::agK (d::l),by simp[agK,er]⟩
   obtain⟨t,ht⟩:=hh
   rw[ht]at h
   have h:Sfx p (c.fs::(t++ts)):=h
   rw[h.isT]
   exact Cx.fs_cl w1 w2
  rw[if_neg (by rw[hf];decide)]
  have h1:=h.lenN
  have h2:=Tr (c::l)
  rw[length_append]at h1
  obtain⟨q,e1,e2,e3,e4⟩:=mQ (c::l) p [] (p.l.length+1) ts (by simp) hw h hd (by omega)
  exact⟨q,by rw[e1];rfl,e2,e3,e4⟩
theorem Cx.fs_t {c:Cx} (hw:c.wf) (hn:c.nm):(c.fs.1 != 1&&c.fs.2==Sa)=false∧(c.fs.1 != 1&&c.fs.2==[38])=false∧(c.fs.1 != 1&&c.fs.2==[42])=false:=by
 refine⟨?_,?_⟩
 ·have:=beq_eq_false_iff_ne.2 (Cx.fs_nul hw hn)
  rw[this,Bool.and_false]
 ·induction c with
  |num d=>exact⟨rfl,rfl⟩
  |var s=>exact⟨by simp only[Cx.fs,beq_eq_false_iff_ne.2 (lh_ne hn:s≠[38]),Bool.and_false],by simp only[Cx.fs,beq_eq_false_iff_ne.2 (lh_ne hn:s≠[42]),Bool.and_false]⟩
  |neg u _=>exact⟨rfl,rfl⟩
  |par u _=>exact⟨rfl,rfl⟩
  |bin o a b ih _=>
   refine ih ?_ hn.1
   rcases hw with⟨_,_,h,_⟩|⟨_,_,_,h,_⟩<;>exact h
theorem vG (o:Int):opK o≠[91]∧opK o≠[40]:=by
 unfold opK;repeat' split
 all_goals exact⟨by decide,by decide⟩
theorem Cx.sn:∀(c:Cx) (t:Kt) (r:List Kt),c.fs.1=0→c.tk=c.fs::t::r→t.2≠[91]∧t.2≠[40]
 | .num d,t,r,h,e=>by cases h
 | .var s,t,r,h,e=>by simp[Cx.tk,Cx.fs]at e
 | .neg u,t,r,h,e=>by cases h
 | .par u,t,r,h,e=>by cases h
 | .bin o a b,t,r,h,e=>by
  obtain⟨ra,ea⟩:=a.tk_fs
  simp only[Cx.tk,ea,Cx.fs,cons_append,List.cons.injEq,true_and]at e
  cases ra with
  |nil=>
   simp only[List.nil_append,List.cons.injEq]at e
   rw[← e.1];exact vG o
  |cons u ra=>
   simp only[cons_append,List.cons.injEq]at e
   rw[← e.1]
   exact a.sn u ra h ea
theorem vH {c:Cx} {p:Pr} {ts:List Kt} (h:Sfx p (c.tk++kO 59::ts)):ahB [91] p=false∧ahB [40] p=false:=by
 obtain⟨r,er⟩:=c.tk_fs
 rw[er]at h
 have h:Sfx p (c.fs::(r++kO 59::ts)):=h
 by_cases h0:c.fs.1=0
 ·cases r with
  |nil=>
   obtain⟨e1,e2⟩:=Sfx.tkA1 (a:=c.fs) (b:=kO 59) (ts:=ts) h
   unfold ahB
   rw[e1,e2]
   exact⟨by simp,by simp⟩
  |cons t r=>
   obtain⟨n1,n2⟩:=c.sn t r h0 er
   obtain⟨e1,e2⟩:=Sfx.tkA1 (a:=c.fs) (b:=t) (ts:=r++kO 59::ts) h
   unfold ahB
   rw[e1,e2,beq_eq_false_iff_ne.2 n1,beq_eq_false_iff_ne.2 n2]
   exact⟨by simp,by simp⟩
 ·have hn:nameB p=false:=by
   rw[h.nameB]
   have:(c.fs.1==0)=false:=by rw[beq_eq_false_iff_ne];exact h0
   rw[this];rfl
  unfold ahB
  rw[hn]
  exact⟨rfl,rfl⟩
theorem GT {p:Pr} {s:List UInt8} {ts:List Kt} (h:Sfx p ((0,s)::ts)) (hw:Dz s=false):Bi p=s:=by
 unfold Bi
 rw[if_pos (by rw[h.nameB,hw];rfl),h.hd.2]
theorem vJ {c:Cx} {p:Pr} {ts:List Kt} (hw:exO c) (h:Sfx p (c.tk++kO 59::ts)) (hd:(c.dp:Int)+p.deep≤40):∃q,BF p=(⟨0,[],c.v,none⟩,q)∧Afx p q (kO 59) ts:=by
 obtain⟨t1,t2,t3⟩:=Cx.fs_t hw.1 hw.2
 obtain⟨a1,a2⟩:=vH h
 obtain⟨q,e1,e2⟩:=GX hw.1 hw.2 bD h hd
 obtain⟨r,er⟩:=c.tk_fs
 rw[er]at h
 have h:Sfx p (c.fs::(r++kO 59::ts)):=h
 refine⟨q,?_,e2⟩
 unfold BF
 rw[if_neg (by rw[h.isT,t1];decide),if_neg (by rw[h.isT,t2];decide),if_neg (by rw[h.isT,t3];decide),if_neg (by rw[a1];decide),if_neg (by rw[a2];decide),e1]
theorem oE {p:Pr} {ts:List Kt} (h:Sfx p ((0,E5)::kO 59::ts)):BF p=(⟨3,[],.nil,none⟩,adv p):=by
 unfold BF
 rw[if_pos (by rw[h.isT];decide)]
theorem oF {p:Pr} {y:List UInt8} {ts:List Kt} (hy:nmO y) (h:Sfx p (kO 38::(0,y)::kO 59::ts)):BF p=(⟨1,y,.nil,none⟩,adv (adv p)):=by
 unfold BF
 rw[if_neg (by rw[h.isT];decide),if_pos (by rw[h.isT];decide),GT h.adv hy.1,h.adv.nam hy.1]
theorem oG {p:Pr} {y:List UInt8} {ts:List Kt} (hy:nmO y) (h:Sfx p (kO 42::(0,y)::kO 59::ts)):BF p=(⟨4,y,.nil,none⟩,adv (adv p)):=by
 unfold BF
 rw[if_neg (by rw[h.isT];decide),if_neg (by rw[h.isT];decide),if_pos (by rw[h.isT];decide),GT h.adv hy.1,h.adv.nam hy.1]
theorem jE {p:Pr} {y:List UInt8} {c:UInt8} {ts:List Kt} (hy:nmO y) (h:Sfx p ((0,y)::kO c::ts)) (u:List UInt8):ahB u p=([c]==u):=by
 obtain⟨e1,e2⟩:=Sfx.tkA1 (a:=(0,y)) (b:=kO c) (ts:=ts) h
 have hl:=h.len
 simp only[length_cons]at hl
 unfold ahB
 rw[e1,e2,h.nameB,hy.1]
 have:decide (p.i+1<(p.l.length:Int))=true:=by rw[decide_eq_true_eq];omega
 rw[this];rfl
theorem oH {p:Pr} {y:List UInt8} {e:Cx} {ts:List Kt} (hy:nmO y) (he:exO e) (h:Sfx p ((0,y)::kO 91::(e.tk++kO 93::ts))) (hd:(e.dp:Int)+p.deep≤40):∃q,BF p=(⟨6,y,e.v,none⟩,q)∧Sfx q ts∧q.deep=p.deep∧q.l=p.l:=by
 obtain⟨q,e1,e2⟩:=GX he.1 he.2 vF h.adv.adv hd
 refine⟨adv q,?_,e2.s.adv,e2.d,e2.l⟩
 unfold BF
 rw[if_neg (by rw[h.isT,hy.ne (w:=Sa)];decide),if_neg (by rw[h.isT,beq_eq_false_iff_ne.2 (lh_ne hy.2:y≠[38])];decide),if_neg (by rw[h.isT,beq_eq_false_iff_ne.2 (lh_ne hy.2:y≠[42])];decide),if_pos (by rw[jE hy h];decide),GT h hy.1,h.nam hy.1,e1]
 dsimp only
 rw[e2.s.wan (by decide)]
theorem oJ {p:Pr} {y:List UInt8} {l:List Cx} {ts:List Kt} (hy:nmO y) (hl:∀e∈l,exO e) (h:Sfx p ((0,y)::kO 40::(agK l++ts))) (hd:(agD l:Int)+p.deep≤40):∃q,BF p=(⟨8,y,.nil,some (agA l)⟩,q)∧Sfx q ts∧q.deep=p.deep∧q.l=p.l:=by
 obtain⟨q,e1,e2,e3,e4⟩:=mR l _ ts hl h.adv.adv hd
 refine⟨q,?_,e2,e3,e4⟩
 unfold BF
 rw[if_neg (by rw[h.isT,hy.ne (w:=Sa)];decide),if_neg (by rw[h.isT,beq_eq_false_iff_ne.2 (lh_ne hy.2:y≠[38])];decide),if_neg (by rw[h.isT,beq_eq_false_iff_ne.2 (lh_ne hy.2:y≠[42])];decide),if_neg (by rw[jE hy h];decide),if_pos (by rw[jE hy h];decide),GT h hy.1,h.nam hy.1,e1]
end Go.Proofs.YtbiepiggmagfcaaGreatDoor
namespace Go.Proofs.YtbiepiggmagfcaaGreatDoor
open Go Go.Sy Go.RowKit
theorem LG (c:Int) (p:Pr):(BG c p).n=p.n:=(ZR c p).2.2.2.2
theorem Hf (p:Pr):(adv p).n=p.n:=rfl
theorem S7 (p:Pr):(shut p).n=p.n:=rfl
theorem Vu (t:List UInt8) (p:Pr):(AD t p).n=p.n:=by unfold AD;split;exact rfl;exact LG _ _
theorem Vv (p:Pr):(Ai p).n=p.n:=by unfold Ai;split;exact rfl;exact LG _ _
theorem KJ (p:Pr):(AG p).n=p.n:=by
 unfold AG
 split
 ·split
  ·exact LG _ _
  ·rfl
 ·rfl
theorem Yr {u:Pr→R Ex} (hu:∀p,(u p).2.n=p.n):∀(k:Nat) (a:Ex) (p:Pr),(DE u k a p).2.n=p.n
 |0,a,p=>rfl
 |k+1,a,p=>by
  simp only[DE]
  repeat' split
  all_goals first|rfl|(rw[Yr hu k,hu];rfl)
theorem Ys {u:Pr→R Ex} (hu:∀p,(u p).2.n=p.n) (p:Pr):(CN u p).2.n=p.n:=by unfold CN;rw[Yr hu,hu]
theorem dz {u:Pr→R Ex} (hu:∀p,(u p).2.n=p.n):∀(k:Nat) (a:Ex) (p:Pr),(FA u k a p).2.n=p.n
 |0,a,p=>rfl
 |k+1,a,p=>by
  simp only[FA]
  repeat' split
  all_goals first|rfl|(rw[dz hu k,Ys hu];rfl)
theorem eA {u:Pr→R Ex} (hu:∀p,(u p).2.n=p.n) (p:Pr):(EO u p).2.n=p.n:=by unfold EO;rw[dz hu,Ys hu]
theorem jF:∀(f:Nat) (p:Pr),(unF f p).2.n=p.n
 |0,p=>rfl
 |f+1,p=>by
  simp only[unF]
  repeat' split
  all_goals first
   |rfl
   |exact LG _ _
   |exact KJ _
   |exact Vv _
   |(rw[S7,jF f,Hf,KJ])
   |(rw[S7,Vu,eA (jF f),Hf,KJ])
theorem Nv (p:Pr):(exS p).2.n=p.n:=eA (jF 41) p
theorem eC (a:Ex):∀(l:List (List UInt8)) (k:Int) (q:Pr),(Hu q a l k).2.n=q.n
 |[],k,q=>LG _ _
 |t::l,k,q=>by
  simp only[Hu]
  split
  ·rw[Nv,Hf]
  ·exact eC a l (k+1) q
theorem eD {u:Pr→R Cd} (hu:∀p,(u p).2.n=p.n):∀(k:Nat) (a:Cd) (p:Pr),(Gt u k a p).2.n=p.n
 |0,a,p=>rfl
 |k+1,a,p=>by
  simp only[Gt]
  split
  ·rw[eD hu k,hu];rfl
  ·rfl
theorem eE {u:Pr→R Cd} (hu:∀p,(u p).2.n=p.n) (p:Pr):(EP u p).2.n=p.n:=by unfold EP;rw[eD hu,hu]
theorem eF {u:Pr→R Cd} (hu:∀p,(u p).2.n=p.n):∀(k:Nat) (a:Cd) (p:Pr),(Gu u k a p).2.n=p.n
 |0,a,p=>rfl
 |k+1,a,p=>by
  simp only[Gu]
  split
  ·rw[eF hu k,eE hu];rfl
  ·rfl
theorem eG {u:Pr→R Cd} (hu:∀p,(u p).2.n=p.n) (p:Pr):(FV u p).2.n=p.n:=by unfold FV;rw[eF hu,eE hu]
theorem bE:∀(f:Nat) (p:Pr),(AZ f p).2.n=p.n
 |0,p=>rfl
 |f+1,p=>by
  simp only[AZ]
  repeat' split
  all_goals first
   |rfl
   |exact KJ _
   |(rw[S7,bE f,Hf,KJ])
   |(rw[S7,Vu,eG (bE f),Hf,KJ])
   |(rw[eC,Nv])
theorem A1c (p:Pr):(cdS p).2.n=p.n:=eG (bE 41) p
theorem eH:∀(k:Nat) (l:List Ar) (p:Pr),(GQ k l p).2.n=p.n
 |0,l,p=>rfl
 |k+1,l,p=>by
  simp only[GQ]
  repeat' split
  ·rw[Hf,Nv]
  ·rw[eH k,Vu,Nv]
  ·rfl
theorem eI (p:Pr):(Cw p).2.n=p.n:=by
 unfold Cw
 split
 ·rfl
 ·exact eH _ _ _
theorem A1d (p:Pr):(BF p).2.n=p.n:=by
 unfold BF
 repeat' split
 all_goals first
  |rfl
  |(rw[Vv,Hf])
  |(rw[Vu,Nv,Hf,Vv])
  |(rw[eI,Hf,Vv])
  |exact Nv _
theorem A1e (p:Pr):(EQ p).n=p.n:=by
 unfold EQ
 split
 ·split
  ·rw[Hf,KJ]
  ·rw[LG,KJ]
 ·exact LG _ _
end Go.Proofs.YtbiepiggmagfcaaGreatDoor
