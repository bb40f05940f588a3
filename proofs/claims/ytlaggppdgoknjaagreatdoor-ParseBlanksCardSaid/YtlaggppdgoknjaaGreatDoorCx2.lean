/- Conditions as they are written: the parser reads each as what it says. No conditions but those in each statement. -/
import Derived.Test.YtlaggppdgoknjaaGreatDoorSh1
set_option linter.unusedVariables false
set_option linter.unusedSimpArgs false
namespace Go.Proofs.YtlaggppdgoknjaaGreatDoor
open Go Go.Sy Go.RowKit
inductive Cc where
 |cmp (o:Nat) (a b:Cx)
 |nul (s:List UInt8) (ne:Bool)
 |not (u:Cc)
 |par (u:Cc)
 |and (a b:Cc)
 |or (a b:Cc)
abbrev kNul:List UInt8:=[110,117,108,108]
def neT (ne:Bool):List UInt8:=if ne=true then [33,61] else [61,61]
def cpT (o:Nat):List UInt8:=cmpO.getD o []
def Cc.tk:Cc→List Kt
 | .cmp o a b=>a.tk++(2,cpT o)::b.tk
 | .nul s ne=>[(0,s),(2,neT ne),(0,kNul)]
 | .not u=>(2,[33])::u.tk
 | .par u=>(2,[40])::(u.tk++[(2,[41])])
 | .and a b=>a.tk++(2,[38,38])::b.tk
 | .or a b=>a.tk++(2,[124,124])::b.tk
def Cc.v:Cc→Cd
 | .cmp o a b=>.mk (o:Int) a.v b.v .nil .nil []
 | .nul s ne=>if ne=true then .mk 8 .nil .nil (.mk 9 .nil .nil .nil .nil s) .nil [] else .mk 9 .nil .nil .nil .nil s
 | .not u=>.mk 8 .nil .nil u.v .nil []
 | .par u=>u.v
 | .and a b=>.mk 6 .nil .nil a.v b.v []
 | .or a b=>.mk 7 .nil .nil a.v b.v []
def Cc.dp:Cc→Nat
 | .cmp _ a b=>max a.dp b.dp
 | .nul _ _=>0
 | .not u=>u.dp+1
 | .par u=>u.dp+1
 | .and a b=>max a.dp b.dp
 | .or a b=>max a.dp b.dp
def Cc.lv:Cc→Nat
 | .and _ _=>1
 | .or _ _=>2
 |_=>0
def Cx.fs:Cx→Kt
 | .num d=>(1,d)
 | .var s=>(0,s)
 | .neg _=>(2,[45])
 | .par _=>(2,[40])
 | .bin _ a _=>a.fs
theorem Cx.tk_fs:∀c:Cx,∃r,c.tk=c.fs::r
 | .num d=>⟨_,rfl⟩
 | .var s=>⟨_,rfl⟩
 | .neg u=>⟨_,rfl⟩
 | .par u=>⟨_,rfl⟩
 | .bin o a b=>by
  obtain⟨r,h⟩:=a.tk_fs
  exact⟨r++(2,opK o)::b.tk,by simp only[Cx.tk,h,Cx.fs,List.cons_append]⟩
def Cc.wf:Cc→Prop
 | .cmp o a b=>o<6∧a.wf∧b.wf∧a.nm∧b.nm∧a.fs≠(2,[40])
 | .nul s _=>wordB s=false∧lh s
 | .not u=>u.wf∧u.lv=0
 | .par u=>u.wf
 | .and a b=>a.wf∧b.wf∧a.lv≤1∧b.lv=0
 | .or a b=>a.wf∧b.wf∧b.lv≤1
theorem Cx.no_cp:∀(c:Cx),c.nm→∀t∈c.tk,t.2≠[61,61]∧t.2≠[33,61]
 | .num d,h,t,ht=>by
  rw[Cx.tk,List.mem_singleton]at ht;subst ht
  exact⟨dh_ne h,dh_ne h⟩
 | .var s,h,t,ht=>by
  rw[Cx.tk,List.mem_singleton]at ht;subst ht
  exact⟨lh_ne h,lh_ne h⟩
 | .neg u,h,t,ht=>by
  rcases List.mem_cons.1 ht with rfl|ht
  ·exact⟨by decide,by decide⟩
  ·exact u.no_cp h t ht
 | .par u,h,t,ht=>by
  rcases List.mem_cons.1 ht with rfl|ht
  ·exact⟨by decide,by decide⟩
  rcases List.mem_append.1 ht with ht|ht
  ·exact u.no_cp h t ht
  ·rw[List.mem_singleton.1 ht];exact⟨by decide,by decide⟩
 | .bin o a b,h,t,ht=>by
  rcases List.mem_append.1 ht with ht|ht
  ·exact a.no_cp h.1 t ht
  rcases List.mem_cons.1 ht with rfl|ht
  ·simp only[opK];repeat' split
   all_goals exact⟨by decide,by decide⟩
  ·exact b.no_cp h.2 t ht
theorem nul_word:wordB kNul=true:=by decide
theorem Cx.fs_nul {c:Cx} (hw:c.wf) (hn:c.nm):c.fs.2≠kNul:=by
 induction c with
 |num d=>exact dh_ne hn
 |var s=>
  intro h
  have h:s=kNul:=h
  rw[h]at hw
  have:wordB kNul=false:=hw
  rw[nul_word]at this;cases this
 |neg u _=>show [45]≠kNul;decide
 |par u _=>show [40]≠kNul;decide
 |bin o a b ih _=>
  refine ih ?_ hn.1
  rcases hw with⟨_,_,h,_⟩|⟨_,_,_,h,_⟩<;>exact h
theorem Sfx.tkA1 {p:Pr} {a b:Kt} {ts:List Kt} (h:Sfx p (a::b::ts)):w64i (p.i+1)=p.i+1∧(tkA p (p.i+1)).t=b.2:=by
 obtain⟨k,t⟩:=a
 obtain⟨k',t'⟩:=b
 have hl:=h.len
 simp only[List.length_cons]at hl
 obtain⟨o1,o2,o3,_⟩:=h.ok
 refine⟨by unfold w64i;rw[wrap_i64 (by omega) (by omega)],?_⟩
 have i1:=adv_i h.ok h.lt
 have:=h.adv.hd.2
 rw[← this]
 show (p.l.getD (p.i+1).toNat tk0).t=(p.l.getD (Go.Proofs.YtlaggppdgoknjaaGreatDoor.adv p).i.toNat tk0).t
 rw[i1]
theorem Sfx.tkA2 {p:Pr} {a b c:Kt} {ts:List Kt} (h:Sfx p (a::b::c::ts)):w64i (p.i+2)=p.i+2∧(tkA p (p.i+2)).t=c.2∧p.i+2<(p.l.length:Int):=by
 obtain⟨k,t⟩:=a
 obtain⟨k',t'⟩:=b
 obtain⟨k2,t2⟩:=c
 have hl:=h.len
 simp only[List.length_cons]at hl
 obtain⟨o1,o2,o3,_⟩:=h.ok
 refine⟨by unfold w64i;rw[wrap_i64 (by omega) (by omega)],?_,by omega⟩
 have i1:=adv_i h.ok h.lt
 have i2:=adv_i h.adv.ok h.adv.lt
 have:=h.adv.adv.hd.2
 rw[← this]
 show (p.l.getD (p.i+2).toNat tk0).t=(p.l.getD (Go.Proofs.YtlaggppdgoknjaaGreatDoor.adv (Go.Proofs.YtlaggppdgoknjaaGreatDoor.adv p)).i.toNat tk0).t
 rw[i2,i1,show p.i+1+1=p.i+2 by omega]
theorem nullB_no {p:Pr} {a b:Cx} {o:Nat} {ts:List Kt} (ho:o<6) (ha:a.nm) (hb:b.wf) (hbn:b.nm) (h:Sfx p (a.tk++(2,cpT o)::(b.tk++ts))):nullB p=false:=by
 obtain⟨ra,ea⟩:=a.tk_fs
 obtain⟨rb,eb⟩:=b.tk_fs
 have hcp:=a.no_cp ha
 have hnl:=Cx.fs_nul hb hbn
 rw[ea,eb]at h
 rw[ea]at hcp
 cases ra with
 |nil=>
  have h:Sfx p (a.fs::(2,cpT o)::b.fs::(rb++ts)):=by simpa using h
  obtain⟨e2,e3,_⟩:=h.tkA2
  unfold nullB
  rw[e2,e3]
  have:(b.fs.2==[110,117,108,108])=false:=by rw[beq_eq_false_iff_ne];exact hnl
  rw[this];simp
 |cons t ra=>
  have h:Sfx p (a.fs::t::(ra++(2,cpT o)::(b.fs::rb++ts))):=by simpa using h
  obtain⟨e2,e3⟩:=h.tkA1
  obtain⟨c1,c2⟩:=hcp t (by simp)
  unfold nullB
  rw[e2,e3]
  have d1:(t.2==[61,61])=false:=by rw[beq_eq_false_iff_ne];exact c1
  have d2:(t.2==[33,61])=false:=by rw[beq_eq_false_iff_ne];exact c2
  rw[d1,d2];simp
theorem cpT_no (o:Nat) (h:o<6):noOp (2,cpT o):=by
 intro u hu
 revert hu;revert u
 match o,h with
 |0,_=>decide
 |1,_=>decide
 |2,_=>decide
 |3,_=>decide
 |4,_=>decide
 |5,_=>decide
theorem cmpF_o {o:Nat} {q:Pr} {ts:List Kt} (h:Sfx q ((2,cpT o)::ts)) (ho:o<6) (a:Ex):cmpF q a cmpO 0=(.mk (o:Int) a (exS (adv q)).1 .nil .nil [],(exS (adv q)).2):=by
 simp only[cmpO,cmpF]
 match o,ho with
 |0,_=>rw[if_pos (by rw[h.isT];decide)];rfl
 |1,_=>rw[if_neg (by rw[h.isT];decide),if_pos (by rw[h.isT];decide)];rfl
 |2,_=>rw[if_neg (by rw[h.isT];decide),if_neg (by rw[h.isT];decide),if_pos (by rw[h.isT];decide)];rfl
 |3,_=>rw[if_neg (by rw[h.isT];decide),if_neg (by rw[h.isT];decide),if_neg (by rw[h.isT];decide),if_pos (by rw[h.isT];decide)];rfl
 |4,_=>rw[if_neg (by rw[h.isT];decide),if_neg (by rw[h.isT];decide),if_neg (by rw[h.isT];decide),if_neg (by rw[h.isT];decide),if_pos (by rw[h.isT];decide)];rfl
 |5,_=>rw[if_neg (by rw[h.isT];decide),if_neg (by rw[h.isT];decide),if_neg (by rw[h.isT];decide),if_neg (by rw[h.isT];decide),if_neg (by rw[h.isT];decide),if_pos (by rw[h.isT];decide)];rfl
structure Rdc (f:Nat) (p:Pr) (c:Cc) (a:Kt) (ts:List Kt):Prop where
 s:Sfx p (c.tk++a::ts)
 d:(c.dp:Int)+p.deep≤40
 f:41≤p.deep+(f:Int)
def noAnd (a:Kt):Prop:=(a.1 != 1&&a.2==[38,38])=false
def noOr (a:Kt):Prop:=(a.1 != 1&&a.2==[124,124])=false
theorem andL_no {nt:Pr→R Cd} {p:Pr} {a:Kt} {ts:List Kt} (h:Sfx p (a::ts)) (ho:noAnd a) (c:Cd):∀k,andL nt k c p=(c,p)
 |0=>rfl
 |k+1=>by
  simp only[andL]
  rw[if_neg (by rw[h.isT,ho];decide)]
theorem conL_no {nt:Pr→R Cd} {p:Pr} {a:Kt} {ts:List Kt} (h:Sfx p (a::ts)) (ho:noOr a) (c:Cd):∀k,conL nt k c p=(c,p)
 |0=>rfl
 |k+1=>by
  simp only[conL]
  rw[if_neg (by rw[h.isT,ho];decide)]
theorem no_and:noOp (2,[38,38]):=by intro u hu;revert hu;revert u;decide
theorem no_or:noOp (2,[124,124]):=by intro u hu;revert hu;revert u;decide
theorem not_cmp {f:Nat} {p:Pr} {a:Kt} {ts:List Kt} (h:Sfx p (a::ts)) (h1:(a.1 != 1&&a.2==[33])=false) (h2:(a.1 != 1&&a.2==[40])=false) (h3:nullB p=false):notF (f+1) p=cmpF (exS p).2 (exS p).1 cmpO 0:=by
 simp only[notF]
 rw[if_neg (by rw[h.isT,h1];decide),if_neg (by rw[h.isT,h2];decide),if_neg (by rw[h3];decide)]
theorem Cx.fs_ex:∀(c:Cx),c.nm→(c.fs.1 != 1&&c.fs.2==[33])=false
 | .num d,_=>rfl
 | .var s,h=>by
  have:(s==[33])=false:=by rw[beq_eq_false_iff_ne];exact lh_ne h
  simp only[Cx.fs,this,Bool.and_false]
 | .neg _,_=>rfl
 | .par _,_=>rfl
 | .bin _ a _,h=>a.fs_ex h.1
theorem Cx.fs_pa:∀(c:Cx),c.nm→c.fs≠(2,[40])→(c.fs.1 != 1&&c.fs.2==[40])=false
 | .num d,_,_=>rfl
 | .var s,h,_=>by
  have:(s==[40])=false:=by rw[beq_eq_false_iff_ne];exact lh_ne h
  simp only[Cx.fs,this,Bool.and_false]
 | .neg _,_,_=>rfl
 | .par _,_,h=>absurd rfl h
 | .bin _ a _,h,h2=>a.fs_pa h.1 h2
theorem not_nul {f:Nat} {p:Pr} {s:List UInt8} {ne:Bool} {ts:List Kt} (h:Sfx p ((0,s)::(2,neT ne)::(0,kNul)::ts)) (hw:wordB s=false) (hl:lh s):∃q,notF (f+1) p=((Cc.nul s ne).v,q)∧Sfx q ts∧q.deep=p.deep∧q.l=p.l:=by
 obtain⟨e2,e3,e4⟩:=h.tkA2
 obtain⟨e5,e6⟩:=h.tkA1
 have hn:nameB p=true:=by rw[h.nameB,hw];rfl
 have hb:nullB p=true:=by
  unfold nullB
  rw[e2,e3,e5,e6,hn]
  cases ne<;>simp[e4,neT]
 have d1:(s==[33])=false:=by rw[beq_eq_false_iff_ne];exact lh_ne hl
 have d2:(s==[40])=false:=by rw[beq_eq_false_iff_ne];exact lh_ne hl
 have h3:adv3 p=adv (adv (adv p)):=by
  have i1:=adv_i h.ok h.lt
  have i2:=adv_i h.adv.ok h.adv.lt
  have i3:=adv_i h.adv.adv.ok h.adv.adv.lt
  obtain⟨_,_,q,_,_⟩:=null_e h.ok hb
  have e1:(adv3 p).i=(adv (adv (adv p))).i:=by
   show w64i (p.i+3)=_
   rw[q,i3,i2,i1];omega
  show (⟨p.l,w64i (p.i+3),p.en,p.e,p.at',p.deep,p.n⟩:Pr)=⟨p.l,(adv (adv (adv p))).i,p.en,p.e,p.at',p.deep,p.n⟩
  rw[← e1];rfl
 refine⟨adv3 p,?_,by rw[h3];exact h.adv.adv.adv,rfl,rfl⟩
 simp only[notF]
 rw[if_neg (by rw[h.isT,d1];decide),if_neg (by rw[h.isT,d2];decide),if_pos hb]
 have hv:nulC p=(Cc.nul s ne).v:=by
  unfold nulC
  rw[e5,e6,h.hd.2]
  cases ne<;>rfl
 rw[hv]
theorem not_not {f:Nat} {p:Pr} {ts:List Kt} (h:Sfx p ((2,[33])::ts)) (hb:opnB p=true):notF (f+1) p=(.mk 8 .nil .nil (notF f (adv (opnP p))).1 .nil [],shut (notF f (adv (opnP p))).2):=by
 simp only[notF]
 rw[if_pos (by rw[h.isT];decide),if_pos hb]
theorem not_par {f:Nat} {p:Pr} {ts:List Kt} (h:Sfx p ((2,[40])::ts)) (hb:opnB p=true):notF (f+1) p=((conW (notF f) (adv (opnP p))).1,shut (wanP [41] (conW (notF f) (adv (opnP p))).2)):=by
 simp only[notF]
 rw[if_neg (by rw[h.isT];decide),if_pos (by rw[h.isT];decide),if_pos hb]
mutual
theorem cc_not:∀(c:Cc) (f:Nat) (p:Pr) (a:Kt) (ts:List Kt),c.wf→c.lv=0→noOp a→Rdc f p c a ts→∃q,notF f p=(c.v,q)∧Afx p q a ts
 | .cmp o x y,f,p,a,ts,hw,_,ha,h=>by
  obtain⟨f,rfl⟩:∃g,f=g+1:=⟨f-1,by have:=h.f;have:=h.s.ok.2.2.2.2.1;omega⟩
  obtain⟨ho,wx,wy,nx,ny,nf⟩:=hw
  have hs:Sfx p (x.tk++(2,cpT o)::(y.tk++a::ts)):=by
   have:(Cc.cmp o x y).tk++a::ts=x.tk++(2,cpT o)::(y.tk++a::ts):=by simp[Cc.tk]
   rw[← this];exact h.s
  have hd:=h.d
  simp only[Cc.dp]at hd
  obtain⟨q1,e1,e2⟩:=cx_exS wx nx (cpT_no o ho) hs (by omega)
  obtain⟨q2,g1,g2⟩:=cx_exS wy ny ha e2.s.adv (by show _+q1.deep≤40;rw[e2.d];omega)
  obtain⟨r,er⟩:=x.tk_fs
  have hs':=hs
  rw[er,List.cons_append]at hs'
  refine⟨q2,?_,⟨g2.s,g2.d.trans e2.d,g2.l.trans e2.l⟩⟩
  rw[not_cmp hs' (x.fs_ex nx) (x.fs_pa nx nf) (nullB_no ho nx wy ny hs),e1,cmpF_o e2.s ho,g1];rfl
 | .nul s ne,f,p,a,ts,hw,_,ha,h=>by
  obtain⟨f,rfl⟩:∃g,f=g+1:=⟨f-1,by have:=h.f;have:=h.s.ok.2.2.2.2.1;omega⟩
  obtain⟨q,e1,e2,e3,e4⟩:=not_nul (f:=f) (ne:=ne) (ts:=a::ts) h.s hw.1 hw.2
  exact⟨q,e1,e2,e3,e4⟩
 | .not u,f,p,a,ts,hw,_,ha,h=>by
  obtain⟨f,rfl⟩:∃g,f=g+1:=⟨f-1,by have:=h.f;have:=h.s.ok.2.2.2.2.1;omega⟩
  have hs:Sfx p ((2,[33])::(u.tk++a::ts)):=h.s
  obtain⟨hb,s1,d1,f1,n1⟩:=Rdx.opn (d:=u.dp) hs h.d h.f
  obtain⟨q,e1,e2⟩:=cc_not u f _ a ts hw.1 hw.2 ha ⟨s1,d1,f1⟩
  have n2:Nx (adv (opnP p)) q:=by have:=not_nx f _ s1.ok;rw[e1]at this;exact this
  exact⟨shut q,by rw[not_not hs hb,e1];rfl,Afx.of (shut_nx hs.ok hb (n1.trans n2)) (shut_s' hs.ok hb (n1.trans n2) e2.s)⟩
 | .par u,f,p,a,ts,hw,_,ha,h=>by
  obtain⟨f,rfl⟩:∃g,f=g+1:=⟨f-1,by have:=h.f;have:=h.s.ok.2.2.2.2.1;omega⟩
  have hs:Sfx p ((2,[40])::(u.tk++(2,[41])::a::ts)):=by
   have:(Cc.par u).tk++a::ts=(2,[40])::(u.tk++(2,[41])::a::ts):=by simp[Cc.tk]
   rw[← this];exact h.s
  obtain⟨hb,s1,d1,f1,n1⟩:=Rdx.opn (d:=u.dp) hs h.d h.f
  obtain⟨q,e1,e2⟩:=cc_con u f _ (2,[41]) (a::ts) hw no_par rfl rfl ⟨s1,d1,f1⟩
  have n2:Nx (adv (opnP p)) q:=by have:=conW_nx (not_nx f) _ s1.ok;rw[e1]at this;exact this
  have e3:wanP [41] q=adv q:=e2.s.wan (by decide)
  have n3:=n1.trans (n2.trans (adv_nx e2.s.ok e2.s.lt e2.s.e))
  exact⟨shut (adv q),by rw[not_par hs hb,e1];show (u.v,shut (wanP [41] q))=_;rw[e3];rfl,Afx.of (shut_nx hs.ok hb n3) (shut_s' hs.ok hb n3 e2.s.adv)⟩
 | .and x y,f,p,a,ts,hw,hl,ha,h=>by cases hl
 | .or x y,f,p,a,ts,hw,hl,ha,h=>by cases hl
theorem cc_andL:∀(c:Cc) (f:Nat) (p:Pr) (a:Kt) (ts:List Kt),c.wf→c.lv≤1→noOp a→Rdc f p c a ts→
  ∃q j,Afx p q a ts∧j≤c.tk.length∧∀k,andL (notF f) (k+j) (notF f p).1 (notF f p).2=andL (notF f) k c.v q
 | .and x y,f,p,a,ts,hw,hl,ha,h=>by
  obtain⟨wx,wy,lx,ly⟩:=hw
  have hs:Sfx p (x.tk++(2,[38,38])::(y.tk++a::ts)):=by
   have:(Cc.and x y).tk++a::ts=x.tk++(2,[38,38])::(y.tk++a::ts):=by simp[Cc.tk]
   rw[← this];exact h.s
  have hd:=h.d
  simp only[Cc.dp]at hd
  obtain⟨q1,j,e1,e2,e3⟩:=cc_andL x f p (2,[38,38]) (y.tk++a::ts) wx lx no_and ⟨hs,by omega,h.f⟩
  obtain⟨q2,g1,g2⟩:=cc_not y f (adv q1) a ts wy ly ha ⟨e1.s.adv,by show _+q1.deep≤40;rw[e1.d];omega,by show 41≤q1.deep+_;rw[e1.d];exact h.f⟩
  refine⟨q2,j+1,⟨g2.s,g2.d.trans e1.d,g2.l.trans e1.l⟩,by simp only[Cc.tk,List.length_append,List.length_cons];omega,fun k=>?_⟩
  rw[show k+(j+1)=(k+1)+j by omega,e3]
  simp only[andL]
  rw[if_pos (by rw[e1.s.isT];decide),g1];rfl
 | .or x y,f,p,a,ts,hw,hl,ha,h=>by
  simp only[Cc.lv]at hl;omega
 | .cmp o x y,f,p,a,ts,hw,hl,ha,h=>by
  obtain⟨q,e1,e2⟩:=cc_not (.cmp o x y) f p a ts hw rfl ha h
  exact⟨q,0,e2,Nat.zero_le _,fun k=>by rw[e1];rfl⟩
 | .nul s ne,f,p,a,ts,hw,hl,ha,h=>by
  obtain⟨q,e1,e2⟩:=cc_not (.nul s ne) f p a ts hw rfl ha h
  exact⟨q,0,e2,Nat.zero_le _,fun k=>by rw[e1];rfl⟩
 | .not u,f,p,a,ts,hw,hl,ha,h=>by
  obtain⟨q,e1,e2⟩:=cc_not (.not u) f p a ts hw rfl ha h
  exact⟨q,0,e2,Nat.zero_le _,fun k=>by rw[e1];rfl⟩
 | .par u,f,p,a,ts,hw,hl,ha,h=>by
  obtain⟨q,e1,e2⟩:=cc_not (.par u) f p a ts hw rfl ha h
  exact⟨q,0,e2,Nat.zero_le _,fun k=>by rw[e1];rfl⟩
theorem cc_and:∀(c:Cc) (f:Nat) (p:Pr) (a:Kt) (ts:List Kt),c.wf→c.lv≤1→noOp a→noAnd a→Rdc f p c a ts→∃q,andW (notF f) p=(c.v,q)∧Afx p q a ts:=by
 intro c f p a ts hw hl ha hb h
 obtain⟨q,j,e1,e2,e3⟩:=cc_andL c f p a ts hw hl ha h
 have h1:=h.s.lenN
 simp only[List.length_append,List.length_cons]at h1
 refine⟨q,?_,e1⟩
 unfold andW
 have h2:=e3 (p.l.length-j)
 rw[show p.l.length-j+j=p.l.length by omega]at h2
 rw[h2,andL_no e1.s hb]
theorem cc_conL:∀(c:Cc) (f:Nat) (p:Pr) (a:Kt) (ts:List Kt),c.wf→noOp a→noAnd a→Rdc f p c a ts→
  ∃q j,Afx p q a ts∧j≤c.tk.length∧∀k,conL (notF f) (k+j) (andW (notF f) p).1 (andW (notF f) p).2=conL (notF f) k c.v q
 | .or x y,f,p,a,ts,hw,ha,hb,h=>by
  obtain⟨wx,wy,ly⟩:=hw
  have hs:Sfx p (x.tk++(2,[124,124])::(y.tk++a::ts)):=by
   have:(Cc.or x y).tk++a::ts=x.tk++(2,[124,124])::(y.tk++a::ts):=by simp[Cc.tk]
   rw[← this];exact h.s
  have hd:=h.d
  simp only[Cc.dp]at hd
  obtain⟨q1,j,e1,e2,e3⟩:=cc_conL x f p (2,[124,124]) (y.tk++a::ts) wx no_or rfl ⟨hs,by omega,h.f⟩
  obtain⟨q2,g1,g2⟩:=cc_and y f (adv q1) a ts wy ly ha hb ⟨e1.s.adv,by show _+q1.deep≤40;rw[e1.d];omega,by show 41≤q1.deep+_;rw[e1.d];exact h.f⟩
  refine⟨q2,j+1,⟨g2.s,g2.d.trans e1.d,g2.l.trans e1.l⟩,by simp only[Cc.tk,List.length_append,List.length_cons];omega,fun k=>?_⟩
  rw[show k+(j+1)=(k+1)+j by omega,e3]
  simp only[conL]
  rw[if_pos (by rw[e1.s.isT];decide),g1];rfl
 | .and x y,f,p,a,ts,hw,ha,hb,h=>by
  obtain⟨q,e1,e2⟩:=cc_and (.and x y) f p a ts hw (Nat.le_refl _) ha hb h
  exact⟨q,0,e2,Nat.zero_le _,fun k=>by rw[e1];rfl⟩
 | .cmp o x y,f,p,a,ts,hw,ha,hb,h=>by
  obtain⟨q,e1,e2⟩:=cc_and (.cmp o x y) f p a ts hw (Nat.zero_le _) ha hb h
  exact⟨q,0,e2,Nat.zero_le _,fun k=>by rw[e1];rfl⟩
 | .nul s ne,f,p,a,ts,hw,ha,hb,h=>by
  obtain⟨q,e1,e2⟩:=cc_and (.nul s ne) f p a ts hw (Nat.zero_le _) ha hb h
  exact⟨q,0,e2,Nat.zero_le _,fun k=>by rw[e1];rfl⟩
 | .not u,f,p,a,ts,hw,ha,hb,h=>by
  obtain⟨q,e1,e2⟩:=cc_and (.not u) f p a ts hw (Nat.zero_le _) ha hb h
  exact⟨q,0,e2,Nat.zero_le _,fun k=>by rw[e1];rfl⟩
 | .par u,f,p,a,ts,hw,ha,hb,h=>by
  obtain⟨q,e1,e2⟩:=cc_and (.par u) f p a ts hw (Nat.zero_le _) ha hb h
  exact⟨q,0,e2,Nat.zero_le _,fun k=>by rw[e1];rfl⟩
theorem cc_con:∀(c:Cc) (f:Nat) (p:Pr) (a:Kt) (ts:List Kt),c.wf→noOp a→noAnd a→noOr a→Rdc f p c a ts→∃q,conW (notF f) p=(c.v,q)∧Afx p q a ts:=by
 intro c f p a ts hw ha hb hc h
 obtain⟨q,j,e1,e2,e3⟩:=cc_conL c f p a ts hw ha hb h
 have h1:=h.s.lenN
 simp only[List.length_append,List.length_cons]at h1
 refine⟨q,?_,e1⟩
 unfold conW
 have h2:=e3 (p.l.length-j)
 rw[show p.l.length-j+j=p.l.length by omega]at h2
 rw[h2,conL_no e1.s hc]
end
theorem cc_cdS {c:Cc} {p:Pr} {ts:List Kt} (hw:c.wf) (h:Sfx p (c.tk++(2,[41])::ts)) (hd:(c.dp:Int)+p.deep≤40):∃q,cdS p=(c.v,q)∧Afx p q (2,[41]) ts:=
 cc_con c 41 p (2,[41]) ts hw no_par rfl rfl ⟨h,hd,by have:=h.ok.2.2.2.1;omega⟩
end Go.Proofs.YtlaggppdgoknjaaGreatDoor
