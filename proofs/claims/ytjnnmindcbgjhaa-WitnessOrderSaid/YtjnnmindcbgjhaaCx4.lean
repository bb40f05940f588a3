/- Statements and blocks as they are written: the parser reads each as what it says. No conditions but those in each statement. -/
import Derived.Test.YtjnnmindcbgjhaaCx3
set_option linter.unusedVariables false
set_option linter.unusedSimpArgs false
open List (length_cons)
namespace Go.Proofs.Ytjnnmindcbgjhaa
open Go Go.Sy Go.RowKit
structure Rds (f:Nat) (p:Pr) (d c:Nat):Prop where
 d:(d:Int)+p.deep≤40
 f:41≤p.deep+(f:Int)
 n0:0≤p.n
 n:p.n+(c:Int)≤200
structure Ads (p q:Pr) (c:Nat) (ts:List Kt):Prop where
 s:Sfx q ts
 d:q.deep=p.deep
 l:q.l=p.l
 n:q.n=p.n+(c:Int)
theorem Lf {f:Nat} {p:Pr} (hn:p.n<200):B6 (f+1) p=Et (B6 f) p.n (nxt p):=by
 simp only[B6]
 rw[if_neg (kM hn)]
theorem Lg {p:Pr} (h0:0≤p.n) (hn:p.n<200):(nxt p).n=p.n+1:=by
 show w64i (p.n+1)=_
 unfold w64i;rw[wrap_i64 (by omega) (by omega)]
theorem VS {st:Pr→R Sm} {p:Pr} {x:List UInt8} {c:UInt8} {ts:List Kt} (hx:nmO x) (h:Sfx p ((0,x)::kO c::ts)) (no:Int):Et st no p =
  (
   if ([c]==[40])=true then (.mk 8 [] x .nil .nil .nil (Ew (adv (adv p))).1 [] [] no,AX [59] (Ew (adv (adv p))).2)
   else if ([c]==[91])=true then (.mk 7 [] x (exS (adv (adv p))).1 (exS (AX [61] (AX [93] (exS (adv (adv p))).2))).1 .nil [] [] [] no,AX [59] (exS (AX [61] (AX [93] (exS (adv (adv p))).2))).2)
   else (.mk (CI (AX [61] (adv p))).1.k x (CI (AX [61] (adv p))).1.y (CI (AX [61] (adv p))).1.e .nil .nil ((CI (AX [61] (adv p))).1.a.getD []) [] [] no,AX [59] (CI (AX [61] (adv p))).2)):=by
 unfold Et
 rw[if_neg (by rw[h.isT,hx.ne (w:=TC)];decide),if_neg (by rw[h.isT,hx.ne (w:=RB)];decide),if_neg (by rw[h.isT,hx.ne (w:=TD)];decide),if_neg (by rw[h.isT,hx.ne (w:=tIf)];decide),if_neg (by rw[h.isT,beq_eq_false_iff_ne.2 (lh_ne hx.2:x≠[42])];decide),h.nam hx.1,Ir h hx.1]
 have e1:isT [40] (adv p)=([c]==[40]):=by rw[h.adv.isT];rfl
 have e2:isT [91] (adv p)=([c]==[91]):=by rw[h.adv.isT];rfl
 rw[e1,e2]
theorem V0 {p q:Pr} {e:Ex} (h:exS p=(e,q)):q.n=p.n:=by have:=Ow p;rw[h]at this;exact this
theorem yL {p q:Pr} {e:Cd} (h:cdS p=(e,q)):q.n=p.n:=by have:=yI p;rw[h]at this;exact this
theorem yM {p q:Pr} {e:VR} (h:CI p=(e,q)):q.n=p.n:=by have:=yJ p;rw[h]at this;exact this
theorem yN {p q:Pr} {e:List Ar} (h:Ew p=(e,q)):q.n=p.n:=by have:=aM p;rw[h]at this;exact this
theorem Nz {f:Nat} {p q:Pr} {x:List UInt8} {r:VR} {ts us:List Kt} {d:Nat} (hx:nmO x) (hp:Rds (f+1) p d 1) (h:Sfx p ((0,x)::kO 61::us)) (hv:CI (adv (adv (nxt p)))=(r,q)) (hq:Sfx q (kO 59::ts)) (hd:q.deep=p.deep) (hl:q.l=p.l) :
  B6 (f+1) p=(.mk r.k x r.y r.e .nil .nil (r.a.getD []) [] [] p.n,adv q)∧Ads p (adv q) 1 ts:=by
 have hn:p.n<200:=by have:=hp.n;omega
 have h':=FZ h
 have e1:AX [61] (adv (nxt p))=adv (adv (nxt p)):=h'.adv.wan (by decide)
 refine⟨?_,hq.adv,hd,hl,?_⟩
 ·rw[Lf hn,VS hx h',if_neg (by decide),if_neg (by decide),e1,hv]
  dsimp only
  rw[hq.wan (by decide)]
 ·show q.n=_
  rw[yM hv]
  show (nxt p).n=_
  rw[Lg hp.n0 hn];rfl
theorem rF {f:Nat} {p:Pr} {x:List UInt8} {e:Cx} {ts:List Kt} (hx:nmO x) (he:exO e) (hp:Rds (f+1) p e.dp 1) (h:Sfx p (kO 42::(0,x)::kO 61::(e.tk++kO 59::ts))):∃q,B6 (f+1) p=((Cs.sto x e).v p.n,q)∧Ads p q 1 ts:=by
 have hn:p.n<200:=by have:=hp.n;omega
 have h':=FZ h
 obtain⟨q,e1,e2⟩:=Iq he.1 he.2 Yq h'.adv.adv.adv hp.d
 have e3:AX [61] (adv (adv (nxt p)))=adv (adv (adv (nxt p))):=h'.adv.adv.wan (by decide)
 refine⟨adv q,?_,e2.s.adv,e2.d,e2.l,?_⟩
 ·rw[Lf hn]
  unfold Et
  rw[if_neg (by rw[h'.isT];decide),if_neg (by rw[h'.isT];decide),if_neg (by rw[h'.isT];decide),if_neg (by rw[h'.isT];decide),if_pos (by rw[h'.isT];decide),h'.adv.nam hx.1,Ir h'.adv hx.1,e3,e1]
  dsimp only
  rw[e2.s.wan (by decide)];rfl
 ·show q.n=_
  rw[V0 e1];show (nxt p).n=_
  rw[Lg hp.n0 hn];rfl
theorem rG {f:Nat} {p:Pr} {y:List UInt8} {e g:Cx} {ts:List Kt} (hy:nmO y) (he:exO e) (hg:exO g) (hp:Rds (f+1) p (max e.dp g.dp) 1) (h:Sfx p ((0,y)::kO 91::(e.tk++kO 93::kO 61::(g.tk++kO 59::ts)))):∃q,B6 (f+1) p=((Cs.put y e g).v p.n,q)∧Ads p q 1 ts:=by
 have hn:p.n<200:=by have:=hp.n;omega
 have hd:=hp.d
 have h':=FZ h
 obtain⟨q,e1,e2⟩:=Iq he.1 he.2 rB h'.adv.adv (by show _+p.deep≤40;omega)
 obtain⟨r,g1,g2⟩:=Iq hg.1 hg.2 Yq e2.s.adv.adv (by show _+q.deep≤40;rw[e2.d];show _+p.deep≤40;omega)
 refine⟨adv r,?_,g2.s.adv,g2.d.trans e2.d,g2.l.trans e2.l,?_⟩
 ·rw[Lf hn,VS hy h',if_neg (by decide),if_pos (by decide),e1]
  dsimp only
  rw[e2.s.wan (by decide),e2.s.adv.wan (by decide),g1]
  dsimp only
  rw[g2.s.wan (by decide)];rfl
 ·show r.n=_
  rw[V0 g1];show q.n=_
  rw[V0 e1];show (nxt p).n=_
  rw[Lg hp.n0 hn];rfl
theorem rH {f:Nat} {p:Pr} {y:List UInt8} {l:List Cx} {ts:List Kt} (hy:nmO y) (hl:∀e∈l,exO e) (hp:Rds (f+1) p (agD l) 1) (h:Sfx p ((0,y)::kO 40::(agK l++kO 59::ts))):∃q,B6 (f+1) p=((Cs.cal none y l).v p.n,q)∧Ads p q 1 ts:=by
 have hn:p.n<200:=by have:=hp.n;omega
 have h':=FZ h
 obtain⟨q,e1,e2,e3,e4⟩:=iF l _ (kO 59::ts) hl h'.adv.adv hp.d
 refine⟨adv q,?_,e2.adv,e3,e4,?_⟩
 ·rw[Lf hn,VS hy h',if_pos (by decide),e1]
  dsimp only
  rw[e2.wan (by decide)];rfl
 ·show q.n=_
  rw[yN e1];show (nxt p).n=_
  rw[Lg hp.n0 hn];rfl
theorem rI {f:Nat} {p:Pr} {e:Cx} {ts:List Kt} (he:exO e) (hp:Rds (f+1) p e.dp 1) (h:Sfx p ((0,TC)::(e.tk++kO 59::ts))):∃q,B6 (f+1) p=((Cs.ret e).v p.n,q)∧Ads p q 1 ts:=by
 have hn:p.n<200:=by have:=hp.n;omega
 have h':=FZ h
 obtain⟨q,e1,e2⟩:=Iq he.1 he.2 Yq h'.adv hp.d
 refine⟨adv q,?_,e2.s.adv,e2.d,e2.l,?_⟩
 ·rw[Lf hn]
  unfold Et
  rw[if_pos (by rw[h'.isT];decide),e1]
  dsimp only
  rw[e2.s.wan (by decide)];rfl
 ·show q.n=_
  rw[V0 e1];show (nxt p).n=_
  rw[Lg hp.n0 hn];rfl
theorem V1 {p:Pr} {w:List UInt8} {c:Cc} {ts:List Kt} (hc:c.wf) (h:Sfx p ((0,w)::kO 40::(c.tk++kO 41::ts))) (hd:(c.dp:Int)+p.deep≤40):∃q,ifC p=(c.v,q)∧AX [41] q=adv q∧Sfx (adv q) ts∧q.deep=p.deep∧q.l=p.l∧q.n=p.n:=by
 have e0:AX [40] (adv p)=adv (adv p):=h.adv.wan (by decide)
 obtain⟨q,e1,e2⟩:=rA hc h.adv.adv hd
 refine⟨q,by unfold ifC;rw[e0,e1],e2.s.wan (by decide),e2.s.adv,e2.d,e2.l,by rw[yL e1];rfl⟩
theorem rJ {f:Nat} {p:Pr} {c:Cc} {ts:List Kt} (hc:c.wf) (hp:Rds (f+1) p c.dp 1) (h:Sfx p ((0,RB)::kO 40::(c.tk++kO 41::kO 59::ts))):∃q,B6 (f+1) p=((Cs.ass c).v p.n,q)∧Ads p q 1 ts:=by
 have hn:p.n<200:=by have:=hp.n;omega
 have h':=FZ h
 obtain⟨q,e1,e2,e3,e4,e5,e6⟩:=V1 hc h' hp.d
 refine⟨adv (adv q),?_,e3.adv,e4,e5,?_⟩
 ·rw[Lf hn]
  unfold Et
  rw[if_neg (by rw[h'.isT];decide),if_pos (by rw[h'.isT];decide),e1]
  dsimp only
  rw[e2,e3.wan (by decide)];rfl
 ·show q.n=_
  rw[e6,Lg hp.n0 hn];rfl
def HY (a:Kt):Prop:=(a.1 != 1&&a.2==Hc)=false
theorem Cs.tk_ne:∀s:Cs,s.tk≠[]
 | .asg _ _=>by simp[Cs.tk]
 | .adr _ _=>by simp[Cs.tk]
 | .nul _=>by simp[Cs.tk]
 | .lod _ _=>by simp[Cs.tk]
 | .sto _ _=>by simp[Cs.tk]
 | .idx _ _ _=>by simp[Cs.tk]
 | .put _ _ _=>by simp[Cs.tk]
 | .cal none _ _=>by simp[Cs.tk]
 | .cal (some _) _ _=>by simp[Cs.tk]
 | .ret _=>by simp[Cs.tk]
 | .ass _=>by simp[Cs.tk]
 | .whi _ _=>by simp[Cs.tk]
 | .ite _ _ none=>by simp[Cs.tk]
 | .ite _ _ (some _)=>by simp[Cs.tk]
theorem Cs.tk_hd:∀s:Cs,s.wf→∃a r,s.tk=a::r∧(a.1 != 1&&a.2==[125])=false∧HY a
 | .asg x e,h=>⟨_,_,by rw[Cs.tk],by simp only[beq_eq_false_iff_ne.2 (lh_ne h.1.2:x≠[125]),Bool.and_false],by unfold HY;simp only[h.1.ne (w:=Hc),Bool.and_false]⟩
 | .adr x y,h=>⟨_,_,by rw[Cs.tk],by simp only[beq_eq_false_iff_ne.2 (lh_ne h.1.2:x≠[125]),Bool.and_false],by unfold HY;simp only[h.1.ne (w:=Hc),Bool.and_false]⟩
 | .nul x,h=>⟨_,_,by rw[Cs.tk],by simp only[beq_eq_false_iff_ne.2 (lh_ne h.2:x≠[125]),Bool.and_false],by unfold HY;simp only[nmO.ne h (w:=Hc),Bool.and_false]⟩
 | .lod x y,h=>⟨_,_,by rw[Cs.tk],by simp only[beq_eq_false_iff_ne.2 (lh_ne h.1.2:x≠[125]),Bool.and_false],by unfold HY;simp only[h.1.ne (w:=Hc),Bool.and_false]⟩
 | .sto x e,h=>⟨_,_,by rw[Cs.tk],rfl,by unfold HY;decide⟩
 | .idx x y e,h=>⟨_,_,by rw[Cs.tk],by simp only[beq_eq_false_iff_ne.2 (lh_ne h.1.2:x≠[125]),Bool.and_false],by unfold HY;simp only[h.1.ne (w:=Hc),Bool.and_false]⟩
 | .put y e f,h=>⟨_,_,by rw[Cs.tk],by simp only[beq_eq_false_iff_ne.2 (lh_ne h.1.2:y≠[125]),Bool.and_false],by unfold HY;simp only[h.1.ne (w:=Hc),Bool.and_false]⟩
 | .cal none y l,h=>⟨_,_,by rw[Cs.tk],by simp only[beq_eq_false_iff_ne.2 (lh_ne h.1.2:y≠[125]),Bool.and_false],by unfold HY;simp only[h.1.ne (w:=Hc),Bool.and_false]⟩
 | .cal (some x) y l,h=>⟨_,_,by rw[Cs.tk],by simp only[beq_eq_false_iff_ne.2 (lh_ne h.1.2:x≠[125]),Bool.and_false],by unfold HY;simp only[h.1.ne (w:=Hc),Bool.and_false]⟩
 | .ret e,h=>⟨_,_,by rw[Cs.tk],by decide,by unfold HY;decide⟩
 | .ass c,h=>⟨_,_,by rw[Cs.tk],by decide,by unfold HY;decide⟩
 | .whi c b,h=>⟨_,_,by rw[Cs.tk],by decide,by unfold HY;decide⟩
 | .ite c b none,h=>⟨_,_,by rw[Cs.tk],by decide,by unfold HY;decide⟩
 | .ite c b (some e),h=>⟨_,_,by rw[Cs.tk],by decide,by unfold HY;decide⟩
theorem rK:∀(l:List Cs) (ts:List Kt),wfB l→∃a r,tkB l++kO 125::ts=a::r∧HY a
 |[],ts,_=>⟨_,_,rfl,by unfold HY;decide⟩
 |s::l,ts,h=>by
  obtain⟨a,r,h1,_,h3⟩:=s.tk_hd h.1
  exact⟨a,r++(tkB l++kO 125::ts),by simp[tkB,h1],h3⟩
theorem TI:∀l:List Cs,l.length≤(tkB l).length
 |[]=>Nat.le_refl _
 |s::l=>by
  have:=TI l
  have:=List.length_pos_iff.2 s.tk_ne
  simp only[tkB,List.length_append,length_cons];omega
mutual
theorem rL:∀(s:Cs) (f:Nat) (p:Pr) (a:Kt) (ts:List Kt),s.wf→HY a→Rds f p s.dp s.ct→Sfx p (s.tk++a::ts)→∃q,B6 f p=(s.v p.n,q)∧Ads p q s.ct (a::ts)
 | .asg x e,f,p,a,ts,hw,ha,hp,h=>by
  obtain⟨f,rfl⟩:∃g,f=g+1:=⟨f-1,by have:=hp.f;have:=h.ok.2.2.2.2.1;omega⟩
  have h:Sfx p ((0,x)::kO 61::(e.tk++kO 59::a::ts)):=by simpa [Cs.tk] using h
  obtain⟨q,e1,e2⟩:=rE hw.2 (FZ h).adv.adv hp.d
  obtain⟨r1,r2⟩:=Nz hw.1 hp h e1 e2.s e2.d e2.l
  exact⟨_,r1,r2⟩
 | .adr x y,f,p,a,ts,hw,ha,hp,h=>by
  obtain⟨f,rfl⟩:∃g,f=g+1:=⟨f-1,by have:=hp.f;have:=h.ok.2.2.2.2.1;omega⟩
  have h:Sfx p ((0,x)::kO 61::kO 38::(0,y)::kO 59::a::ts):=by simpa [Cs.tk] using h
  obtain⟨r1,r2⟩:=Nz hw.1 hp h (jX hw.2 (FZ h).adv.adv) (FZ h).adv.adv.adv.adv rfl rfl
  exact⟨_,r1,r2⟩
 | .nul x,f,p,a,ts,hw,ha,hp,h=>by
  obtain⟨f,rfl⟩:∃g,f=g+1:=⟨f-1,by have:=hp.f;have:=h.ok.2.2.2.2.1;omega⟩
  have h:Sfx p ((0,x)::kO 61::(0,MK)::kO 59::a::ts):=by simpa [Cs.tk] using h
  obtain⟨r1,r2⟩:=Nz hw hp h (jW (FZ h).adv.adv) (FZ h).adv.adv.adv rfl rfl
  exact⟨_,r1,r2⟩
 | .lod x y,f,p,a,ts,hw,ha,hp,h=>by
  obtain⟨f,rfl⟩:∃g,f=g+1:=⟨f-1,by have:=hp.f;have:=h.ok.2.2.2.2.1;omega⟩
  have h:Sfx p ((0,x)::kO 61::kO 42::(0,y)::kO 59::a::ts):=by simpa [Cs.tk] using h
  obtain⟨r1,r2⟩:=Nz hw.1 hp h (jY hw.2 (FZ h).adv.adv) (FZ h).adv.adv.adv.adv rfl rfl
  exact⟨_,r1,r2⟩
 | .sto x e,f,p,a,ts,hw,ha,hp,h=>by
  obtain⟨f,rfl⟩:∃g,f=g+1:=⟨f-1,by have:=hp.f;have:=h.ok.2.2.2.2.1;omega⟩
  exact rF hw.1 hw.2 hp (by simpa [Cs.tk] using h)
 | .idx x y e,f,p,a,ts,hw,ha,hp,h=>by
  obtain⟨f,rfl⟩:∃g,f=g+1:=⟨f-1,by have:=hp.f;have:=h.ok.2.2.2.2.1;omega⟩
  have h:Sfx p ((0,x)::kO 61::(0,y)::kO 91::(e.tk++kO 93::kO 59::a::ts)):=by simpa [Cs.tk] using h
  obtain⟨q,e1,e2,e3,e4⟩:=jZ hw.2.1 hw.2.2 (FZ h).adv.adv hp.d
  obtain⟨r1,r2⟩:=Nz hw.1 hp h e1 e2 e3 e4
  exact⟨_,r1,r2⟩
 | .put y e g,f,p,a,ts,hw,ha,hp,h=>by
  obtain⟨f,rfl⟩:∃g,f=g+1:=⟨f-1,by have:=hp.f;have:=h.ok.2.2.2.2.1;omega⟩
  exact rG hw.1 hw.2.1 hw.2.2 hp (by simpa [Cs.tk] using h)
 | .cal none y l,f,p,a,ts,hw,ha,hp,h=>by
  obtain⟨f,rfl⟩:∃g,f=g+1:=⟨f-1,by have:=hp.f;have:=h.ok.2.2.2.2.1;omega⟩
  exact rH hw.1 hw.2 hp (by simpa [Cs.tk] using h)
 | .cal (some x) y l,f,p,a,ts,hw,ha,hp,h=>by
  obtain⟨f,rfl⟩:∃g,f=g+1:=⟨f-1,by have:=hp.f;have:=h.ok.2.2.2.2.1;omega⟩
  have h:Sfx p ((0,x)::kO 61::(0,y)::kO 40::(agK l++kO 59::a::ts)):=by simpa [Cs.tk] using h
  obtain⟨q,e1,e2,e3,e4⟩:=ja hw.2.1 hw.2.2 (FZ h).adv.adv hp.d
  obtain⟨r1,r2⟩:=Nz hw.1 hp h e1 e2 e3 e4
  exact⟨_,r1,r2⟩
 | .ret e,f,p,a,ts,hw,ha,hp,h=>by
  obtain⟨f,rfl⟩:∃g,f=g+1:=⟨f-1,by have:=hp.f;have:=h.ok.2.2.2.2.1;omega⟩
  exact rI hw hp (by simpa [Cs.tk] using h)
 | .ass c,f,p,a,ts,hw,ha,hp,h=>by
  obtain⟨f,rfl⟩:∃g,f=g+1:=⟨f-1,by have:=hp.f;have:=h.ok.2.2.2.2.1;omega⟩
  exact rJ hw hp (by simpa [Cs.tk] using h)
 | .whi c b,f,p,a,ts,hw,ha,hp,h=>by
  obtain⟨f,rfl⟩:∃g,f=g+1:=⟨f-1,by have:=hp.f;have:=h.ok.2.2.2.2.1;omega⟩
  have h:Sfx p ((0,TD)::kO 40::(c.tk++kO 41::kO 123::(tkB b++kO 125::a::ts))):=by simpa [Cs.tk] using h
  have hd:=hp.d
  have hn:=hp.n
  simp only[Cs.dp,Cs.ct]at hd hn
  have hn2:p.n<200:=by omega
  have h':=FZ h
  obtain⟨q,e1,e2,e3,e4,e5,e6⟩:=V1 hw.1 h' (by show _+p.deep≤40;omega)
  have e7:q.n=p.n+1:=by rw[e6,Lg hp.n0 hn2]
  have e4':q.deep=p.deep:=e4
  obtain⟨r,g1,g2⟩:=S8 b f (adv q) (a::ts) hw.2 ⟨by show _+q.deep≤40;rw[e4'];omega,by show _≤q.deep+_;rw[e4'];exact hp.f,by show 0≤q.n;have:=hp.n0;omega,by show q.n+_≤200;omega⟩ e3
  refine⟨r,?_,g2.s,g2.d.trans e4,g2.l.trans e5,?_⟩
  ·rw[Lf hn2]
   unfold Et
   rw[if_neg (by rw[h'.isT];decide),if_neg (by rw[h'.isT];decide),if_pos (by rw[h'.isT];decide)]
   unfold ifB
   rw[e1]
   dsimp only
   rw[e2,g1]
   show (Sm.mk 11 [] [] .nil .nil c.v [] (vB q.n b) [] p.n,r)=_
   rw[e7];rfl
  ·rw[g2.n];show q.n+_=_;rw[e7];simp only[Cs.ct];omega
 | .ite c b none,f,p,a,ts,hw,ha,hp,h=>by
  obtain⟨f,rfl⟩:∃g,f=g+1:=⟨f-1,by have:=hp.f;have:=h.ok.2.2.2.2.1;omega⟩
  have h:Sfx p ((0,tIf)::kO 40::(c.tk++kO 41::kO 123::(tkB b++kO 125::a::ts))):=by simpa [Cs.tk] using h
  have hd:=hp.d
  have hn:=hp.n
  simp only[Cs.dp,Cs.ct]at hd hn
  have hn2:p.n<200:=by omega
  have h':=FZ h
  obtain⟨q,e1,e2,e3,e4,e5,e6⟩:=V1 hw.1 h' (by show _+p.deep≤40;omega)
  have e7:q.n=p.n+1:=by rw[e6,Lg hp.n0 hn2]
  have e4':q.deep=p.deep:=e4
  obtain⟨r,g1,g2⟩:=S8 b f (adv q) (a::ts) hw.2 ⟨by show _+q.deep≤40;rw[e4'];omega,by show _≤q.deep+_;rw[e4'];exact hp.f,by show 0≤q.n;have:=hp.n0;omega,by show q.n+_≤200;omega⟩ e3
  have hB:ifB (D2 (B6 f)) (nxt p)=(vB q.n b,r):=by
   unfold ifB;rw[e1];dsimp only;rw[e2,g1];rfl
  refine⟨r,?_,g2.s,g2.d.trans e4,g2.l.trans e5,?_⟩
  ·rw[Lf hn2]
   unfold Et
   rw[if_neg (by rw[h'.isT];decide),if_neg (by rw[h'.isT];decide),if_neg (by rw[h'.isT];decide),if_pos (by rw[h'.isT];decide),hB]
   dsimp only
   rw[if_neg (by rw[g2.s.isT,ha];decide),e1]
   show (Sm.mk 10 [] [] .nil .nil c.v [] (vB q.n b) [] p.n,r)=_
   rw[e7];rfl
  ·rw[g2.n];show q.n+_=_;rw[e7];simp only[Cs.ct];omega
 | .ite c b (some e),f,p,a,ts,hw,ha,hp,h=>by
  obtain⟨f,rfl⟩:∃g,f=g+1:=⟨f-1,by have:=hp.f;have:=h.ok.2.2.2.2.1;omega⟩
  have h:Sfx p ((0,tIf)::kO 40::(c.tk++kO 41::kO 123::(tkB b++kO 125::(0,Hc)::kO 123::(tkB e++kO 125::a::ts)))):=by simpa [Cs.tk] using h
  have hd:=hp.d
  have hn:=hp.n
  simp only[Cs.dp,Cs.ct]at hd hn
  have hn2:p.n<200:=by omega
  have h':=FZ h
  obtain⟨q,e1,e2,e3,e4,e5,e6⟩:=V1 hw.1 h' (by show _+p.deep≤40;omega)
  have e7:q.n=p.n+1:=by rw[e6,Lg hp.n0 hn2]
  have e4':q.deep=p.deep:=e4
  have n0:=hp.n0
  obtain⟨r,g1,g2⟩:=S8 b f (adv q) ((0,Hc)::kO 123::(tkB e++kO 125::a::ts)) hw.2.1 ⟨by show _+q.deep≤40;rw[e4'];omega,by show _≤q.deep+_;rw[e4'];exact hp.f,by show 0≤q.n;omega,by show q.n+_≤200;omega⟩ e3
  have g3:r.deep=p.deep:=g2.d.trans e4'
  have g4:r.n=p.n+1+(ctB b:Int):=by rw[g2.n];show q.n+_=_;rw[e7]
  obtain⟨s,k1,k2⟩:=S8 e f (adv r) (a::ts) hw.2.2 ⟨by show _+r.deep≤40;rw[g3];omega,by show _≤r.deep+_;rw[g3];exact hp.f,by show 0≤r.n;omega,by show r.n+_≤200;omega⟩ g2.s.adv
  have hB:ifB (D2 (B6 f)) (nxt p)=(vB q.n b,r):=by
   unfold ifB;rw[e1];dsimp only;rw[e2,g1];rfl
  refine⟨s,?_,k2.s,k2.d.trans g3,k2.l.trans (g2.l.trans e5),?_⟩
  ·rw[Lf hn2]
   unfold Et
   rw[if_neg (by rw[h'.isT];decide),if_neg (by rw[h'.isT];decide),if_neg (by rw[h'.isT];decide),if_pos (by rw[h'.isT];decide),hB]
   dsimp only
   rw[if_pos (by rw[g2.s.isT];decide),k1,e1]
   show (Sm.mk 10 [] [] .nil .nil c.v [] (vB q.n b) (vB r.n e) p.n,s)=_
   rw[e7,g4];rfl
  ·rw[k2.n];show r.n+_=_;rw[g4];simp only[Cs.ct];omega
theorem TJ:∀(l:List Cs) (f:Nat) (p:Pr) (ts:List Kt) (k:Nat) (acc:List Sm),wfB l→Rds f p (dpB l) (ctB l)→Sfx p (tkB l++kO 125::ts)→l.length<k→∃q,Fh (B6 f) k acc p=(acc++vB p.n l,q)∧Ads p q (ctB l) ts
 |[],f,p,ts,k,acc,hw,hp,h,hk=>by
  obtain⟨k,rfl⟩:∃j,k=j+1:=⟨k-1,by omega⟩
  have h:Sfx p (kO 125::ts):=h
  exact⟨adv p,by rw[kN h];simp[vB],h.adv,rfl,rfl,by show p.n=p.n+0;omega⟩
 |s::l,f,p,ts,k,acc,hw,hp,h,hk=>by
  obtain⟨k,rfl⟩:∃j,k=j+1:=⟨k-1,by omega⟩
  have h:Sfx p (s.tk++(tkB l++kO 125::ts)):=by simpa [tkB] using h
  obtain⟨a,r,hh,ha,_⟩:=s.tk_hd hw.1
  obtain⟨b,r2,hb,hbe⟩:=rK l ts hw.2
  have hd:=hp.d
  have hn:=hp.n
  simp only[dpB,ctB]at hd hn
  have h1:Sfx p (s.tk++b::r2):=by rw[← hb];exact h
  obtain⟨q,e1,e2⟩:=rL s f p b r2 hw.1 hbe ⟨by omega,hp.f,hp.n0,by omega⟩ h1
  have hq:Sfx q (tkB l++kO 125::ts):=by rw[hb];exact e2.s
  have n0:=hp.n0
  obtain⟨q2,g1,g2⟩:=TJ l f q ts k (acc++[s.v p.n]) hw.2 ⟨by rw[e2.d];omega,by rw[e2.d];exact hp.f,by rw[e2.n];omega,by rw[e2.n];omega⟩ hq (by simp only[length_cons]at hk;omega)
  refine⟨q2,?_,g2.s,g2.d.trans e2.d,g2.l.trans e2.l,by rw[g2.n,e2.n];simp only[ctB];omega⟩
  have h2:Sfx p (a::(r++(tkB l++kO 125::ts))):=by
   have:=h
   rw[hh]at this;exact this
  rw[eG h2 ha,e1,g1,e2.n,List.append_assoc];simp[vB]
theorem S8:∀(l:List Cs) (f:Nat) (p:Pr) (ts:List Kt),wfB l→Rds (f+1) p (dpB l+1) (ctB l)→Sfx p (kO 123::(tkB l++kO 125::ts))→∃q,D2 (B6 f) p=(vB p.n l,q)∧Ads p q (ctB l) ts
 |l,f,p,ts,hw,hp,h=>by
  have hd:=hp.d
  obtain⟨h1,h2,h3⟩:=Z3 h (by omega)
  have h4:=h2.adv
  have e5:(adv (Ai p)).n=p.n:=by rw[Jn,Le]
  have e6:=ia h.ok h1
  obtain⟨q,g1,g2⟩:=TJ l f (adv (Ai p)) ts ((adv (Ai p)).l.length+1) [] hw ⟨by show _+(Ai p).deep≤40;rw[h3];omega,by show 41≤(Ai p).deep+_;rw[h3];have:=hp.f;omega,by rw[e5];exact hp.n0,by rw[e5];exact hp.n⟩ h4 (by
   have q1:=h4.lenN
   have q2:=TI l
   simp only[List.length_append,length_cons]at q1;omega)
  have gW:GH (B6 f) (adv (Ai p))=(vB p.n l,q):=by unfold GH;rw[g1,e5];rfl
  have hB:D2 (B6 f) p=(vB p.n l,shut q):=by
   unfold D2
   rw[if_pos (by rw[h.isT];decide),if_pos h1,gW]
  have hN:=Lq (Nt f) h.ok
  rw[hB]at hN
  refine⟨shut q,hB,⟨hN.ok,g2.s.e,g2.s.t⟩,hN.d,hN.l,?_⟩
  show q.n=_
  rw[g2.n,e5]
end
end Go.Proofs.Ytjnnmindcbgjhaa
