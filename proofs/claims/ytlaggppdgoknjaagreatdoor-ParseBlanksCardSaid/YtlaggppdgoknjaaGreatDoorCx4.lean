/- Statements and blocks as they are written: the parser reads each as what it says. No conditions but those in each statement. -/
import Derived.Test.YtlaggppdgoknjaaGreatDoorCx3
set_option linter.unusedVariables false
set_option linter.unusedSimpArgs false
namespace Go.Proofs.YtlaggppdgoknjaaGreatDoor
open Go Go.Sy Go.RowKit
structure Rds (f:Nat) (p:Pr) (d c:Nat):Prop where
 d:(d:Int)+p.deep≤40
 f:41≤p.deep+(f:Int)
 n0:0≤p.n
 n:p.n+(c:Int)≤200
structure Ads (p q:Pr) (c:Nat) (ts:List Kt):Prop where
 s:Sfx q ts
 d:q.deep=p.deep
 l:q.l=p.l
 n:q.n=p.n+(c:Int)
theorem stF_1 {f:Nat} {p:Pr} (hn:p.n<200):stmF (f+1) p=stmB (stmF f) p.n (nxt p):=by
 simp only[stmF]
 rw[if_neg (fail_no hn)]
theorem nxt_1 {p:Pr} (h0:0≤p.n) (hn:p.n<200):(nxt p).n=p.n+1:=by
 show w64i (p.n+1)=_
 unfold w64i;rw[wrap_i64 (by omega) (by omega)]
theorem stB_nm {st:Pr→R Sm} {p:Pr} {x:List UInt8} {c:UInt8} {ts:List Kt} (hx:nmO x) (h:Sfx p ((0,x)::kO c::ts)) (no:Int):stmB st no p =
  (
   if ([c]==[40])=true then (.mk 8 [] x .nil .nil .nil (argW (adv (adv p))).1 [] [] no,wanP [59] (argW (adv (adv p))).2)
   else if ([c]==[91])=true then (.mk 7 [] x (exS (adv (adv p))).1 (exS (wanP [61] (wanP [93] (exS (adv (adv p))).2))).1 .nil [] [] [] no,wanP [59] (exS (wanP [61] (wanP [93] (exS (adv (adv p))).2))).2)
   else (.mk (valF (wanP [61] (adv p))).1.k x (valF (wanP [61] (adv p))).1.y (valF (wanP [61] (adv p))).1.e .nil .nil ((valF (wanP [61] (adv p))).1.a.getD []) [] [] no,wanP [59] (valF (wanP [61] (adv p))).2)):=by
 unfold stmB
 rw[if_neg (by rw[h.isT,hx.ne (w:=tRet)];decide),if_neg (by rw[h.isT,hx.ne (w:=tAss)];decide),if_neg (by rw[h.isT,hx.ne (w:=tWhi)];decide),if_neg (by rw[h.isT,hx.ne (w:=tIf)];decide),if_neg (by rw[h.isT,beq_eq_false_iff_ne.2 (lh_ne hx.2:x≠[42])];decide),h.nam hx.1,namS_s h hx.1]
 have e1:isT [40] (adv p)=([c]==[40]):=by rw[h.adv.isT];rfl
 have e2:isT [91] (adv p)=([c]==[91]):=by rw[h.adv.isT];rfl
 rw[e1,e2]
theorem exS_1 {p q:Pr} {e:Ex} (h:exS p=(e,q)):q.n=p.n:=by have:=exS_n p;rw[h]at this;exact this
theorem cdS_1 {p q:Pr} {e:Cd} (h:cdS p=(e,q)):q.n=p.n:=by have:=cdS_n p;rw[h]at this;exact this
theorem val_1 {p q:Pr} {e:VR} (h:valF p=(e,q)):q.n=p.n:=by have:=val_n p;rw[h]at this;exact this
theorem arg_1 {p q:Pr} {e:List Ar} (h:argW p=(e,q)):q.n=p.n:=by have:=argW_n p;rw[h]at this;exact this
theorem st_val {f:Nat} {p q:Pr} {x:List UInt8} {r:VR} {ts us:List Kt} {d:Nat} (hx:nmO x) (hp:Rds (f+1) p d 1) (h:Sfx p ((0,x)::kO 61::us)) (hv:valF (adv (adv (nxt p)))=(r,q)) (hq:Sfx q (kO 59::ts)) (hd:q.deep=p.deep) (hl:q.l=p.l) :
  stmF (f+1) p=(.mk r.k x r.y r.e .nil .nil (r.a.getD []) [] [] p.n,adv q)∧Ads p (adv q) 1 ts:=by
 have hn:p.n<200:=by have:=hp.n;omega
 have h':=nxt_s h
 have e1:wanP [61] (adv (nxt p))=adv (adv (nxt p)):=h'.adv.wan (by decide)
 refine⟨?_,hq.adv,hd,hl,?_⟩
 ·rw[stF_1 hn,stB_nm hx h',if_neg (by decide),if_neg (by decide),e1,hv]
  dsimp only
  rw[hq.wan (by decide)]
 ·show q.n=_
  rw[val_1 hv]
  show (nxt p).n=_
  rw[nxt_1 hp.n0 hn];rfl
theorem st_sto {f:Nat} {p:Pr} {x:List UInt8} {e:Cx} {ts:List Kt} (hx:nmO x) (he:exO e) (hp:Rds (f+1) p e.dp 1) (h:Sfx p (kO 42::(0,x)::kO 61::(e.tk++kO 59::ts))):∃q,stmF (f+1) p=((Cs.sto x e).v p.n,q)∧Ads p q 1 ts:=by
 have hn:p.n<200:=by have:=hp.n;omega
 have h':=nxt_s h
 obtain⟨q,e1,e2⟩:=cx_exS he.1 he.2 no59 h'.adv.adv.adv hp.d
 have e3:wanP [61] (adv (adv (nxt p)))=adv (adv (adv (nxt p))):=h'.adv.adv.wan (by decide)
 refine⟨adv q,?_,e2.s.adv,e2.d,e2.l,?_⟩
 ·rw[stF_1 hn]
  unfold stmB
  rw[if_neg (by rw[h'.isT];decide),if_neg (by rw[h'.isT];decide),if_neg (by rw[h'.isT];decide),if_neg (by rw[h'.isT];decide),if_pos (by rw[h'.isT];decide),h'.adv.nam hx.1,namS_s h'.adv hx.1,e3,e1]
  dsimp only
  rw[e2.s.wan (by decide)];rfl
 ·show q.n=_
  rw[exS_1 e1];show (nxt p).n=_
  rw[nxt_1 hp.n0 hn];rfl
theorem st_put {f:Nat} {p:Pr} {y:List UInt8} {e g:Cx} {ts:List Kt} (hy:nmO y) (he:exO e) (hg:exO g) (hp:Rds (f+1) p (max e.dp g.dp) 1) (h:Sfx p ((0,y)::kO 91::(e.tk++kO 93::kO 61::(g.tk++kO 59::ts)))):∃q,stmF (f+1) p=((Cs.put y e g).v p.n,q)∧Ads p q 1 ts:=by
 have hn:p.n<200:=by have:=hp.n;omega
 have hd:=hp.d
 have h':=nxt_s h
 obtain⟨q,e1,e2⟩:=cx_exS he.1 he.2 no93 h'.adv.adv (by show _+p.deep≤40;omega)
 obtain⟨r,g1,g2⟩:=cx_exS hg.1 hg.2 no59 e2.s.adv.adv (by show _+q.deep≤40;rw[e2.d];show _+p.deep≤40;omega)
 refine⟨adv r,?_,g2.s.adv,g2.d.trans e2.d,g2.l.trans e2.l,?_⟩
 ·rw[stF_1 hn,stB_nm hy h',if_neg (by decide),if_pos (by decide),e1]
  dsimp only
  rw[e2.s.wan (by decide),e2.s.adv.wan (by decide),g1]
  dsimp only
  rw[g2.s.wan (by decide)];rfl
 ·show r.n=_
  rw[exS_1 g1];show q.n=_
  rw[exS_1 e1];show (nxt p).n=_
  rw[nxt_1 hp.n0 hn];rfl
theorem st_cal {f:Nat} {p:Pr} {y:List UInt8} {l:List Cx} {ts:List Kt} (hy:nmO y) (hl:∀e∈l,exO e) (hp:Rds (f+1) p (agD l) 1) (h:Sfx p ((0,y)::kO 40::(agK l++kO 59::ts))):∃q,stmF (f+1) p=((Cs.cal none y l).v p.n,q)∧Ads p q 1 ts:=by
 have hn:p.n<200:=by have:=hp.n;omega
 have h':=nxt_s h
 obtain⟨q,e1,e2,e3,e4⟩:=agW_c l _ (kO 59::ts) hl h'.adv.adv hp.d
 refine⟨adv q,?_,e2.adv,e3,e4,?_⟩
 ·rw[stF_1 hn,stB_nm hy h',if_pos (by decide),e1]
  dsimp only
  rw[e2.wan (by decide)];rfl
 ·show q.n=_
  rw[arg_1 e1];show (nxt p).n=_
  rw[nxt_1 hp.n0 hn];rfl
theorem st_ret {f:Nat} {p:Pr} {e:Cx} {ts:List Kt} (he:exO e) (hp:Rds (f+1) p e.dp 1) (h:Sfx p ((0,tRet)::(e.tk++kO 59::ts))):∃q,stmF (f+1) p=((Cs.ret e).v p.n,q)∧Ads p q 1 ts:=by
 have hn:p.n<200:=by have:=hp.n;omega
 have h':=nxt_s h
 obtain⟨q,e1,e2⟩:=cx_exS he.1 he.2 no59 h'.adv hp.d
 refine⟨adv q,?_,e2.s.adv,e2.d,e2.l,?_⟩
 ·rw[stF_1 hn]
  unfold stmB
  rw[if_pos (by rw[h'.isT];decide),e1]
  dsimp only
  rw[e2.s.wan (by decide)];rfl
 ·show q.n=_
  rw[exS_1 e1];show (nxt p).n=_
  rw[nxt_1 hp.n0 hn];rfl
theorem if_cc {p:Pr} {w:List UInt8} {c:Cc} {ts:List Kt} (hc:c.wf) (h:Sfx p ((0,w)::kO 40::(c.tk++kO 41::ts))) (hd:(c.dp:Int)+p.deep≤40):∃q,ifC p=(c.v,q)∧wanP [41] q=adv q∧Sfx (adv q) ts∧q.deep=p.deep∧q.l=p.l∧q.n=p.n:=by
 have e0:wanP [40] (adv p)=adv (adv p):=h.adv.wan (by decide)
 obtain⟨q,e1,e2⟩:=cc_cdS hc h.adv.adv hd
 refine⟨q,by unfold ifC;rw[e0,e1],e2.s.wan (by decide),e2.s.adv,e2.d,e2.l,by rw[cdS_1 e1];rfl⟩
theorem st_ass {f:Nat} {p:Pr} {c:Cc} {ts:List Kt} (hc:c.wf) (hp:Rds (f+1) p c.dp 1) (h:Sfx p ((0,tAss)::kO 40::(c.tk++kO 41::kO 59::ts))):∃q,stmF (f+1) p=((Cs.ass c).v p.n,q)∧Ads p q 1 ts:=by
 have hn:p.n<200:=by have:=hp.n;omega
 have h':=nxt_s h
 obtain⟨q,e1,e2,e3,e4,e5,e6⟩:=if_cc hc h' hp.d
 refine⟨adv (adv q),?_,e3.adv,e4,e5,?_⟩
 ·rw[stF_1 hn]
  unfold stmB
  rw[if_neg (by rw[h'.isT];decide),if_pos (by rw[h'.isT];decide),e1]
  dsimp only
  rw[e2,e3.wan (by decide)];rfl
 ·show q.n=_
  rw[e6,nxt_1 hp.n0 hn];rfl
def noEl (a:Kt):Prop:=(a.1 != 1&&a.2==tElse)=false
theorem Cs.tk_ne:∀s:Cs,s.tk≠[]
 | .asg _ _=>by simp[Cs.tk]
 | .adr _ _=>by simp[Cs.tk]
 | .nul _=>by simp[Cs.tk]
 | .lod _ _=>by simp[Cs.tk]
 | .sto _ _=>by simp[Cs.tk]
 | .idx _ _ _=>by simp[Cs.tk]
 | .put _ _ _=>by simp[Cs.tk]
 | .cal none _ _=>by simp[Cs.tk]
 | .cal (some _) _ _=>by simp[Cs.tk]
 | .ret _=>by simp[Cs.tk]
 | .ass _=>by simp[Cs.tk]
 | .whi _ _=>by simp[Cs.tk]
 | .ite _ _ none=>by simp[Cs.tk]
 | .ite _ _ (some _)=>by simp[Cs.tk]
theorem Cs.tk_hd:∀s:Cs,s.wf→∃a r,s.tk=a::r∧(a.1 != 1&&a.2==[125])=false∧noEl a
 | .asg x e,h=>⟨_,_,by rw[Cs.tk],by simp only[beq_eq_false_iff_ne.2 (lh_ne h.1.2:x≠[125]),Bool.and_false],by unfold noEl;simp only[h.1.ne (w:=tElse),Bool.and_false]⟩
 | .adr x y,h=>⟨_,_,by rw[Cs.tk],by simp only[beq_eq_false_iff_ne.2 (lh_ne h.1.2:x≠[125]),Bool.and_false],by unfold noEl;simp only[h.1.ne (w:=tElse),Bool.and_false]⟩
 | .nul x,h=>⟨_,_,by rw[Cs.tk],by simp only[beq_eq_false_iff_ne.2 (lh_ne h.2:x≠[125]),Bool.and_false],by unfold noEl;simp only[nmO.ne h (w:=tElse),Bool.and_false]⟩
 | .lod x y,h=>⟨_,_,by rw[Cs.tk],by simp only[beq_eq_false_iff_ne.2 (lh_ne h.1.2:x≠[125]),Bool.and_false],by unfold noEl;simp only[h.1.ne (w:=tElse),Bool.and_false]⟩
 | .sto x e,h=>⟨_,_,by rw[Cs.tk],rfl,by unfold noEl;decide⟩
 | .idx x y e,h=>⟨_,_,by rw[Cs.tk],by simp only[beq_eq_false_iff_ne.2 (lh_ne h.1.2:x≠[125]),Bool.and_false],by unfold noEl;simp only[h.1.ne (w:=tElse),Bool.and_false]⟩
 | .put y e f,h=>⟨_,_,by rw[Cs.tk],by simp only[beq_eq_false_iff_ne.2 (lh_ne h.1.2:y≠[125]),Bool.and_false],by unfold noEl;simp only[h.1.ne (w:=tElse),Bool.and_false]⟩
 | .cal none y l,h=>⟨_,_,by rw[Cs.tk],by simp only[beq_eq_false_iff_ne.2 (lh_ne h.1.2:y≠[125]),Bool.and_false],by unfold noEl;simp only[h.1.ne (w:=tElse),Bool.and_false]⟩
 | .cal (some x) y l,h=>⟨_,_,by rw[Cs.tk],by simp only[beq_eq_false_iff_ne.2 (lh_ne h.1.2:x≠[125]),Bool.and_false],by unfold noEl;simp only[h.1.ne (w:=tElse),Bool.and_false]⟩
 | .ret e,h=>⟨_,_,by rw[Cs.tk],by decide,by unfold noEl;decide⟩
 | .ass c,h=>⟨_,_,by rw[Cs.tk],by decide,by unfold noEl;decide⟩
 | .whi c b,h=>⟨_,_,by rw[Cs.tk],by decide,by unfold noEl;decide⟩
 | .ite c b none,h=>⟨_,_,by rw[Cs.tk],by decide,by unfold noEl;decide⟩
 | .ite c b (some e),h=>⟨_,_,by rw[Cs.tk],by decide,by unfold noEl;decide⟩
theorem tkB_hd:∀(l:List Cs) (ts:List Kt),wfB l→∃a r,tkB l++kO 125::ts=a::r∧noEl a
 |[],ts,_=>⟨_,_,rfl,by unfold noEl;decide⟩
 |s::l,ts,h=>by
  obtain⟨a,r,h1,_,h3⟩:=s.tk_hd h.1
  exact⟨a,r++(tkB l++kO 125::ts),by simp[tkB,h1],h3⟩
theorem tkB_len:∀l:List Cs,l.length≤(tkB l).length
 |[]=>Nat.le_refl _
 |s::l=>by
  have:=tkB_len l
  have:=List.length_pos_iff.2 s.tk_ne
  simp only[tkB,List.length_append,List.length_cons];omega
theorem ct_pos:∀s:Cs,1≤s.ct
 | .asg _ _=>Nat.le_refl _
 | .adr _ _=>Nat.le_refl _
 | .nul _=>Nat.le_refl _
 | .lod _ _=>Nat.le_refl _
 | .sto _ _=>Nat.le_refl _
 | .idx _ _ _=>Nat.le_refl _
 | .put _ _ _=>Nat.le_refl _
 | .cal _ _ _=>Nat.le_refl _
 | .ret _=>Nat.le_refl _
 | .ass _=>Nat.le_refl _
 | .whi _ b=>by simp[Cs.ct]
 | .ite _ b none=>by simp[Cs.ct]
 | .ite _ b (some e)=>by simp[Cs.ct];omega
mutual
theorem cs_stm:∀(s:Cs) (f:Nat) (p:Pr) (a:Kt) (ts:List Kt),s.wf→noEl a→Rds f p s.dp s.ct→Sfx p (s.tk++a::ts)→∃q,stmF f p=(s.v p.n,q)∧Ads p q s.ct (a::ts)
 | .asg x e,f,p,a,ts,hw,ha,hp,h=>by
  obtain⟨f,rfl⟩:∃g,f=g+1:=⟨f-1,by have:=hp.f;have:=h.ok.2.2.2.2.1;omega⟩
  have h:Sfx p ((0,x)::kO 61::(e.tk++kO 59::a::ts)):=by simpa [Cs.tk] using h
  obtain⟨q,e1,e2⟩:=val_ex hw.2 (nxt_s h).adv.adv hp.d
  obtain⟨r1,r2⟩:=st_val hw.1 hp h e1 e2.s e2.d e2.l
  exact⟨_,r1,r2⟩
 | .adr x y,f,p,a,ts,hw,ha,hp,h=>by
  obtain⟨f,rfl⟩:∃g,f=g+1:=⟨f-1,by have:=hp.f;have:=h.ok.2.2.2.2.1;omega⟩
  have h:Sfx p ((0,x)::kO 61::kO 38::(0,y)::kO 59::a::ts):=by simpa [Cs.tk] using h
  obtain⟨r1,r2⟩:=st_val hw.1 hp h (val_adr hw.2 (nxt_s h).adv.adv) (nxt_s h).adv.adv.adv.adv rfl rfl
  exact⟨_,r1,r2⟩
 | .nul x,f,p,a,ts,hw,ha,hp,h=>by
  obtain⟨f,rfl⟩:∃g,f=g+1:=⟨f-1,by have:=hp.f;have:=h.ok.2.2.2.2.1;omega⟩
  have h:Sfx p ((0,x)::kO 61::(0,kNul)::kO 59::a::ts):=by simpa [Cs.tk] using h
  obtain⟨r1,r2⟩:=st_val hw hp h (val_nul (nxt_s h).adv.adv) (nxt_s h).adv.adv.adv rfl rfl
  exact⟨_,r1,r2⟩
 | .lod x y,f,p,a,ts,hw,ha,hp,h=>by
  obtain⟨f,rfl⟩:∃g,f=g+1:=⟨f-1,by have:=hp.f;have:=h.ok.2.2.2.2.1;omega⟩
  have h:Sfx p ((0,x)::kO 61::kO 42::(0,y)::kO 59::a::ts):=by simpa [Cs.tk] using h
  obtain⟨r1,r2⟩:=st_val hw.1 hp h (val_lod hw.2 (nxt_s h).adv.adv) (nxt_s h).adv.adv.adv.adv rfl rfl
  exact⟨_,r1,r2⟩
 | .sto x e,f,p,a,ts,hw,ha,hp,h=>by
  obtain⟨f,rfl⟩:∃g,f=g+1:=⟨f-1,by have:=hp.f;have:=h.ok.2.2.2.2.1;omega⟩
  exact st_sto hw.1 hw.2 hp (by simpa [Cs.tk] using h)
 | .idx x y e,f,p,a,ts,hw,ha,hp,h=>by
  obtain⟨f,rfl⟩:∃g,f=g+1:=⟨f-1,by have:=hp.f;have:=h.ok.2.2.2.2.1;omega⟩
  have h:Sfx p ((0,x)::kO 61::(0,y)::kO 91::(e.tk++kO 93::kO 59::a::ts)):=by simpa [Cs.tk] using h
  obtain⟨q,e1,e2,e3,e4⟩:=val_idx hw.2.1 hw.2.2 (nxt_s h).adv.adv hp.d
  obtain⟨r1,r2⟩:=st_val hw.1 hp h e1 e2 e3 e4
  exact⟨_,r1,r2⟩
 | .put y e g,f,p,a,ts,hw,ha,hp,h=>by
  obtain⟨f,rfl⟩:∃g,f=g+1:=⟨f-1,by have:=hp.f;have:=h.ok.2.2.2.2.1;omega⟩
  exact st_put hw.1 hw.2.1 hw.2.2 hp (by simpa [Cs.tk] using h)
 | .cal none y l,f,p,a,ts,hw,ha,hp,h=>by
  obtain⟨f,rfl⟩:∃g,f=g+1:=⟨f-1,by have:=hp.f;have:=h.ok.2.2.2.2.1;omega⟩
  exact st_cal hw.1 hw.2 hp (by simpa [Cs.tk] using h)
 | .cal (some x) y l,f,p,a,ts,hw,ha,hp,h=>by
  obtain⟨f,rfl⟩:∃g,f=g+1:=⟨f-1,by have:=hp.f;have:=h.ok.2.2.2.2.1;omega⟩
  have h:Sfx p ((0,x)::kO 61::(0,y)::kO 40::(agK l++kO 59::a::ts)):=by simpa [Cs.tk] using h
  obtain⟨q,e1,e2,e3,e4⟩:=val_cal hw.2.1 hw.2.2 (nxt_s h).adv.adv hp.d
  obtain⟨r1,r2⟩:=st_val hw.1 hp h e1 e2 e3 e4
  exact⟨_,r1,r2⟩
 | .ret e,f,p,a,ts,hw,ha,hp,h=>by
  obtain⟨f,rfl⟩:∃g,f=g+1:=⟨f-1,by have:=hp.f;have:=h.ok.2.2.2.2.1;omega⟩
  exact st_ret hw hp (by simpa [Cs.tk] using h)
 | .ass c,f,p,a,ts,hw,ha,hp,h=>by
  obtain⟨f,rfl⟩:∃g,f=g+1:=⟨f-1,by have:=hp.f;have:=h.ok.2.2.2.2.1;omega⟩
  exact st_ass hw hp (by simpa [Cs.tk] using h)
 | .whi c b,f,p,a,ts,hw,ha,hp,h=>by
  obtain⟨f,rfl⟩:∃g,f=g+1:=⟨f-1,by have:=hp.f;have:=h.ok.2.2.2.2.1;omega⟩
  have h:Sfx p ((0,tWhi)::kO 40::(c.tk++kO 41::kO 123::(tkB b++kO 125::a::ts))):=by simpa [Cs.tk] using h
  have hd:=hp.d
  have hn:=hp.n
  simp only[Cs.dp,Cs.ct]at hd hn
  have hn2:p.n<200:=by omega
  have h':=nxt_s h
  obtain⟨q,e1,e2,e3,e4,e5,e6⟩:=if_cc hw.1 h' (by show _+p.deep≤40;omega)
  have e7:q.n=p.n+1:=by rw[e6,nxt_1 hp.n0 hn2]
  have e4':q.deep=p.deep:=e4
  obtain⟨r,g1,g2⟩:=cs_blk b f (adv q) (a::ts) hw.2 ⟨by show _+q.deep≤40;rw[e4'];omega,by show _≤q.deep+_;rw[e4'];exact hp.f,by show 0≤q.n;have:=hp.n0;omega,by show q.n+_≤200;omega⟩ e3
  refine⟨r,?_,g2.s,g2.d.trans e4,g2.l.trans e5,?_⟩
  ·rw[stF_1 hn2]
   unfold stmB
   rw[if_neg (by rw[h'.isT];decide),if_neg (by rw[h'.isT];decide),if_pos (by rw[h'.isT];decide)]
   unfold ifB
   rw[e1]
   dsimp only
   rw[e2,g1]
   show (Sm.mk 11 [] [] .nil .nil c.v [] (vB q.n b) [] p.n,r)=_
   rw[e7];rfl
  ·rw[g2.n];show q.n+_=_;rw[e7];simp only[Cs.ct];omega
 | .ite c b none,f,p,a,ts,hw,ha,hp,h=>by
  obtain⟨f,rfl⟩:∃g,f=g+1:=⟨f-1,by have:=hp.f;have:=h.ok.2.2.2.2.1;omega⟩
  have h:Sfx p ((0,tIf)::kO 40::(c.tk++kO 41::kO 123::(tkB b++kO 125::a::ts))):=by simpa [Cs.tk] using h
  have hd:=hp.d
  have hn:=hp.n
  simp only[Cs.dp,Cs.ct]at hd hn
  have hn2:p.n<200:=by omega
  have h':=nxt_s h
  obtain⟨q,e1,e2,e3,e4,e5,e6⟩:=if_cc hw.1 h' (by show _+p.deep≤40;omega)
  have e7:q.n=p.n+1:=by rw[e6,nxt_1 hp.n0 hn2]
  have e4':q.deep=p.deep:=e4
  obtain⟨r,g1,g2⟩:=cs_blk b f (adv q) (a::ts) hw.2 ⟨by show _+q.deep≤40;rw[e4'];omega,by show _≤q.deep+_;rw[e4'];exact hp.f,by show 0≤q.n;have:=hp.n0;omega,by show q.n+_≤200;omega⟩ e3
  have hB:ifB (blkW (stmF f)) (nxt p)=(vB q.n b,r):=by
   unfold ifB;rw[e1];dsimp only;rw[e2,g1];rfl
  refine⟨r,?_,g2.s,g2.d.trans e4,g2.l.trans e5,?_⟩
  ·rw[stF_1 hn2]
   unfold stmB
   rw[if_neg (by rw[h'.isT];decide),if_neg (by rw[h'.isT];decide),if_neg (by rw[h'.isT];decide),if_pos (by rw[h'.isT];decide),hB]
   dsimp only
   rw[if_neg (by rw[g2.s.isT,ha];decide),e1]
   show (Sm.mk 10 [] [] .nil .nil c.v [] (vB q.n b) [] p.n,r)=_
   rw[e7];rfl
  ·rw[g2.n];show q.n+_=_;rw[e7];simp only[Cs.ct];omega
 | .ite c b (some e),f,p,a,ts,hw,ha,hp,h=>by
  obtain⟨f,rfl⟩:∃g,f=g+1:=⟨f-1,by have:=hp.f;have:=h.ok.2.2.2.2.1;omega⟩
  have h:Sfx p ((0,tIf)::kO 40::(c.tk++kO 41::kO 123::(tkB b++kO 125::(0,tElse)::kO 123::(tkB e++kO 125::a::ts)))):=by simpa [Cs.tk] using h
  have hd:=hp.d
  have hn:=hp.n
  simp only[Cs.dp,Cs.ct]at hd hn
  have hn2:p.n<200:=by omega
  have h':=nxt_s h
  obtain⟨q,e1,e2,e3,e4,e5,e6⟩:=if_cc hw.1 h' (by show _+p.deep≤40;omega)
  have e7:q.n=p.n+1:=by rw[e6,nxt_1 hp.n0 hn2]
  have e4':q.deep=p.deep:=e4
  have n0:=hp.n0
  obtain⟨r,g1,g2⟩:=cs_blk b f (adv q) ((0,tElse)::kO 123::(tkB e++kO 125::a::ts)) hw.2.1 ⟨by show _+q.deep≤40;rw[e4'];omega,by show _≤q.deep+_;rw[e4'];exact hp.f,by show 0≤q.n;omega,by show q.n+_≤200;omega⟩ e3
  have g3:r.deep=p.deep:=g2.d.trans e4'
  have g4:r.n=p.n+1+(ctB b:Int):=by rw[g2.n];show q.n+_=_;rw[e7]
  obtain⟨s,k1,k2⟩:=cs_blk e f (adv r) (a::ts) hw.2.2 ⟨by show _+r.deep≤40;rw[g3];omega,by show _≤r.deep+_;rw[g3];exact hp.f,by show 0≤r.n;omega,by show r.n+_≤200;omega⟩ g2.s.adv
  have hB:ifB (blkW (stmF f)) (nxt p)=(vB q.n b,r):=by
   unfold ifB;rw[e1];dsimp only;rw[e2,g1];rfl
  refine⟨s,?_,k2.s,k2.d.trans g3,k2.l.trans (g2.l.trans e5),?_⟩
  ·rw[stF_1 hn2]
   unfold stmB
   rw[if_neg (by rw[h'.isT];decide),if_neg (by rw[h'.isT];decide),if_neg (by rw[h'.isT];decide),if_pos (by rw[h'.isT];decide),hB]
   dsimp only
   rw[if_pos (by rw[g2.s.isT];decide),k1,e1]
   show (Sm.mk 10 [] [] .nil .nil c.v [] (vB q.n b) (vB r.n e) p.n,s)=_
   rw[e7,g4];rfl
  ·rw[k2.n];show r.n+_=_;rw[g4];simp only[Cs.ct];omega
theorem cs_list:∀(l:List Cs) (f:Nat) (p:Pr) (ts:List Kt) (k:Nat) (acc:List Sm),wfB l→Rds f p (dpB l) (ctB l)→Sfx p (tkB l++kO 125::ts)→l.length<k→∃q,stmtsL (stmF f) k acc p=(acc++vB p.n l,q)∧Ads p q (ctB l) ts
 |[],f,p,ts,k,acc,hw,hp,h,hk=>by
  obtain⟨k,rfl⟩:∃j,k=j+1:=⟨k-1,by omega⟩
  have h:Sfx p (kO 125::ts):=h
  exact⟨adv p,by rw[stL_end h];simp[vB],h.adv,rfl,rfl,by show p.n=p.n+0;omega⟩
 |s::l,f,p,ts,k,acc,hw,hp,h,hk=>by
  obtain⟨k,rfl⟩:∃j,k=j+1:=⟨k-1,by omega⟩
  have h:Sfx p (s.tk++(tkB l++kO 125::ts)):=by simpa [tkB] using h
  obtain⟨a,r,hh,ha,_⟩:=s.tk_hd hw.1
  obtain⟨b,r2,hb,hbe⟩:=tkB_hd l ts hw.2
  have hd:=hp.d
  have hn:=hp.n
  simp only[dpB,ctB]at hd hn
  have h1:Sfx p (s.tk++b::r2):=by rw[← hb];exact h
  obtain⟨q,e1,e2⟩:=cs_stm s f p b r2 hw.1 hbe ⟨by omega,hp.f,hp.n0,by omega⟩ h1
  have hq:Sfx q (tkB l++kO 125::ts):=by rw[hb];exact e2.s
  have n0:=hp.n0
  obtain⟨q2,g1,g2⟩:=cs_list l f q ts k (acc++[s.v p.n]) hw.2 ⟨by rw[e2.d];omega,by rw[e2.d];exact hp.f,by rw[e2.n];omega,by rw[e2.n];omega⟩ hq (by simp only[List.length_cons]at hk;omega)
  refine⟨q2,?_,g2.s,g2.d.trans e2.d,g2.l.trans e2.l,by rw[g2.n,e2.n];simp only[ctB];omega⟩
  have h2:Sfx p (a::(r++(tkB l++kO 125::ts))):=by
   have:=h
   rw[hh]at this;exact this
  rw[stL_step h2 ha,e1,g1,e2.n,List.append_assoc];simp[vB]
theorem cs_blk:∀(l:List Cs) (f:Nat) (p:Pr) (ts:List Kt),wfB l→Rds (f+1) p (dpB l+1) (ctB l)→Sfx p (kO 123::(tkB l++kO 125::ts))→∃q,blkW (stmF f) p=(vB p.n l,q)∧Ads p q (ctB l) ts
 |l,f,p,ts,hw,hp,h=>by
  have hd:=hp.d
  obtain⟨h1,h2,h3⟩:=opn_s h (by omega)
  have h4:=h2.adv
  have e5:(adv (opnP p)).n=p.n:=by rw[adv_n,opn_n]
  have e6:=opn_l h.ok h1
  obtain⟨q,g1,g2⟩:=cs_list l f (adv (opnP p)) ts ((adv (opnP p)).l.length+1) [] hw ⟨by show _+(opnP p).deep≤40;rw[h3];omega,by show 41≤(opnP p).deep+_;rw[h3];have:=hp.f;omega,by rw[e5];exact hp.n0,by rw[e5];exact hp.n⟩ h4 (by
   have q1:=h4.lenN
   have q2:=tkB_len l
   simp only[List.length_append,List.length_cons]at q1;omega)
  have gW:stmtsW (stmF f) (adv (opnP p))=(vB p.n l,q):=by unfold stmtsW;rw[g1,e5];rfl
  have hB:blkW (stmF f) p=(vB p.n l,shut q):=by
   unfold blkW
   rw[if_pos (by rw[h.isT];decide),if_pos h1,gW]
  have hN:=blkW_nx (stm_nx f) h.ok
  rw[hB]at hN
  refine⟨shut q,hB,⟨hN.ok,g2.s.e,g2.s.t⟩,hN.d,hN.l,?_⟩
  show q.n=_
  rw[g2.n,e5]
end
end Go.Proofs.YtlaggppdgoknjaaGreatDoor
