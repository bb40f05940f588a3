/- The parser's trees have all their parts. Plain. No conditions but those in each statement. -/
import Derived.Test.YtapedeoheilnnaaGreatPa7
import Derived.Test.YtapedeoheilnnaaGreatRm2
import Derived.Test.YtapedeoheilnnaaGreatZs3
import Derived.Test.YtapedeoheilnnaaGreatPs
set_option linter.all false
open Bool (and_eq_true or_eq_true)
namespace Go.Proofs.YtapedeoheilnnaaGreat
open Go Go.Sy Go.RowKit
theorem AAH{P:Prop}(h:P:=by
 cases e with
 |nil=>cases m1
 |mk k' n' s' a' b'=>
 have:=(Bool.and_eq_true_iff.1 (show (k'==1&&AK f s'==2)=true from m1)).2
 exact eq_of_beq this):P:=h
theorem AAg{P:Prop}(h:P:=by rename_i hb;exact λh0=>absurd h0 (WR (BA hi).1 hb)):P:=h
theorem AA3{P:Prop}(h:P:=by exact λh0=>NC (λk=>by omega) (λk=>by omega) (λ_=>(U8 hn hu h hi hd h0).2) (λk=>by omega) (U8 hn hu h hi hd h0).1 Ge):P:=h
variable{p:Pr}{f m:Nat}{u:Pr->R Sm}{P:Pg}{s:Sm}
theorem Nx.z{q:Pr}(h:Nx p q)(h0:q.e=0):p.e=0:=by
 by_cases hp:p.e=0
 .exact hp
 exact absurd ((h.e hp).1.symm.trans h0) hp
theorem WR(he:p.e=0)(hb:¬Fh p=true):(CO p).e≠0:=by
 have h1:(p.e==0)=true:=by simpa using he
 have hd:decide (40<=p.deep)=true:=by
  unfold Fh at hb
  rw[h1]at hb
  simpa using hb
 unfold CO
 rw[if_pos h1,if_pos hd]
 exact KU (by decide) p
theorem ef{u:Pr->R Ex}(hn:∀p,okP p->Nx p (u p).2)(hu:∀p,okP p->dpU f p->(u p).2.e=0->exR (u p).1):∀(k:Nat) (a:Ex) (p:Pr),okP p->dpU f p->exR a->(HB u k a p).2.e=0->exR (HB u k a p).1
 |0,a,p,_,_,ha,_=>ha
 |k+1,a,p,h,hd,ha,h0=>by
  have key:∀(t:List UInt8) (o:Int),isT t p=true->(o=4∨o=5∨o=6)->(HB u k (.mk o 0 [] a (u (adv p)).1) (u (adv p)).2).2.e=0->exR (HB u k (.mk o 0 [] a (u (adv p)).1) (u (adv p)).2).1:=by
   intro t o hi ho h0
   have h1:=B0 h hi
   have h2:=hn _ h1.ok
   exact ef hn hu k _ _ h2.ok (GG (h1.trans h2) hd) (.inr (.inr (.inr ⟨by omega,ha,hu _ h1.ok (GG h1 hd) ((Lf hn k _ _ h2.ok).z h0)⟩))) h0
  revert h0
  simp only[HB]
  split
  .grind
  simp_all
theorem eg{u:Pr->R Ex}(hn:∀p,okP p->Nx p (u p).2)(hu:∀p,okP p->dpU f p->(u p).2.e=0->exR (u p).1)(p:Pr)(h:okP p)(hd:dpU f p)(h0:(F2 u p).2.e=0):exR (F2 u p).1:=
 ef hn hu _ _ _ (hn p h).ok (GG (hn p h) hd) (hu p h hd ((Lf hn _ _ _ (hn p h).ok).z h0)) h0
theorem lX{u:Pr->R Ex}(hn:∀p,okP p->Nx p (u p).2)(hu:∀p,okP p->dpU f p->(u p).2.e=0->exR (u p).1):∀(k:Nat) (a:Ex) (p:Pr),okP p->dpU f p->exR a->(K6 u k a p).2.e=0->exR (K6 u k a p).1
 |0,a,p,_,_,ha,_=>ha
 |k+1,a,p,h,hd,ha,h0=>by
  have key:∀(t:List UInt8) (o:Int),isT t p=true->(o=2∨o=3)->(K6 u k (.mk o 0 [] a (F2 u (adv p)).1) (F2 u (adv p)).2).2.e=0->exR (K6 u k (.mk o 0 [] a (F2 u (adv p)).1) (F2 u (adv p)).2).1:=by
   intro t o hi ho h0
   have h1:=B0 h hi
   have h2:=Gs hn _ h1.ok
   exact lX hn hu k _ _ h2.ok (GG (h1.trans h2) hd) (.inr (.inr (.inr ⟨by omega,ha,eg hn hu _ h1.ok (GG h1 hd) ((Pt hn k _ _ h2.ok).z h0)⟩))) h0
  revert h0
  simp only[K6]
  split
  .grind
  simp_all
theorem lY{u:Pr->R Ex}(hn:∀p,okP p->Nx p (u p).2)(hu:∀p,okP p->dpU f p->(u p).2.e=0->exR (u p).1)(p:Pr)(h:okP p)(hd:dpU f p)(h0:(K7 u p).2.e=0):exR (K7 u p).1:=
 lX hn hu _ _ _ (Gs hn p h).ok (GG (Gs hn p h) hd) (eg hn hu p h hd ((Pt hn _ _ _ (Gs hn p h).ok).z h0)) h0
theorem iF{A:Prop}(h:okP p)(hd:dpU 0 p):A:=by
 have:=h.2.2.2.2.1
 have:41<=p.deep+((0:Nat):Int):=hd
 omega
theorem pr:∀(f:Nat) (p:Pr),okP p->dpU f p->(unF f p).2.e=0->exR (unF f p).1
 |0,p,h,hd,_=>iF h hd
 |f+1,p,h,hd,h0=>by
  revert h0
  simp only[unF]
  split
  .exact λh0=>absurd h0 (KU (by decide) p)
  split
  .rename_i hi
   split
   .rename_i hb
    exact λh0=>.inr (.inr (.inl ⟨rfl,pr f _ (Ef h hb (BA hi).2).ok (MS h hb hd) h0⟩))
   exact AAg
  split
  .rename_i hi
   split
   .rename_i hb
    have h1:=Ef h hb (BA hi).2
    exact λh0=>lY (JA f) (pr f) _ h1.ok (MS h hb hd) ((Ak (T3 (JA f) _ h1.ok).ok).z h0)
   exact AAg
  split
  .exact λ_=>.inl rfl
  split
  .exact λ_=>.inr (.inl rfl)
  exact λh0=>absurd h0 (KU (by decide) p)
theorem NB(h:okP p)(h0:(exS p).2.e=0):exR (exS p).1:=lY (JA 41) (pr 41) p h (K8 h) h0
theorem lZ{a:Ex}(ha:exR a):∀(l:List (List UInt8)) (k:Int) (q:Pr),okP q->0<=k->k+(l.length:Int)<=6->(Mp q a l k).2.e=0->cdR (Mp q a l k).1
 |[],k,q,_,_,_,h0=>absurd h0 (KU (by decide) q)
 |t::l,k,q,h,k0,k1,h0=>by
  have hl:((t::l).length:Int)=(l.length:Int)+1:=by simp
  revert h0
  simp only[Mp]
  split
  .rename_i hi
   exact λh0=>.inr (.inr (.inr ⟨by omega,ha,NB (B0 h hi).ok h0⟩))
  exact lZ ha l (k+1) q h (by omega) (by omega)
theorem lb{u:Pr->R Cd}(hn:∀p,okP p->Nx p (u p).2)(hu:∀p,okP p->dpU f p->(u p).2.e=0->cdR (u p).1):∀(k:Nat) (a:Cd) (p:Pr),okP p->dpU f p->cdR a->(O5 u k a p).2.e=0->cdR (O5 u k a p).1
 |0,a,p,_,_,ha,_=>ha
 |k+1,a,p,h,hd,ha,h0=>by
  revert h0
  simp only[O5]
  split
  .rename_i hi
   have h1:=B0 h hi
   have h2:=hn _ h1.ok
   exact λh0=>lb hn hu k _ _ h2.ok (GG (h1.trans h2) hd) (.inr (.inr (.inl ⟨.inl rfl,ha,hu _ h1.ok (GG h1 hd) ((TQ hn k _ _ h2.ok).z h0)⟩))) h0
  simp_all
theorem lc{u:Pr->R Cd}(hn:∀p,okP p->Nx p (u p).2)(hu:∀p,okP p->dpU f p->(u p).2.e=0->cdR (u p).1)(p:Pr)(h:okP p)(hd:dpU f p)(h0:(K9 u p).2.e=0):cdR (K9 u p).1:=
 lb hn hu _ _ _ (hn p h).ok (GG (hn p h) hd) (hu p h hd ((TQ hn _ _ _ (hn p h).ok).z h0)) h0
theorem ld{u:Pr->R Cd}(hn:∀p,okP p->Nx p (u p).2)(hu:∀p,okP p->dpU f p->(u p).2.e=0->cdR (u p).1):∀(k:Nat) (a:Cd) (p:Pr),okP p->dpU f p->cdR a->(O6 u k a p).2.e=0->cdR (O6 u k a p).1
 |0,a,p,_,_,ha,_=>ha
 |k+1,a,p,h,hd,ha,h0=>by
  revert h0
  simp only[O6]
  split
  .rename_i hi
   have h1:=B0 h hi
   have h2:=Js hn _ h1.ok
   exact λh0=>ld hn hu k _ _ h2.ok (GG (h1.trans h2) hd) (.inr (.inr (.inl ⟨.inr rfl,ha,lc hn hu _ h1.ok (GG h1 hd) ((TR hn k _ _ h2.ok).z h0)⟩))) h0
  simp_all
theorem lf{u:Pr->R Cd}(hn:∀p,okP p->Nx p (u p).2)(hu:∀p,okP p->dpU f p->(u p).2.e=0->cdR (u p).1)(p:Pr)(h:okP p)(hd:dpU f p)(h0:(Ll u p).2.e=0):cdR (Ll u p).1:=
 ld hn hu _ _ _ (Js hn p h).ok (GG (Js hn p h) hd) (lc hn hu p h hd ((TR hn _ _ _ (Js hn p h).ok).z h0)) h0
theorem iG:∀(f:Nat) (p:Pr),okP p->dpU f p->(Db f p).2.e=0->cdR (Db f p).1
 |0,p,h,hd,_=>iF h hd
 |f+1,p,h,hd,h0=>by
  revert h0
  simp only[Db]
  split
  .rename_i hi
   split
   .rename_i hb
    exact λh0=>.inr (.inl ⟨rfl,iG f _ (Ef h hb (BA hi).2).ok (MS h hb hd) h0⟩)
   exact AAg
  split
  .rename_i hi
   split
   .rename_i hb
    have h1:=Ef h hb (BA hi).2
    exact λh0=>lf (JK f) (iG f) _ h1.ok (MS h hb hd) ((Ak (TS (JK f) _ h1.ok).ok).z h0)
   exact AAg
  split
  .intro _
   show cdR (SK p)
   unfold SK
   split
   .exact .inr (.inl ⟨rfl,.inl rfl⟩)
   exact .inl rfl
  exact λh0=>lZ (NB h ((X5 _ _ _ _ (Ds h).ok).z h0)) cmpO 0 _ (Ds h).ok (Int.le_refl _) (by decide) h0
theorem A6U(h:okP p)(h0:(cdS p).2.e=0):cdR (cdS p).1:=lf (JK 41) (iG 41) p h (K8 h) h0
theorem lg:∀(k:Nat) (l:List Ar) (p:Pr),okP p->(∀a∈l,exR a.e)->(argL k l p).2.e=0->∀a∈(argL k l p).1,exR a.e
 |0,l,p,_,_,_=>λa ha=>by cases ha
 |k+1,l,p,h,hl,h0=>by
  have hs:(exS p).2.e=0->∀a∈l++[(⟨false,[],(exS p).1⟩:Ar)],exR a.e:=by
   intro h0 a ha
   rcases List.mem_append.1 ha with ha|ha
   .exact hl a ha
   rw[List.mem_singleton.1 ha];exact NB h h0
  revert h0
  simp only[argL]
  split
  .split
   .rename_i hi;exact λ_=>hs (BA hi).1
   have h1:=Ak (t:=[44]) (Ds h).ok
   exact λh0=>lg k _ _ h1.ok (hs (h1.z ((X6 k _ _ h1.ok).z h0))) h0
  simp_all
theorem lh{p:Pr}(h:okP p)(h0:(argW p).2.e=0):∀a∈(argW p).1,exR a.e:=by
 revert h0
 unfold argW
 split
 .simp_all
 exact lg _ [] p h (λa ha=>by cases ha)
theorem A6V{p:Pr}(h:okP p)(h0:(valF p).2.e=0):((valF p).1.k=0∨(valF p).1.k=6->exR (valF p).1.e)/\((valF p).1.k=8->∀a∈(valF p).1.a.getD [],exR a.e)/\((valF p).1.k=0∨(valF p).1.k=1∨(valF p).1.k=3∨(valF p).1.k=4∨(valF p).1.k=6∨(valF p).1.k=8):=by
 revert h0
 unfold valF
 split
 .simp_all
 split
 .simp_all
 split
 .simp_all
 split
 .rename_i hb
  have h1:=(S9 h hb).ok
  exact λh0=>⟨λ_=>NB h1 ((Ak (Ds h1).ok).z h0),λk=>by simp at k,by simp⟩
 split
 .rename_i hb
  exact λh0=>⟨λk=>by simp at k,λ_=>lh (S9 h hb).ok h0,by simp⟩
 exact λh0=>⟨λ_=>NB h h0,λk=>by simp at k,by simp⟩
def bkT:Nat->List Sm->Prop
 |0,_=>True
 |m+1,l=>∀s∈l,smR s/\bkT m s.th/\bkT m s.el
abbrev lOk(l:List Sm):Prop:=∀m,bkT m l
structure sOk(s:Sm):Prop where
 g:smR s
 t:lOk s.th
 e:lOk s.el
theorem li{l:List Sm}(h:∀s∈l,sOk s):lOk l
 |0=>trivial
 |m+1=>λs hs=>⟨(h s hs).g,(h s hs).t m,(h s hs).e m⟩
theorem Ge:lOk []:=li λs hs=>by cases hs
theorem NC{k no:Int}{x y:List UInt8}{e g:Ex}{cd:Cd}{ar:List Ar}{th el:List Sm}(h1:k=0∨k=5∨k=6∨k=7∨k=9->exR e)(h2:k=7->exR g)(h3:k=10∨k=11∨k=12->cdR cd)(h4:k=8->∀a∈ar,a.p=false->exR a.e)(h5:lOk th)(h6:lOk el):sOk (.mk k x y e g cd ar th el no):=⟨⟨h1,h2,h3,h4⟩,h5,h6⟩
theorem bt{u:Pr->R Sm}(hn:∀p,okP p->Nx p (u p).2)(hu:∀p,okP p->dpU f p->(u p).2.e=0->sOk (u p).1):∀(k:Nat) (l:List Sm) (p:Pr),okP p->dpU f p->(∀s∈l,sOk s)->(stmtsL u k l p).2.e=0->∀s∈(stmtsL u k l p).1,sOk s
 |0,l,p,_,_,hl,_=>hl
 |k+1,l,p,h,hd,hl,h0=>by
  revert h0
  simp only[stmtsL]
  split
  .split
   .simp_all
   split
   .simp_all
   have h1:=hn p h
   refine λh0=>bt hn hu k _ _ h1.ok (GG h1 hd) (λs hs=>?_) h0
   rcases List.mem_append.1 hs with hs|hs
   .exact hl s hs
   rw[List.mem_singleton.1 hs];exact hu p h hd ((S8 hn k _ _ h1.ok).z h0)
  simp_all
theorem bu(hn:∀p,okP p->Nx p (u p).2)(hu:∀p,okP p->dpU f p->(u p).2.e=0->sOk (u p).1)(h:okP p)(hd:dpU f p)(h0:(stmtsW u p).2.e=0):lOk (stmtsW u p).1:=
 li (bt hn hu _ [] p h hd (λs hs=>by cases hs) h0)
theorem lj(hn:∀p,okP p->Nx p (u p).2)(hu:∀p,okP p->dpU f p->(u p).2.e=0->sOk (u p).1)(h:okP p)(hd:dpU (f+1) p)(h0:(blkW u p).2.e=0):lOk (blkW u p).1:=by
 revert h0
 unfold blkW
 split
 .rename_i hi
  split
  .rename_i hb
   exact λh0=>bu hn hu (Ef h hb (BA hi).2).ok (MS h hb hd) h0
  exact λ_=>Ge
 exact λ_=>Ge
theorem rr{t:List UInt8}(h:okP p)(hi:isT t p=true)(h0:(ifC p).2.e=0):cdR (ifC p).1:=A6U (Ak (B0 h hi).ok).ok h0
theorem U8(hn:∀p,okP p->Nx p (u p).2)(hu:∀p,okP p->dpU f p->(u p).2.e=0->sOk (u p).1){t:List UInt8}(h:okP p)(hi:isT t p=true)(hd:dpU (f+1) p)(h0:(ifB (blkW u) p).2.e=0):lOk (ifB (blkW u) p).1/\cdR (ifC p).1:=by
 have h1:=Pk h hi
 have h2:=Ak (t:=[41]) h1.ok
 exact⟨lj hn hu h2.ok (GG (h1.trans h2) hd) h0,rr h hi (h2.z ((Lc hn h2.ok).z h0))⟩
theorem A25(hn:∀p,okP p->Nx p (u p).2)(hu:∀p,okP p->dpU f p->(u p).2.e=0->sOk (u p).1)(no:Int)(h:okP p)(hd:dpU (f+1) p)(h0:(HW u no p).2.e=0):sOk (HW u no p).1:=by
 have hm:=Fl h
 revert h0
 unfold HW
 split
 .rename_i hi
  have h1:=B0 h hi
  exact λh0=>NC (λ_=>NB h1.ok ((Ak (Ds h1.ok).ok).z h0)) (λk=>by omega) (λk=>by omega) (λk=>by omega) Ge Ge
 split
 .rename_i hi
  have h1:=Pk h hi
  have h2:=Ak (t:=[41]) h1.ok
  exact λh0=>NC (λk=>by omega) (λk=>by omega) (λ_=>rr h hi (h2.z ((Ak h2.ok).z h0))) (λk=>by omega) Ge Ge
 split
 .rename_i hi
  exact AA3
 split
 .rename_i hi
  have h1:=Pl hn h hi
  split
  .rename_i hi2
   have h2:=B0 h1.ok hi2
   have h3:=Lc hn h2.ok
   exact λh0=>NC (λk=>by omega) (λk=>by omega) (λ_=>(U8 hn hu h hi hd (BA hi2).1).2) (λk=>by omega) (U8 hn hu h hi hd (BA hi2).1).1 (lj hn hu h2.ok (GG (h1.trans h2) hd) h0)
  exact AA3
 split
 .rename_i hi
  have h1:=B0 h hi
  have h2:=Fl h1.ok
  have h3:=Ak (t:=[61]) h2.ok
  exact λh0=>NC (λ_=>NB h3.ok ((Ak (Ds h3.ok).ok).z h0)) (λk=>by omega) (λk=>by omega) (λk=>by omega) Ge Ge
 split
 .rename_i hi
  have h1:=B0 hm.ok hi
  exact λh0=>NC (λk=>by omega) (λk=>by omega) (λk=>by omega) (λ_ a ha _=>lh h1.ok ((Ak (QA h1.ok).ok).z h0) a ha) Ge Ge
 split
 .rename_i hi
  have h1:=B0 hm.ok hi
  have h2:=Ds h1.ok
  have h3:=Ak (t:=[93]) h2.ok
  have h4:=Ak (t:=[61]) h3.ok
  have h5:=Ds h4.ok
  exact λh0=>NC (λ_=>NB h1.ok (h3.z (h4.z (h5.z ((Ak h5.ok).z h0))))) (λ_=>NB h4.ok ((Ak h5.ok).z h0)) (λk=>by omega) (λk=>by omega) Ge Ge
 have h1:=Ak (t:=[61]) hm.ok
 intro h0
 obtain⟨v1,v2,v3⟩:=A6V h1.ok ((Ak (VG h1.ok).ok).z h0)
 exact NC (λk=>v1 (by omega)) (λk=>by omega) (λk=>by omega) (λk a ha _=>v2 k a ha) Ge Ge
theorem ru:∀(f:Nat) (p:Pr),okP p->dpU f p->(Ce f p).2.e=0->sOk (Ce f p).1
 |0,p,h,hd,_=>iF h hd
 |f+1,p,h,hd,h0=>by
  revert h0
  simp only[Ce]
  split
  .exact λh0=>absurd h0 (KU (by decide) p)
  exact A25 (L9 f) (ru f) _ (Pj h).ok (GG (Pj h) hd)
theorem A26(h:okP p):okP (KW p):=by
 unfold KW
 split
 .rename_i hi
  split
  .rename_i hb;exact(Ef h hb (BA hi).2).ok
  rename_i hb;exact(FY 51 (LA h (by simpa using hb)).ok).ok
 exact(FY 51 h).ok
theorem A27(s:List UInt8)(m:Nat):bkT m (Fp s).1.body:=by
 unfold Fp
 split
 .exact Ge m
 split
 .exact Ge m
 rename_i h0
 have h0:(fp6 (rxT s).1 (s.length:Int)).e=0:=by simpa using h0
 have h1:=Wv (Zu s (s.length:Int)).ok
 have h2:=A26 h1.ok
 have h3:=TG (KW (fp3 (rxT s).1 (s.length:Int)).2).l.length [] _ h2
 refine bu (L9 41) (ru 41) h3.ok (K8 h3.ok) ?_ m
 revert h0
 unfold fp6 SJ
 split
 .exact λh0=>absurd h0 (KU (by decide) _)
 exact λh0=>h0
theorem A6W(s:List Nb)(x:Nb):(stN s x).s=x.s:=by unfold stN;split<;>rfl
theorem A28(s:List Na)(x:Na):(LN s x).s=x.s:=by unfold LN;split<;>rfl
theorem xJ(p:List (List UInt8))(s:List Nb):(stCs p s).map Nb.s=p:=by
 unfold stCs blC
 rw[List.map_map,List.map_map]
 conv=>rhs;rw[<- List.map_id p]
 exact List.map_congr_left λx _=>A6W s _
theorem A29(p:List Gy)(s:List Na):(stA p s).map Na.s=p.map Gy.s:=by
 unfold stA blA
 rw[List.map_map,List.map_map]
 exact List.map_congr_left λx _=>A28 s _
theorem A6X(P:Pg)(s:Sta)(fuel:Int):Mq P (ms0 P s fuel) (mz0 P s fuel):=⟨rfl,rfl,rfl,rfl,rfl,xJ _ _,A29 _ _⟩
theorem lk{m r:Ms}(h:Mq P m r):∀va:List Va,poL r va=poB P va
 |[]=>rfl
 |a::l=>by
  rw[fm,<- lk h l]
  show ((!a.p||a.s==[]||decide (0<=r.cx a.s))&&poL r l)=_
  congr 1
  unfold poA
  cases a.p with
  |false=>rfl
  |true=>
  rw[if_pos rfl]
  cases hs:(a.s==[]) with
  |true=>simp_all
  |false=>
  rw[if_neg (by decide)]
  rcases h.ci a.s with⟨e1,e2⟩|⟨i,e1,e2,e3⟩
  .simp_all
  simp_all
theorem A2A:∀{va:List Va},poB P va=true->∀a∈va,poV P a
 |[],_,a,ha=>by cases ha
 |b::l,h,a,ha=>by
  rw[fm,and_eq_true]at h
  rcases List.mem_cons.1 ha with rfl|ha
  .intro hp
   have h1:=h.1
   unfold poA at h1
   rw[if_pos hp]at h1
   by_cases hs:(a.s==[])=true
   .simp_all
   simp_all
  exact A2A h.2 a ha
theorem A2B{n:Nat}{f:List UInt8}{va:List Va}{s:Sta}{fuel:Int}(hP:Ii P)(hn:fuel<n):ouC (clZ n P f va s fuel)=ouC (clF n P f va s fuel):=by
 have hM:=A6X P s fuel
 unfold clF clZ
 by_cases h1:1<=fuel
 .rw[if_pos h1,if_neg (by omega)]
  have hfm:=gA fuel
  unfold rnA
  rcases mK P f with⟨g1,g2⟩|⟨i,g,g1,g2,g3,g4⟩
  .rw[g1,g2];rfl
  rw[g1,g2]
  dsimp only
  rw[g3,lk hM]
  cases hf:Dw g.ps va with
  |false=>rfl
  |true=>
  cases hp:poB P va with
  |false=>rfl
  |true=>
  rw[if_pos (show (true&&true)=true from rfl),if_neg (show ¬(true=false) from Bool.noConfusion),if_neg (show ¬(true=false) from Bool.noConfusion)]
  have hc:=fA (ME n) (mL n) P g va (ms0 P s fuel) (mz0 P s fuel) hP (hP g g4) hf (A2A hp) hM (by have:=hfm.2.2 h1;show 0<=mn fuel 1048576;omega) (by show mn fuel 1048576<=_;omega) (by show mn fuel 1048576<_;omega)
  obtain⟨x,hx⟩:∃x,IX (stF n) P g va (ms0 P s fuel)=x:=⟨_,rfl⟩
  obtain⟨y,hy⟩:∃y,enZ (stZ n) P g va (mz0 P s fuel)=y:=⟨_,rfl⟩
  rw[hx,hy]at hc
  rw[hx,hy]
  obtain⟨xb,xv,xm⟩:=x
  obtain⟨yv,ym⟩:=y
  cases xb with
  |true=>
   have hq:Pq xm ym:=hc.b rfl
   have hr:rnZ (true,xv,xm)=OL xm:=if_pos rfl
   rw[hr]
   rcases hq.e with⟨e1,e2,e3,e4,e5,e6⟩|⟨e1,e2,e3,e4,e5,e6⟩
   .have hm:OL xm=xm:=if_neg (by rw[e1];decide)
    have ho:S4 yv ym={ ym with e:=1,v:=0 }:=if_pos (by rw[e2];rfl)
    rw[hm]
    dsimp only
    rw[ho]
    unfold ouC
    rw[e1,e6]
    dsimp only
    rw[e3,e4,e5,hq.cs,hq.ar]
   have hm:OL xm=xm:=if_neg (by rw[e1];decide)
   have ho:S4 yv ym={ ym with e:=2,v:=0,f:=[],al:=0,k:=0 }:=by
    unfold S4
    rw[if_neg (by rw[e2];decide),if_pos (by rw[e2];rfl)]
   rw[hm]
   dsimp only
   rw[ho]
   unfold ouC
   rw[e1,e3,e4,e5,e6]
   dsimp only
   rw[hq.cs,hq.ar]
  |false=>
  obtain⟨hv,hM2⟩:=hc.g rfl
  have hv:yv=xv:=hv
  have hM2:Mq P xm ym:=hM2
  have he:ym.e=0:=eq_of_beq (show (ym.e==0)=true from hM2.on)
  have hr:rnZ (false,xv,xm)={ xm with e:=0,v:=xv,f:=[],al:=0,k:=0 }:=if_neg (λh=>(by cases h))
  have ho:S4 yv ym={ ym with e:=0,v:=yv,f:=[],al:=0,k:=0 }:=by
   unfold S4
   rw[if_neg (by rw[he];decide),if_neg (by rw[he];decide)]
  rw[hr]
  dsimp only
  rw[ho,hv]
  unfold ouC
  dsimp only
  rw[hM2.cs,hM2.ar]
 rw[if_neg h1,if_pos (by omega)];rfl
theorem A6Y{f:Fn}(h:tyS f s):smR s:=
 ⟨λk=>by
  rcases k with k|k|k|k|k
  .exact(h.k0 k).2.1
  .exact(h.k5 k).2.1
  .exact(h.k6 k).2.1
  .exact(h.k7 k).1.1
  exact(h.k9 k).1,λk=>(h.k7 k).2.1,λk=>(h.kc k).1,λk a ha hp=>(((h.k8 k).2 a ha).2 hp).1⟩
theorem iH{f:Fn}:∀(m:Nat) (l:List Sm),tyB f m l->bkR m l
 |0,_,h=>h
 |m+1,l,h=>λs hs=>⟨A6Y (h s hs).1,iH m _ (h s hs).2.1,iH m _ (h s hs).2.2⟩
theorem xK{P:Pg}(h:Ii P):∀f∈P.fs,∃k,bkR k f.body:=λf hf=>by
 obtain⟨m,hm⟩:=(h f hf).b
 exact⟨m,iH m _ hm⟩
theorem eh(m:Nat):bkT m []:=Ge m
theorem KT{f:Fn}{k no:Int}{x y:List UInt8}{e g:Ex}{cd:Cd}{ar:List Ar}{th el:List Sm}(h0:k=0->AK f x≠2/\exY f e)(h1:k=1->AK f x=2)(h2:k=2->AK f x=2/\AK f y=2)(h3:k=3->AK f x=2)(h4:k=4->AK f x≠2/\AK f y=2)(h5:k=5->AK f x=2/\exY f e)(h6:k=6->AK f x≠2/\exY f e)(h7:k=7->exY f e/\exY f g)
  (h8:k=8->(x=[]∨AK f x≠2)/\∀a∈ar,(a.p=true->AK f a.s=2)/\(a.p=false->exY f a.e)) (h9:k=9->exY f e) (hc:k=10∨k=11∨k=12->cdY f cd):tyS f (.mk k x y e g cd ar th el no):=⟨h0,h1,h2,h3,h4,h5,h6,h7,h8,h9,hc⟩
theorem A6Z{f:Fn}{a:Ar}(hr:a.p=false->exR a.e)(h:(raS f a).2=true):((raS f a).1.p=true->AK f (raS f a).1.s=2)/\((raS f a).1.p=false->exY f (raS f a).1.e):=by
 obtain⟨p,s,e⟩:=a
 unfold raS at h ⊢
 cases p with
 |true=>
  rw[if_pos rfl]at h ⊢
  exact⟨λ_=>eq_of_beq h,λhh=>(by cases hh)⟩
 |false=>
 rw[if_neg (λhh=>(by cases hh))]at h ⊢
 by_cases m1:Ld f e=true
 .rw[if_pos m1]
  refine⟨λ_=>?_,λhh=>(by cases hh)⟩
  exact AAH
 rw[if_neg m1]at h ⊢
 exact⟨λhh=>(by cases hh),λ_=>⟨hr rfl,h⟩⟩
theorem A6a{f:Fn}(hr:smR s)(h:(rsS f s).2=true):tyS f (rsS f s).1:=by
 obtain⟨k,x,y,e,g,cd,ar,th,el,no⟩:=s
 obtain⟨r1,r2,r3,r4⟩:=hr
 dsimp only[Sm.k,Sm.e,Sm.f,Sm.cd,Sm.ar]at r1 r2 r3 r4
 by_cases c0:k=0
 .subst c0
  by_cases m0:(AK f x==2)=true
  .by_cases m1:Ld f e=true
   .have q:rsS f (.mk 0 x y e g cd ar th el no)=(.mk 2 x e.nm .nil .nil .nil [] [] [] no,true):=by simp only[rsS];rw[if_pos (by decide),if_pos m0,if_pos m1]
    rw[q]
    have hy:AK f e.nm=2:=by
     exact AAH
    exact KT (λk=>by omega) (λk=>by omega) (λ_=>⟨eq_of_beq m0,hy⟩) (λk=>by omega) (λk=>by omega) (λk=>by omega) (λk=>by omega) (λk=>by omega) (λk=>by omega) (λk=>by omega) (λk=>by omega)
   have q:rsS f (.mk 0 x y e g cd ar th el no)=(.mk 0 x y e g cd ar th el no,false):=by simp only[rsS];rw[if_pos (by decide),if_pos m0,if_neg m1]
   rw[q]at h;cases h
  have q:rsS f (.mk 0 x y e g cd ar th el no)=(.mk 0 x y e g cd ar th el no,D9 f e):=by simp only[rsS];rw[if_pos (by decide),if_neg m0]
  rw[q]at h ⊢
  exact KT (λ_=>⟨by simpa using m0,r1 (.inl rfl),h⟩) (λk=>by omega) (λk=>by omega) (λk=>by omega) (λk=>by omega) (λk=>by omega) (λk=>by omega) (λk=>by omega) (λk=>by omega) (λk=>by omega) (λk=>by omega)
 by_cases c2:k=2
 .subst c2
  have q:rsS f (.mk 2 x y e g cd ar th el no)=(.mk 2 x y e g cd ar th el no,AK f x==2&&AK f y==2):=rfl
  rw[q]at h ⊢
  have h:(AK f x==2&&AK f y==2)=true:=h
  try simp only[and_eq_true,or_eq_true,beq_iff_eq,bne_iff_ne]at h
  exact KT (λk=>by omega) (λk=>by omega) (λ_=>h) (λk=>by omega) (λk=>by omega) (λk=>by omega) (λk=>by omega) (λk=>by omega) (λk=>by omega) (λk=>by omega) (λk=>by omega)
 by_cases c1:k=1
 .subst c1
  have q:rsS f (.mk 1 x y e g cd ar th el no)=(.mk 1 x y e g cd ar th el no,AK f x==2&&AK f y==0):=rfl
  rw[q]at h ⊢
  have h:(AK f x==2&&AK f y==0)=true:=h
  try simp only[and_eq_true,or_eq_true,beq_iff_eq,bne_iff_ne]at h
  exact KT (λk=>by omega) (λ_=>h.1) (λk=>by omega) (λk=>by omega) (λk=>by omega) (λk=>by omega) (λk=>by omega) (λk=>by omega) (λk=>by omega) (λk=>by omega) (λk=>by omega)
 by_cases c3:k=3
 .subst c3
  have q:rsS f (.mk 3 x y e g cd ar th el no)=(.mk 3 x y e g cd ar th el no,AK f x==2):=rfl
  rw[q]at h ⊢
  have h:(AK f x==2)=true:=h
  try simp only[and_eq_true,or_eq_true,beq_iff_eq,bne_iff_ne]at h
  exact KT (λk=>by omega) (λk=>by omega) (λk=>by omega) (λ_=>h) (λk=>by omega) (λk=>by omega) (λk=>by omega) (λk=>by omega) (λk=>by omega) (λk=>by omega) (λk=>by omega)
 by_cases c4:k=4
 .subst c4
  have q:rsS f (.mk 4 x y e g cd ar th el no)=(.mk 4 x y e g cd ar th el no,AK f x != 2&&AK f y==2):=rfl
  rw[q]at h ⊢
  have h:(AK f x != 2&&AK f y==2)=true:=h
  try simp only[and_eq_true,or_eq_true,beq_iff_eq,bne_iff_ne]at h
  exact KT (λk=>by omega) (λk=>by omega) (λk=>by omega) (λk=>by omega) (λ_=>h) (λk=>by omega) (λk=>by omega) (λk=>by omega) (λk=>by omega) (λk=>by omega) (λk=>by omega)
 by_cases c5:k=5
 .subst c5
  have q:rsS f (.mk 5 x y e g cd ar th el no)=(.mk 5 x y e g cd ar th el no,AK f x==2&&D9 f e):=rfl
  rw[q]at h ⊢
  have h:(AK f x==2&&D9 f e)=true:=h
  try simp only[and_eq_true,or_eq_true,beq_iff_eq,bne_iff_ne]at h
  exact KT (λk=>by omega) (λk=>by omega) (λk=>by omega) (λk=>by omega) (λk=>by omega) (λ_=>⟨h.1,r1 (.inr (.inl rfl)),h.2⟩) (λk=>by omega) (λk=>by omega) (λk=>by omega) (λk=>by omega) (λk=>by omega)
 by_cases c6:k=6
 .subst c6
  have q:rsS f (.mk 6 x y e g cd ar th el no)=(.mk 6 x y e g cd ar th el no,AK f x != 2&&AK f y==0&&D9 f e):=rfl
  rw[q]at h ⊢
  have h:(AK f x != 2&&AK f y==0&&D9 f e)=true:=h
  try simp only[and_eq_true,or_eq_true,beq_iff_eq,bne_iff_ne]at h
  exact KT (λk=>by omega) (λk=>by omega) (λk=>by omega) (λk=>by omega) (λk=>by omega) (λk=>by omega) (λ_=>⟨h.1.1,r1 (.inr (.inr (.inl rfl))),h.2⟩) (λk=>by omega) (λk=>by omega) (λk=>by omega) (λk=>by omega)
 by_cases c7:k=7
 .subst c7
  have q:rsS f (.mk 7 x y e g cd ar th el no)=(.mk 7 x y e g cd ar th el no,AK f y==0&&D9 f e&&D9 f g):=rfl
  rw[q]at h ⊢
  have h:(AK f y==0&&D9 f e&&D9 f g)=true:=h
  try simp only[and_eq_true,or_eq_true,beq_iff_eq,bne_iff_ne]at h
  exact KT (λk=>by omega) (λk=>by omega) (λk=>by omega) (λk=>by omega) (λk=>by omega) (λk=>by omega) (λk=>by omega) (λ_=>⟨⟨r1 (.inr (.inr (.inr (.inl rfl)))),h.1.2⟩,r2 rfl,h.2⟩) (λk=>by omega) (λk=>by omega) (λk=>by omega)
 by_cases c8:k=8
 .subst c8
  have q:rsS f (.mk 8 x y e g cd ar th el no)=(.mk 8 x y e g cd (raL f ar) th el no,(x==[]||AK f x != 2)&&AK f y==0&&raB f ar):=rfl
  rw[q]at h ⊢
  have h:((x==[]||AK f x != 2)&&AK f y==0&&raB f ar)=true:=h
  simp only[and_eq_true,or_eq_true,beq_iff_eq,bne_iff_ne]at h
  obtain⟨⟨hx,_⟩,hb⟩:=h
  refine KT (λk=>by omega) (λk=>by omega) (λk=>by omega) (λk=>by omega) (λk=>by omega) (λk=>by omega) (λk=>by omega) (λk=>by omega) (λ_=>⟨hx,λa ha=>?_⟩) (λk=>by omega) (λk=>by omega)
  obtain⟨b,hbm,rfl⟩:=List.mem_map.1 ha
  exact A6Z (r4 rfl b hbm) (List.all_eq_true.1 hb b hbm)
 by_cases c9:k=9
 .subst c9
  have q:rsS f (.mk 9 x y e g cd ar th el no)=(.mk 9 x y e g cd ar th el no,D9 f e):=rfl
  rw[q]at h ⊢
  have h:(D9 f e)=true:=h
  try simp only[and_eq_true,or_eq_true,beq_iff_eq,bne_iff_ne]at h
  exact KT (λk=>by omega) (λk=>by omega) (λk=>by omega) (λk=>by omega) (λk=>by omega) (λk=>by omega) (λk=>by omega) (λk=>by omega) (λk=>by omega) (λ_=>⟨r1 (.inr (.inr (.inr (.inr rfl)))),h⟩) (λk=>by omega)
 have q:rsS f (.mk k x y e g cd ar th el no)=(.mk k x y e g cd ar th el no,J2 f cd):=by
  simp only[rsS]
  rw[if_neg (by simpa using c0),if_neg (by simpa using c2),if_neg (by simpa using c1),if_neg (by simpa using c3),if_neg (by simpa using c4),if_neg (by simpa using c5),if_neg (by simpa using c6),if_neg (by simpa using c7),if_neg (by simpa using c8),if_neg (by simpa using c9)]
 rw[q]at h ⊢
 exact KT (λk=>by omega) (λk=>by omega) (λk=>by omega) (λk=>by omega) (λk=>by omega) (λk=>by omega) (λk=>by omega) (λk=>by omega) (λk=>by omega) (λk=>by omega) (λk=>⟨r3 k,h⟩)
theorem A6b{f:Fn}(a b:List Sm)(h:tyS f s):tyS f (s.wi a b):=by cases s;exact⟨h.k0,h.k1,h.k2,h.k3,h.k4,h.k5,h.k6,h.k7,h.k8,h.k9,h.kc⟩
theorem ll{f:Fn}{h:List Sm->List Sm×Int}(ih:∀l,bkT m l->¬0<=(h l).2->tyB f (m+1) (h l).1):∀(l out:List Sm),tyB f (m+2) out->bkT (m+1) l->¬0<=(rsW h f out l).2->tyB f (m+2) (rsW h f out l).1
 |[],out,ho,_,_=>ho
 |s::r,out,ho,hl,hx=>by
  obtain⟨q1,q2,q3⟩:=hl s (List.mem_cons_self ..)
  simp only[rsW]at hx ⊢
  by_cases h1:(rsS f s).2=true
  .rw[if_pos h1]at hx ⊢
   by_cases h2:0<=(h (rsS f s).1.th).2
   .simp_all
   rw[if_neg h2]at hx ⊢
   by_cases h3:0<=(h (rsS f s).1.el).2
   .simp_all
   rw[if_neg h3]at hx ⊢
   have hth:bkT m (rsS f s).1.th:=by
    rcases (W4 f s).1 with e|e<;>rw[e]
    .exact q2
    exact eh m
   have hel:bkT m (rsS f s).1.el:=by
    rcases (W4 f s).2 with e|e<;>rw[e]
    .exact q3
    exact eh m
   refine ll ih r _ (λt ht=>?_) (λt ht=>hl t (List.mem_cons_of_mem _ ht)) hx
   rcases List.mem_append.1 ht with ht|ht
   .exact ho t ht
   rw[List.mem_singleton.1 ht,(Zf _ _ _).1,(Zf _ _ _).2]
   exact⟨A6b _ _ (A6a q1 h1),ih _ hth h2,ih _ hel h3⟩
  rw[if_neg h1]
  intro t ht;cases ht
theorem lm{f:Fn}:∀(m:Nat) (l:List Sm),bkT m l->¬0<=(rsN f m l).2->tyB f (m+1) (rsN f m l).1
 |0,l,_,_=>λs hs=>by cases hs
 |m+1,l,h,hx=>ll (lm m) l [] (λs hs=>by cases hs) h hx
theorem lp:∀(l d:List Vr),OM d l=false->(l.map Vr.s).Nodup/\∀v∈l,∀u∈d,u.s≠v.s
 |[],d,_=>⟨List.nodup_nil,λv hv=>by cases hv⟩
 |v::r,d,h=>by
  simp only[OM,Bool.or_eq_false_iff]at h
  obtain⟨i1,i2⟩:=lp r (d++[v]) h.2
  refine⟨?_,λw hw u hu=>?_⟩
  .grind
  grind
theorem WS{f g:Fn}(h:∀s,AK g s=AK f s):∀e:Ex,D9 g e=D9 f e
 | .nil=>rfl
 | .mk k n s a b=>by simp only[D9];rw[h,WS h a,WS h b]
theorem iI{f g:Fn}(h:∀s,AK g s=AK f s):∀c:Cd,J2 g c=J2 f c
 | .nil=>rfl
 | .mk k a b p q s=>by simp only[J2];rw[h,WS h a,WS h b,iI h p,iI h q]
theorem A6c{f g:Fn}(h:∀s,AK g s=AK f s)(t:tyS f s):tyS g s:=by
 have he:∀e,exY f e->exY g e:=λe q=>⟨q.1,by rw[WS h];exact q.2⟩
 obtain⟨a0,a1,a2,a3,a4,a5,a6,a7,a8,a9,ac⟩:=t
 refine⟨λk=>⟨by rw[h];exact(a0 k).1,he _ (a0 k).2⟩,λk=>by rw[h];exact a1 k,λk=>by rw[h,h];exact a2 k,λk=>by rw[h];exact a3 k,λk=>by rw[h,h];exact a4 k,λk=>⟨by rw[h];exact(a5 k).1,he _ (a5 k).2⟩,λk=>⟨by rw[h];exact(a6 k).1,he _ (a6 k).2⟩,λk=>⟨he _ (a7 k).1,he _ (a7 k).2⟩,λk=>⟨by rw[h];exact(a8 k).1,λa ha=>⟨λhp=>by rw[h];exact((a8 k).2 a ha).1 hp,λhp=>he _ (((a8 k).2 a ha).2 hp)⟩⟩,λk=>he _ (a9 k),λk=>⟨(ac k).1,by rw[iI h];exact(ac k).2⟩⟩
theorem iJ{f g:Fn}(h:∀s,AK g s=AK f s):∀(m:Nat) (l:List Sm),tyB f m l->tyB g m l
 |0,_,t=>t
 |m+1,l,t=>λs hs=>⟨A6c h (t s hs).1,iJ h m _ (t s hs).2.1,iJ h m _ (t s hs).2.2⟩
theorem pu{f:Fn}{s:List UInt8}(hb:∀k,bkT k f.body)(h:(IV f s m).2.2=0):goodF (IV f s m).1:=by
 unfold IV at h ⊢
 split
 .simp_all
 rename_i h1;rw[if_neg h1]at h
 split
 .simp_all
 rename_i h2;rw[if_neg h2]at h
 split
 .simp_all
 rename_i h3
 have hd:=(lp (f.ps++f.ls) [] (by simpa using h2)).1
 rw[List.map_append,List.nodup_append]at hd
 exact⟨hd.1,hd.2.1,m+1,iJ (f:=f) (g:=⟨f.name,f.ps,f.ls,(rsN f m f.body).1⟩) (λ_=>rfl) (m+1) _ (lm m f.body (hb m) h3)⟩
theorem xL{gl:List UInt8->List Gi}{u:Un}(h:Ii P):Ii (upP m gl P u):=by
 unfold upP
 split
 .exact h
 rename_i hg
 split
 .exact h
 split
 .exact h
 rename_i hr
 intro f hf
 have hf:f∈insF P.fs (IV (Fp u.t).1 u.s m).1:=hf
 unfold insF at hf
 rcases List.mem_append.1 hf with hf|hf
 .exact h f (List.mem_of_mem_take hf)
 rcases List.mem_cons.1 hf with rfl|hf
 .exact pu (A27 u.t) (by simpa using hr)
 exact h f (List.mem_of_mem_drop hf)
theorem ej{gl:List UInt8->List Gi}:∀(l:List Un) (P:Pg),Ii P->Ii (l.foldl (upP m gl) P)
 |[],P,h=>h
 |u::l,P,h=>ej l (upP m gl P u) (xL h)
theorem pv{g:Int}{l:List (List Int)}:Ii (sPg m (wgl g) g l):=ej (utF g l) ⟨⟨[],[]⟩,[]⟩ (λf hf=>by cases hf)
end Go.Proofs.YtapedeoheilnnaaGreat
