/- The parser's trees have all their parts. Plain. No conditions but those in each statement. -/
import Derived.Test.YtapedeoheilnnaaGreatPa8
import Derived.Test.YtapedeoheilnnaaGreatMk5
import Derived.Test.YtapedeoheilnnaaGreatZs3
set_option linter.all false
open Bool (and_eq_true or_eq_true)
namespace Go.Proofs.YtapedeoheilnnaaGreat
open Go Go.Sy Go.RowKit
variable{p:Pr}{f m:Nat}{u:Pr->R Sm}{P:Pg}{s:Sm}
theorem Nx.z{q:Pr}(h:Nx p q)(h0:q.e=0):p.e=0:=by
 by_cases hp:p.e=0
 .exact hp
 exact absurd ((h.e hp).1.symm.trans h0) hp
theorem WC(he:p.e=0)(hb:¬FU p=true):(C9 p).e≠0:=by
 have h1:(p.e==0)=true:=by simpa using he
 have hd:decide (40<=p.deep)=true:=by
  unfold FU at hb
  rw[h1]at hb
  simpa using hb
 unfold C9
 rw[if_pos h1,if_pos hd]
 exact KL (by decide) p
theorem eC{u:Pr->R Ex}(hn:∀p,okP p->Nx p (u p).2)(hu:∀p,okP p->dpU f p->(u p).2.e=0->exR (u p).1):∀(k:Nat) (a:Ex) (p:Pr),okP p->dpU f p->exR a->(Gr u k a p).2.e=0->exR (Gr u k a p).1
 |0,a,p,_,_,ha,_=>ha
 |k+1,a,p,h,hd,ha,h0=>by
  have key:∀(t:List UInt8) (o:Int),isT t p=true->(o=4∨o=5∨o=6)->(Gr u k (.mk o 0 [] a (u (adv p)).1) (u (adv p)).2).2.e=0->exR (Gr u k (.mk o 0 [] a (u (adv p)).1) (u (adv p)).2).1:=by
   intro t o hi ho h0
   have h1:=Av h hi
   have h2:=hn _ h1.ok
   exact eC hn hu k _ _ h2.ok (G6 (h1.trans h2) hd) (.inr (.inr (.inr ⟨by omega,ha,hu _ h1.ok (G6 h1 hd) ((LX hn k _ _ h2.ok).z h0)⟩))) h0
  revert h0
  simp only[Gr]
  split
  .split
   .rename_i hi;exact key _ 4 hi (by omega)
   split
   .rename_i hi;exact key _ 5 hi (by omega)
   split
   .rename_i hi;exact key _ 6 hi (by omega)
   exact λ_=>ha
  exact λ_=>ha
theorem eD{u:Pr->R Ex}(hn:∀p,okP p->Nx p (u p).2)(hu:∀p,okP p->dpU f p->(u p).2.e=0->exR (u p).1)(p:Pr)(h:okP p)(hd:dpU f p)(h0:(Es u p).2.e=0):exR (Es u p).1:=
 eC hn hu _ _ _ (hn p h).ok (G6 (hn p h) hd) (hu p h hd ((LX hn _ _ _ (hn p h).ok).z h0)) h0
theorem ky{u:Pr->R Ex}(hn:∀p,okP p->Nx p (u p).2)(hu:∀p,okP p->dpU f p->(u p).2.e=0->exR (u p).1):∀(k:Nat) (a:Ex) (p:Pr),okP p->dpU f p->exR a->(Jy u k a p).2.e=0->exR (Jy u k a p).1
 |0,a,p,_,_,ha,_=>ha
 |k+1,a,p,h,hd,ha,h0=>by
  have key:∀(t:List UInt8) (o:Int),isT t p=true->(o=2∨o=3)->(Jy u k (.mk o 0 [] a (Es u (adv p)).1) (Es u (adv p)).2).2.e=0->exR (Jy u k (.mk o 0 [] a (Es u (adv p)).1) (Es u (adv p)).2).1:=by
   intro t o hi ho h0
   have h1:=Av h hi
   have h2:=Gc hn _ h1.ok
   exact ky hn hu k _ _ h2.ok (G6 (h1.trans h2) hd) (.inr (.inr (.inr ⟨by omega,ha,eD hn hu _ h1.ok (G6 h1 hd) ((PX hn k _ _ h2.ok).z h0)⟩))) h0
  revert h0
  simp only[Jy]
  split
  .split
   .rename_i hi;exact key _ 3 hi (by omega)
   split
   .rename_i hi;exact key _ 2 hi (by omega)
   exact λ_=>ha
  exact λ_=>ha
theorem l6{u:Pr->R Ex}(hn:∀p,okP p->Nx p (u p).2)(hu:∀p,okP p->dpU f p->(u p).2.e=0->exR (u p).1)(p:Pr)(h:okP p)(hd:dpU f p)(h0:(Jz u p).2.e=0):exR (Jz u p).1:=
 ky hn hu _ _ _ (Gc hn p h).ok (G6 (Gc hn p h) hd) (eD hn hu p h hd ((PX hn _ _ _ (Gc hn p h).ok).z h0)) h0
theorem gY{A:Prop}(h:okP p)(hd:dpU 0 p):A:=by
 have:=h.2.2.2.2.1
 have:41<=p.deep+((0:Nat):Int):=hd
 omega
theorem pK:∀(f:Nat) (p:Pr),okP p->dpU f p->(unF f p).2.e=0->exR (unF f p).1
 |0,p,h,hd,_=>gY h hd
 |f+1,p,h,hd,h0=>by
  revert h0
  simp only[unF]
  split
  .exact λh0=>absurd h0 (KL (by decide) p)
  split
  .rename_i hi
   split
   .rename_i hb
    exact λh0=>.inr (.inr (.inl ⟨rfl,pK f _ (EY h hb (B6 hi).2).ok (MM h hb hd) h0⟩))
   rename_i hb;exact λh0=>absurd h0 (WC (B6 hi).1 hb)
  split
  .rename_i hi
   split
   .rename_i hb
    have h1:=EY h hb (B6 hi).2
    exact λh0=>l6 (Ix f) (pK f) _ h1.ok (MM h hb hd) ((Ae (Sn (Ix f) _ h1.ok).ok).z h0)
   rename_i hb;exact λh0=>absurd h0 (WC (B6 hi).1 hb)
  split
  .exact λ_=>.inl rfl
  split
  .exact λ_=>.inr (.inl rfl)
  exact λh0=>absurd h0 (KL (by decide) p)
theorem N1(h:okP p)(h0:(exS p).2.e=0):exR (exS p).1:=l6 (Ix 41) (pK 41) p h (K0 h) h0
theorem l7{a:Ex}(ha:exR a):∀(l:List (List UInt8)) (k:Int) (q:Pr),okP q->0<=k->k+(l.length:Int)<=6->(Mh q a l k).2.e=0->cdR (Mh q a l k).1
 |[],k,q,_,_,_,h0=>absurd h0 (KL (by decide) q)
 |t::l,k,q,h,k0,k1,h0=>by
  have hl:((t::l).length:Int)=(l.length:Int)+1:=by simp
  revert h0
  simp only[Mh]
  split
  .rename_i hi
   exact λh0=>.inr (.inr (.inr ⟨by omega,ha,N1 (Av h hi).ok h0⟩))
  exact l7 ha l (k+1) q h (by omega) (by omega)
theorem l8{u:Pr->R Cd}(hn:∀p,okP p->Nx p (u p).2)(hu:∀p,okP p->dpU f p->(u p).2.e=0->cdR (u p).1):∀(k:Nat) (a:Cd) (p:Pr),okP p->dpU f p->cdR a->(Nr u k a p).2.e=0->cdR (Nr u k a p).1
 |0,a,p,_,_,ha,_=>ha
 |k+1,a,p,h,hd,ha,h0=>by
  revert h0
  simp only[Nr]
  split
  .rename_i hi
   have h1:=Av h hi
   have h2:=hn _ h1.ok
   exact λh0=>l8 hn hu k _ _ h2.ok (G6 (h1.trans h2) hd) (.inr (.inr (.inl ⟨.inl rfl,ha,hu _ h1.ok (G6 h1 hd) ((TB hn k _ _ h2.ok).z h0)⟩))) h0
  exact λ_=>ha
theorem l9{u:Pr->R Cd}(hn:∀p,okP p->Nx p (u p).2)(hu:∀p,okP p->dpU f p->(u p).2.e=0->cdR (u p).1)(p:Pr)(h:okP p)(hd:dpU f p)(h0:(K2 u p).2.e=0):cdR (K2 u p).1:=
 l8 hn hu _ _ _ (hn p h).ok (G6 (hn p h) hd) (hu p h hd ((TB hn _ _ _ (hn p h).ok).z h0)) h0
theorem lA{u:Pr->R Cd}(hn:∀p,okP p->Nx p (u p).2)(hu:∀p,okP p->dpU f p->(u p).2.e=0->cdR (u p).1):∀(k:Nat) (a:Cd) (p:Pr),okP p->dpU f p->cdR a->(Ns u k a p).2.e=0->cdR (Ns u k a p).1
 |0,a,p,_,_,ha,_=>ha
 |k+1,a,p,h,hd,ha,h0=>by
  revert h0
  simp only[Ns]
  split
  .rename_i hi
   have h1:=Av h hi
   have h2:=Jj hn _ h1.ok
   exact λh0=>lA hn hu k _ _ h2.ok (G6 (h1.trans h2) hd) (.inr (.inr (.inl ⟨.inr rfl,ha,l9 hn hu _ h1.ok (G6 h1 hd) ((TC hn k _ _ h2.ok).z h0)⟩))) h0
  exact λ_=>ha
theorem lB{u:Pr->R Cd}(hn:∀p,okP p->Nx p (u p).2)(hu:∀p,okP p->dpU f p->(u p).2.e=0->cdR (u p).1)(p:Pr)(h:okP p)(hd:dpU f p)(h0:(Lc u p).2.e=0):cdR (Lc u p).1:=
 lA hn hu _ _ _ (Jj hn p h).ok (G6 (Jj hn p h) hd) (l9 hn hu p h hd ((TC hn _ _ _ (Jj hn p h).ok).z h0)) h0
theorem gZ:∀(f:Nat) (p:Pr),okP p->dpU f p->(DK f p).2.e=0->cdR (DK f p).1
 |0,p,h,hd,_=>gY h hd
 |f+1,p,h,hd,h0=>by
  revert h0
  simp only[DK]
  split
  .rename_i hi
   split
   .rename_i hb
    exact λh0=>.inr (.inl ⟨rfl,gZ f _ (EY h hb (B6 hi).2).ok (MM h hb hd) h0⟩)
   rename_i hb;exact λh0=>absurd h0 (WC (B6 hi).1 hb)
  split
  .rename_i hi
   split
   .rename_i hb
    have h1:=EY h hb (B6 hi).2
    exact λh0=>lB (JE f) (gZ f) _ h1.ok (MM h hb hd) ((Ae (TD (JE f) _ h1.ok).ok).z h0)
   rename_i hb;exact λh0=>absurd h0 (WC (B6 hi).1 hb)
  split
  .intro _
   show cdR (SB p)
   unfold SB
   split
   .exact .inr (.inl ⟨rfl,.inl rfl⟩)
   exact .inl rfl
  exact λh0=>l7 (N1 h ((X0 _ _ _ _ (Di h).ok).z h0)) cmpO 0 _ (Di h).ok (Int.le_refl _) (by decide) h0
theorem A6D(h:okP p)(h0:(cdS p).2.e=0):cdR (cdS p).1:=lB (JE 41) (gZ 41) p h (K0 h) h0
theorem lC:∀(k:Nat) (l:List Ar) (p:Pr),okP p->(∀a∈l,exR a.e)->(argL k l p).2.e=0->∀a∈(argL k l p).1,exR a.e
 |0,l,p,_,_,_=>λa ha=>by cases ha
 |k+1,l,p,h,hl,h0=>by
  have hs:(exS p).2.e=0->∀a∈l++[(⟨false,[],(exS p).1⟩:Ar)],exR a.e:=by
   intro h0 a ha
   rcases List.mem_append.1 ha with ha|ha
   .exact hl a ha
   rw[List.mem_singleton.1 ha];exact N1 h h0
  revert h0
  simp only[argL]
  split
  .split
   .rename_i hi;exact λ_=>hs (B6 hi).1
   have h1:=Ae (t:=[44]) (Di h).ok
   exact λh0=>lC k _ _ h1.ok (hs (h1.z ((X1 k _ _ h1.ok).z h0))) h0
  exact λ_ a ha=>by cases ha
theorem lD{p:Pr}(h:okP p)(h0:(argW p).2.e=0):∀a∈(argW p).1,exR a.e:=by
 revert h0
 unfold argW
 split
 .exact λ_ a ha=>by cases ha
 exact lC _ [] p h (λa ha=>by cases ha)
theorem A6E{p:Pr}(h:okP p)(h0:(valF p).2.e=0):((valF p).1.k=0∨(valF p).1.k=6->exR (valF p).1.e)/\((valF p).1.k=8->∀a∈(valF p).1.a.getD [],exR a.e)/\((valF p).1.k=0∨(valF p).1.k=1∨(valF p).1.k=3∨(valF p).1.k=4∨(valF p).1.k=6∨(valF p).1.k=8):=by
 revert h0
 unfold valF
 split
 .exact λ_=>⟨λk=>by simp at k,λk=>by simp at k,by simp⟩
 split
 .exact λ_=>⟨λk=>by simp at k,λk=>by simp at k,by simp⟩
 split
 .exact λ_=>⟨λk=>by simp at k,λk=>by simp at k,by simp⟩
 split
 .rename_i hb
  have h1:=(Ry h hb).ok
  exact λh0=>⟨λ_=>N1 h1 ((Ae (Di h1).ok).z h0),λk=>by simp at k,by simp⟩
 split
 .rename_i hb
  exact λh0=>⟨λk=>by simp at k,λ_=>lD (Ry h hb).ok h0,by simp⟩
 exact λh0=>⟨λ_=>N1 h h0,λk=>by simp at k,by simp⟩
def bkT:Nat->List Sm->Prop
 |0,_=>True
 |m+1,l=>∀s∈l,smR s/\bkT m s.th/\bkT m s.el
abbrev lOk(l:List Sm):Prop:=∀m,bkT m l
structure sOk(s:Sm):Prop where
 g:smR s
 t:lOk s.th
 e:lOk s.el
theorem lE{l:List Sm}(h:∀s∈l,sOk s):lOk l
 |0=>trivial
 |m+1=>λs hs=>⟨(h s hs).g,(h s hs).t m,(h s hs).e m⟩
theorem GS:lOk []:=lE λs hs=>by cases hs
theorem N2{k no:Int}{x y:List UInt8}{e g:Ex}{cd:Cd}{ar:List Ar}{th el:List Sm}(h1:k=0∨k=5∨k=6∨k=7∨k=9->exR e)(h2:k=7->exR g)(h3:k=10∨k=11∨k=12->cdR cd)(h4:k=8->∀a∈ar,a.p=false->exR a.e)(h5:lOk th)(h6:lOk el):sOk (.mk k x y e g cd ar th el no):=⟨⟨h1,h2,h3,h4⟩,h5,h6⟩
theorem bQ{u:Pr->R Sm}(hn:∀p,okP p->Nx p (u p).2)(hu:∀p,okP p->dpU f p->(u p).2.e=0->sOk (u p).1):∀(k:Nat) (l:List Sm) (p:Pr),okP p->dpU f p->(∀s∈l,sOk s)->(stmtsL u k l p).2.e=0->∀s∈(stmtsL u k l p).1,sOk s
 |0,l,p,_,_,hl,_=>hl
 |k+1,l,p,h,hd,hl,h0=>by
  revert h0
  simp only[stmtsL]
  split
  .split
   .exact λ_=>hl
   split
   .exact λ_ s hs=>by cases hs
   have h1:=hn p h
   refine λh0=>bQ hn hu k _ _ h1.ok (G6 h1 hd) (λs hs=>?_) h0
   rcases List.mem_append.1 hs with hs|hs
   .exact hl s hs
   rw[List.mem_singleton.1 hs];exact hu p h hd ((Rx hn k _ _ h1.ok).z h0)
  exact λ_=>hl
theorem bR(hn:∀p,okP p->Nx p (u p).2)(hu:∀p,okP p->dpU f p->(u p).2.e=0->sOk (u p).1)(h:okP p)(hd:dpU f p)(h0:(stmtsW u p).2.e=0):lOk (stmtsW u p).1:=
 lE (bQ hn hu _ [] p h hd (λs hs=>by cases hs) h0)
theorem lF(hn:∀p,okP p->Nx p (u p).2)(hu:∀p,okP p->dpU f p->(u p).2.e=0->sOk (u p).1)(h:okP p)(hd:dpU (f+1) p)(h0:(blkW u p).2.e=0):lOk (blkW u p).1:=by
 revert h0
 unfold blkW
 split
 .rename_i hi
  split
  .rename_i hb
   exact λh0=>bR hn hu (EY h hb (B6 hi).2).ok (MM h hb hd) h0
  exact λ_=>GS
 exact λ_=>GS
theorem qy{t:List UInt8}(h:okP p)(hi:isT t p=true)(h0:(ifC p).2.e=0):cdR (ifC p).1:=A6D (Ae (Av h hi).ok).ok h0
theorem Tp(hn:∀p,okP p->Nx p (u p).2)(hu:∀p,okP p->dpU f p->(u p).2.e=0->sOk (u p).1){t:List UInt8}(h:okP p)(hi:isT t p=true)(hd:dpU (f+1) p)(h0:(ifB (blkW u) p).2.e=0):lOk (ifB (blkW u) p).1/\cdR (ifC p).1:=by
 have h1:=PR h hi
 have h2:=Ae (t:=[41]) h1.ok
 exact⟨lF hn hu h2.ok (G6 (h1.trans h2) hd) h0,qy h hi (h2.z ((LV hn h2.ok).z h0))⟩
theorem A1o(hn:∀p,okP p->Nx p (u p).2)(hu:∀p,okP p->dpU f p->(u p).2.e=0->sOk (u p).1)(no:Int)(h:okP p)(hd:dpU (f+1) p)(h0:(HR u no p).2.e=0):sOk (HR u no p).1:=by
 have hm:=FX h
 revert h0
 unfold HR
 split
 .rename_i hi
  have h1:=Av h hi
  exact λh0=>N2 (λ_=>N1 h1.ok ((Ae (Di h1.ok).ok).z h0)) (λk=>by omega) (λk=>by omega) (λk=>by omega) GS GS
 split
 .rename_i hi
  have h1:=PR h hi
  have h2:=Ae (t:=[41]) h1.ok
  exact λh0=>N2 (λk=>by omega) (λk=>by omega) (λ_=>qy h hi (h2.z ((Ae h2.ok).z h0))) (λk=>by omega) GS GS
 split
 .rename_i hi
  exact λh0=>N2 (λk=>by omega) (λk=>by omega) (λ_=>(Tp hn hu h hi hd h0).2) (λk=>by omega) (Tp hn hu h hi hd h0).1 GS
 split
 .rename_i hi
  have h1:=PS hn h hi
  split
  .rename_i hi2
   have h2:=Av h1.ok hi2
   have h3:=LV hn h2.ok
   exact λh0=>N2 (λk=>by omega) (λk=>by omega) (λ_=>(Tp hn hu h hi hd (B6 hi2).1).2) (λk=>by omega) (Tp hn hu h hi hd (B6 hi2).1).1 (lF hn hu h2.ok (G6 (h1.trans h2) hd) h0)
  exact λh0=>N2 (λk=>by omega) (λk=>by omega) (λ_=>(Tp hn hu h hi hd h0).2) (λk=>by omega) (Tp hn hu h hi hd h0).1 GS
 split
 .rename_i hi
  have h1:=Av h hi
  have h2:=FX h1.ok
  have h3:=Ae (t:=[61]) h2.ok
  exact λh0=>N2 (λ_=>N1 h3.ok ((Ae (Di h3.ok).ok).z h0)) (λk=>by omega) (λk=>by omega) (λk=>by omega) GS GS
 split
 .rename_i hi
  have h1:=Av hm.ok hi
  exact λh0=>N2 (λk=>by omega) (λk=>by omega) (λk=>by omega) (λ_ a ha _=>lD h1.ok ((Ae (Pm h1.ok).ok).z h0) a ha) GS GS
 split
 .rename_i hi
  have h1:=Av hm.ok hi
  have h2:=Di h1.ok
  have h3:=Ae (t:=[93]) h2.ok
  have h4:=Ae (t:=[61]) h3.ok
  have h5:=Di h4.ok
  exact λh0=>N2 (λ_=>N1 h1.ok (h3.z (h4.z (h5.z ((Ae h5.ok).z h0))))) (λ_=>N1 h4.ok ((Ae h5.ok).z h0)) (λk=>by omega) (λk=>by omega) GS GS
 have h1:=Ae (t:=[61]) hm.ok
 intro h0
 obtain⟨v1,v2,v3⟩:=A6E h1.ok ((Ae (Uy h1.ok).ok).z h0)
 exact N2 (λk=>v1 (by omega)) (λk=>by omega) (λk=>by omega) (λk a ha _=>v2 k a ha) GS GS
theorem qz:∀(f:Nat) (p:Pr),okP p->dpU f p->(CT f p).2.e=0->sOk (CT f p).1
 |0,p,h,hd,_=>gY h hd
 |f+1,p,h,hd,h0=>by
  revert h0
  simp only[CT]
  split
  .exact λh0=>absurd h0 (KL (by decide) p)
  exact A1o (L2 f) (qz f) _ (PQ h).ok (G6 (PQ h) hd)
theorem A1p(h:okP p):okP (KN p):=by
 unfold KN
 split
 .rename_i hi
  split
  .rename_i hb;exact(EY h hb (B6 hi).2).ok
  rename_i hb;exact(FP 51 (L3 h (by simpa using hb)).ok).ok
 exact(FP 51 h).ok
theorem A1q(s:List UInt8)(m:Nat):bkT m (GO s).1.body:=by
 unfold GO
 split
 .exact GS m
 split
 .exact GS m
 rename_i h0
 have h0:(fp6 (rxT s).1 (s.length:Int)).e=0:=by simpa using h0
 have h1:=Wo (ZY s (s.length:Int)).ok
 have h2:=A1p h1.ok
 have h3:=T1 (KN (fp3 (rxT s).1 (s.length:Int)).2).l.length [] _ h2
 refine bR (L2 41) (qz 41) h3.ok (K0 h3.ok) ?_ m
 revert h0
 unfold fp6 SA
 split
 .exact λh0=>absurd h0 (KL (by decide) _)
 exact λh0=>h0
theorem A6F(s:List Nb)(x:Nb):(stN s x).s=x.s:=by unfold stN;split<;>rfl
theorem A1r(s:List Na)(x:Na):(LG s x).s=x.s:=by unfold LG;split<;>rfl
theorem wc(p:List (List UInt8))(s:List Nb):(stCs p s).map Nb.s=p:=by
 unfold stCs blC
 rw[List.map_map,List.map_map]
 conv=>rhs;rw[<- List.map_id p]
 exact List.map_congr_left λx _=>A6F s _
theorem A1s(p:List Gy)(s:List Na):(stA p s).map Na.s=p.map Gy.s:=by
 unfold stA blA
 rw[List.map_map,List.map_map]
 exact List.map_congr_left λx _=>A1r s _
theorem A6G(P:Pg)(s:Sta)(fuel:Int):Mq P (ms0 P s fuel) (mz0 P s fuel):=⟨rfl,rfl,rfl,rfl,rfl,wc _ _,A1s _ _⟩
theorem lG{m r:Ms}(h:Mq P m r):∀va:List Va,poL r va=poB P va
 |[]=>rfl
 |a::l=>by
  rw[fM,<- lG h l]
  show ((!a.p||a.s==[]||decide (0<=r.cx a.s))&&poL r l)=_
  congr 1
  unfold poA
  cases a.p with
  |false=>rfl
  |true=>
  rw[if_pos rfl]
  cases hs:(a.s==[]) with
  |true=>rw[if_pos rfl];rfl
  |false=>
  rw[if_neg (by decide)]
  rcases h.ci a.s with⟨e1,e2⟩|⟨i,e1,e2,e3⟩
  .rw[e1,e2];rfl
  rw[e1,e2,decide_eq_true e3];rfl
theorem A1t:∀{va:List Va},poB P va=true->∀a∈va,poV P a
 |[],_,a,ha=>by cases ha
 |b::l,h,a,ha=>by
  rw[fM,and_eq_true]at h
  rcases List.mem_cons.1 ha with rfl|ha
  .intro hp
   have h1:=h.1
   unfold poA at h1
   rw[if_pos hp]at h1
   by_cases hs:(a.s==[])=true
   .exact .inl (eq_of_beq hs)
   rw[if_neg hs]at h1;exact .inr h1
  exact A1t h.2 a ha
theorem A1u{n:Nat}{f:List UInt8}{va:List Va}{s:Sta}{fuel:Int}(hP:IV P)(hn:fuel<n):ouC (clZ n P f va s fuel)=ouC (clF n P f va s fuel):=by
 have hM:=A6G P s fuel
 unfold clF clZ
 by_cases h1:1<=fuel
 .rw[if_pos h1,if_neg (by omega)]
  have hfm:=fT fuel
  unfold rnA
  rcases ld P f with⟨g1,g2⟩|⟨i,g,g1,g2,g3,g4⟩
  .rw[g1,g2];rfl
  rw[g1,g2]
  dsimp only
  rw[g3,lG hM]
  cases hf:Dn g.ps va with
  |false=>rfl
  |true=>
  cases hp:poB P va with
  |false=>rfl
  |true=>
  rw[if_pos (show (true&&true)=true from rfl),if_neg (show ¬(true=false) from Bool.noConfusion),if_neg (show ¬(true=false) from Bool.noConfusion)]
  have hc:=eP (M7 n) (lf n) P g va (ms0 P s fuel) (mz0 P s fuel) hP (hP g g4) hf (A1t hp) hM (by have:=hfm.2.2 h1;show 0<=mn fuel 1048576;omega) (by show mn fuel 1048576<=_;omega) (by show mn fuel 1048576<_;omega)
  obtain⟨x,hx⟩:∃x,II (stF n) P g va (ms0 P s fuel)=x:=⟨_,rfl⟩
  obtain⟨y,hy⟩:∃y,enZ (stZ n) P g va (mz0 P s fuel)=y:=⟨_,rfl⟩
  rw[hx,hy]at hc
  rw[hx,hy]
  obtain⟨xb,xv,xm⟩:=x
  obtain⟨yv,ym⟩:=y
  cases xb with
  |true=>
   have hq:Pq xm ym:=hc.b rfl
   have hr:rnZ (true,xv,xm)=OA xm:=if_pos rfl
   rw[hr]
   rcases hq.e with⟨e1,e2,e3,e4,e5,e6⟩|⟨e1,e2,e3,e4,e5,e6⟩
   .have hm:OA xm=xm:=if_neg (by rw[e1];decide)
    have ho:Rt yv ym={ ym with e:=1,v:=0 }:=if_pos (by rw[e2];rfl)
    rw[hm]
    dsimp only
    rw[ho]
    unfold ouC
    rw[e1,e6]
    dsimp only
    rw[e3,e4,e5,hq.cs,hq.ar]
   have hm:OA xm=xm:=if_neg (by rw[e1];decide)
   have ho:Rt yv ym={ ym with e:=2,v:=0,f:=[],al:=0,k:=0 }:=by
    unfold Rt
    rw[if_neg (by rw[e2];decide),if_pos (by rw[e2];rfl)]
   rw[hm]
   dsimp only
   rw[ho]
   unfold ouC
   rw[e1,e3,e4,e5,e6]
   dsimp only
   rw[hq.cs,hq.ar]
  |false=>
  obtain⟨hv,hM2⟩:=hc.g rfl
  have hv:yv=xv:=hv
  have hM2:Mq P xm ym:=hM2
  have he:ym.e=0:=eq_of_beq (show (ym.e==0)=true from hM2.on)
  have hr:rnZ (false,xv,xm)={ xm with e:=0,v:=xv,f:=[],al:=0,k:=0 }:=if_neg (λh=>(by cases h))
  have ho:Rt yv ym={ ym with e:=0,v:=yv,f:=[],al:=0,k:=0 }:=by
   unfold Rt
   rw[if_neg (by rw[he];decide),if_neg (by rw[he];decide)]
  rw[hr]
  dsimp only
  rw[ho,hv]
  unfold ouC
  dsimp only
  rw[hM2.cs,hM2.ar]
 rw[if_neg h1,if_pos (by omega)];rfl
theorem A6H{f:Fn}(h:tyS f s):smR s:=
 ⟨λk=>by
  rcases k with k|k|k|k|k
  .exact(h.k0 k).2.1
  .exact(h.k5 k).2.1
  .exact(h.k6 k).2.1
  .exact(h.k7 k).1.1
  exact(h.k9 k).1,λk=>(h.k7 k).2.1,λk=>(h.kc k).1,λk a ha hp=>(((h.k8 k).2 a ha).2 hp).1⟩
theorem ga{f:Fn}:∀(m:Nat) (l:List Sm),tyB f m l->bkR m l
 |0,_,h=>h
 |m+1,l,h=>λs hs=>⟨A6H (h s hs).1,ga m _ (h s hs).2.1,ga m _ (h s hs).2.2⟩
theorem we{P:Pg}(h:IV P):∀f∈P.fs,∃k,bkR k f.body:=λf hf=>by
 obtain⟨m,hm⟩:=(h f hf).b
 exact⟨m,ga m _ hm⟩
theorem eE(m:Nat):bkT m []:=GS m
theorem KK{f:Fn}{k no:Int}{x y:List UInt8}{e g:Ex}{cd:Cd}{ar:List Ar}{th el:List Sm}(h0:k=0->AH f x≠2/\exY f e)(h1:k=1->AH f x=2)(h2:k=2->AH f x=2/\AH f y=2)(h3:k=3->AH f x=2)(h4:k=4->AH f x≠2/\AH f y=2)(h5:k=5->AH f x=2/\exY f e)(h6:k=6->AH f x≠2/\exY f e)(h7:k=7->exY f e/\exY f g)
  (h8:k=8->(x=[]∨AH f x≠2)/\∀a∈ar,(a.p=true->AH f a.s=2)/\(a.p=false->exY f a.e)) (h9:k=9->exY f e) (hc:k=10∨k=11∨k=12->cdY f cd):tyS f (.mk k x y e g cd ar th el no):=⟨h0,h1,h2,h3,h4,h5,h6,h7,h8,h9,hc⟩
theorem A6I{f:Fn}{a:Ar}(hr:a.p=false->exR a.e)(h:(raS f a).2=true):((raS f a).1.p=true->AH f (raS f a).1.s=2)/\((raS f a).1.p=false->exY f (raS f a).1.e):=by
 obtain⟨p,s,e⟩:=a
 unfold raS at h ⊢
 cases p with
 |true=>
  rw[if_pos rfl]at h ⊢
  exact⟨λ_=>eq_of_beq h,λhh=>(by cases hh)⟩
 |false=>
 rw[if_neg (λhh=>(by cases hh))]at h ⊢
 by_cases m1:Mg f e=true
 .rw[if_pos m1]
  refine⟨λ_=>?_,λhh=>(by cases hh)⟩
  cases e with
  |nil=>cases m1
  |mk k' n' s' a' b'=>
  have:=(Bool.and_eq_true_iff.1 (show (k'==1&&AH f s'==2)=true from m1)).2
  exact eq_of_beq this
 rw[if_neg m1]at h ⊢
 exact⟨λhh=>(by cases hh),λ_=>⟨hr rfl,h⟩⟩
theorem A6J{f:Fn}(hr:smR s)(h:(rsS f s).2=true):tyS f (rsS f s).1:=by
 obtain⟨k,x,y,e,g,cd,ar,th,el,no⟩:=s
 obtain⟨r1,r2,r3,r4⟩:=hr
 dsimp only[Sm.k,Sm.e,Sm.f,Sm.cd,Sm.ar]at r1 r2 r3 r4
 by_cases c0:k=0
 .subst c0
  by_cases m0:(AH f x==2)=true
  .by_cases m1:Mg f e=true
   .have q:rsS f (.mk 0 x y e g cd ar th el no)=(.mk 2 x e.nm .nil .nil .nil [] [] [] no,true):=by simp only[rsS];rw[if_pos (by decide),if_pos m0,if_pos m1]
    rw[q]
    have hy:AH f e.nm=2:=by
     cases e with
     |nil=>cases m1
     |mk k' n' s' a' b'=>
     have:=(Bool.and_eq_true_iff.1 (show (k'==1&&AH f s'==2)=true from m1)).2
     exact eq_of_beq this
    exact KK (λk=>by omega) (λk=>by omega) (λ_=>⟨eq_of_beq m0,hy⟩) (λk=>by omega) (λk=>by omega) (λk=>by omega) (λk=>by omega) (λk=>by omega) (λk=>by omega) (λk=>by omega) (λk=>by omega)
   have q:rsS f (.mk 0 x y e g cd ar th el no)=(.mk 0 x y e g cd ar th el no,false):=by simp only[rsS];rw[if_pos (by decide),if_pos m0,if_neg m1]
   rw[q]at h;cases h
  have q:rsS f (.mk 0 x y e g cd ar th el no)=(.mk 0 x y e g cd ar th el no,D3 f e):=by simp only[rsS];rw[if_pos (by decide),if_neg m0]
  rw[q]at h ⊢
  exact KK (λ_=>⟨by simpa using m0,r1 (.inl rfl),h⟩) (λk=>by omega) (λk=>by omega) (λk=>by omega) (λk=>by omega) (λk=>by omega) (λk=>by omega) (λk=>by omega) (λk=>by omega) (λk=>by omega) (λk=>by omega)
 by_cases c2:k=2
 .subst c2
  have q:rsS f (.mk 2 x y e g cd ar th el no)=(.mk 2 x y e g cd ar th el no,AH f x==2&&AH f y==2):=rfl
  rw[q]at h ⊢
  have h:(AH f x==2&&AH f y==2)=true:=h
  try simp only[and_eq_true,or_eq_true,beq_iff_eq,bne_iff_ne]at h
  exact KK (λk=>by omega) (λk=>by omega) (λ_=>h) (λk=>by omega) (λk=>by omega) (λk=>by omega) (λk=>by omega) (λk=>by omega) (λk=>by omega) (λk=>by omega) (λk=>by omega)
 by_cases c1:k=1
 .subst c1
  have q:rsS f (.mk 1 x y e g cd ar th el no)=(.mk 1 x y e g cd ar th el no,AH f x==2&&AH f y==0):=rfl
  rw[q]at h ⊢
  have h:(AH f x==2&&AH f y==0)=true:=h
  try simp only[and_eq_true,or_eq_true,beq_iff_eq,bne_iff_ne]at h
  exact KK (λk=>by omega) (λ_=>h.1) (λk=>by omega) (λk=>by omega) (λk=>by omega) (λk=>by omega) (λk=>by omega) (λk=>by omega) (λk=>by omega) (λk=>by omega) (λk=>by omega)
 by_cases c3:k=3
 .subst c3
  have q:rsS f (.mk 3 x y e g cd ar th el no)=(.mk 3 x y e g cd ar th el no,AH f x==2):=rfl
  rw[q]at h ⊢
  have h:(AH f x==2)=true:=h
  try simp only[and_eq_true,or_eq_true,beq_iff_eq,bne_iff_ne]at h
  exact KK (λk=>by omega) (λk=>by omega) (λk=>by omega) (λ_=>h) (λk=>by omega) (λk=>by omega) (λk=>by omega) (λk=>by omega) (λk=>by omega) (λk=>by omega) (λk=>by omega)
 by_cases c4:k=4
 .subst c4
  have q:rsS f (.mk 4 x y e g cd ar th el no)=(.mk 4 x y e g cd ar th el no,AH f x != 2&&AH f y==2):=rfl
  rw[q]at h ⊢
  have h:(AH f x != 2&&AH f y==2)=true:=h
  try simp only[and_eq_true,or_eq_true,beq_iff_eq,bne_iff_ne]at h
  exact KK (λk=>by omega) (λk=>by omega) (λk=>by omega) (λk=>by omega) (λ_=>h) (λk=>by omega) (λk=>by omega) (λk=>by omega) (λk=>by omega) (λk=>by omega) (λk=>by omega)
 by_cases c5:k=5
 .subst c5
  have q:rsS f (.mk 5 x y e g cd ar th el no)=(.mk 5 x y e g cd ar th el no,AH f x==2&&D3 f e):=rfl
  rw[q]at h ⊢
  have h:(AH f x==2&&D3 f e)=true:=h
  try simp only[and_eq_true,or_eq_true,beq_iff_eq,bne_iff_ne]at h
  exact KK (λk=>by omega) (λk=>by omega) (λk=>by omega) (λk=>by omega) (λk=>by omega) (λ_=>⟨h.1,r1 (.inr (.inl rfl)),h.2⟩) (λk=>by omega) (λk=>by omega) (λk=>by omega) (λk=>by omega) (λk=>by omega)
 by_cases c6:k=6
 .subst c6
  have q:rsS f (.mk 6 x y e g cd ar th el no)=(.mk 6 x y e g cd ar th el no,AH f x != 2&&AH f y==0&&D3 f e):=rfl
  rw[q]at h ⊢
  have h:(AH f x != 2&&AH f y==0&&D3 f e)=true:=h
  try simp only[and_eq_true,or_eq_true,beq_iff_eq,bne_iff_ne]at h
  exact KK (λk=>by omega) (λk=>by omega) (λk=>by omega) (λk=>by omega) (λk=>by omega) (λk=>by omega) (λ_=>⟨h.1.1,r1 (.inr (.inr (.inl rfl))),h.2⟩) (λk=>by omega) (λk=>by omega) (λk=>by omega) (λk=>by omega)
 by_cases c7:k=7
 .subst c7
  have q:rsS f (.mk 7 x y e g cd ar th el no)=(.mk 7 x y e g cd ar th el no,AH f y==0&&D3 f e&&D3 f g):=rfl
  rw[q]at h ⊢
  have h:(AH f y==0&&D3 f e&&D3 f g)=true:=h
  try simp only[and_eq_true,or_eq_true,beq_iff_eq,bne_iff_ne]at h
  exact KK (λk=>by omega) (λk=>by omega) (λk=>by omega) (λk=>by omega) (λk=>by omega) (λk=>by omega) (λk=>by omega) (λ_=>⟨⟨r1 (.inr (.inr (.inr (.inl rfl)))),h.1.2⟩,r2 rfl,h.2⟩) (λk=>by omega) (λk=>by omega) (λk=>by omega)
 by_cases c8:k=8
 .subst c8
  have q:rsS f (.mk 8 x y e g cd ar th el no)=(.mk 8 x y e g cd (raL f ar) th el no,(x==[]||AH f x != 2)&&AH f y==0&&raB f ar):=rfl
  rw[q]at h ⊢
  have h:((x==[]||AH f x != 2)&&AH f y==0&&raB f ar)=true:=h
  simp only[and_eq_true,or_eq_true,beq_iff_eq,bne_iff_ne]at h
  obtain⟨⟨hx,_⟩,hb⟩:=h
  refine KK (λk=>by omega) (λk=>by omega) (λk=>by omega) (λk=>by omega) (λk=>by omega) (λk=>by omega) (λk=>by omega) (λk=>by omega) (λ_=>⟨hx,λa ha=>?_⟩) (λk=>by omega) (λk=>by omega)
  obtain⟨b,hbm,rfl⟩:=List.mem_map.1 ha
  exact A6I (r4 rfl b hbm) (List.all_eq_true.1 hb b hbm)
 by_cases c9:k=9
 .subst c9
  have q:rsS f (.mk 9 x y e g cd ar th el no)=(.mk 9 x y e g cd ar th el no,D3 f e):=rfl
  rw[q]at h ⊢
  have h:(D3 f e)=true:=h
  try simp only[and_eq_true,or_eq_true,beq_iff_eq,bne_iff_ne]at h
  exact KK (λk=>by omega) (λk=>by omega) (λk=>by omega) (λk=>by omega) (λk=>by omega) (λk=>by omega) (λk=>by omega) (λk=>by omega) (λk=>by omega) (λ_=>⟨r1 (.inr (.inr (.inr (.inr rfl)))),h⟩) (λk=>by omega)
 have q:rsS f (.mk k x y e g cd ar th el no)=(.mk k x y e g cd ar th el no,J6 f cd):=by
  simp only[rsS]
  rw[if_neg (by simpa using c0),if_neg (by simpa using c2),if_neg (by simpa using c1),if_neg (by simpa using c3),if_neg (by simpa using c4),if_neg (by simpa using c5),if_neg (by simpa using c6),if_neg (by simpa using c7),if_neg (by simpa using c8),if_neg (by simpa using c9)]
 rw[q]at h ⊢
 exact KK (λk=>by omega) (λk=>by omega) (λk=>by omega) (λk=>by omega) (λk=>by omega) (λk=>by omega) (λk=>by omega) (λk=>by omega) (λk=>by omega) (λk=>by omega) (λk=>⟨r3 k,h⟩)
theorem A6K{f:Fn}(a b:List Sm)(h:tyS f s):tyS f (s.wi a b):=by cases s;exact⟨h.k0,h.k1,h.k2,h.k3,h.k4,h.k5,h.k6,h.k7,h.k8,h.k9,h.kc⟩
theorem lH{f:Fn}{h:List Sm->List Sm×Int}(ih:∀l,bkT m l->¬0<=(h l).2->tyB f (m+1) (h l).1):∀(l out:List Sm),tyB f (m+2) out->bkT (m+1) l->¬0<=(rsW h f out l).2->tyB f (m+2) (rsW h f out l).1
 |[],out,ho,_,_=>ho
 |s::r,out,ho,hl,hx=>by
  obtain⟨q1,q2,q3⟩:=hl s (List.mem_cons_self ..)
  simp only[rsW]at hx ⊢
  by_cases h1:(rsS f s).2=true
  .rw[if_pos h1]at hx ⊢
   by_cases h2:0<=(h (rsS f s).1.th).2
   .rw[if_pos h2]at hx;exact absurd h2 hx
   rw[if_neg h2]at hx ⊢
   by_cases h3:0<=(h (rsS f s).1.el).2
   .rw[if_pos h3]at hx;exact absurd h3 hx
   rw[if_neg h3]at hx ⊢
   have hth:bkT m (rsS f s).1.th:=by
    rcases (Vm f s).1 with e|e<;>rw[e]
    .exact q2
    exact eE m
   have hel:bkT m (rsS f s).1.el:=by
    rcases (Vm f s).2 with e|e<;>rw[e]
    .exact q3
    exact eE m
   refine lH ih r _ (λt ht=>?_) (λt ht=>hl t (List.mem_cons_of_mem _ ht)) hx
   rcases List.mem_append.1 ht with ht|ht
   .exact ho t ht
   rw[List.mem_singleton.1 ht,(ZK _ _ _).1,(ZK _ _ _).2]
   exact⟨A6K _ _ (A6J q1 h1),ih _ hth h2,ih _ hel h3⟩
  rw[if_neg h1]
  intro t ht;cases ht
theorem lI{f:Fn}:∀(m:Nat) (l:List Sm),bkT m l->¬0<=(rsN f m l).2->tyB f (m+1) (rsN f m l).1
 |0,l,_,_=>λs hs=>by cases hs
 |m+1,l,h,hx=>lH (lI m) l [] (λs hs=>by cases hs) h hx
theorem lJ:∀(l d:List Vr),OD d l=false->(l.map Vr.s).Nodup/\∀v∈l,∀u∈d,u.s≠v.s
 |[],d,_=>⟨List.nodup_nil,λv hv=>by cases hv⟩
 |v::r,d,h=>by
  simp only[OD,Bool.or_eq_false_iff]at h
  obtain⟨i1,i2⟩:=lJ r (d++[v]) h.2
  refine⟨?_,λw hw u hu=>?_⟩
  .rw[List.map_cons,List.nodup_cons]
   refine⟨λhm=>?_,i1⟩
   obtain⟨w,hw,e⟩:=List.mem_map.1 hm
   exact i2 w hw v (List.mem_append_right _ (List.mem_singleton.2 rfl)) e.symm
  rcases List.mem_cons.1 hw with rfl|hw
  .intro e
   have:=List.any_eq_false.1 h.1 u hu
   rw[e]at this
   simp at this
  exact i2 w hw u (List.mem_append_left _ hu)
theorem WD{f g:Fn}(h:∀s,AH g s=AH f s):∀e:Ex,D3 g e=D3 f e
 | .nil=>rfl
 | .mk k n s a b=>by simp only[D3];rw[h,WD h a,WD h b]
theorem gd{f g:Fn}(h:∀s,AH g s=AH f s):∀c:Cd,J6 g c=J6 f c
 | .nil=>rfl
 | .mk k a b p q s=>by simp only[J6];rw[h,WD h a,WD h b,gd h p,gd h q]
theorem A6L{f g:Fn}(h:∀s,AH g s=AH f s)(t:tyS f s):tyS g s:=by
 have he:∀e,exY f e->exY g e:=λe q=>⟨q.1,by rw[WD h];exact q.2⟩
 obtain⟨a0,a1,a2,a3,a4,a5,a6,a7,a8,a9,ac⟩:=t
 refine⟨λk=>⟨by rw[h];exact(a0 k).1,he _ (a0 k).2⟩,λk=>by rw[h];exact a1 k,λk=>by rw[h,h];exact a2 k,λk=>by rw[h];exact a3 k,λk=>by rw[h,h];exact a4 k,λk=>⟨by rw[h];exact(a5 k).1,he _ (a5 k).2⟩,λk=>⟨by rw[h];exact(a6 k).1,he _ (a6 k).2⟩,λk=>⟨he _ (a7 k).1,he _ (a7 k).2⟩,λk=>⟨by rw[h];exact(a8 k).1,λa ha=>⟨λhp=>by rw[h];exact((a8 k).2 a ha).1 hp,λhp=>he _ (((a8 k).2 a ha).2 hp)⟩⟩,λk=>he _ (a9 k),λk=>⟨(ac k).1,by rw[gd h];exact(ac k).2⟩⟩
theorem gf{f g:Fn}(h:∀s,AH g s=AH f s):∀(m:Nat) (l:List Sm),tyB f m l->tyB g m l
 |0,_,t=>t
 |m+1,l,t=>λs hs=>⟨A6L h (t s hs).1,gf h m _ (t s hs).2.1,gf h m _ (t s hs).2.2⟩
theorem pL{f:Fn}{s:List UInt8}(hb:∀k,bkT k f.body)(h:(JS f s m).2.2=0):goodF (JS f s m).1:=by
 unfold JS at h ⊢
 split
 .rename_i h1;rw[if_pos h1]at h;exact absurd h (by show ¬(62:Int)=0;decide)
 rename_i h1;rw[if_neg h1]at h
 split
 .rename_i h2;rw[if_pos h2]at h;exact absurd h (by show ¬(60:Int)=0;decide)
 rename_i h2;rw[if_neg h2]at h
 split
 .rename_i h3;rw[if_pos h3]at h;exact absurd h (by show ¬(61:Int)=0;decide)
 rename_i h3
 have hd:=(lJ (f.ps++f.ls) [] (by simpa using h2)).1
 rw[List.map_append,List.nodup_append]at hd
 exact⟨hd.1,hd.2.1,m+1,gf (f:=f) (g:=⟨f.name,f.ps,f.ls,(rsN f m f.body).1⟩) (λ_=>rfl) (m+1) _ (lI m f.body (hb m) h3)⟩
theorem wg{gl:List UInt8->List Gi}{u:Un}(h:IV P):IV (upP m gl P u):=by
 unfold upP
 split
 .exact h
 rename_i hg
 split
 .exact h
 split
 .exact h
 rename_i hr
 intro f hf
 have hf:f∈insF P.fs (JS (GO u.t).1 u.s m).1:=hf
 unfold insF at hf
 rcases List.mem_append.1 hf with hf|hf
 .exact h f (List.mem_of_mem_take hf)
 rcases List.mem_cons.1 hf with rfl|hf
 .exact pL (A1q u.t) (by simpa using hr)
 exact h f (List.mem_of_mem_drop hf)
theorem eF{gl:List UInt8->List Gi}:∀(l:List Un) (P:Pg),IV P->IV (l.foldl (upP m gl) P)
 |[],P,h=>h
 |u::l,P,h=>eF l (upP m gl P u) (wg h)
theorem pM{g:Int}{l:List (List Int)}:IV (sPg m (wgl g) g l):=eF (utF g l) ⟨⟨[],[]⟩,[]⟩ (λf hf=>by cases hf)
end Go.Proofs.YtapedeoheilnnaaGreat
