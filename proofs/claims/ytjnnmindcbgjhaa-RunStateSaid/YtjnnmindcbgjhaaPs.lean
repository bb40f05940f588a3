/- The seat's programs, walked. Conditions: bytes; units that are not too deep. -/
import Derived.Test.YtjnnmindcbgjhaaMk5
import Derived.Test.YtjnnmindcbgjhaaRmn
import Derived.Test.YtjnnmindcbgjhaaPa9
import Derived.Test.YtjnnmindcbgjhaaCo
import Derived.Test.YtjnnmindcbgjhaaSy38
set_option linter.unusedVariables false
set_option linter.unusedSimpArgs false
open List (length_append length_cons length_nil mem_append)
namespace Go.Proofs.Ytjnnmindcbgjhaa
open Go Go.Sy Go.RowKit
theorem vC {l:List Un}:∀q,some q∈[some (ML.vec zUc (l.map Un.c))]→DP 1 q:=by
 intro q hq c hc
 simp only[List.mem_cons,jS,List.not_mem_nil,or_false]at hq
 subst hq
 simp only[ML.cells]at hc
 obtain⟨r,hr,hcr⟩:=List.mem_flatMap.1 hc
 obtain⟨u,_,rfl⟩:=List.mem_map.1 hr
 simp only[Un.c,id,List.mem_cons,List.not_mem_nil,or_false]at hcr
 rcases hcr with rfl|rfl<;>exact .inl rfl
section
variable {X:Ctx} {w0:World}
noncomputable def Sj:Sy.Spec Try.prog X w0:=Di 30 Try.call30 Tg We (fun _=>false) Py M_Un (fun _=>mlO [])
 (fun p _ _=>⟨rfl,rfl,rfl,vC⟩) (fun a _ h=>by cases h) (fun a _ h=>by cases h) (fun _=>rfl) nC
theorem gp:(Sj (X:=X) (w0:=w0)).f=30:=rfl
theorem gq (t:Nat) (args:List SV) (H:Hp):(Sj (X:=X) (w0:=w0)).fn t args H=spL X (Tg.d H args) t H We (fun _=>false) Py M_Un (fun _=>mlO []):=rfl
end
theorem vD (ρ:Nat→Nat) (l:List Un):(l.map Un.c).map (fun r=>r.map (rnC ρ))=l.map Un.c:=G4 Un.c (fun _=>rfl) l
theorem dg:∀l:List Un,Of mUn.d (l.map Un.c)=some l
 |[]=>rfl
 |u::l=>by
  have h:mUn.d (Un.c u)=some u:=Hc ZH u
  simp only[List.map_cons,Of,h,dg l]
theorem ZR (g:Int) (l:List (List Int)):(utF g l).length≤10:=by
 have h1:=Ul l (utN l)
 have h2:utN l≤4:=by unfold utN;split<;>omega
 unfold utF
 split
 ·simp only[length_append,List.length_take,length_cons,List.length_drop];omega
 ·simp only[jL3];omega
def sPg (m:Nat) (gl:List UInt8→List Gi) (g:Int) (l:List (List Int)):Pg:=prF m gl (utF g l)
abbrev XD (n:Nat) (m:Nat) (gl:List UInt8→List Gi) (g:Int) (l:List (List Int)):Prop:=We (g,l,())∧∀u∈utF g l,okUn n m gl u
abbrev R4 (n:Nat) (m:Nat) (gl:List UInt8→List Gi) (g:Int) (l:List (List Int)):SV:=.agg (pqR (sPg m gl g l))
noncomputable abbrev XE:ArgC ((Int)×(List (List Int))×Unit):=(acS (cInt .u8) (acS (cBl) ac0))
abbrev dh (n:Nat) (m:Nat) (gl:List UInt8→List Gi):Prop:=CY Try.prog 13 XE (fun p:(Int)×(List (List Int))×Unit=>XD n m gl p.1 p.2.1) (fun p:(Int)×(List (List Int))×Unit=>R4 n m gl p.1 p.2.1)
theorem vE (n:Nat) (m:Nat) (gl:List UInt8→List Gi):∀p:(Int)×(List (List Int))×Unit,((fun p:(Int)×(List (List Int))×Unit=>R4 n m gl p.1 p.2.1) p).names=[]:=by intro p;rfl
noncomputable def JY {X:Ctx} {w0:World} (n:Nat) (m:Nat) (gl:List UInt8→List Gi) (h:dh n m gl):Sy.Spec Try.prog X w0:=D4 13 Try.call13 XE (fun p:(Int)×(List (List Int))×Unit=>XD n m gl p.1 p.2.1) (fun p:(Int)×(List (List Int))×Unit=>R4 n m gl p.1 p.2.1) (vE n m gl) h
set_option maxRecDepth 20000 in set_option maxHeartbeats 16000000 in
theorem lB (n:Nat) (m:Nat) (gl:List UInt8→List Gi):dh n m gl:=by
 rintro ⟨g,l,_u⟩ w fz xs hc hfz hl hx
 refine BZ Try.func13 rfl w fz [Sj,(Rp n m gl (y_Prog n m gl))] [] XE (fun p:(Int)×(List (List Int))×Unit=>R4 n m gl p.1 p.2.1) _ xs hfz hl hx (jN rfl) ?_
 clear hx hl hfz xs
 simp only[Try.f13]
 obtain⟨h1,h2⟩:=hc
 simp only[↓eB,seval,go_sem,gp,gq,Rp,RB,PX,PY,PW,lmH,lmO,chL,ML.ch,DR,DS,EA,CS,Ea,nmX,xt,Dm,ML.ren,rnC,EP,F9,vrQ,DA,fcN,↓A1,Wc,Wd,Un.c,zUc,Gz,cv,KU,KT,Py,M_Un,vD,dg,pqR]
 refine⟨h1,⟨ZR g l,h2⟩,?_⟩
 refine A0 [] ?_;simp only[↓eB,seval,go_sem,bne,R4,sPg,pqR]
end Go.Proofs.Ytjnnmindcbgjhaa
namespace Go.Proofs.Ytjnnmindcbgjhaa
open Go Go.Sy Go.RowKit
def n4:List (List Int):=[[],[],[],[]]
def wgl (g:Int):List UInt8→List Gi:=fun _=>glLs g
end Go.Proofs.Ytjnnmindcbgjhaa
namespace Go.Proofs.Ytjnnmindcbgjhaa
open Go Go.Sy Go.RowKit Go.ChangeShapes Go.WideShapes Go.ChangeAt
end Go.Proofs.Ytjnnmindcbgjhaa
namespace Go.Proofs.Ytjnnmindcbgjhaa
open Go Go.Sy Go.RowKit
theorem OkS.mono {n n':Nat} {s:Sm} (h:OkS n s) (hn:n≤n'):OkS n' s:=
 ⟨Nat.lt_of_lt_of_le h.e hn,Nat.lt_of_lt_of_le h.f hn,Nat.lt_of_lt_of_le h.c hn,fun a ha=>Nat.lt_of_lt_of_le (h.a a ha) hn,h.l⟩
theorem Ft {n n':Nat} (hn:n≤n'):∀{m m':Nat} {l:List Sm},okB n m l→m≤m'→okB n' m' l
 |0,_,_,h,_=>h.elim
 |m+1,0,_,_,hm=>absurd hm (by omega)
 |m+1,m'+1,l,h,hm=>⟨h.1,fun s hs=>by
   obtain⟨h1,h2,h3⟩:=h.2 s hs
   exact⟨h1.mono hn,Ft hn h2 (by omega),Ft hn h3 (by omega)⟩⟩
def G5 (s:Sm):Prop:=∃n m,OkS n s∧okB n m s.th∧okB n m s.el
theorem di:∀l:List Ar,∃n,∀a∈l,a.e.dp<n
 |[]=>⟨0,fun a h=>by cases h⟩
 |b::l=>by
  obtain⟨n,h⟩:=di l
  refine⟨max n (b.e.dp+1),fun a ha=>?_⟩
  rcases List.mem_cons.1 ha with rfl|ha
  ·exact Nat.lt_of_lt_of_le (Nat.lt_succ_self _) (Nat.le_max_right _ _)
  ·exact Nat.lt_of_lt_of_le (h a ha) (Nat.le_max_left _ _)
theorem W1:∀l:List Sm,(∀s∈l,G5 s)→∃n m,∀s∈l,OkS n s∧okB n m s.th∧okB n m s.el
 |[],_=>⟨0,0,fun s h=>by cases h⟩
 |t::l,h=>by
  obtain⟨n,m,h1⟩:=W1 l fun s hs=>h s (List.mem_cons_of_mem _ hs)
  obtain⟨n',m',a,b,c⟩:=h t (List.mem_cons_self ..)
  refine⟨max n n',max m m',fun s hs=>?_⟩
  rcases List.mem_cons.1 hs with rfl|hs
  ·exact⟨a.mono (Nat.le_max_right _ _),Ft (Nat.le_max_right _ _) b (Nat.le_max_right _ _),Ft (Nat.le_max_right _ _) c (Nat.le_max_right _ _)⟩
  ·obtain⟨a,b,c⟩:=h1 s hs
   exact⟨a.mono (Nat.le_max_left _ _),Ft (Nat.le_max_left _ _) b (Nat.le_max_left _ _),Ft (Nat.le_max_left _ _) c (Nat.le_max_left _ _)⟩
theorem R5 {l:List Sm} (h:∀s∈l,G5 s) (hl:l.length≤5000):∃n m,okB n m l:=by
 obtain⟨n,m,h1⟩:=W1 l h
 exact⟨n,m+1,hl,h1⟩
theorem Rr (k:Int) (x y:List UInt8) (e g:Ex) (cd:Cd) (ar:List Ar) (th el:List Sm) (no:Int) (ha:ar.length≤5000) (ht:th.length≤5000) (he:el.length≤5000) (h1:∀s∈th,G5 s) (h2:∀s∈el,G5 s):G5 (.mk k x y e g cd ar th el no):=by
 obtain⟨n1,m1,b1⟩:=R5 h1 ht
 obtain⟨n2,m2,b2⟩:=R5 h2 he
 obtain⟨n3,b3⟩:=di ar
 refine⟨n1+n2+n3+e.dp+g.dp+cd.dp+1,m1+m2,⟨?_,?_,?_,fun a h=>?_,ha⟩,Ft (by omega) b1 (by omega),Ft (by omega) b2 (by omega)⟩
 ·show e.dp<_;omega
 ·show g.dp<_;omega
 ·show cd.dp<_;omega
 ·have:=b3 a h;omega
theorem SR {st:Pr→R Sm} (hu:∀p,okP p→Nx p (st p).2) (hg:∀p,okP p→G5 (st p).1):∀(k:Nat) (l:List Sm) (p:Pr),okP p→(∀s∈l,G5 s)→(∀s∈(stmtsL st k l p).1,G5 s)∧(stmtsL st k l p).1.length≤l.length+k
 |0,l,p,h,hl=>⟨hl,Nat.le_refl _⟩
 |k+1,l,p,h,hl=>by
  simp only[stmtsL]
  split
  ·split
   ·exact⟨hl,by simp only;omega⟩
   split
   ·exact⟨fun s hs=>(by cases hs),Nat.zero_le _⟩
   ·have h1:=SR hu hg k (l++[(st p).1]) (st p).2 (hu p h).ok (fun s hs=>by
     rcases List.mem_append.1 hs with hs|hs
     ·exact hl s hs
     ·rw[List.mem_singleton.1 hs];exact hg p h)
    refine⟨h1.1,?_⟩
    have h2:=h1.2
    simp only[jL3]at h2
    omega
  ·exact⟨hl,by simp only;omega⟩
theorem SS {st:Pr→R Sm} (hu:∀p,okP p→Nx p (st p).2) (hg:∀p,okP p→G5 (st p).1) {p:Pr} (h:okP p):(∀s∈(stmtsW st p).1,G5 s)∧(stmtsW st p).1.length≤5000:=by
 have h1:=SR hu hg (p.l.length+1) [] p h (fun s hs=>by cases hs)
 have h2:=h.2.2.1
 refine⟨h1.1,?_⟩
 have h3:=h1.2
 simp only[length_nil]at h3
 show (stmtsL st (p.l.length+1) [] p).1.length≤5000
 omega
theorem XF:∀(k:Nat) (l:List Ar) (p:Pr),(NO k l p).1.length≤l.length+k
 |0,l,p=>by simp[NO]
 |k+1,l,p=>by
  simp only[NO]
  split
  ·split
   ·simp only[jL3];omega
   ·have h2:=XF k (l++[⟨false,[],(exS p).1⟩]) (B2 [44] (exS p).2)
    simp only[jL3]at h2
    omega
  ·simp
theorem XG {p:Pr} (h:okP p):(H4 p).1.length≤5000:=by
 unfold H4
 split
 ·simp
 ·have h1:=XF (p.l.length+1) [] p
  have h2:=h.2.2.1
  simp only[length_nil]at h1
  omega
theorem W2 {st:Pr→R Sm} (hu:∀p,okP p→Nx p (st p).2) (hg:∀p,okP p→G5 (st p).1) {p:Pr} (h:okP p):(∀s∈(blkW st p).1,G5 s)∧(blkW st p).1.length≤5000:=by
 unfold blkW
 split
 ·rename_i hi
  split
  ·rename_i hb
   have h1:=Fl h hb (BB hi).2
   exact SS hu hg h1.ok
  ·exact⟨fun s hs=>(by cases hs),Nat.zero_le _⟩
 ·exact⟨fun s hs=>(by cases hs),Nat.zero_le _⟩
theorem XH {st:Pr→R Sm} (hu:∀p,okP p→Nx p (st p).2) (hg:∀p,okP p→G5 (st p).1) {p:Pr} {t:List UInt8} (h:okP p) (hi:isT t p=true):(∀s∈(ifB (blkW st) p).1,G5 s)∧(ifB (blkW st) p).1.length≤5000:=by
 have h1:=TQ h hi
 exact W2 hu hg (BE (t:=[41]) h1.ok).ok
theorem HH (k:Int) (x y:List UInt8) (e g:Ex) (cd:Cd) (ar:List Ar) (no:Int) (ha:ar.length≤5000):G5 (.mk k x y e g cd ar [] [] no):=
 Rr k x y e g cd ar [] [] no ha (Nat.zero_le _) (Nat.zero_le _) (fun s hs=>by cases hs) (fun s hs=>by cases hs)
theorem o7 {p:Pr} (h:okP p):((EZ p).1.a.getD []).length≤5000:=by
 unfold EZ
 split
 ·exact Nat.zero_le _
 split
 ·exact Nat.zero_le _
 split
 ·exact Nat.zero_le _
 split
 ·exact Nat.zero_le _
 split
 ·rename_i hb
  exact XG (Ww h hb).ok
 ·exact Nat.zero_le _
theorem dj {st:Pr→R Sm} (hu:∀p,okP p→Nx p (st p).2) (hg:∀p,okP p→G5 (st p).1) (no:Int) {p:Pr} (h:okP p):G5 (II st no p).1:=by
 unfold II
 split
 ·exact HH _ _ _ _ _ _ [] _ (Nat.zero_le _)
 split
 ·exact HH _ _ _ _ _ _ [] _ (Nat.zero_le _)
 split
 ·rename_i hi
  have h1:=XH hu hg h hi
  exact Rr _ _ _ _ _ _ [] _ [] _ (Nat.zero_le _) h1.2 (Nat.zero_le _) h1.1 (fun s hs=>by cases hs)
 split
 ·rename_i hi
  have h1:=XH hu hg h hi
  split
  ·rename_i he
   have h2:=Ql hu h hi
   have h3:=W2 hu hg (B7 h2.ok he).ok
   exact Rr _ _ _ _ _ _ [] _ _ _ (Nat.zero_le _) h1.2 h3.2 h1.1 h3.1
  ·exact Rr _ _ _ _ _ _ [] _ [] _ (Nat.zero_le _) h1.2 (Nat.zero_le _) h1.1 (fun s hs=>by cases hs)
 split
 ·exact HH _ _ _ _ _ _ [] _ (Nat.zero_le _)
 split
 ·rename_i hi
  exact HH _ _ _ _ _ _ _ _ (XG (B7 (FP h).ok hi).ok)
 split
 ·exact HH _ _ _ _ _ _ [] _ (Nat.zero_le _)
 ·exact HH _ _ _ _ _ _ _ _ (o7 (BE (t:=[61]) (FP h).ok).ok)
theorem W3:∀(f:Nat) (p:Pr),okP p→G5 (C1 f p).1
 |0,p,h=>HH _ _ _ _ _ _ [] _ (Nat.zero_le _)
 |f+1,p,h=>by
  simp only[C1]
  split
  ·exact HH _ _ _ _ _ _ [] _ (Nat.zero_le _)
  ·exact dj (N9 f) (W3 f) _ (TP h).ok
theorem XI:∀(k:Nat) (l:List Vr) (p:Pr),(Q3 k l p).1.length≤l.length+k
 |0,l,p=>Nat.le_refl _
 |k+1,l,p=>by
  have h1:=Q1 l (isT [42] p) 6 (BC [42] p)
  simp only[Q3]
  split
  ·split
   ·simp only;omega
   ·have h2:=XI k (IK l (isT [42] p) 6 (BC [42] p)) (B2 [44] (FU l 6 (BC [42] p)))
    omega
  ·simp only;omega
theorem XJ:∀(k:Nat) (l:List Vr) (p:Pr),(OS k l p).1.length≤l.length+k
 |0,l,p=>Nat.le_refl _
 |k+1,l,p=>by
  have h1:=Q1 l (isT tPtr p) 20 (adv p)
  simp only[OS]
  split
  ·have h2:=XJ k (IK l (isT tPtr p) 20 (adv p)) (B2 [59] (FU l 20 (adv p)))
   omega
  ·simp only;omega
theorem gr {p:Pr} (h:okP p):(Sh p).1.length≤5000:=by
 unfold Sh
 split
 ·exact Nat.zero_le _
 ·have h1:=XI (p.l.length+1) [] p
  have h2:=h.2.2.1
  simp only[length_nil]at h1
  omega
theorem gu {p:Pr} (h:okP p):(Uo p).1.length≤5000:=by
 have h1:=XJ p.l.length [] p
 have h2:=h.2.2.1
 simp only[length_nil]at h1
 show (OS p.l.length [] p).1.length≤5000
 omega
theorem o8 {p:Pr} (h:okP p):okP (MN p):=by
 unfold MN
 split
 ·rename_i hi
  split
  ·rename_i hb
   exact(Fl h hb (BB hi).2).ok
  ·rename_i hb
   exact(F2 51 (M8 h (by simpa using hb)).ok).ok
 ·exact(F2 51 h).ok
theorem W4 (s:List UInt8):okF (FV s).1∧∃n m,okB n m (FV s).1.body:=by
 have hz:okF fn0∧∃n m,okB n m fn0.body:=⟨⟨Nat.zero_le _,Nat.zero_le _⟩,0,1,Nat.zero_le _,fun s hs=>by cases hs⟩
 unfold FV
 split
 ·exact hz
 split
 ·exact hz
 ·have h3:=(dO s (s.length:Int)).ok
  have h4:okP (MN (fp3 (rxT s).1 (s.length:Int)).2):=o8 (ZE h3).ok
  have h5:okP (fp4 (rxT s).1 (s.length:Int)).2:=(Up _ _ _ h4).ok
  have h6:=SS (N9 41) (W3 41) h5
  exact⟨⟨gr h3,gu h4⟩,R5 h6.1 h6.2⟩
end Go.Proofs.Ytjnnmindcbgjhaa
namespace Go.Proofs.Ytjnnmindcbgjhaa
open Go Go.Sy Go.RowKit
theorem lC (s:Sm) (a b:List Sm):(s.wi a b).th=a∧(s.wi a b).el=b:=by cases s;exact⟨rfl,rfl⟩
theorem vF {n:Nat} {f:Fn} {s:Sm} (h:OkS n s):OkS n (rsS f s).1:=by
 have h0:0<n:=Nat.lt_of_le_of_lt (Nat.zero_le _) h.e
 obtain⟨k,x,y,e,g,cd,ar,th,el,no⟩:=s
 have hr:OkS n (.mk k x y e g cd (raL f ar) th el no):=by
  refine⟨h.e,h.f,h.c,fun a ha=>?_,by simpa [raL,Sm.ar] using h.l⟩
  obtain⟨b,hb,rfl⟩:=List.mem_map.1 ha
  unfold raS
  split
  ·exact h.a b hb
  split
  ·exact h0
  ·exact h.a b hb
 simp only[rsS]
 repeat' split
 all_goals first|exact h|exact hr|exact⟨h0,h0,h0,(fun a ha=>by cases ha),Nat.zero_le _⟩
theorem A1C {n:Nat} {s:Sm} (a b:List Sm) (h:OkS n s):OkS n (s.wi a b):=by cases s;exact⟨h.e,h.f,h.c,h.a,h.l⟩
theorem ZS {n m:Nat} {f:Fn} {h:List Sm→List Sm×Int}:∀(l out:List Sm),(∀s∈out,OkS n s∧okB n m s.th∧okB n m s.el)→out.length+l.length≤5000→
  (∀s∈l,OkS n s∧okB n m (h (rsS f s).1.th).1∧okB n m (h (rsS f s).1.el).1)→okB n (m+1) (rsW h f out l).1
 |[],out,ho,hl,_=>⟨by simpa [rsW] using hl,ho⟩
 |s::r,out,ho,hl,hs=>by
  have h0:okB n (m+1) []:=⟨Nat.zero_le _,fun s hs=>by cases hs⟩
  simp only[rsW]
  split
  ·split
   ·exact h0
   split
   ·exact h0
   ·refine ZS r _ ?_ (by simp only[jL3]at hl ⊢;omega) fun s' hs'=>hs s' (List.mem_cons_of_mem _ hs')
    intro s' hs'
    rcases List.mem_append.1 hs' with h1|h1
    ·exact ho s' h1
    ·obtain⟨a1,a2,a3⟩:=hs s (List.mem_cons_self ..)
     rw[List.mem_singleton.1 h1,(lC _ _ _).1,(lC _ _ _).2]
     exact⟨A1C _ _ (vF a1),a2,a3⟩
  ·exact h0
theorem V1 {n:Nat} {f:Fn}:∀(m:Nat) (l:List Sm),okB n m l→okB n m (rsN f m l).1
 |0,l,h=>h.elim
 |m+1,l,h=>ZS l [] (fun s hs=>by cases hs) (by simpa using h.1) fun s hs=>by
  obtain⟨h0,h1,h2⟩:=h.2 s hs
  have h3:=eU f s
  refine⟨h0,V1 m _ ?_,V1 m _ ?_⟩
  ·rcases h3.1 with h|h<;>rw[h]
   ·exact h1
   ·exact Ra h1
  ·rcases h3.2 with h|h<;>rw[h]
   ·exact h2
   ·exact Ra h2
theorem o9 (s:Int) (b:List Int):(txT s b).length≤2000000:=by
 have hv:nxV 6 (m0 b)<6:=Int.tmod_lt_of_pos _ (by decide)
 have h1:=X6 (f:=stT 2 s) (fun q=>Oz 2 s q) (1+nxV 6 (m0 b)).toNat (txH s) (nxM (m0 b))
 have h2:=bn6 (c:=stL 2) (1+nxV 6 (m0 b)).toNat (by omega)
 have h3:=Te 2 (by decide)
 have h4:=ZA s
 have h5:=Cu (nxM (txB s b).2)
 have h6:(txB s b).1.length≤60+6*200000:=by unfold txB;omega
 unfold txT
 split<;>simp only[jL3]<;>omega
theorem vG {j:Nat} (h:j<4):(nmS (j:Int)==gloB)=false:=by
 match j,h with
 |0,_=>rfl
 |1,_=>rfl
 |2,_=>rfl
 |3,_=>rfl
theorem oA {l:List (List Int)} {i:Nat} {u:Un} (h:u∈utI l i):∃j,j<i∧u=⟨nmS (j:Int),txT (j:Int) (l.getD j [])⟩:=by
 obtain⟨j,hj,rfl⟩:=List.mem_map.1 h
 exact⟨j,List.mem_range.1 hj,rfl⟩
theorem oB {g:Int} {l:List (List Int)} {u:Un} (h:u∈utF g l):u=⟨gloB,glS g⟩∨∃j,j<4∧j<l.length∧u=⟨nmS (j:Int),txT (j:Int) (l.getD j [])⟩:=by
 have hN:utN l≤4∧utN l≤l.length:=by unfold utN;split<;>omega
 have key:u∈utI l (utN l)→∃j,j<4∧j<l.length∧u=⟨nmS (j:Int),txT (j:Int) (l.getD j [])⟩:=fun hu=>by
  obtain⟨j,hj,e⟩:=oA hu
  exact⟨j,by omega,by omega,e⟩
 unfold utF at h
 split at h
 ·rw[mem_append,List.mem_cons]at h
  rcases h with h|h|h
  ·exact .inr (key (List.mem_of_mem_take h))
  ·exact .inl h
  ·exact .inr (key (List.mem_of_mem_drop h))
 ·rw[mem_append,List.mem_singleton]at h
  rcases h with h|h
  ·exact .inr (key h)
  ·exact .inl h
theorem Rs (g:Int):Rc (giV (glLs g)).ns∧(giV (glLs g)).c.length≤5000∧(giV (glLs g)).a.length≤5000∧∀x∈(giV (glLs g)).a,1≤x.n∧x.n≤1048576:=by
 unfold glLs
 split
 ·exact⟨Mv (by decide),by decide,by decide,by decide⟩
 split
 ·exact⟨Mv (by decide),by decide,by decide,by decide⟩
 split
 ·exact⟨Mv (by decide),by decide,by decide,by decide⟩
 split
 ·exact⟨Mv (by decide),by decide,by decide,by decide⟩
 ·exact⟨Mv (by decide),by decide,by decide,by decide⟩
theorem lD:∀l:List Un,∃n m,∀u∈l,okB n m (FV u.t).1.body
 |[]=>⟨0,0,fun u h=>by cases h⟩
 |u::l=>by
  obtain⟨n,m,h⟩:=lD l
  obtain⟨n',m',h'⟩:=(W4 u.t).2
  refine⟨max n n',max m m',fun v hv=>?_⟩
  rcases List.mem_cons.1 hv with rfl|hv
  ·exact Ft (Nat.le_max_right _ _) h' (Nat.le_max_right _ _)
  ·exact Ft (Nat.le_max_left _ _) (h v hv) (Nat.le_max_left _ _)
theorem sUn (g:Int) (l:List (List Int)):∃n m,0<n∧∀u∈utF g l,okUn n m (wgl g) u:=by
 obtain⟨n,m,h⟩:=lD (utF g l)
 refine⟨n+1,m,Nat.succ_pos _,fun u hu=>?_⟩
 rcases oB hu with rfl|⟨j,hj,hl,rfl⟩
 ·exact eO (A0g g) (Rs g).1 (Rs g).2.1 (Rs g).2.2.1
 ·have hn:=vG hj
  exact⟨fun h=>(by rw[hn]at h;cases h),fun _=>Nat.le_trans (o9 _ _) (by decide),fun _=>(W4 _).1,fun _=>Ft (Nat.le_succ _) (h _ hu) (Nat.le_refl _)⟩
theorem gv {fs:List Fn} {f x:Fn} (h:x∈insF fs f):x∈fs∨x=f:=by
 unfold insF at h
 rw[mem_append,List.mem_cons]at h
 rcases h with h|h|h
 ·exact .inl (List.mem_of_mem_take h)
 ·exact .inr h
 ·exact .inl (List.mem_of_mem_drop h)
theorem A1D {n m:Nat} {gl:List UInt8→List Gi} {P:Pg} {u:Un} (hu:okUn n m gl u) (h:∀f∈P.fs,okF f∧∃M,okB n M f.body):∀f∈(upP m gl P u).fs,okF f∧∃M,okB n M f.body:=by
 unfold upP
 split
 ·exact h
 rename_i hg
 have hg:(u.s==gloB)=false:=by simpa using hg
 split
 ·exact h
 split
 ·exact h
 rename_i hr
 intro f hf
 rcases gv hf with hf|rfl
 ·exact h f hf
 ·have h1:=hu.f hg
  have h2:=hu.b hg
  unfold Jw at hr ⊢
  split
  ·rename_i h3;rw[if_pos h3]at hr;exact absurd rfl hr
  rename_i h3;rw[if_neg h3]at hr
  split
  ·rename_i h4;rw[if_pos h4]at hr;exact absurd rfl hr
  rename_i h4;rw[if_neg h4]at hr
  split
  ·rename_i h5;rw[if_pos h5]at hr;exact absurd rfl hr
  ·exact⟨h1,m,V1 m _ h2⟩
theorem lE {n m:Nat} {gl:List UInt8→List Gi}:∀(l:List Un) (P:Pg),(∀u∈l,okUn n m gl u)→(∀f∈P.fs,okF f∧∃M,okB n M f.body)→∀f∈(l.foldl (upP m gl) P).fs,okF f∧∃M,okB n M f.body
 |[],P,_,h=>h
 |u::l,P,hu,h=>lE l (upP m gl P u) (fun v hv=>hu v (List.mem_cons_of_mem _ hv)) (A1D (hu u (List.mem_cons_self ..)) h)
theorem vH {m:Nat} {g:Int}:∀(l:List Un) (P:Pg),(P.g=giV (glLs g)∨P.g=⟨[],[]⟩)→((l.foldl (upP m (wgl g)) P).g=giV (glLs g)∨(l.foldl (upP m (wgl g)) P).g=⟨[],[]⟩)
 |[],P,h=>h
 |u::l,P,h=>by
  refine vH l (upP m (wgl g) P u) ?_
  unfold upP
  split
  ·exact .inl rfl
  split
  ·exact h
  split
  ·exact h
  ·exact h
theorem A1E {n m:Nat} {g:Int} {l:List (List Int)} (hu:∀u∈utF g l,okUn n m (wgl g) u) {va:List Va} {s:Sta} {fuel:Int} {k:Nat} (hv:va.length≤5000) (h1:s.cs.length≤1000000) (h2:s.ar.length≤1000000) (hf:fuel<k) (hk:k≤1000000000):okR n k (sPg m (wgl g) g l) va s fuel:=by
 have hg:(sPg m (wgl g) g l).g=giV (glLs g)∨(sPg m (wgl g) g l).g=⟨[],[]⟩:=vH (utF g l) ⟨⟨[],[]⟩,[]⟩ (.inr rfl)
 have hl:(sPg m (wgl g) g l).fs.length≤10:=by
  have:=Ut m (wgl g) (utF g l) (utF g l).length (Nat.le_refl _)
  rw[List.take_length]at this
  exact Nat.le_trans this (ZR g l)
 have ho:=Rs g
 refine⟨⟨by omega,lE (utF g l) _ hu (fun f h=>by cases h)⟩,?_,?_,?_,h1,h2,hv,hf,hk⟩
 ·rcases hg with e|e<;>rw[e]
  ·have:=ho.2.1;omega
  ·exact Nat.zero_le _
 ·rcases hg with e|e<;>rw[e]
  ·have:=ho.2.2.1;omega
  ·exact Nat.zero_le _
 ·rcases hg with e|e<;>rw[e]
  ·exact ho.2.2.2
  ·intro x hx;cases hx
end Go.Proofs.Ytjnnmindcbgjhaa
namespace Go.Proofs.Ytjnnmindcbgjhaa
open Go Go.Sy Go.RowKit
def Ms.pl (m:Ms) (d:Int):Ms:={ m with fuel:=m.fuel+d }
def Fa.pl (q:Fa) (d:Int):Fa:={ q with m:=q.m.pl d }
def Ro.pl (r:Ro) (d:Int):Ro:=⟨r.b,r.t,r.q.pl d⟩
def Ro.ex (r:Ro):Prop:=r.b=true∧r.q.m.e=2
section
variable (d:Int)
end
structure Fu (q:Fa) (r:Ro):Prop where
 l:0≤r.q.m.fuel
 u:r.q.m.fuel≤q.m.fuel
theorem Fu.of {q q':Fa} {b t:Bool} (h:0≤q.m.fuel) (e:q'.m.fuel=q.m.fuel):Fu q ⟨b,t,q'⟩:=⟨by show 0≤q'.m.fuel;omega,by show q'.m.fuel≤_;omega⟩
theorem Fu.tr {q q':Fa} {r:Ro} (h:q'.m.fuel≤q.m.fuel) (k:Fu q' r):Fu q r:=⟨k.l,by have:=k.u;omega⟩
end Go.Proofs.Ytjnnmindcbgjhaa
namespace Go.Proofs.Ytjnnmindcbgjhaa
open Go Go.Sy Go.RowKit
def clA (P:Pg) (f:List UInt8) (va:List Va) (s:Sta) (fuel:Int):Ms:=clF (fuel.toNat+1) P f va s fuel
theorem A1F {n:Nat} {P:Pg} {f:List UInt8} {va:List Va} {s:Sta} {a:Int} (h2:a≤1000000):(clF n P f va s a).cs.length=(stCs P.g.c s.cs).length∧(clF n P f va s a).ar.map naL=(stA P.g.a s.ar).map naL:=by
 unfold clF
 split
 ·rename_i h
  have e1:mn a 1048576=a:=by unfold mn;split<;>omega
  have key:(rnA n P f va (ms0 P s a)).2.2.cs.length=(stCs P.g.c s.cs).length∧(rnA n P f va (ms0 P s a)).2.2.ar.map naL=(stA P.g.a s.ar).map naL:=by
   unfold rnA
   cases P.fi f with
   |none=>exact⟨rfl,rfl⟩
   |some i=>
    dsimp only
    split
    ·exact⟨rfl,rfl⟩
    split
    ·exact⟨rfl,rfl⟩
    ·have k:=XO (S0 n) ⟨[],0,P,ms0 P s a,[]⟩ (P.fs.getD i.toNat ⟨[],[],[],[]⟩) va (by show 0≤mn a 1048576;omega) (by show mn a 1048576≤_;omega)
     exact⟨k.c,k.a⟩
  unfold rnZ RD
  split
  ·split
   ·exact key
   ·exact key
  ·exact key
 ·exact⟨rfl,rfl⟩
abbrev Q7 (N:Nat) (p:Pg) (f:List UInt8) (va:List Va) (s:Sta) (fuel:Int):Prop:=fuel<999999999∧okR N (fuel.toNat+1) p va s fuel
abbrev Sk (N:Nat) (p:Pg) (f:List UInt8) (va:List Va) (s:Sta) (fuel:Int):SV:=.agg (ouC (clA p f va s fuel))
noncomputable abbrev XK:ArgC ((Pg)×(List UInt8)×(List Va)×(Sta)×(Int)×Unit):=(acS (cPg) (acS (cStr) (acS (OT) (acS (cSta) (acS (cInt .i64) ac0)))))
abbrev XL (N:Nat):Prop:=CY Try.prog 17 XK (fun p:(Pg)×(List UInt8)×(List Va)×(Sta)×(Int)×Unit=>Q7 N p.1 p.2.1 p.2.2.1 p.2.2.2.1 p.2.2.2.2.1) (fun p:(Pg)×(List UInt8)×(List Va)×(Sta)×(Int)×Unit=>Sk N p.1 p.2.1 p.2.2.1 p.2.2.2.1 p.2.2.2.2.1)
theorem gx (N:Nat):∀p:(Pg)×(List UInt8)×(List Va)×(Sta)×(Int)×Unit,((fun p:(Pg)×(List UInt8)×(List Va)×(Sta)×(Int)×Unit=>Sk N p.1 p.2.1 p.2.2.1 p.2.2.2.1 p.2.2.2.2.1) p).names=[]:=by intro p;rfl
noncomputable def HT {X:Ctx} {w0:World} (N:Nat) (h:XL N):Sy.Spec Try.prog X w0:=D4 17 Try.call17 XK (fun p:(Pg)×(List UInt8)×(List Va)×(Sta)×(Int)×Unit=>Q7 N p.1 p.2.1 p.2.2.1 p.2.2.2.1 p.2.2.2.2.1) (fun p:(Pg)×(List UInt8)×(List Va)×(Sta)×(Int)×Unit=>Sk N p.1 p.2.1 p.2.2.1 p.2.2.2.1 p.2.2.2.2.1) (gx N) h
theorem ZT (N:Nat):XL N:=by
 rintro ⟨p,f,va,s,fuel,_u⟩ w fz xs hc hfz hl hx
 exact eM N (fuel.toNat+1) ⟨p,f,va,s,fuel,_u⟩ w fz xs hc.2 hfz hl hx
end Go.Proofs.Ytjnnmindcbgjhaa
