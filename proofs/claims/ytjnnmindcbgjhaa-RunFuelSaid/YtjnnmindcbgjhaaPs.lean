/- The seat's programs, walked. Conditions: bytes; units that are not too deep. -/
import Derived.Test.YtjnnmindcbgjhaaMk5
import Derived.Test.YtjnnmindcbgjhaaRmn
import Derived.Test.YtjnnmindcbgjhaaPa9
import Derived.Test.YtjnnmindcbgjhaaCo
set_option linter.unusedVariables false
set_option linter.unusedSimpArgs false
open List (length_append length_cons length_nil mem_append)
namespace Go.Proofs.Ytjnnmindcbgjhaa
open Go Go.Sy Go.RowKit
theorem um {l:List Un}:∀q,some q∈[some (ML.vec zUc (l.map Un.c))]→DO 1 q:=by
 intro q hq c hc
 simp only[List.mem_cons,jS,List.not_mem_nil,or_false]at hq
 subst hq
 simp only[ML.cells]at hc
 obtain⟨r,hr,hcr⟩:=List.mem_flatMap.1 hc
 obtain⟨u,_,rfl⟩:=List.mem_map.1 hr
 simp only[Un.c,id,List.mem_cons,List.not_mem_nil,or_false]at hcr
 rcases hcr with rfl|rfl<;>exact .inl rfl
section
variable {X:Ctx} {w0:World}
noncomputable def SP:Sy.Spec Try.prog X w0:=Dj 30 Try.call30 TM WQ (fun _=>false) Pf M_Un (fun _=>mlO [])
 (fun p _ _=>⟨rfl,rfl,rfl,um⟩) (fun a _ h=>by cases h) (fun a _ h=>by cases h) (fun _=>rfl) mV
theorem gV:(SP (X:=X) (w0:=w0)).f=30:=rfl
theorem gW (t:Nat) (args:List SV) (H:Hp):(SP (X:=X) (w0:=w0)).fn t args H=spL X (TM.d H args) t H WQ (fun _=>false) Pf M_Un (fun _=>mlO []):=rfl
end
theorem uo (ρ:Nat→Nat) (l:List Un):(l.map Un.c).map (fun r=>r.map (rnC ρ))=l.map Un.c:=Gw Un.c (fun _=>rfl) l
theorem dE:∀l:List Un,OP mUn.d (l.map Un.c)=some l
 |[]=>rfl
 |u::l=>by
  have h:mUn.d (Un.c u)=some u:=HL Z4 u
  simp only[List.map_cons,OP,h,dE l]
theorem ZE (g:Int) (l:List (List Int)):(utF g l).length≤10:=by
 have h1:=UV l (utN l)
 have h2:utN l≤4:=by unfold utN;split<;>omega
 unfold utF
 split
 ·simp only[length_append,List.length_take,length_cons,List.length_drop];omega
 ·simp only[jL3];omega
def sPg (m:Nat) (gl:List UInt8→List Gi) (g:Int) (l:List (List Int)):Pg:=prF m gl (utF g l)
abbrev X5 (n:Nat) (m:Nat) (gl:List UInt8→List Gi) (g:Int) (l:List (List Int)):Prop:=WQ (g,l,())∧∀u∈utF g l,okUn n m gl u
abbrev Qn (n:Nat) (m:Nat) (gl:List UInt8→List Gi) (g:Int) (l:List (List Int)):SV:=.agg (pqR (sPg m gl g l))
noncomputable abbrev X6:ArgC ((Int)×(List (List Int))×Unit):=(acS (cInt .u8) (acS (cBl) ac0))
abbrev dF (n:Nat) (m:Nat) (gl:List UInt8→List Gi):Prop:=Cc Try.prog 13 X6 (fun p:(Int)×(List (List Int))×Unit=>X5 n m gl p.1 p.2.1) (fun p:(Int)×(List (List Int))×Unit=>Qn n m gl p.1 p.2.1)
theorem ur (n:Nat) (m:Nat) (gl:List UInt8→List Gi):∀p:(Int)×(List (List Int))×Unit,((fun p:(Int)×(List (List Int))×Unit=>Qn n m gl p.1 p.2.1) p).names=[]:=by intro p;rfl
noncomputable def dG {X:Ctx} {w0:World} (n:Nat) (m:Nat) (gl:List UInt8→List Gi) (h:dF n m gl):Sy.Spec Try.prog X w0:=DD 13 Try.call13 X6 (fun p:(Int)×(List (List Int))×Unit=>X5 n m gl p.1 p.2.1) (fun p:(Int)×(List (List Int))×Unit=>Qn n m gl p.1 p.2.1) (ur n m gl) h
set_option maxRecDepth 20000 in set_option maxHeartbeats 16000000 in
theorem A11 (n:Nat) (m:Nat) (gl:List UInt8→List Gi):dF n m gl:=by
 rintro ⟨g,l,_u⟩ w fz xs hc hfz hl hx
 refine Bj Try.func13 rfl w fz [SP,(RW n m gl (y_Prog n m gl))] [] X6 (fun p:(Int)×(List (List Int))×Unit=>Qn n m gl p.1 p.2.1) _ xs hfz hl hx (jN rfl) ?_
 clear hx hl hfz xs
 simp only[Try.f13]
 obtain⟨h1,h2⟩:=hc
 simp only[↓eB,seval,go_sem,gV,gW,RW,Qu,PG,PH,PF,lmH,lmO,chL,ML.ch,DQ,DR,E9,CR,EY,nmX,xt,Dl,ML.ren,rnC,EO,F8,vrQ,D8,fcN,↓A1,WO,WP,Un.c,zUc,Gj,cP,KG,KF,Pf,M_Un,uo,dE,pqR]
 refine⟨h1,⟨ZE g l,h2⟩,?_⟩
 refine A0 [] ?_;simp only[↓eB,seval,go_sem,bne,Qn,sPg,pqR]
end Go.Proofs.Ytjnnmindcbgjhaa
namespace Go.Proofs.Ytjnnmindcbgjhaa
open Go Go.Sy Go.RowKit
def n4:List (List Int):=[[],[],[],[]]
def wgl (g:Int):List UInt8→List Gi:=fun _=>glLs g
end Go.Proofs.Ytjnnmindcbgjhaa
namespace Go.Proofs.Ytjnnmindcbgjhaa
open Go Go.Sy Go.RowKit Go.ChangeShapes Go.WideShapes Go.ChangeAt
theorem ZF {n:Int} (h:(Lit.int .u16 n).wf=true):ak n:=by
 have:=bounds_u16 h;unfold ak;omega
end Go.Proofs.Ytjnnmindcbgjhaa
namespace Go.Proofs.Ytjnnmindcbgjhaa
open Go Go.Sy Go.RowKit
theorem OkS.mono {n n':Nat} {s:Sm} (h:OkS n s) (hn:n≤n'):OkS n' s:=
 ⟨Nat.lt_of_lt_of_le h.e hn,Nat.lt_of_lt_of_le h.f hn,Nat.lt_of_lt_of_le h.c hn,fun a ha=>Nat.lt_of_lt_of_le (h.a a ha) hn,h.l⟩
theorem Fi {n n':Nat} (hn:n≤n'):∀{m m':Nat} {l:List Sm},okB n m l→m≤m'→okB n' m' l
 |0,_,_,h,_=>h.elim
 |m+1,0,_,_,hm=>absurd hm (by omega)
 |m+1,m'+1,l,h,hm=>⟨h.1,fun s hs=>by
   obtain⟨h1,h2,h3⟩:=h.2 s hs
   exact⟨h1.mono hn,Fi hn h2 (by omega),Fi hn h3 (by omega)⟩⟩
def Fv (s:Sm):Prop:=∃n m,OkS n s∧okB n m s.th∧okB n m s.el
theorem dH:∀l:List Ar,∃n,∀a∈l,a.e.dp<n
 |[]=>⟨0,fun a h=>by cases h⟩
 |b::l=>by
  obtain⟨n,h⟩:=dH l
  refine⟨max n (b.e.dp+1),fun a ha=>?_⟩
  rcases List.mem_cons.1 ha with rfl|ha
  ·exact Nat.lt_of_lt_of_le (Nat.lt_succ_self _) (Nat.le_max_right _ _)
  ·exact Nat.lt_of_lt_of_le (h a ha) (Nat.le_max_left _ _)
theorem Vl:∀l:List Sm,(∀s∈l,Fv s)→∃n m,∀s∈l,OkS n s∧okB n m s.th∧okB n m s.el
 |[],_=>⟨0,0,fun s h=>by cases h⟩
 |t::l,h=>by
  obtain⟨n,m,h1⟩:=Vl l fun s hs=>h s (List.mem_cons_of_mem _ hs)
  obtain⟨n',m',a,b,c⟩:=h t (List.mem_cons_self ..)
  refine⟨max n n',max m m',fun s hs=>?_⟩
  rcases List.mem_cons.1 hs with rfl|hs
  ·exact⟨a.mono (Nat.le_max_right _ _),Fi (Nat.le_max_right _ _) b (Nat.le_max_right _ _),Fi (Nat.le_max_right _ _) c (Nat.le_max_right _ _)⟩
  ·obtain⟨a,b,c⟩:=h1 s hs
   exact⟨a.mono (Nat.le_max_left _ _),Fi (Nat.le_max_left _ _) b (Nat.le_max_left _ _),Fi (Nat.le_max_left _ _) c (Nat.le_max_left _ _)⟩
theorem Qo {l:List Sm} (h:∀s∈l,Fv s) (hl:l.length≤5000):∃n m,okB n m l:=by
 obtain⟨n,m,h1⟩:=Vl l h
 exact⟨n,m+1,hl,h1⟩
theorem RY (k:Int) (x y:List UInt8) (e g:Ex) (cd:Cd) (ar:List Ar) (th el:List Sm) (no:Int) (ha:ar.length≤5000) (ht:th.length≤5000) (he:el.length≤5000) (h1:∀s∈th,Fv s) (h2:∀s∈el,Fv s):Fv (.mk k x y e g cd ar th el no):=by
 obtain⟨n1,m1,b1⟩:=Qo h1 ht
 obtain⟨n2,m2,b2⟩:=Qo h2 he
 obtain⟨n3,b3⟩:=dH ar
 refine⟨n1+n2+n3+e.dp+g.dp+cd.dp+1,m1+m2,⟨?_,?_,?_,fun a h=>?_,ha⟩,Fi (by omega) b1 (by omega),Fi (by omega) b2 (by omega)⟩
 ·show e.dp<_;omega
 ·show g.dp<_;omega
 ·show cd.dp<_;omega
 ·have:=b3 a h;omega
theorem SA {st:Pr→R Sm} (hu:∀p,okP p→Nx p (st p).2) (hg:∀p,okP p→Fv (st p).1):∀(k:Nat) (l:List Sm) (p:Pr),okP p→(∀s∈l,Fv s)→(∀s∈(stmtsL st k l p).1,Fv s)∧(stmtsL st k l p).1.length≤l.length+k
 |0,l,p,h,hl=>⟨hl,Nat.le_refl _⟩
 |k+1,l,p,h,hl=>by
  simp only[stmtsL]
  split
  ·split
   ·exact⟨hl,by simp only;omega⟩
   split
   ·exact⟨fun s hs=>(by cases hs),Nat.zero_le _⟩
   ·have h1:=SA hu hg k (l++[(st p).1]) (st p).2 (hu p h).ok (fun s hs=>by
     rcases List.mem_append.1 hs with hs|hs
     ·exact hl s hs
     ·rw[List.mem_singleton.1 hs];exact hg p h)
    refine⟨h1.1,?_⟩
    have h2:=h1.2
    simp only[jL3]at h2
    omega
  ·exact⟨hl,by simp only;omega⟩
theorem SB {st:Pr→R Sm} (hu:∀p,okP p→Nx p (st p).2) (hg:∀p,okP p→Fv (st p).1) {p:Pr} (h:okP p):(∀s∈(stmtsW st p).1,Fv s)∧(stmtsW st p).1.length≤5000:=by
 have h1:=SA hu hg (p.l.length+1) [] p h (fun s hs=>by cases hs)
 have h2:=h.2.2.1
 refine⟨h1.1,?_⟩
 have h3:=h1.2
 simp only[length_nil]at h3
 show (stmtsL st (p.l.length+1) [] p).1.length≤5000
 omega
theorem X7:∀(k:Nat) (l:List Ar) (p:Pr),(N6 k l p).1.length≤l.length+k
 |0,l,p=>by simp[N6]
 |k+1,l,p=>by
  simp only[N6]
  split
  ·split
   ·simp only[jL3];omega
   ·have h2:=X7 k (l++[⟨false,[],(exS p).1⟩]) (B1 [44] (exS p).2)
    simp only[jL3]at h2
    omega
  ·simp
theorem X8 {p:Pr} (h:okP p):(Gk p).1.length≤5000:=by
 unfold Gk
 split
 ·simp
 ·have h1:=X7 (p.l.length+1) [] p
  have h2:=h.2.2.1
  simp only[length_nil]at h1
  omega
theorem Vm {st:Pr→R Sm} (hu:∀p,okP p→Nx p (st p).2) (hg:∀p,okP p→Fv (st p).1) {p:Pr} (h:okP p):(∀s∈(blkW st p).1,Fv s)∧(blkW st p).1.length≤5000:=by
 unfold blkW
 split
 ·rename_i hi
  split
  ·rename_i hb
   have h1:=Fb h hb (B8 hi).2
   exact SB hu hg h1.ok
  ·exact⟨fun s hs=>(by cases hs),Nat.zero_le _⟩
 ·exact⟨fun s hs=>(by cases hs),Nat.zero_le _⟩
theorem X9 {st:Pr→R Sm} (hu:∀p,okP p→Nx p (st p).2) (hg:∀p,okP p→Fv (st p).1) {p:Pr} {t:List UInt8} (h:okP p) (hi:isT t p=true):(∀s∈(ifB (blkW st) p).1,Fv s)∧(ifB (blkW st) p).1.length≤5000:=by
 have h1:=T6 h hi
 exact Vm hu hg (BB (t:=[41]) h1.ok).ok
theorem Gx (k:Int) (x y:List UInt8) (e g:Ex) (cd:Cd) (ar:List Ar) (no:Int) (ha:ar.length≤5000):Fv (.mk k x y e g cd ar [] [] no):=
 RY k x y e g cd ar [] [] no ha (Nat.zero_le _) (Nat.zero_le _) (fun s hs=>by cases hs) (fun s hs=>by cases hs)
theorem ng {p:Pr} (h:okP p):((EX p).1.a.getD []).length≤5000:=by
 unfold EX
 split
 ·exact Nat.zero_le _
 split
 ·exact Nat.zero_le _
 split
 ·exact Nat.zero_le _
 split
 ·exact Nat.zero_le _
 split
 ·rename_i hb
  exact X8 (Wj h hb).ok
 ·exact Nat.zero_le _
theorem dJ {st:Pr→R Sm} (hu:∀p,okP p→Nx p (st p).2) (hg:∀p,okP p→Fv (st p).1) (no:Int) {p:Pr} (h:okP p):Fv (Hy st no p).1:=by
 unfold Hy
 split
 ·exact Gx _ _ _ _ _ _ [] _ (Nat.zero_le _)
 split
 ·exact Gx _ _ _ _ _ _ [] _ (Nat.zero_le _)
 split
 ·rename_i hi
  have h1:=X9 hu hg h hi
  exact RY _ _ _ _ _ _ [] _ [] _ (Nat.zero_le _) h1.2 (Nat.zero_le _) h1.1 (fun s hs=>by cases hs)
 split
 ·rename_i hi
  have h1:=X9 hu hg h hi
  split
  ·rename_i he
   have h2:=QT hu h hi
   have h3:=Vm hu hg (B6 h2.ok he).ok
   exact RY _ _ _ _ _ _ [] _ _ _ (Nat.zero_le _) h1.2 h3.2 h1.1 h3.1
  ·exact RY _ _ _ _ _ _ [] _ [] _ (Nat.zero_le _) h1.2 (Nat.zero_le _) h1.1 (fun s hs=>by cases hs)
 split
 ·exact Gx _ _ _ _ _ _ [] _ (Nat.zero_le _)
 split
 ·rename_i hi
  exact Gx _ _ _ _ _ _ _ _ (X8 (B6 (FK h).ok hi).ok)
 split
 ·exact Gx _ _ _ _ _ _ [] _ (Nat.zero_le _)
 ·exact Gx _ _ _ _ _ _ _ _ (ng (BB (t:=[61]) (FK h).ok).ok)
theorem Vn:∀(f:Nat) (p:Pr),okP p→Fv (C0 f p).1
 |0,p,h=>Gx _ _ _ _ _ _ [] _ (Nat.zero_le _)
 |f+1,p,h=>by
  simp only[C0]
  split
  ·exact Gx _ _ _ _ _ _ [] _ (Nat.zero_le _)
  ·exact dJ (Mq f) (Vn f) _ (T5 h).ok
theorem XA:∀(k:Nat) (l:List Vr) (p:Pr),(Pm k l p).1.length≤l.length+k
 |0,l,p=>Nat.le_refl _
 |k+1,l,p=>by
  have h1:=Pk l (isT [42] p) 6 (B9 [42] p)
  simp only[Pm]
  split
  ·split
   ·simp only;omega
   ·have h2:=XA k (Hz l (isT [42] p) 6 (B9 [42] p)) (B1 [44] (FO l 6 (B9 [42] p)))
    omega
  ·simp only;omega
theorem XB:∀(k:Nat) (l:List Vr) (p:Pr),(OB k l p).1.length≤l.length+k
 |0,l,p=>Nat.le_refl _
 |k+1,l,p=>by
  have h1:=Pk l (isT tPtr p) 20 (adv p)
  simp only[OB]
  split
  ·have h2:=XB k (Hz l (isT tPtr p) 20 (adv p)) (B1 [59] (FO l 20 (adv p)))
   omega
  ·simp only;omega
theorem gX {p:Pr} (h:okP p):(SN p).1.length≤5000:=by
 unfold SN
 split
 ·exact Nat.zero_le _
 ·have h1:=XA (p.l.length+1) [] p
  have h2:=h.2.2.1
  simp only[length_nil]at h1
  omega
theorem gY {p:Pr} (h:okP p):(UX p).1.length≤5000:=by
 have h1:=XB p.l.length [] p
 have h2:=h.2.2.1
 simp only[length_nil]at h1
 show (OB p.l.length [] p).1.length≤5000
 omega
theorem nh {p:Pr} (h:okP p):okP (M6 p):=by
 unfold M6
 split
 ·rename_i hi
  split
  ·rename_i hb
   exact(Fb h hb (B8 hi).2).ok
  ·rename_i hb
   exact(F1 51 (Lq h (by simpa using hb)).ok).ok
 ·exact(F1 51 h).ok
theorem Vo (s:List UInt8):okF (FP s).1∧∃n m,okB n m (FP s).1.body:=by
 have hz:okF fn0∧∃n m,okB n m fn0.body:=⟨⟨Nat.zero_le _,Nat.zero_le _⟩,0,1,Nat.zero_le _,fun s hs=>by cases hs⟩
 unfold FP
 split
 ·exact hz
 split
 ·exact hz
 ·have h3:=(cj s (s.length:Int)).ok
  have h4:okP (M6 (fp3 (rxT s).1 (s.length:Int)).2):=nh (Z1 h3).ok
  have h5:okP (fp4 (rxT s).1 (s.length:Int)).2:=(UY _ _ _ h4).ok
  have h6:=SB (Mq 41) (Vn 41) h5
  exact⟨⟨gX h3,gY h4⟩,Qo h6.1 h6.2⟩
end Go.Proofs.Ytjnnmindcbgjhaa
namespace Go.Proofs.Ytjnnmindcbgjhaa
open Go Go.Sy Go.RowKit
theorem ke (s:Sm) (a b:List Sm):(s.wi a b).th=a∧(s.wi a b).el=b:=by cases s;exact⟨rfl,rfl⟩
theorem uu {n:Nat} {f:Fn} {s:Sm} (h:OkS n s):OkS n (rsS f s).1:=by
 have h0:0<n:=Nat.lt_of_le_of_lt (Nat.zero_le _) h.e
 obtain⟨k,x,y,e,g,cd,ar,th,el,no⟩:=s
 have hr:OkS n (.mk k x y e g cd (raL f ar) th el no):=by
  refine⟨h.e,h.f,h.c,fun a ha=>?_,by simpa [raL,Sm.ar] using h.l⟩
  obtain⟨b,hb,rfl⟩:=List.mem_map.1 ha
  unfold raS
  split
  ·exact h.a b hb
  split
  ·exact h0
  ·exact h.a b hb
 simp only[rsS]
 repeat' split
 all_goals first|exact h|exact hr|exact⟨h0,h0,h0,(fun a ha=>by cases ha),Nat.zero_le _⟩
theorem A12 {n:Nat} {s:Sm} (a b:List Sm) (h:OkS n s):OkS n (s.wi a b):=by cases s;exact⟨h.e,h.f,h.c,h.a,h.l⟩
theorem ZG {n m:Nat} {f:Fn} {h:List Sm→List Sm×Int}:∀(l out:List Sm),(∀s∈out,OkS n s∧okB n m s.th∧okB n m s.el)→out.length+l.length≤5000→
  (∀s∈l,OkS n s∧okB n m (h (rsS f s).1.th).1∧okB n m (h (rsS f s).1.el).1)→okB n (m+1) (rsW h f out l).1
 |[],out,ho,hl,_=>⟨by simpa [rsW] using hl,ho⟩
 |s::r,out,ho,hl,hs=>by
  have h0:okB n (m+1) []:=⟨Nat.zero_le _,fun s hs=>by cases hs⟩
  simp only[rsW]
  split
  ·split
   ·exact h0
   split
   ·exact h0
   ·refine ZG r _ ?_ (by simp only[jL3]at hl ⊢;omega) fun s' hs'=>hs s' (List.mem_cons_of_mem _ hs')
    intro s' hs'
    rcases List.mem_append.1 hs' with h1|h1
    ·exact ho s' h1
    ·obtain⟨a1,a2,a3⟩:=hs s (List.mem_cons_self ..)
     rw[List.mem_singleton.1 h1,(ke _ _ _).1,(ke _ _ _).2]
     exact⟨A12 _ _ (uu a1),a2,a3⟩
  ·exact h0
theorem Uk {n:Nat} {f:Fn}:∀(m:Nat) (l:List Sm),okB n m l→okB n m (rsN f m l).1
 |0,l,h=>h.elim
 |m+1,l,h=>ZG l [] (fun s hs=>by cases hs) (by simpa using h.1) fun s hs=>by
  obtain⟨h0,h1,h2⟩:=h.2 s hs
  have h3:=dz f s
  refine⟨h0,Uk m _ ?_,Uk m _ ?_⟩
  ·rcases h3.1 with h|h<;>rw[h]
   ·exact h1
   ·exact RH h1
  ·rcases h3.2 with h|h<;>rw[h]
   ·exact h2
   ·exact RH h2
theorem ni (s:Int) (b:List Int):(txT s b).length≤2000000:=by
 have hv:nxV 6 (m0 b)<6:=Int.tmod_lt_of_pos _ (by decide)
 have h1:=Wx (f:=stT 2 s) (fun q=>Of 2 s q) (1+nxV 6 (m0 b)).toNat (txH s) (nxM (m0 b))
 have h2:=bn6 (c:=stL 2) (1+nxV 6 (m0 b)).toNat (by omega)
 have h3:=TK 2 (by decide)
 have h4:=Yw s
 have h5:=Cu (nxM (txB s b).2)
 have h6:(txB s b).1.length≤60+6*200000:=by unfold txB;omega
 unfold txT
 split<;>simp only[jL3]<;>omega
theorem uv {j:Nat} (h:j<4):(nmS (j:Int)==gloB)=false:=by
 match j,h with
 |0,_=>rfl
 |1,_=>rfl
 |2,_=>rfl
 |3,_=>rfl
theorem nj {l:List (List Int)} {i:Nat} {u:Un} (h:u∈utI l i):∃j,j<i∧u=⟨nmS (j:Int),txT (j:Int) (l.getD j [])⟩:=by
 obtain⟨j,hj,rfl⟩:=List.mem_map.1 h
 exact⟨j,List.mem_range.1 hj,rfl⟩
theorem nk {g:Int} {l:List (List Int)} {u:Un} (h:u∈utF g l):u=⟨gloB,glS g⟩∨∃j,j<4∧j<l.length∧u=⟨nmS (j:Int),txT (j:Int) (l.getD j [])⟩:=by
 have hN:utN l≤4∧utN l≤l.length:=by unfold utN;split<;>omega
 have key:u∈utI l (utN l)→∃j,j<4∧j<l.length∧u=⟨nmS (j:Int),txT (j:Int) (l.getD j [])⟩:=fun hu=>by
  obtain⟨j,hj,e⟩:=nj hu
  exact⟨j,by omega,by omega,e⟩
 unfold utF at h
 split at h
 ·rw[mem_append,List.mem_cons]at h
  rcases h with h|h|h
  ·exact .inr (key (List.mem_of_mem_take h))
  ·exact .inl h
  ·exact .inr (key (List.mem_of_mem_drop h))
 ·rw[mem_append,List.mem_singleton]at h
  rcases h with h|h
  ·exact .inr (key h)
  ·exact .inl h
theorem RZ (g:Int):RJ (giV (glLs g)).ns∧(giV (glLs g)).c.length≤5000∧(giV (glLs g)).a.length≤5000∧∀x∈(giV (glLs g)).a,1≤x.n∧x.n≤1048576:=by
 unfold glLs
 split
 ·exact⟨Ma (by decide),by decide,by decide,by decide⟩
 split
 ·exact⟨Ma (by decide),by decide,by decide,by decide⟩
 split
 ·exact⟨Ma (by decide),by decide,by decide,by decide⟩
 split
 ·exact⟨Ma (by decide),by decide,by decide,by decide⟩
 ·exact⟨Ma (by decide),by decide,by decide,by decide⟩
theorem kh:∀l:List Un,∃n m,∀u∈l,okB n m (FP u.t).1.body
 |[]=>⟨0,0,fun u h=>by cases h⟩
 |u::l=>by
  obtain⟨n,m,h⟩:=kh l
  obtain⟨n',m',h'⟩:=(Vo u.t).2
  refine⟨max n n',max m m',fun v hv=>?_⟩
  rcases List.mem_cons.1 hv with rfl|hv
  ·exact Fi (Nat.le_max_right _ _) h' (Nat.le_max_right _ _)
  ·exact Fi (Nat.le_max_left _ _) (h v hv) (Nat.le_max_left _ _)
theorem sUn (g:Int) (l:List (List Int)):∃n m,0<n∧∀u∈utF g l,okUn n m (wgl g) u:=by
 obtain⟨n,m,h⟩:=kh (utF g l)
 refine⟨n+1,m,Nat.succ_pos _,fun u hu=>?_⟩
 rcases nk hu with rfl|⟨j,hj,hl,rfl⟩
 ·exact du (A0O g) (RZ g).1 (RZ g).2.1 (RZ g).2.2.1
 ·have hn:=uv hj
  exact⟨fun h=>(by rw[hn]at h;cases h),fun _=>Nat.le_trans (ni _ _) (by decide),fun _=>(Vo _).1,fun _=>Fi (Nat.le_succ _) (h _ hu) (Nat.le_refl _)⟩
theorem gZ {fs:List Fn} {f x:Fn} (h:x∈insF fs f):x∈fs∨x=f:=by
 unfold insF at h
 rw[mem_append,List.mem_cons]at h
 rcases h with h|h|h
 ·exact .inl (List.mem_of_mem_take h)
 ·exact .inr h
 ·exact .inl (List.mem_of_mem_drop h)
theorem A13 {n m:Nat} {gl:List UInt8→List Gi} {P:Pg} {u:Un} (hu:okUn n m gl u) (h:∀f∈P.fs,okF f∧∃M,okB n M f.body):∀f∈(upP m gl P u).fs,okF f∧∃M,okB n M f.body:=by
 unfold upP
 split
 ·exact h
 rename_i hg
 have hg:(u.s==gloB)=false:=by simpa using hg
 split
 ·exact h
 split
 ·exact h
 rename_i hr
 intro f hf
 rcases gZ hf with hf|rfl
 ·exact h f hf
 ·have h1:=hu.f hg
  have h2:=hu.b hg
  unfold Jj at hr ⊢
  split
  ·rename_i h3;rw[if_pos h3]at hr;exact absurd rfl hr
  rename_i h3;rw[if_neg h3]at hr
  split
  ·rename_i h4;rw[if_pos h4]at hr;exact absurd rfl hr
  rename_i h4;rw[if_neg h4]at hr
  split
  ·rename_i h5;rw[if_pos h5]at hr;exact absurd rfl hr
  ·exact⟨h1,m,Uk m _ h2⟩
theorem ki {n m:Nat} {gl:List UInt8→List Gi}:∀(l:List Un) (P:Pg),(∀u∈l,okUn n m gl u)→(∀f∈P.fs,okF f∧∃M,okB n M f.body)→∀f∈(l.foldl (upP m gl) P).fs,okF f∧∃M,okB n M f.body
 |[],P,_,h=>h
 |u::l,P,hu,h=>ki l (upP m gl P u) (fun v hv=>hu v (List.mem_cons_of_mem _ hv)) (A13 (hu u (List.mem_cons_self ..)) h)
theorem uw {m:Nat} {g:Int}:∀(l:List Un) (P:Pg),(P.g=giV (glLs g)∨P.g=⟨[],[]⟩)→((l.foldl (upP m (wgl g)) P).g=giV (glLs g)∨(l.foldl (upP m (wgl g)) P).g=⟨[],[]⟩)
 |[],P,h=>h
 |u::l,P,h=>by
  refine uw l (upP m (wgl g) P u) ?_
  unfold upP
  split
  ·exact .inl rfl
  split
  ·exact h
  split
  ·exact h
  ·exact h
theorem A14 {n m:Nat} {g:Int} {l:List (List Int)} (hu:∀u∈utF g l,okUn n m (wgl g) u) {va:List Va} {s:Sta} {fuel:Int} {k:Nat} (hv:va.length≤5000) (h1:s.cs.length≤1000000) (h2:s.ar.length≤1000000) (hf:fuel<k) (hk:k≤1000000000):okR n k (sPg m (wgl g) g l) va s fuel:=by
 have hg:(sPg m (wgl g) g l).g=giV (glLs g)∨(sPg m (wgl g) g l).g=⟨[],[]⟩:=uw (utF g l) ⟨⟨[],[]⟩,[]⟩ (.inr rfl)
 have hl:(sPg m (wgl g) g l).fs.length≤10:=by
  have:=Uc m (wgl g) (utF g l) (utF g l).length (Nat.le_refl _)
  rw[List.take_length]at this
  exact Nat.le_trans this (ZE g l)
 have ho:=RZ g
 refine⟨⟨by omega,ki (utF g l) _ hu (fun f h=>by cases h)⟩,?_,?_,?_,h1,h2,hv,hf,hk⟩
 ·rcases hg with e|e<;>rw[e]
  ·have:=ho.2.1;omega
  ·exact Nat.zero_le _
 ·rcases hg with e|e<;>rw[e]
  ·have:=ho.2.2.1;omega
  ·exact Nat.zero_le _
 ·rcases hg with e|e<;>rw[e]
  ·exact ho.2.2.2
  ·intro x hx;cases hx
end Go.Proofs.Ytjnnmindcbgjhaa
