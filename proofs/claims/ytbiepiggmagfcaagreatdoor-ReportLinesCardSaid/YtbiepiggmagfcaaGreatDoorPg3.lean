/- What the resolver asks for, plain. No conditions but those in each statement. -/
import Derived.Test.YtbiepiggmagfcaaGreatDoorRs3
import Derived.Test.YtbiepiggmagfcaaGreatDoorMc4
set_option linter.unusedVariables false
set_option linter.unusedSimpArgs false
open List (length_append length_cons length_nil)
namespace Go.Proofs.YtbiepiggmagfcaaGreatDoor
open Go Go.Sy Go.RowKit
theorem OkS.mono {n n':Nat} {s:Sm} (h:OkS n s) (hn:n≤n'):OkS n' s:=
 ⟨Nat.lt_of_lt_of_le h.e hn,Nat.lt_of_lt_of_le h.f hn,Nat.lt_of_lt_of_le h.c hn,fun a ha=>Nat.lt_of_lt_of_le (h.a a ha) hn,h.l⟩
theorem FU {n n':Nat} (hn:n≤n'):∀{m m':Nat} {l:List Sm},okB n m l→m≤m'→okB n' m' l
 |0,_,_,h,_=>h.elim
 |m+1,0,_,_,hm=>absurd hm (by omega)
 |m+1,m'+1,l,h,hm=>⟨h.1,fun s hs=>by
   obtain⟨h1,h2,h3⟩:=h.2 s hs
   exact⟨h1.mono hn,FU hn h2 (by omega),FU hn h3 (by omega)⟩⟩
def Dh (s:Sm):Prop:=∃n m,OkS n s∧okB n m s.th∧okB n m s.el
theorem fN:∀l:List Ar,∃n,∀a∈l,a.e.dp<n
 |[]=>⟨0,fun a h=>by cases h⟩
 |b::l=>by
  obtain⟨n,h⟩:=fN l
  refine⟨max n (b.e.dp+1),fun a ha=>?_⟩
  rcases List.mem_cons.1 ha with rfl|ha
  ·exact Nat.lt_of_lt_of_le (Nat.lt_succ_self _) (Nat.le_max_right _ _)
  ·exact Nat.lt_of_lt_of_le (h a ha) (Nat.le_max_left _ _)
theorem V4:∀l:List Sm,(∀s∈l,Dh s)→∃n m,∀s∈l,OkS n s∧okB n m s.th∧okB n m s.el
 |[],_=>⟨0,0,fun s h=>by cases h⟩
 |t::l,h=>by
  obtain⟨n,m,h1⟩:=V4 l fun s hs=>h s (List.mem_cons_of_mem _ hs)
  obtain⟨n',m',a,b,c⟩:=h t (List.mem_cons_self ..)
  refine⟨max n n',max m m',fun s hs=>?_⟩
  rcases List.mem_cons.1 hs with rfl|hs
  ·exact⟨a.mono (Nat.le_max_right _ _),FU (Nat.le_max_right _ _) b (Nat.le_max_right _ _),FU (Nat.le_max_right _ _) c (Nat.le_max_right _ _)⟩
  ·obtain⟨a,b,c⟩:=h1 s hs
   exact⟨a.mono (Nat.le_max_left _ _),FU (Nat.le_max_left _ _) b (Nat.le_max_left _ _),FU (Nat.le_max_left _ _) c (Nat.le_max_left _ _)⟩
theorem PJ {l:List Sm} (h:∀s∈l,Dh s) (hl:l.length≤5000):∃n m,okB n m l:=by
 obtain⟨n,m,h1⟩:=V4 l h
 exact⟨n,m+1,hl,h1⟩
theorem Qa (k:Int) (x y:List UInt8) (e g:Ex) (cd:Cd) (ar:List Ar) (th el:List Sm) (no:Int) (ha:ar.length≤5000) (ht:th.length≤5000) (he:el.length≤5000) (h1:∀s∈th,Dh s) (h2:∀s∈el,Dh s):Dh (.mk k x y e g cd ar th el no):=by
 obtain⟨n1,m1,b1⟩:=PJ h1 ht
 obtain⟨n2,m2,b2⟩:=PJ h2 he
 obtain⟨n3,b3⟩:=fN ar
 refine⟨n1+n2+n3+e.dp+g.dp+cd.dp+1,m1+m2,⟨?_,?_,?_,fun a h=>?_,ha⟩,FU (by omega) b1 (by omega),FU (by omega) b2 (by omega)⟩
 ·show e.dp<_;omega
 ·show g.dp<_;omega
 ·show cd.dp<_;omega
 ·have:=b3 a h;omega
theorem R0 {st:Pr→R Sm} (hu:∀p,okP p→Nx p (st p).2) (hg:∀p,okP p→Dh (st p).1):∀(k:Nat) (l:List Sm) (p:Pr),okP p→(∀s∈l,Dh s)→(∀s∈(stmtsL st k l p).1,Dh s)∧(stmtsL st k l p).1.length≤l.length+k
 |0,l,p,h,hl=>⟨hl,Nat.le_refl _⟩
 |k+1,l,p,h,hl=>by
  simp only[stmtsL]
  split
  ·split
   ·exact⟨hl,by simp only;omega⟩
   split
   ·exact⟨fun s hs=>(by cases hs),Nat.zero_le _⟩
   ·have h1:=R0 hu hg k (l++[(st p).1]) (st p).2 (hu p h).ok (fun s hs=>by
     rcases List.mem_append.1 hs with hs|hs
     ·exact hl s hs
     ·rw[List.mem_singleton.1 hs];exact hg p h)
    refine⟨h1.1,?_⟩
    have h2:=h1.2
    simp only[jL3]at h2
    omega
  ·exact⟨hl,by simp only;omega⟩
theorem R7 {st:Pr→R Sm} (hu:∀p,okP p→Nx p (st p).2) (hg:∀p,okP p→Dh (st p).1) {p:Pr} (h:okP p):(∀s∈(stmtsW st p).1,Dh s)∧(stmtsW st p).1.length≤5000:=by
 have h1:=R0 hu hg (p.l.length+1) [] p h (fun s hs=>by cases hs)
 have h2:=h.2.2.1
 refine⟨h1.1,?_⟩
 have h3:=h1.2
 simp only[length_nil]at h3
 show (stmtsL st (p.l.length+1) [] p).1.length≤5000
 omega
theorem Ws:∀(k:Nat) (l:List Ar) (p:Pr),(GQ k l p).1.length≤l.length+k
 |0,l,p=>by simp[GQ]
 |k+1,l,p=>by
  simp only[GQ]
  split
  ·split
   ·simp only[jL3];omega
   ·have h2:=Ws k (l++[⟨false,[],(exS p).1⟩]) (AD [44] (exS p).2)
    simp only[jL3]at h2
    omega
  ·simp
theorem Wt {p:Pr} (h:okP p):(Cw p).1.length≤5000:=by
 unfold Cw
 split
 ·simp
 ·have h1:=Ws (p.l.length+1) [] p
  have h2:=h.2.2.1
  simp only[length_nil]at h1
  omega
theorem V5 {st:Pr→R Sm} (hu:∀p,okP p→Nx p (st p).2) (hg:∀p,okP p→Dh (st p).1) {p:Pr} (h:okP p):(∀s∈(blkW st p).1,Dh s)∧(blkW st p).1.length≤5000:=by
 unfold blkW
 split
 ·rename_i hi
  split
  ·rename_i hb
   have h1:=DH h hb (Aa hi).2
   exact R7 hu hg h1.ok
  ·exact⟨fun s hs=>(by cases hs),Nat.zero_le _⟩
 ·exact⟨fun s hs=>(by cases hs),Nat.zero_le _⟩
theorem Wu {st:Pr→R Sm} (hu:∀p,okP p→Nx p (st p).2) (hg:∀p,okP p→Dh (st p).1) {p:Pr} {t:List UInt8} (h:okP p) (hi:isT t p=true):(∀s∈(ifB (blkW st) p).1,Dh s)∧(ifB (blkW st) p).1.length≤5000:=by
 have h1:=Sc h hi
 exact V5 hu hg (Ae (t:=[41]) h1.ok).ok
theorem EY (k:Int) (x y:List UInt8) (e g:Ex) (cd:Cd) (ar:List Ar) (no:Int) (ha:ar.length≤5000):Dh (.mk k x y e g cd ar [] [] no):=
 Qa k x y e g cd ar [] [] no ha (Nat.zero_le _) (Nat.zero_le _) (fun s hs=>by cases hs) (fun s hs=>by cases hs)
theorem qD {p:Pr} (h:okP p):((BF p).1.a.getD []).length≤5000:=by
 unfold BF
 split
 ·exact Nat.zero_le _
 split
 ·exact Nat.zero_le _
 split
 ·exact Nat.zero_le _
 split
 ·exact Nat.zero_le _
 split
 ·rename_i hb
  exact Wt (X4 h hb).ok
 ·exact Nat.zero_le _
theorem fO {st:Pr→R Sm} (hu:∀p,okP p→Nx p (st p).2) (hg:∀p,okP p→Dh (st p).1) (no:Int) {p:Pr} (h:okP p):Dh (Cy st no p).1:=by
 unfold Cy
 split
 ·exact EY _ _ _ _ _ _ [] _ (Nat.zero_le _)
 split
 ·exact EY _ _ _ _ _ _ [] _ (Nat.zero_le _)
 split
 ·rename_i hi
  have h1:=Wu hu hg h hi
  exact Qa _ _ _ _ _ _ [] _ [] _ (Nat.zero_le _) h1.2 (Nat.zero_le _) h1.1 (fun s hs=>by cases hs)
 split
 ·rename_i hi
  have h1:=Wu hu hg h hi
  split
  ·rename_i he
   have h2:=PS hu h hi
   have h3:=V5 hu hg (AV h2.ok he).ok
   exact Qa _ _ _ _ _ _ [] _ _ _ (Nat.zero_le _) h1.2 h3.2 h1.1 h3.1
  ·exact Qa _ _ _ _ _ _ [] _ [] _ (Nat.zero_le _) h1.2 (Nat.zero_le _) h1.1 (fun s hs=>by cases hs)
 split
 ·exact EY _ _ _ _ _ _ [] _ (Nat.zero_le _)
 split
 ·rename_i hi
  exact EY _ _ _ _ _ _ _ _ (Wt (AV (DO h).ok hi).ok)
 split
 ·exact EY _ _ _ _ _ _ [] _ (Nat.zero_le _)
 ·exact EY _ _ _ _ _ _ _ _ (qD (Ae (t:=[61]) (DO h).ok).ok)
theorem V6:∀(f:Nat) (p:Pr),okP p→Dh (AW f p).1
 |0,p,h=>EY _ _ _ _ _ _ [] _ (Nat.zero_le _)
 |f+1,p,h=>by
  simp only[AW]
  split
  ·exact EY _ _ _ _ _ _ [] _ (Nat.zero_le _)
  ·exact fO (Jv f) (V6 f) _ (Sb h).ok
theorem Wv:∀(k:Nat) (l:List Vr) (p:Pr),(KG k l p).1.length≤l.length+k
 |0,l,p=>Nat.le_refl _
 |k+1,l,p=>by
  have h1:=O8 l (isT [42] p) 6 (B4 [42] p)
  simp only[KG]
  split
  ·split
   ·simp only;omega
   ·have h2:=Wv k (Dc l (isT [42] p) 6 (B4 [42] p)) (AD [44] (Ce l 6 (B4 [42] p)))
    omega
  ·simp only;omega
theorem Ww:∀(k:Nat) (l:List Vr) (p:Pr),(Hv k l p).1.length≤l.length+k
 |0,l,p=>Nat.le_refl _
 |k+1,l,p=>by
  have h1:=O8 l (isT tPtr p) 20 (adv p)
  simp only[Hv]
  split
  ·have h2:=Ww k (Dc l (isT tPtr p) 20 (adv p)) (AD [59] (Ce l 20 (adv p)))
   omega
  ·simp only;omega
theorem jw {p:Pr} (h:okP p):(O9 p).1.length≤5000:=by
 unfold O9
 split
 ·exact Nat.zero_le _
 ·have h1:=Wv (p.l.length+1) [] p
  have h2:=h.2.2.1
  simp only[length_nil]at h1
  omega
theorem jx {p:Pr} (h:okP p):(RM p).1.length≤5000:=by
 have h1:=Ww p.l.length [] p
 have h2:=h.2.2.1
 simp only[length_nil]at h1
 show (Hv p.l.length [] p).1.length≤5000
 omega
theorem wq {p:Pr} (h:okP p):okP (EQ p):=by
 unfold EQ
 split
 ·rename_i hi
  split
  ·rename_i hb
   exact(DH h hb (Aa hi).2).ok
  ·rename_i hb
   exact(DG 51 (Js h (by simpa using hb)).ok).ok
 ·exact(DG 51 h).ok
theorem MI (s:List UInt8):okF (funF s).1∧∃n m,okB n m (funF s).1.body:=by
 have hz:okF fn0∧∃n m,okB n m fn0.body:=⟨⟨Nat.zero_le _,Nat.zero_le _⟩,0,1,Nat.zero_le _,fun s hs=>by cases hs⟩
 unfold funF
 split
 ·exact hz
 split
 ·exact hz
 ·have h3:=(fb s (s.length:Int)).ok
  have h4:okP (EQ (fp3 (rxT s).1 (s.length:Int)).2):=wq (ZY h3).ok
  have h5:okP (fp4 (rxT s).1 (s.length:Int)).2:=(UH _ _ _ h4).ok
  have h6:=R7 (Jv 41) (V6 41) h5
  exact⟨⟨jw h3,jx h4⟩,PJ h6.1 h6.2⟩
end Go.Proofs.YtbiepiggmagfcaaGreatDoor
namespace Go.Proofs.YtbiepiggmagfcaaGreatDoor
open Go Go.Sy Go.RowKit
noncomputable def dpN (t:List UInt8):Nat:=(MI t).2.choose
noncomputable def dpM (t:List UInt8):Nat:=(MI t).2.choose_spec.choose
theorem bh (t:List UInt8):okB (dpN t) (dpM t) (funF t).1.body:=(MI t).2.choose_spec.choose_spec
noncomputable def fnA (s:Int) (b:List Int):Fn:=fnF s b (dpM (txT s b))
noncomputable section
abbrev fP (s:Int) (b:List Int):Prop:=0≤s∧okY b
abbrev Wx (s:Int) (b:List Int):SV:=.agg (fnA s b).c
noncomputable abbrev fQ:ArgC ((Int)×(List Int)×Unit):=(acS (cInt .i64) (acS (cBy) ac0))
abbrev fR:Prop:=AP Tryz.prog 14 fQ (fun p:(Int)×(List Int)×Unit=>fP p.1 p.2.1) (fun p:(Int)×(List Int)×Unit=>Wx p.1 p.2.1)
theorem wr:∀p:(Int)×(List Int)×Unit,((fun p:(Int)×(List Int)×Unit=>Wx p.1 p.2.1) p).names=[]:=by intro p;rfl
noncomputable def Wy {X:Ctx} {w0:World} (h:fR):Sy.Spec Tryz.prog X w0:=Am 14 Tryz.call14 fQ (fun p:(Int)×(List Int)×Unit=>fP p.1 p.2.1) (fun p:(Int)×(List Int)×Unit=>Wx p.1 p.2.1) (wr) h
end
theorem nD:fR:=by
 rintro ⟨s,b,_u⟩ w fz xs hc hfz hl hx
 exact A89 (dpN (txT s b)) (dpM (txT s b)) ⟨s,b,_u⟩ w fz xs ⟨hc.1,hc.2,(MI _).1,bh _⟩ hfz hl hx
end Go.Proofs.YtbiepiggmagfcaaGreatDoor
namespace Go.Proofs.YtbiepiggmagfcaaGreatDoor
open Go Go.Sy Go.RowKit
structure Kp (n:Nat) (s s1:Sm):Prop where
 p:PrS n s1
 r:RgS s1
 h:(hdL s1).flatten=(hdL s).flatten
 no:s1.no=s.no
 k:(s1.k=s.k∧s1.th=s.th∧s1.el=s.el)∨(s.k=0∧s1.k=2∧s1.th=[]∧s1.el=[])
theorem Kp.refl {n:Nat} {s:Sm} (p:PrS n s) (r:RgS s):Kp n s s:=⟨p,r,rfl,rfl,.inl ⟨rfl,rfl,rfl⟩⟩
theorem fS {f:Fn} {e:Ex} (h:IC f e=true):exT e=e.nm∧∃n s a b,e= .mk 1 n s a b:=by
 cases e with
 |nil=>cases h
 |mk k n s a b=>
  simp only[IC,Bool.and_eq_true,beq_iff_eq]at h
  obtain⟨rfl,_⟩:=h
  exact⟨ex1 n s a b,n,s,a,b,rfl⟩
theorem A7l (f:Fn) (a:Ar):Az (raS f a).1=Az a:=by
 unfold raS
 split
 ·rfl
 split
 ·rename_i h1 h2
  have h1:a.p=false:=by simpa using h1
  show a.e.nm=_
  unfold Az
  rw[if_neg (by rw[h1];decide),(fS h2).1]
 ·rfl
theorem A2i {f:Fn} {n:Nat} {s:Sm} (hp:PrS n s) (hr:RgS s) (hn:0<n) (h:(rsS f s).2=true):Kp n s (rsS f s).1:=by
 obtain⟨k,x,y,e,g,cd,ar,th,el,no⟩:=s
 have re:=Kp.refl hp hr
 by_cases k0:(k==0)=true
 ·have hk:k=0:=eq_of_beq k0
  subst hk
  by_cases c1:(Bg f x==2)=true
  ·by_cases c2:IC f e=true
   ·have e0:(rsS f (.mk 0 x y e g cd ar th el no)).1= .mk 2 x e.nm .nil .nil .nil [] [] [] no:=by
     simp only[rsS];rw[if_pos k0,if_pos c1,if_pos c2]
    rw[e0]
    refine⟨⟨⟨hn,hn,hn,fun a h=>(by cases h),Nat.zero_le _⟩,by show (0:Int)≤2;decide,by show (2:Int)≤12;decide,trivial,trivial,trivial,fun a h=>(by cases h)⟩,?_,?_,rfl,.inr ⟨rfl,rfl,rfl,rfl⟩⟩
    ·refine⟨fun h=>?_,fun h=>?_,fun h=>?_,fun h=>?_⟩<;>simp only[Sm.k]at h<;>omega
    ·rw[XJ,PX,(fS c2).1]
   ·simp only[rsS]at h
    rw[if_pos k0,if_pos c1,if_neg c2]at h
    cases h
  ·have e0:(rsS f (.mk 0 x y e g cd ar th el no)).1= .mk 0 x y e g cd ar th el no:=by
    simp only[rsS];rw[if_pos k0,if_neg c1]
   rw[e0];exact re
 ·by_cases k8:(k==8)=true
  ·have hk:k=8:=eq_of_beq k8
   subst hk
   have e0:(rsS f (.mk 8 x y e g cd ar th el no)).1= .mk 8 x y e g cd (raL f ar) th el no:=rfl
   rw[e0]
   obtain⟨⟨o1,o2,o3,o4,o5⟩,p1,p2,p3,p4,p5,p6⟩:=hp
   refine⟨⟨⟨o1,o2,o3,fun a ha=>?_,by show (raL f ar).length≤_;unfold raL;rw[List.length_map];exact o5⟩,p1,p2,p3,p4,p5,fun a ha=>?_⟩,⟨hr.e,hr.f,hr.c,fun hk a ha hp=>?_⟩,?_,rfl,.inl ⟨rfl,rfl,rfl⟩⟩
   ·obtain⟨b,hb,rfl⟩:=List.mem_map.1 (show a∈ar.map (fun a=>(raS f a).1) from ha)
    unfold raS
    split
    ·exact o4 b hb
    split
    ·exact hn
    ·exact o4 b hb
   ·obtain⟨b,hb,rfl⟩:=List.mem_map.1 (show a∈ar.map (fun a=>(raS f a).1) from ha)
    unfold raS
    split
    ·exact p6 b hb
    split
    ·trivial
    ·exact p6 b hb
   ·obtain⟨b,hb,rfl⟩:=List.mem_map.1 (show a∈ar.map (fun a=>(raS f a).1) from ha)
    unfold raS at hp ⊢
    split at hp
    ·rename_i h1;rw[if_pos h1];exact hr.a rfl b hb hp
    split at hp
    ·cases hp
    ·rename_i h1 h2
     rw[if_neg h1,if_neg h2];exact hr.a rfl b hb hp
   ·rw[J8,J8]
    have:(raL f ar).map Az=ar.map Az:=by
     unfold raL;rw[List.map_map];exact List.map_congr_left fun a _=>A7l f a
    rw[this]
  ·have e0:(rsS f (.mk k x y e g cd ar th el no)).1= .mk k x y e g cd ar th el no:=by
    simp only[rsS]
    rw[if_neg k0]
    repeat' (first|rfl|(rw[if_neg k8])|split)
   rw[e0];exact re
theorem ws (s:Sm) (a b:List Sm):hdL (s.wi a b)=hdL s∧(s.wi a b).no=s.no∧(s.wi a b).k=s.k∧(s.wi a b).th=a∧(s.wi a b).el=b:=by
 cases s;exact⟨rfl,rfl,rfl,rfl,rfl⟩
theorem A7m {n:Nat} {s:Sm} (h:PrS n s) (a b:List Sm):PrS n (s.wi a b):=by
 cases s;exact⟨⟨h.ok.e,h.ok.f,h.ok.c,h.ok.a,h.ok.l⟩,h.k0,h.k1,h.e,h.f,h.c,h.a⟩
theorem A7n {s:Sm} (h:RgS s) (a b:List Sm):RgS (s.wi a b):=by
 cases s;exact⟨h.e,h.f,h.c,h.a⟩
structure Kpl (n m:Nat) (l l':List Sm):Prop where
 p:Cp n m l'
 r:ER m l'
 t:∀d,lnB d l'=lnB d l
def MW:Nat→List Sm→Prop
 |0,_=>True
 |m+1,l=>∀s∈l,0≤s.no∧MW m s.th∧MW m s.el
theorem Ay (m:Nat):MW m []:=by
 cases m with
 |zero=>trivial
 |succ m=>intro s hs;cases hs
mutual
theorem A7o:∀(s:Cs) (n:Int) (m:Nat),0≤n→0≤(s.v n).no∧MW m (s.v n).th∧MW m (s.v n).el
 | .asg x e,n,m,h=>⟨h,Ay _,Ay _⟩
 | .adr x y,n,m,h=>⟨h,Ay _,Ay _⟩
 | .nul x,n,m,h=>⟨h,Ay _,Ay _⟩
 | .lod x y,n,m,h=>⟨h,Ay _,Ay _⟩
 | .sto x e,n,m,h=>⟨h,Ay _,Ay _⟩
 | .idx x y e,n,m,h=>⟨h,Ay _,Ay _⟩
 | .put y e f,n,m,h=>⟨h,Ay _,Ay _⟩
 | .cal none y l,n,m,h=>⟨h,Ay _,Ay _⟩
 | .cal (some x) y l,n,m,h=>⟨h,Ay _,Ay _⟩
 | .ret e,n,m,h=>⟨h,Ay _,Ay _⟩
 | .ass c,n,m,h=>⟨h,Ay _,Ay _⟩
 | .whi c b,n,m,h=>⟨h,RJ b (n+1) m (by omega),Ay _⟩
 | .ite c b none,n,m,h=>⟨h,RJ b (n+1) m (by omega),Ay _⟩
 | .ite c b (some e),n,m,h=>⟨h,RJ b (n+1) m (by omega),RJ e (n+1+ctB b) m (by omega)⟩
theorem RJ:∀(l:List Cs) (n:Int) (m:Nat),0≤n→MW m (vB n l)
 |[],n,m,h=>by rw[vB];exact Ay _
 |s::l,n,m,h=>by
  rw[vB]
  cases m with
  |zero=>trivial
  |succ m=>
   intro x hx
   rcases List.mem_cons.1 hx with rfl|hx
   ·exact A7o s n m h
   ·exact RJ l (n+s.ct) (m+1) (by omega) x hx
end
structure Pn (n m n' m':Nat) (s:Sm):Prop where
 p:PrS n s
 r:RgS s
 no:0≤s.no
 pt:Cp n m s.th
 pe:Cp n m s.el
 rt:ER m s.th
 re:ER m s.el
 nt:MW m s.th
 ne:MW m s.el
 bt:okB n' m' s.th
 be:okB n' m' s.el
theorem fT {f:Fn} {n m n' m':Nat} (hn:0<n) {h:List Sm→List Sm×Int} (hh:∀l,Cp n m l→ER m l→MW m l→okB n' m' l→¬0≤(h l).2→Kpl n m l (h l).1):∀(l out l0:List Sm),(∀s∈l,Pn n m n' m' s)→
  (∀s∈out,(PrS n s∧Cp n m s.th∧Cp n m s.el)∧(RgS s∧ER m s.th∧ER m s.el))→(∀d,lnB d out=lnB d l0)→¬0≤(rsW h f out l).2→
  (∀s∈(rsW h f out l).1,(PrS n s∧Cp n m s.th∧Cp n m s.el)∧(RgS s∧ER m s.th∧ER m s.el))∧(∀d,lnB d (rsW h f out l).1=lnB d (l0++l))∧(rsW h f out l).1.length=out.length+l.length
 |[],out,l0,_,ho,ht,_=>⟨ho,fun d=>by rw[List.append_nil];exact ht d,rfl⟩
 |s::r,out,l0,hl,ho,ht,hx=>by
  have hs:=hl s (by simp)
  simp only[rsW]at hx ⊢
  by_cases c1:(rsS f s).2=true
  ·rw[if_pos c1]at hx ⊢
   by_cases c2:0≤(h (rsS f s).1.th).2
   ·rw[if_pos c2]at hx;exact absurd c2 hx
   rw[if_neg c2]at hx ⊢
   by_cases c3:0≤(h (rsS f s).1.el).2
   ·rw[if_pos c3]at hx;exact absurd c3 hx
   rw[if_neg c3]at hx ⊢
   have kp:=A2i hs.p hs.r hn c1
   have hr0:ER m []:=by
    cases m with
    |zero=>exact hs.pt.elim
    |succ m=>intro s hs;cases hs
   have k1:Kpl n m (rsS f s).1.th (h (rsS f s).1.th).1:=by
    rcases kp.k with⟨_,e1,_⟩|⟨_,_,e1,_⟩
    ·exact hh _ (by rw[e1];exact hs.pt) (by rw[e1];exact hs.rt) (by rw[e1];exact hs.nt) (by rw[e1];exact hs.bt) c2
    ·exact hh _ (by rw[e1];exact XI hs.pt) (by rw[e1];exact hr0) (by rw[e1];exact Ay _) (by rw[e1];exact QZ hs.bt) c2
   have k2:Kpl n m (rsS f s).1.el (h (rsS f s).1.el).1:=by
    rcases kp.k with⟨_,_,e1⟩|⟨_,_,_,e1⟩
    ·exact hh _ (by rw[e1];exact hs.pe) (by rw[e1];exact hs.re) (by rw[e1];exact hs.ne) (by rw[e1];exact hs.be) c3
    ·exact hh _ (by rw[e1];exact XI hs.pt) (by rw[e1];exact hr0) (by rw[e1];exact Ay _) (by rw[e1];exact QZ hs.bt) c3
   obtain⟨w1,w2,w3,w4,w5⟩:=ws (rsS f s).1 (h (rsS f s).1.th).1 (h (rsS f s).1.el).1
   have hE:(h (rsS f s).1.el).1.isEmpty=(rsS f s).1.el.isEmpty:=by
    have:=k2.t 0
    have key:∀l:List Sm,l.isEmpty=(lnB 0 l).isEmpty:=by
     intro l
     cases l with
     |nil=>rfl
     |cons a l=>rw[FY,BJ];rfl
    rw[key,this,← key]
   have hS:∀d,lnS d ((rsS f s).1.wi (h (rsS f s).1.th).1 (h (rsS f s).1.el).1)=lnS d s:=by
    intro d
    rw[BJ,BJ d s,w1,w2,w3,w4,w5,kp.h,kp.no,k1.t,k2.t,hE]
    rcases kp.k with⟨e0,e1,e2⟩|⟨e0,e3,e1,e2⟩
    ·rw[e0,e1,e2]
    ·simp only[e0,e3,Int.reduceBEq,jB,if_false]
   have:=fT hn hh r (out++[(rsS f s).1.wi (h (rsS f s).1.th).1 (h (rsS f s).1.el).1]) (l0++[s]) (fun s' hs'=>hl s' (List.mem_cons_of_mem _ hs')) (fun s' hs'=>by
    rcases List.mem_append.1 hs' with hs'|hs'
    ·exact ho s' hs'
    ·rw[List.mem_singleton.1 hs',w4,w5]
     exact⟨⟨A7m kp.p _ _,k1.p,k2.p⟩,A7n kp.r _ _,k1.r,k2.r⟩) (fun d=>by rw[Li,Li,ht d,hS d]) hx
   refine⟨this.1,fun d=>by rw[this.2.1 d,List.append_assoc];rfl,by rw[this.2.2];simp only[jL3];omega⟩
  ·rw[if_neg c1]at hx
   exact absurd hs.no hx
theorem Wz {f:Fn} {n n':Nat} (hn:0<n):∀(m' m:Nat) (l:List Sm),Cp n m l→ER m l→MW m l→okB n' m' l→¬0≤(rsN f m' l).2→Kpl n m l (rsN f m' l).1
 |0,_,_,_,_,_,h,_=>h.elim
 |_+1,0,_,h,_,_,_,_=>h.elim
 |m'+1,m+1,l,hp,hr,ho,hb,hx=>by
  have:=fT (n:=n) (m:=m) (n':=n') (m':=m') hn (Wz (f:=f) hn m' m) l [] [] (fun s hs=>by
   obtain⟨a1,a2,a3⟩:=hp.2 s hs
   obtain⟨b1,b2,b3⟩:=hr s hs
   obtain⟨c1,c2,c3⟩:=ho s hs
   obtain⟨d1,d2,d3⟩:=hb.2 s hs
   exact⟨a1,b1,c1,a2,a3,b2,b3,c2,c3,d2,d3⟩) (fun s hs=>by cases hs) (fun d=>rfl) hx
  refine⟨⟨?_,fun s hs=>(this.1 s hs).1⟩,fun s hs=>(this.1 s hs).2,fun d=>by rw[show rsN f (m'+1) l=rsW (rsN f m') f [] l from rfl,this.2.1 d];rfl⟩
  rw[show rsN f (m'+1) l=rsW (rsN f m') f [] l from rfl,this.2.2]
  have:=hp.1
  simp only[length_nil];omega
theorem SY:RqF fn0:=⟨⟨Nat.zero_le _,(fun s hs=>by cases hs)⟩,(fun s hs=>by cases hs),Nat.zero_le _,Nat.zero_le _,by decide⟩
theorem wt {s:Int} {b:List Int} (hs:0≤s) (hb:okY b):RqF (fnA s b):=by
 obtain⟨f,q,e,_,t1,t2⟩:=eg hs hb
 have r:=bM q t1 t2
 have hd:=bh (txT s b)
 rw[e]at hd
 unfold fnA fnF pgF
 dsimp only
 rw[e]
 rw[if_neg (show ¬((0:Int) != 0)=true by decide)]
 by_cases c:((Eo f.v (nmS s) (dpM (txT s b))).2.2 != 0)=true
 ·rw[if_pos c];exact SY
 rw[if_neg c]
 show RqF (Eo f.v (nmS s) (dpM (txT s b))).1
 unfold Eo at c ⊢
 by_cases c1:(f.v.name != nmS s||f.v.name==KH)=true
 ·rw[if_pos c1];exact SY
 rw[if_neg c1]at c ⊢
 by_cases c2:M1 [] (f.v.ps++f.v.ls)=true
 ·rw[if_pos c2];exact SY
 rw[if_neg c2]at c ⊢
 by_cases c3:0≤(rsN f.v (dpM (txT s b)) f.v.body).2
 ·rw[if_pos c3];exact SY
 rw[if_neg c3]at c ⊢
 have k:=Wz (n:=5000) (by decide) _ 8 _ r.p r.r (RJ f.body 0 8 (by omega)) hd c3
 refine⟨k.p,k.r,r.pl,r.ll,?_⟩
 have:fnT ⟨f.v.name,f.v.ps,f.v.ls,(rsN f.v (dpM (txT s b)) f.v.body).1⟩=fnT f.v:=by
  rw[NY,NY]
  show BL 0 _++(lnX (lcL _)++(lnX (lnB 1 _)++_))=_
  rw[k.t]
  rfl
 rw[this];exact r.l
end Go.Proofs.YtbiepiggmagfcaaGreatDoor
