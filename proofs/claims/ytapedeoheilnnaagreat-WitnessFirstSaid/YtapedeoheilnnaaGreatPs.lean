/- The seat's programs, walked. Conditions: bytes; units that are not too deep. -/
import Derived.Test.YtapedeoheilnnaaGreatMk5
import Derived.Test.YtapedeoheilnnaaGreatPa9
import Derived.Test.YtapedeoheilnnaaGreatGs
set_option linter.all false
open Nat (le_max_right zero_le)
open List (length_append length_cons length_nil mem_append mem_cons mem_map)
namespace Go.Proofs.YtapedeoheilnnaaGreat
open Go Go.Sy Go.RowKit
theorem s6{P:Prop}(h:P:=by exact⟨Ni (by decide),by decide,by decide,by decide⟩):P:=h
theorem AA2{P:Prop}(h:P:=by exact ID _ _ _ _ _ _ [] _ (zero_le _)):P:=h
variable{n m:Nat}{p:Pr}{st:Pr->R Sm}{f:Fn}{s:Sm}{l:List (List Int)}{u:Un}{g:Int}
theorem A2l{l:List Un}:∀q,some q∈[some (ML.vec zUc (l.map Un.c))]->Ka 1 q:=by
 intro q hq c hc
 simp only[mem_cons,jS,List.not_mem_nil,or_false]at hq
 subst hq
 simp only[ML.cells]at hc
 obtain⟨r,hr,hcr⟩:=List.mem_flatMap.1 hc
 obtain⟨u,_,rfl⟩:=mem_map.1 hr
 simp only[Un.c,id,mem_cons,List.not_mem_nil,or_false]at hcr
 rcases hcr with rfl|rfl<;>exact .inl rfl
section
variable {X:Ctx}{w0:World}
noncomputable def VF:Sy.Spec Tryz.prog X w0:=Dc 26 Tryz.call26 VW ZF (λ_=>false) R1 M_Un (λ_=>mlO [])
 (λp _ _=>⟨rfl,rfl,rfl,A2l⟩) (λa _ h=>by cases h) (λa _ h=>by cases h) (λ_=>rfl) tS
theorem qQ:(VF (X:=X) (w0:=w0)).f=26:=rfl
theorem qR(t:Nat)(args:List SV)(H:Hp):(VF (X:=X) (w0:=w0)).fn t args H=spL X (VW.d H args) t H ZF (λ_=>false) R1 M_Un (λ_=>mlO []):=rfl
end
theorem A2m(ρ:Nat->Nat)(l:List Un):(l.map Un.c).map (λr=>r.map (rnC ρ))=l.map Un.c:=HU Un.c (λ_=>rfl) l
theorem mM:∀l:List Un,Ph mUn.d (l.map Un.c)=some l
 |[]=>rfl
 |u::l=>by
  have h:mUn.d (Un.c u)=some u:=JG dO u
  simp only[List.map_cons,Ph,h,mM l]
theorem fC(g:Int)(l:List (List Int)):(utF g l).length<=10:=by
 have h1:=Wq l (utN l)
 have h2:utN l<=4:=by unfold utN;split<;>omega
 unfold utF
 split
 .simp only[length_append,List.length_take,length_cons,List.length_drop];omega
 simp only[jL3];omega
def sPg(m:Nat)(gl:List UInt8->List Gi)(g:Int)(l:List (List Int)):Pg:=prF m gl (utF g l)
abbrev mN(n:Nat)(m:Nat)(gl:List UInt8->List Gi)(g:Int)(l:List (List Int)):Prop:=ZF (g,l,())/\∀u∈utF g l,okUn n m gl u
abbrev cM(n:Nat)(m:Nat)(gl:List UInt8->List Gi)(g:Int)(l:List (List Int)):SV:=.agg (pqR (sPg m gl g l))
noncomputable abbrev cN:ArgC ((Int)×(List (List Int))×Unit):=(acS (cInt .u8) (acS (cBl) ac0))
abbrev mO(n:Nat)(m:Nat)(gl:List UInt8->List Gi):Prop:=Ca Tryz.prog 9 cN (λp:(Int)×(List (List Int))×Unit=>mN n m gl p.1 p.2.1) (λp:(Int)×(List (List Int))×Unit=>cM n m gl p.1 p.2.1)
noncomputable def mP{X:Ctx}{w0:World}(n:Nat)(m:Nat)(gl:List UInt8->List Gi)(h:mO n m gl):Sy.Spec Tryz.prog X w0:=Dq 9 Tryz.call9 cN _ _ KF2 h
set_option maxRecDepth 20000 in set_option maxHeartbeats 16000000 in
theorem A6n(n:Nat)(m:Nat)(gl:List UInt8->List Gi):mO n m gl:=by
 rintro ⟨g,l,_u⟩ w fz xs hc hfz hl hx
 refine Bg Tryz.func9 rfl w fz [VF,(TL n m gl (y_Prog n m gl))] [] cN (λp:(Int)×(List (List Int))×Unit=>cM n m gl p.1 p.2.1) _ xs hfz hl hx (jN rfl) ?_
 clear hx hl hfz xs
 simp only[Tryz.f9]
 obtain⟨h1,h2⟩:=hc
 simp only[seval,go_sem,qQ,qR,TL,OI,LL,LM,MU,lmH,lmO,chL,ML.ch,Cj,Ck,DH,CU,E8,nmX,xt,Di,ML.ren,rnC,E5,EE,vrQ,Ci,fcN,↓A0,ZD,ZE,Un.c,zUc,Hw,iu,LG,LF,R1,M_Un,A2m,mM,pqR]
 refine⟨h1,⟨fC g l,h2⟩,?_⟩
 refine A1 [] ?_;simp only[seval,go_sem,bne,cM,sPg,pqR]
open Go Go.Sy Go.RowKit
def n4:List (List Int):=[[],[],[],[]]
def wgl(g:Int):List UInt8->List Gi:=λ_=>glLs g
theorem OkS.mono{n':Nat}(h:OkS n s)(hn:n<=n'):OkS n' s:=
 ⟨Nat.lt_of_lt_of_le h.e hn,Nat.lt_of_lt_of_le h.f hn,Nat.lt_of_lt_of_le h.c hn,λa ha=>Nat.lt_of_lt_of_le (h.a a ha) hn,h.l⟩
theorem HA{n':Nat}(hn:n<=n'):∀{m m':Nat} {l:List Sm},okB n m l->m<=m'->okB n' m' l
 |0,_,_,h,_=>h.elim
 |m+1,0,_,_,hm=>absurd hm (by omega)
 |m+1,m'+1,l,h,hm=>⟨h.1,λs hs=>by
   obtain⟨h1,h2,h3⟩:=h.2 s hs
   exact⟨h1.mono hn,HA hn h2 (by omega),HA hn h3 (by omega)⟩⟩
def HF(s:Sm):Prop:=∃n m,OkS n s/\okB n m s.th/\okB n m s.el
theorem mQ:∀l:List Ar,∃n,∀a∈l,a.e.dp<n
 |[]=>⟨0,λa h=>by cases h⟩
 |b::l=>by
  obtain⟨n,h⟩:=mQ l
  refine⟨max n (b.e.dp+1),λa ha=>?_⟩
  rcases mem_cons.1 ha with rfl|ha
  .exact Nat.lt_of_lt_of_le (Nat.lt_succ_self _) (le_max_right _ _)
  exact Nat.lt_of_lt_of_le (h a ha) (Nat.le_max_left _ _)
theorem Yx:∀l:List Sm,(∀s∈l,HF s)->∃n m,∀s∈l,OkS n s/\okB n m s.th/\okB n m s.el
 |[],_=>⟨0,0,λs h=>by cases h⟩
 |t::l,h=>by
  obtain⟨n,m,h1⟩:=Yx l λs hs=>h s (List.mem_cons_of_mem _ hs)
  obtain⟨n',m',a,b,c⟩:=h t (List.mem_cons_self ..)
  refine⟨max n n',max m m',λs hs=>?_⟩
  rcases mem_cons.1 hs with rfl|hs
  .exact⟨a.mono (le_max_right _ _),HA (le_max_right _ _) b (le_max_right _ _),HA (le_max_right _ _) c (le_max_right _ _)⟩
  obtain⟨a,b,c⟩:=h1 s hs
  exact⟨a.mono (Nat.le_max_left _ _),HA (Nat.le_max_left _ _) b (Nat.le_max_left _ _),HA (Nat.le_max_left _ _) c (Nat.le_max_left _ _)⟩
theorem Sx{l:List Sm}(h:∀s∈l,HF s)(hl:l.length<=5000):∃n m,okB n m l:=by
 obtain⟨n,m,h1⟩:=Yx l h
 exact⟨n,m+1,hl,h1⟩
theorem UL(k:Int)(x y:List UInt8)(e g:Ex)(cd:Cd)(ar:List Ar)(th el:List Sm)(no:Int)(ha:ar.length<=5000)(ht:th.length<=5000)(he:el.length<=5000)(h1:∀s∈th,HF s)(h2:∀s∈el,HF s):HF (.mk k x y e g cd ar th el no):=by
 obtain⟨n1,m1,b1⟩:=Sx h1 ht
 obtain⟨n2,m2,b2⟩:=Sx h2 he
 obtain⟨n3,b3⟩:=mQ ar
 refine⟨n1+n2+n3+e.dp+g.dp+cd.dp+1,m1+m2,⟨?_,?_,?_,λa h=>?_,ha⟩,HA (by omega) b1 (by omega),HA (by omega) b2 (by omega)⟩
 .show e.dp<_;omega
 .show g.dp<_;omega
 .show cd.dp<_;omega
 have:=b3 a h;omega
theorem UR{st:Pr->R Sm}(hu:∀p,okP p->Nx p (st p).2)(hg:∀p,okP p->HF (st p).1):∀(k:Nat) (l:List Sm) (p:Pr),okP p->(∀s∈l,HF s)->(∀s∈(stmtsL st k l p).1,HF s)/\(stmtsL st k l p).1.length<=l.length+k
 |0,l,p,h,hl=>⟨hl,Nat.le_refl _⟩
 |k+1,l,p,h,hl=>by
  simp only[stmtsL]
  split
  .split
   .exact⟨hl,by simp only;omega⟩
   split
   .exact⟨λs hs=>(by cases hs),zero_le _⟩
   have h1:=UR hu hg k (l++[(st p).1]) (st p).2 (hu p h).ok (λs hs=>by
    rcases List.mem_append.1 hs with hs|hs
    .exact hl s hs
    rw[List.mem_singleton.1 hs];exact hg p h)
   refine⟨h1.1,?_⟩
   have h2:=h1.2
   simp only[jL3]at h2
   omega
  exact⟨hl,by simp only;omega⟩
theorem US{st:Pr->R Sm}(hu:∀p,okP p->Nx p (st p).2)(hg:∀p,okP p->HF (st p).1){p:Pr}(h:okP p):(∀s∈(stmtsW st p).1,HF s)/\(stmtsW st p).1.length<=5000:=by
 have h1:=UR hu hg (p.l.length+1) [] p h (λs hs=>by cases hs)
 have h2:=h.2.2.1
 refine⟨h1.1,?_⟩
 have h3:=h1.2
 simp only[length_nil]at h3
 show (stmtsL st (p.l.length+1) [] p).1.length<=5000
 omega
theorem cP:∀(k:Nat) (l:List Ar) (p:Pr),(argL k l p).1.length<=l.length+k
 |0,l,p=>by simp[argL]
 |k+1,l,p=>by
  simp only[argL]
  split
  .split
   .simp only[jL3];omega
   have h2:=cP k (l++[⟨false,[],(exS p).1⟩]) (Bd [44] (exS p).2)
   simp only[jL3]at h2
   omega
  simp
theorem cQ(h:okP p):(argW p).1.length<=5000:=by
 unfold argW
 split
 .simp
 have h1:=cP (p.l.length+1) [] p
 have h2:=h.2.2.1
 simp only[length_nil]at h1
 omega
theorem Yy{st:Pr->R Sm}(hu:∀p,okP p->Nx p (st p).2)(hg:∀p,okP p->HF (st p).1){p:Pr}(h:okP p):(∀s∈(blkW st p).1,HF s)/\(blkW st p).1.length<=5000:=by
 unfold blkW
 split
 .rename_i hi
  split
  .rename_i hb
   have h1:=Ef h hb (BA hi).2
   exact US hu hg h1.ok
  exact⟨λs hs=>(by cases hs),zero_le _⟩
 exact⟨λs hs=>(by cases hs),zero_le _⟩
theorem cR{st:Pr->R Sm}(hu:∀p,okP p->Nx p (st p).2)(hg:∀p,okP p->HF (st p).1){p:Pr}{t:List UInt8}(h:okP p)(hi:isT t p=true):(∀s∈(ifB (blkW st) p).1,HF s)/\(ifB (blkW st) p).1.length<=5000:=by
 have h1:=Pk h hi
 exact Yy hu hg (Ak (t:=[41]) h1.ok).ok
theorem ID(k:Int)(x y:List UInt8)(e g:Ex)(cd:Cd)(ar:List Ar)(no:Int)(ha:ar.length<=5000):HF (.mk k x y e g cd ar [] [] no):=
 UL k x y e g cd ar [] [] no ha (zero_le _) (zero_le _) (λs hs=>by cases hs) (λs hs=>by cases hs)
theorem xo(h:okP p):((valF p).1.a.getD []).length<=5000:=by
 unfold valF
 split
 .exact zero_le _
 split
 .exact zero_le _
 split
 .exact zero_le _
 split
 .exact zero_le _
 split
 .rename_i hb
  exact cQ (S9 h hb).ok
 exact zero_le _
theorem mR(hu:∀p,okP p->Nx p (st p).2)(hg:∀p,okP p->HF (st p).1)(no:Int)(h:okP p):HF (HW st no p).1:=by
 unfold HW
 split
 .exact AA2
 split
 .exact AA2
 split
 .rename_i hi
  have h1:=cR hu hg h hi
  exact UL _ _ _ _ _ _ [] _ [] _ (zero_le _) h1.2 (zero_le _) h1.1 (λs hs=>by cases hs)
 split
 .rename_i hi
  have h1:=cR hu hg h hi
  split
  .rename_i he
   have h2:=Pl hu h hi
   have h3:=Yy hu hg (B0 h2.ok he).ok
   exact UL _ _ _ _ _ _ [] _ _ _ (zero_le _) h1.2 h3.2 h1.1 h3.1
  exact UL _ _ _ _ _ _ [] _ [] _ (zero_le _) h1.2 (zero_le _) h1.1 (λs hs=>by cases hs)
 split
 .exact AA2
 split
 .rename_i hi
  exact ID _ _ _ _ _ _ _ _ (cQ (B0 (Fl h).ok hi).ok)
 split
 .exact AA2
 exact ID _ _ _ _ _ _ _ _ (xo (Ak (t:=[61]) (Fl h).ok).ok)
theorem Yz:∀(f:Nat) (p:Pr),okP p->HF (Ce f p).1
 |0,p,h=>ID _ _ _ _ _ _ [] _ (zero_le _)
 |f+1,p,h=>by
  simp only[Ce]
  split
  .exact AA2
  exact mR (L9 f) (Yz f) _ (Pj h).ok
theorem cT:∀(k:Nat) (l:List Vr) (p:Pr),(R6 k l p).1.length<=l.length+k
 |0,l,p=>Nat.le_refl _
 |k+1,l,p=>by
  have h1:=R5 l (isT [42] p) 6 (Bt [42] p)
  simp only[R6]
  split
  .split
   .simp only;omega
   have h2:=cT k (J4 l (isT [42] p) 6 (Bt [42] p)) (Bd [44] (Ga l 6 (Bt [42] p)))
   omega
  simp only;omega
theorem cU:∀(k:Nat) (l:List Vr) (p:Pr),(PQ k l p).1.length<=l.length+k
 |0,l,p=>Nat.le_refl _
 |k+1,l,p=>by
  have h1:=R5 l (isT tPtr p) 20 (adv p)
  simp only[PQ]
  split
  .have h2:=cU k (J4 l (isT tPtr p) 20 (adv p)) (Bd [59] (Ga l 20 (adv p)))
   omega
  simp only;omega
theorem qS(h:okP p):(Ua p).1.length<=5000:=by
 unfold Ua
 split
 .exact zero_le _
 have h1:=cT (p.l.length+1) [] p
 have h2:=h.2.2.1
 simp only[length_nil]at h1
 omega
theorem qT(h:okP p):(Wu p).1.length<=5000:=by
 have h1:=cU p.l.length [] p
 have h2:=h.2.2.1
 simp only[length_nil]at h1
 show (PQ p.l.length [] p).1.length<=5000
 omega
theorem xq(h:okP p):okP (KW p):=by
 unfold KW
 split
 .rename_i hi
  split
  .rename_i hb
   exact(Ef h hb (BA hi).2).ok
  rename_i hb
  exact(FY 51 (LA h (by simpa using hb)).ok).ok
 exact(FY 51 h).ok
theorem Z0(s:List UInt8):okF (Fp s).1/\∃n m,okB n m (Fp s).1.body:=by
 have hz:okF fn0/\∃n m,okB n m fn0.body:=⟨⟨zero_le _,zero_le _⟩,0,1,zero_le _,λs hs=>by cases hs⟩
 unfold Fp
 split
 .exact hz
 split
 .exact hz
 have h3:=(Zu s (s.length:Int)).ok
 have h4:okP (KW (fp3 (rxT s).1 (s.length:Int)).2):=xq (Wv h3).ok
 have h5:okP (fp4 (rxT s).1 (s.length:Int)).2:=(TG _ _ _ h4).ok
 have h6:=US (L9 41) (Yz 41) h5
 exact⟨⟨qS h3,qT h4⟩,Sx h6.1 h6.2⟩
theorem Zf(s:Sm)(a b:List Sm):(s.wi a b).th=a/\(s.wi a b).el=b:=by cases s;exact⟨rfl,rfl⟩
theorem A2n(h:OkS n s):OkS n (rsS f s).1:=by
 have h0:0<n:=Nat.lt_of_le_of_lt (zero_le _) h.e
 obtain⟨k,x,y,e,g,cd,ar,th,el,no⟩:=s
 have hr:OkS n (.mk k x y e g cd (raL f ar) th el no):=by
  refine⟨h.e,h.f,h.c,λa ha=>?_,by simpa [raL,Sm.ar] using h.l⟩
  obtain⟨b,hb,rfl⟩:=mem_map.1 ha
  unfold raS
  split
  .exact h.a b hb
  split
  .exact h0
  exact h.a b hb
 simp only[rsS]
 repeat' split
 all_goals first|exact h|exact hr|exact⟨h0,h0,h0,(λa ha=>by cases ha),zero_le _⟩
theorem A6o(a b:List Sm)(h:OkS n s):OkS n (s.wi a b):=by cases s;exact⟨h.e,h.f,h.c,h.a,h.l⟩
theorem fD{h:List Sm->List Sm×Int}:∀(l out:List Sm),(∀s∈out,OkS n s/\okB n m s.th/\okB n m s.el)->out.length+l.length<=5000->
  (∀s∈l,OkS n s/\okB n m (h (rsS f s).1.th).1/\okB n m (h (rsS f s).1.el).1)->okB n (m+1) (rsW h f out l).1
 |[],out,ho,hl,_=>⟨by simpa [rsW] using hl,ho⟩
 |s::r,out,ho,hl,hs=>by
  have h0:okB n (m+1) []:=⟨zero_le _,λs hs=>by cases hs⟩
  simp only[rsW]
  split
  .split
   .exact h0
   split
   .exact h0
   refine fD r _ ?_ (by simp only[jL3]at hl ⊢;omega) λs' hs'=>hs s' (List.mem_cons_of_mem _ hs')
   intro s' hs'
   rcases List.mem_append.1 hs' with h1|h1
   .exact ho s' h1
   obtain⟨a1,a2,a3⟩:=hs s (List.mem_cons_self ..)
   rw[List.mem_singleton.1 h1,(Zf _ _ _).1,(Zf _ _ _).2]
   exact⟨A6o _ _ (A2n a1),a2,a3⟩
  exact h0
theorem YJ:∀(m:Nat) (l:List Sm),okB n m l->okB n m (rsN f m l).1
 |0,l,h=>h.elim
 |m+1,l,h=>fD l [] (λs hs=>by cases hs) (by simpa using h.1) λs hs=>by
  obtain⟨h0,h1,h2⟩:=h.2 s hs
  have h3:=W4 f s
  refine⟨h0,YJ m _ ?_,YJ m _ ?_⟩
  .rcases h3.1 with h|h<;>rw[h]
   .exact h1
   exact Sz h1
  rcases h3.2 with h|h<;>rw[h]
  .exact h2
  exact Sz h2
theorem xr(s:Int)(b:List Int):(txT s b).length<=2000000:=by
 have hv:nxV 6 (m0 b)<6:=Int.tmod_lt_of_pos _ (by decide)
 have h1:=Zl (f:=stT 2 s) (λq=>Pz 2 s q) (1+nxV 6 (m0 b)).toNat (txH s) (nxM (m0 b))
 have h2:=bn6 (c:=stL 2) (1+nxV 6 (m0 b)).toNat (by omega)
 have h3:=VU 2 (by decide)
 have h4:=dG s
 have h5:=Dx (nxM (txB s b).2)
 have h6:(txB s b).1.length<=60+6*200000:=by unfold txB;omega
 unfold txT
 split<;>simp only[jL3]<;>omega
theorem A2o{j:Nat}(h:j<4):(nmS (j:Int)==gloB)=false:=by
 match j,h with
 |0,_=>rfl
 |1,_=>rfl
 |2,_=>rfl
 |3,_=>rfl
theorem xu{i:Nat}(h:u∈utI l i):∃j,j<i/\u=⟨nmS (j:Int),txT (j:Int) (l.getD j [])⟩:=by
 obtain⟨j,hj,rfl⟩:=mem_map.1 h
 exact⟨j,List.mem_range.1 hj,rfl⟩
theorem xw(h:u∈utF g l):u=⟨gloB,glS g⟩∨∃j,j<4/\j<l.length/\u=⟨nmS (j:Int),txT (j:Int) (l.getD j [])⟩:=by
 have hN:utN l<=4/\utN l<=l.length:=by unfold utN;split<;>omega
 have key:u∈utI l (utN l)->∃j,j<4/\j<l.length/\u=⟨nmS (j:Int),txT (j:Int) (l.getD j [])⟩:=λhu=>by
  obtain⟨j,hj,e⟩:=xu hu
  exact⟨j,by omega,by omega,e⟩
 unfold utF at h
 split at h
 .rw[mem_append,mem_cons]at h
  rcases h with h|h|h
  .exact .inr (key (List.mem_of_mem_take h))
  .exact .inl h
  exact .inr (key (List.mem_of_mem_drop h))
 rw[mem_append,List.mem_singleton]at h
 rcases h with h|h
 .exact .inr (key h)
 exact .inl h
theorem UM(g:Int):TT (giV (glLs g)).ns/\(giV (glLs g)).c.length<=5000/\(giV (glLs g)).a.length<=5000/\∀x∈(giV (glLs g)).a,1<=x.n/\x.n<=1048576:=by
 unfold glLs
 split
 .exact s6
 split
 .exact s6
 split
 .exact s6
 split
 .exact s6
 exact s6
theorem sP:∀l:List Un,∃n m,∀u∈l,okB n m (Fp u.t).1.body
 |[]=>⟨0,0,λu h=>by cases h⟩
 |u::l=>by
  obtain⟨n,m,h⟩:=sP l
  obtain⟨n',m',h'⟩:=(Z0 u.t).2
  refine⟨max n n',max m m',λv hv=>?_⟩
  rcases mem_cons.1 hv with rfl|hv
  .exact HA (le_max_right _ _) h' (le_max_right _ _)
  exact HA (Nat.le_max_left _ _) (h v hv) (Nat.le_max_left _ _)
theorem sUn(g:Int)(l:List (List Int)):∃n m,0<n/\∀u∈utF g l,okUn n m (wgl g) u:=by
 obtain⟨n,m,h⟩:=sP (utF g l)
 refine⟨n+1,m,Nat.succ_pos _,λu hu=>?_⟩
 rcases xw hu with rfl|⟨j,hj,hl,rfl⟩
 .exact jx (A4A g) (UM g).1 (UM g).2.1 (UM g).2.2.1
 have hn:=A2o hj
 exact⟨λh=>(by rw[hn]at h;cases h),λ_=>Nat.le_trans (xr _ _) (by decide),λ_=>(Z0 _).1,λ_=>HA (Nat.le_succ _) (h _ hu) (Nat.le_refl _)⟩
theorem qU{fs:List Fn}{x:Fn}(h:x∈insF fs f):x∈fs∨x=f:=by
 unfold insF at h
 rw[mem_append,mem_cons]at h
 rcases h with h|h|h
 .exact .inl (List.mem_of_mem_take h)
 .exact .inr h
 exact .inl (List.mem_of_mem_drop h)
theorem A6p{m:Nat}{gl:List UInt8->List Gi}{P:Pg}{u:Un}(hu:okUn n m gl u)(h:∀f∈P.fs,okF f/\∃M,okB n M f.body):∀f∈(upP m gl P u).fs,okF f/\∃M,okB n M f.body:=by
 unfold upP
 split
 .exact h
 rename_i hg
 have hg:(u.s==gloB)=false:=by simpa using hg
 split
 .exact h
 split
 .exact h
 rename_i hr
 intro f hf
 rcases qU hf with hf|rfl
 .exact h f hf
 have h1:=hu.f hg
 have h2:=hu.b hg
 unfold IV at hr ⊢
 split
 .rename_i h3;rw[if_pos h3]at hr;exact absurd rfl hr
 rename_i h3;rw[if_neg h3]at hr
 split
 .rename_i h4;rw[if_pos h4]at hr;exact absurd rfl hr
 rename_i h4;rw[if_neg h4]at hr
 split
 .rename_i h5;rw[if_pos h5]at hr;exact absurd rfl hr
 exact⟨h1,m,YJ m _ h2⟩
theorem sQ{gl:List UInt8->List Gi}:∀(l:List Un) (P:Pg),(∀u∈l,okUn n m gl u)->(∀f∈P.fs,okF f/\∃M,okB n M f.body)->∀f∈(l.foldl (upP m gl) P).fs,okF f/\∃M,okB n M f.body
 |[],P,_,h=>h
 |u::l,P,hu,h=>sQ l (upP m gl P u) (λv hv=>hu v (List.mem_cons_of_mem _ hv)) (A6p (hu u (List.mem_cons_self ..)) h)
theorem A2p:∀(l:List Un) (P:Pg),(P.g=giV (glLs g)∨P.g=⟨[],[]⟩)->((l.foldl (upP m (wgl g)) P).g=giV (glLs g)∨(l.foldl (upP m (wgl g)) P).g=⟨[],[]⟩)
 |[],P,h=>h
 |u::l,P,h=>by
  refine A2p l (upP m (wgl g) P u) ?_
  unfold upP
  split
  .exact .inl rfl
  split
  .exact h
  split
  .exact h
  exact h
theorem A6q{g:Int}{l:List (List Int)}(hu:∀u∈utF g l,okUn n m (wgl g) u){va:List Va}{s:Sta}{fuel:Int}{k:Nat}(hv:va.length<=5000)(h1:s.cs.length<=1000000)(h2:s.ar.length<=1000000)(hf:fuel<k)(hk:k<=1000000000):okR n k (sPg m (wgl g) g l) va s fuel:=by
 have hg:(sPg m (wgl g) g l).g=giV (glLs g)∨(sPg m (wgl g) g l).g=⟨[],[]⟩:=A2p (utF g l) ⟨⟨[],[]⟩,[]⟩ (.inr rfl)
 have hl:(sPg m (wgl g) g l).fs.length<=10:=by
  have:=Wz m (wgl g) (utF g l) (utF g l).length (Nat.le_refl _)
  rw[List.take_length]at this
  exact Nat.le_trans this (fC g l)
 have ho:=UM g
 refine⟨⟨by omega,sQ (utF g l) _ hu (λf h=>by cases h)⟩,?_,?_,?_,h1,h2,hv,hf,hk⟩
 .rcases hg with e|e<;>rw[e]
  .have:=ho.2.1;omega
  exact zero_le _
 .rcases hg with e|e<;>rw[e]
  .have:=ho.2.2.1;omega
  exact zero_le _
 rcases hg with e|e<;>rw[e]
 .exact ho.2.2.2
 intro x hx;cases hx
end Go.Proofs.YtapedeoheilnnaaGreat
