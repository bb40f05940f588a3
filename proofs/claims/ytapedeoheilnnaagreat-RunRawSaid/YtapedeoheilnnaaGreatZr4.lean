/- The document's frame: sums, conditions, walked. Conditions: the sums have all their parts; how many cells and arrays there are. -/
import Derived.Test.YtapedeoheilnnaaGreatZr2
set_option linter.all false
set_option maxRecDepth 20000
set_option maxHeartbeats 16000000
open Option (isSome_some isSome_none)
namespace Go.Proofs.YtapedeoheilnnaaGreat
open Go Go.Sy Go.RowKit
variable{P:Prop}
theorem K4(h:P:=by (repeat' first|exact ck|with_reducible apply And.intro|intro _);all_goals first|exact⟨hc1,ra,ha1⟩|exact⟨hc2,rb,hb1⟩|exact KZ|(refine A1 [] ?_;simp only[seval,go_sem,bne,A5,↓A0,h,hA,hB])):P:=h
theorem A27(h:P:=by (repeat' first|exact ck|with_reducible apply And.intro|intro _);all_goals first|exact⟨hc1,ra,ha1⟩|exact⟨hc2,rb,hb1⟩|exact hv0|exact KZ|(refine A1 [] ?_;simp only[seval,go_sem,bne,A5,↓A0,h,hA,hB])):P:=h
theorem bV(h:P:=by (repeat' first|exact ck|with_reducible apply And.intro|intro _);all_goals first|exact⟨hc1,rp,hp1⟩|exact⟨hc2,rq,hq1⟩|exact KZ|(refine A1 [] ?_;simp only[seval,go_sem,bne,A5,↓A0,h,hA])):P:=h
theorem Oc(q:Rz):(⟨q.P,q.m,q.f,q.is,q.ps⟩:Rz)=q:=rfl
theorem Ri(is:Zi):List.flatMap (λp=>List.flatMap C.names p.snd) (isC is)=[]:=List.flatMap_eq_nil_iff.2 λp hp=>List.flatMap_eq_nil_iff.2 λc hc=>WE is c (List.mem_flatMap.2 ⟨p,hp,hc⟩)
theorem Rj(ps:Zp):List.flatMap (λp=>List.flatMap C.names p.snd) (psC' ps)=[]:=List.flatMap_eq_nil_iff.2 λp hp=>List.flatMap_eq_nil_iff.2 λc hc=>WF ps c (List.mem_flatMap.2 ⟨p,hp,hc⟩)
theorem Od(f:Nat->Nat)(is:Zi):(isC is).map (λp=>(p.1,p.2.map (rnC f)))=isC is:=Tr f (WE is)
theorem Oe(f:Nat->Nat)(ps:Zp):(psC' ps).map (λp=>(p.1,p.2.map (rnC f)))=psC' ps:=Tr f (WF ps)
theorem BK(is:Zi)(s:List UInt8):AD (isC is) s=(AD is s).map λn=>[.v (.int .i64 n)]:=KX (λn:Int=>[C.v (.int .i64 n)]) s is
theorem BL(ps:Zp)(s:List UInt8):AD (psC' ps) s=(AD ps s).map λn=>[.v (.string (bs n))]:=KX (λn:List UInt8=>[C.v (.string (bs n))]) s ps
theorem BM(is:Zi)(s:List UInt8)(n:Int):B1 (isC is) s [.v (.int .i64 n)]=isC (B1 is s n):=OK (λn:Int=>[C.v (.int .i64 n)]) s n is
theorem BN(ps:Zp)(s:List UInt8)(n:List UInt8):B1 (psC' ps) s [.v (.string (bs n))]=psC' (B1 ps s n):=OK (λn:List UInt8=>[C.v (.string (bs n))]) s n ps
structure Kz(m r:Ms):Prop where
 c:r.cs=m.cs
 a:r.ar=m.ar
 f:r.fuel=m.fuel
theorem Kz.refl(m:Ms):Kz m m:=⟨rfl,rfl,rfl⟩
theorem Kz.tr{m r t:Ms}(h:Kz m r)(k:Kz r t):Kz m t:=⟨k.c.trans h.c,k.a.trans h.a,k.f.trans h.f⟩
theorem Ky(m:Ms)(nm:List UInt8)(al k:Int):Kz m (m.zfail nm al k):=by unfold Ms.zfail;split<;>exact⟨rfl,rfl,rfl⟩
theorem A6N(nm:List UInt8)(al k x y:Int)(m:Ms):Kz m (opZ nm al k x y m).2:=by
 unfold opZ
 repeat' split
 all_goals first|exact Kz.refl _|exact Ky _ _ _ _
theorem A6O(nm:List UInt8)(al:Int)(is:Zi)(s:List UInt8)(m:Ms):Kz m (vrZ nm al is s m).2:=by
 unfold vrZ
 split
 .exact Kz.refl _
 split
 .exact Kz.refl _
 exact Ky _ _ _ _
theorem Hj(nm:List UInt8)(al:Int)(is:Zi):∀(e:Ex) (m:Ms),Kz m (evZ nm al is e m).2
 | .nil,m=>Kz.refl m
 | .mk k n s a b,m=>by
  have h1:=Hj nm al is a m
  have h2:=h1.tr (Hj nm al is b (evZ nm al is a m).2)
  simp only[evZ]
  split
  .exact Kz.refl m
  split
  .exact Kz.refl m
  split
  .exact A6O _ _ _ _ _
  split
  .exact h1
  split
  .exact h2
  exact h2.tr (A6N _ _ _ _ _ _)
theorem N5(nm:List UInt8)(al:Int)(is:Zi)(ps:Zp):∀(c:Cd) (m:Ms),Kz m (cdZ nm al is ps c m).2
 | .nil,m=>Kz.refl m
 | .mk k a b p q s,m=>by
  have h1:=N5 nm al is ps p m
  have h2:=h1.tr (N5 nm al is ps q (cdZ nm al is ps p m).2)
  have h3:=(Hj nm al is a m).tr (Hj nm al is b (evZ nm al is a m).2)
  simp only[cdZ]
  split
  .exact Kz.refl m
  split
  .exact Kz.refl m
  split
  .exact h1
  split
  .split
   .exact h2
   exact h1
  split
  .split
   .exact h1
   split
   .exact h2
   exact h1
  exact h3
abbrev bW(n:Nat)(q:Rz)(al:Int)(e:Ex):Prop:=q.m.cs.length<=1000000/\exR e/\e.dp<n
abbrev B2(n:Nat)(q:Rz)(al:Int)(e:Ex):Bool:=false
abbrev As(n:Nat)(q:Rz)(al:Int)(e:Ex):Rz:={ q with m:=(evZ q.f.name al q.is e q.m).2 }
abbrev Ay(n:Nat)(q:Rz)(al:Int)(e:Ex):Rz:={ q with m:=(evZ q.f.name al q.is e q.m).2 }
abbrev B3(n:Nat)(q:Rz)(al:Int)(e:Ex):SV:=.one (.v (.int .i64 (evZ q.f.name al q.is e q.m).1))
theorem pS:∀b,∀v∈ArgC.e (acS (cInt .i64) (acS (cEx) ac0)) b,v.tupB=false:=by rintro ⟨x0,x1,_⟩ v hv;simp only[FM,FL,List.mem_cons,List.not_mem_nil,or_false]at hv;rcases hv with rfl|rfl<;>first|rfl|exact FD _|exact FE _
noncomputable abbrev Rk:ArgL (Rz×(Int)×(Ex)×Unit):=amRz (acS (cInt .i64) (acS (cEx) ac0)) pS
abbrev Ly(n:Nat):Prop:=DY Tryz.prog 90 (Rk).args (Rk).mem (λp:(Rz×(Int)×(Ex)×Unit)=>bW n p.1 p.2.1 p.2.2.1) (λp:(Rz×(Int)×(Ex)×Unit)=>B2 n p.1 p.2.1 p.2.2.1) (λp:(Rz×(Int)×(Ex)×Unit)=>B3 n p.1 p.2.1 p.2.2.1) (λp:(Rz×(Int)×(Ex)×Unit)=>Rz.memO (As n p.1 p.2.1 p.2.2.1)) (λp:(Rz×(Int)×(Ex)×Unit)=>mlO (Rz.pan (Ay n p.1 p.2.1 p.2.2.1)))
noncomputable def Jb{X:Ctx}{w0:World}(n:Nat)(h:Ly n):Sy.Spec Tryz.prog X w0:=DL 90 Tryz.call90 (Rk) _ _ _ _ _ (id (by exact λp _ _=>have h:=GM p.1 (As n p.1 p.2.1 p.2.2.1);⟨h.1,h.2.1,rfl,h.2.2⟩)) (id (by exact λp _ _=>MZ p.1 (Ay n p.1 p.2.1 p.2.2.1))) (id (by exact λp _ _=>⟨(GM p.1 (As n p.1 p.2.1 p.2.2.1)).1,rfl⟩)) KF3 h
theorem BB{X:Ctx}{w0:World}(n:Nat)(h:Ly n):(Jb (X:=X) (w0:=w0) n h).f=90:=rfl
def BC{X:Ctx}{w0:World}(n:Nat)(h:Ly n)(t:Nat)(args:List SV)(H:Hp):=@id ((Jb (X:=X) (w0:=w0) n h).fn t args H=spL X _ t H _ _ _ _ _) rfl
attribute [local go_sem] Fn.c ML.ch ML.ren Rz.mem Rz.memO Rz.pan Sm.ar Sm.c Sm.cd Sm.e Sm.el Sm.f Sm.k Sm.no Sm.th Sm.x Sm.y OY OX OZ Dd CS CR CA CP CQ AF AE DV DU DO DN chL fcN Ab Re fzR Rg Ri Od lmH lmO LU N3 N4 DJ Cg Ci EG BK BM BN BL nmX AB AA Dq De Cx Cy EK EJ Rh Rj Oe E1 EH rnC rzC Rf P3 rzW Oc Fl AN Cf DP Cr CO EE vrQ BB BC B2 B3 As Ay Rc OW Kh Kg
attribute[local go_sem] EN xt BG Ad Aw AR BF in
theorem pT(n:Nat)(hu:Ly n):Ly (n+1):=by
 rintro ⟨q,al,e,_u⟩ w M I lab fz xs hc hA hl hx
 refine Bn Tryz.func90 rfl (Rz.mem q) w M I lab fz (B2 (n+1) q al e) (Rz.pan (Ay (n+1) q al e)) (Rz.memO (As (n+1) q al e)) [AR,Aw,(Jb n hu)] [] ((Rk).args ⟨q,al,e,_u⟩) (B3 (n+1) q al e) xs hA hl hx (Kw _ _ _ _) (jN rfl) (Nat.le_refl _) rfl (Ma _) ?_
 clear hx hl hA xs
 simp only[Tryz.f90]
 obtain⟨hc1,hr,hd⟩:=hc
 dsimp only at hc1 hr hd
 cases e with
 |nil=>exact hr.elim
 |mk k n1 x a b=>
 simp only[Ex.dp]at hd
 have ha1:a.dp<n:=by omega
 have hb1:b.dp<n:=by omega
 cases ho:q.m.on with
 |false=>
  have ho1:(q.m.e==0)=false:=ho
  have hn1:(q.m.e != 0)=true:=Ob ho
  have h:evZ q.f.name al q.is (.mk k n1 x a b) q.m=(0,q.m):=by simp only[evZ];rw[if_pos ho]
  simp only[seval,go_sem,↓A0,isSome_some,isSome_none,h,ho1,hn1]
  try simp only[A2,A3]
  try exact UM
 |true=>
 have ho1:(q.m.e==0)=true:=ho
 have hn1:(q.m.e != 0)=false:=Oa ho
 have hoF:¬q.m.on=false:=by rw[ho];decide
 rcases hr with hk|hk|⟨hk,ra⟩|⟨hk,ra,rb⟩
 .subst hk
  have h:evZ q.f.name al q.is (.mk 0 n1 x a b) q.m=(n1,q.m):=by simp only[evZ];rw[if_neg hoF];rfl
  simp only[seval,go_sem,↓A0,isSome_some,isSome_none,h,ho1,hn1]
  try simp only[A2,A3]
  try exact UM
 .subst hk
  have h0:evZ q.f.name al q.is (.mk 1 n1 x a b) q.m=vrZ q.f.name al q.is x q.m:=by simp only[evZ];rw[if_neg hoF];rfl
  cases h1:AD q.is x with
  |some v=>
   have h:evZ q.f.name al q.is (.mk 1 n1 x a b) q.m=(v,q.m):=by rw[h0];unfold vrZ;rw[h1]
   simp only[seval,go_sem,↓A0,isSome_some,isSome_none,h,h1,ho1,hn1]
   try simp only[A2,A3]
   try exact UM
  |none=>
  have hcx:=q.m.cx_rg x
  cases h2:decide (0<=q.m.cx x) with
  |true=>
   have h3:=of_decide_eq_true h2
   have h:evZ q.f.name al q.is (.mk 1 n1 x a b) q.m=(q.m.cell (q.m.cx x),q.m):=by rw[h0];unfold vrZ;rw[h1];exact if_pos h3
   have hg:=MK (l:=q.m.cs) (i:=q.m.cx x) ⟨h3,hcx.2⟩
   simp only[seval,go_sem,↓A0,isSome_some,isSome_none,h,h1,h2,ho1,hn1,hg,Ms.cell]
   try simp only[A2,A3]
   repeat' first|exact ck|with_reducible apply And.intro|intro _
   all_goals first|exact hc1|exact h3|exact hcx.2|exact KZ|(refine A1 [] ?_;simp only[seval,go_sem,bne,A5,↓A0,h,Ms.cell])
  |false=>
  have h3:=of_decide_eq_false h2
  have h:evZ q.f.name al q.is (.mk 1 n1 x a b) q.m=(0,q.m.zfail q.f.name al 4):=by rw[h0];unfold vrZ;rw[h1];exact if_neg h3
  simp only[seval,go_sem,↓A0,isSome_some,isSome_none,h,h1,h2,ho1,hn1]
  try simp only[A2,A3]
  repeat' first|exact ck|with_reducible apply And.intro|intro _
  all_goals first|exact hc1|exact KZ|(refine A1 [] ?_;simp only[seval,go_sem,bne,A5,↓A0,h])
 .subst hk
  have h:evZ q.f.name al q.is (.mk 7 n1 x a b) q.m=(w64i (0-(evZ q.f.name al q.is a q.m).1),(evZ q.f.name al q.is a q.m).2):=by simp only[evZ];rw[if_neg hoF];rfl
  simp only[seval,go_sem,↓A0,isSome_some,isSome_none,h,ho1,hn1]
  try simp only[A2,A3]
  repeat' first|exact ck|with_reducible apply And.intro|intro _
  all_goals first|exact⟨hc1,ra,ha1⟩|exact KZ|(refine A1 [] ?_;simp only[seval,go_sem,bne,A5,↓A0,h])
 obtain⟨A,hA⟩:∃A,evZ q.f.name al q.is a q.m=A:=⟨_,rfl⟩
 obtain⟨u,m1⟩:=A
 obtain⟨B,hB⟩:∃B,evZ q.f.name al q.is b m1=B:=⟨_,rfl⟩
 obtain⟨v,m2⟩:=B
 have k1:=Hj q.f.name al q.is a q.m
 rw[hA]at k1
 have hc2:m1.cs.length<=1000000:=by rw[k1.c];exact hc1
 have h0:evZ q.f.name al q.is (.mk k n1 x a b) q.m=if m2.on=false then (0,m2) else opZ q.f.name al k u v m2:=by
  simp only[evZ];rw[if_neg hoF,if_neg (by omega),if_neg (by omega),if_neg (by omega),hA,hB]
 cases ho2:m2.on with
 |false=>
  have ho3:(m2.e==0)=false:=ho2
  have hn3:(m2.e != 0)=true:=Ob ho2
  have h:evZ q.f.name al q.is (.mk k n1 x a b) q.m=(0,m2):=by rw[h0,if_pos ho2]
  rcases hk with rfl|rfl|rfl|rfl|rfl
  .skip
   simp only[seval,go_sem,↓A0,isSome_some,isSome_none,h,ho1,hn1,ho3,hn3,hA,hB]
   try simp only[A2,A3]
   try exact K4
  .skip
   simp only[seval,go_sem,↓A0,isSome_some,isSome_none,h,ho1,hn1,ho3,hn3,hA,hB]
   try simp only[A2,A3]
   try exact K4
  .skip
   simp only[seval,go_sem,↓A0,isSome_some,isSome_none,h,ho1,hn1,ho3,hn3,hA,hB]
   try simp only[A2,A3]
   try exact K4
  .skip
   simp only[seval,go_sem,↓A0,isSome_some,isSome_none,h,ho1,hn1,ho3,hn3,hA,hB]
   try simp only[A2,A3]
   try exact K4
  skip
  simp only[seval,go_sem,↓A0,isSome_some,isSome_none,h,ho1,hn1,ho3,hn3,hA,hB]
  try simp only[A2,A3]
  try exact K4
 |true=>
 have ho3:(m2.e==0)=true:=ho2
 have hn3:(m2.e != 0)=false:=Oa ho2
 rw[if_neg (by rw[ho2];decide)]at h0
 rcases hk with rfl|rfl|rfl|rfl|rfl
 .have h:evZ q.f.name al q.is (.mk 2 n1 x a b) q.m=(w64i (u+v),m2):=h0
  simp only[seval,go_sem,↓A0,isSome_some,isSome_none,h,ho1,hn1,ho3,hn3,hA,hB]
  try simp only[A2,A3]
  try exact K4
 .have h:evZ q.f.name al q.is (.mk 3 n1 x a b) q.m=(w64i (u-v),m2):=h0
  simp only[seval,go_sem,↓A0,isSome_some,isSome_none,h,ho1,hn1,ho3,hn3,hA,hB]
  try simp only[A2,A3]
  try exact K4
 .have h:evZ q.f.name al q.is (.mk 4 n1 x a b) q.m=(w64i (u*v),m2):=h0
  simp only[seval,go_sem,↓A0,isSome_some,isSome_none,h,ho1,hn1,ho3,hn3,hA,hB]
  try simp only[A2,A3]
  try exact K4
 .cases cy:(v==0) with
  |true=>
   obtain rfl:v=0:=eq_of_beq cy
   have h:evZ q.f.name al q.is (.mk 5 n1 x a b) q.m=(0,m2.zfail q.f.name al 0):=h0
   simp only[seval,go_sem,↓A0,isSome_some,isSome_none,h,ho1,hn1,ho3,hn3,hA,hB]
   try simp only[A2,A3]
   try exact K4
  |false=>
  have hv0:v≠0:=by simpa using cy
  have h:evZ q.f.name al q.is (.mk 5 n1 x a b) q.m=(w64i (u.tdiv v),m2):=by
   rw[h0];unfold opZ
   rw[if_neg (by decide),if_neg (by decide),if_neg (by decide),if_neg hv0];rfl
  simp only[seval,go_sem,↓A0,isSome_some,isSome_none,h,ho1,hn1,ho3,hn3,hA,hB,cy]
  try simp only[A2,A3]
  try exact A27
 cases cy:(v==0) with
 |true=>
  obtain rfl:v=0:=eq_of_beq cy
  have h:evZ q.f.name al q.is (.mk 6 n1 x a b) q.m=(0,m2.zfail q.f.name al 0):=h0
  simp only[seval,go_sem,↓A0,isSome_some,isSome_none,h,ho1,hn1,ho3,hn3,hA,hB]
  try simp only[A2,A3]
  try exact K4
 |false=>
 have hv0:v≠0:=by simpa using cy
 have h:evZ q.f.name al q.is (.mk 6 n1 x a b) q.m=(u.tmod v,m2):=by
  rw[h0];unfold opZ
  rw[if_neg (by decide),if_neg (by decide),if_neg (by decide),if_neg hv0];rfl
 simp only[seval,go_sem,↓A0,isSome_some,isSome_none,h,ho1,hn1,ho3,hn3,hA,hB,cy]
 try simp only[A2,A3]
 try exact A27
theorem y_zEval:∀n,Ly n
 |0=>λp w M I lab fz xs hc=>absurd hc.2.2 (Nat.not_lt_zero _)
 |n+1=>pT n (y_zEval n)
abbrev bX(n:Nat)(q:Rz)(al:Int)(c:Cd):Prop:=q.m.cs.length<=1000000/\cdR c/\c.dp<n
abbrev Bk(n:Nat)(q:Rz)(al:Int)(c:Cd):Bool:=false
abbrev Bb(n:Nat)(q:Rz)(al:Int)(c:Cd):Rz:={ q with m:=(cdZ q.f.name al q.is q.ps c q.m).2 }
abbrev Bd(n:Nat)(q:Rz)(al:Int)(c:Cd):Rz:={ q with m:=(cdZ q.f.name al q.is q.ps c q.m).2 }
abbrev Bl(n:Nat)(q:Rz)(al:Int)(c:Cd):SV:=.one (.v (.bool (cdZ q.f.name al q.is q.ps c q.m).1))
theorem pU:∀b,∀v∈ArgC.e (acS (cInt .i64) (acS (cCd) ac0)) b,v.tupB=false:=by rintro ⟨x0,x1,_⟩ v hv;simp only[FM,FL,List.mem_cons,List.not_mem_nil,or_false]at hv;rcases hv with rfl|rfl<;>first|rfl|exact FD _|exact FE _
noncomputable abbrev Rl:ArgL (Rz×(Int)×(Cd)×Unit):=amRz (acS (cInt .i64) (acS (cCd) ac0)) pU
abbrev Lz(n:Nat):Prop:=DY Tryz.prog 89 (Rl).args (Rl).mem (λp:(Rz×(Int)×(Cd)×Unit)=>bX n p.1 p.2.1 p.2.2.1) (λp:(Rz×(Int)×(Cd)×Unit)=>Bk n p.1 p.2.1 p.2.2.1) (λp:(Rz×(Int)×(Cd)×Unit)=>Bl n p.1 p.2.1 p.2.2.1) (λp:(Rz×(Int)×(Cd)×Unit)=>Rz.memO (Bb n p.1 p.2.1 p.2.2.1)) (λp:(Rz×(Int)×(Cd)×Unit)=>mlO (Rz.pan (Bd n p.1 p.2.1 p.2.2.1)))
noncomputable def Of{X:Ctx}{w0:World}(n:Nat)(h:Lz n):Sy.Spec Tryz.prog X w0:=DL 89 Tryz.call89 (Rl) _ _ _ _ _ (id (by exact λp _ _=>have h:=GM p.1 (Bb n p.1 p.2.1 p.2.2.1);⟨h.1,h.2.1,rfl,h.2.2⟩)) (id (by exact λp _ _=>MZ p.1 (Bd n p.1 p.2.1 p.2.2.1))) (id (by exact λp _ _=>⟨(GM p.1 (Bb n p.1 p.2.1 p.2.2.1)).1,rfl⟩)) KF3 h
theorem Bs{X:Ctx}{w0:World}(n:Nat)(h:Lz n):(Of (X:=X) (w0:=w0) n h).f=89:=rfl
def Bt{X:Ctx}{w0:World}(n:Nat)(h:Lz n)(t:Nat)(args:List SV)(H:Hp):=@id ((Of (X:=X) (w0:=w0) n h).fn t args H=spL X _ t H _ _ _ _ _) rfl
attribute[local go_sem] E3 xt Bs Bt Bk Bl Bb Bd in
theorem pV(n:Nat)(hu:Lz n):Lz (n+1):=by
 rintro ⟨q,al,c,_u⟩ w M I lab fz xs hc hA hl hx
 refine Bn Tryz.func89 rfl (Rz.mem q) w M I lab fz (Bk (n+1) q al c) (Rz.pan (Bd (n+1) q al c)) (Rz.memO (Bb (n+1) q al c)) [(Jb n (y_zEval n)),(Of n hu)] [] ((Rl).args ⟨q,al,c,_u⟩) (Bl (n+1) q al c) xs hA hl hx (Kw _ _ _ _) (jN rfl) (Nat.le_refl _) rfl (Ma _) ?_
 clear hx hl hA xs
 simp only[Tryz.f89]
 obtain⟨hc1,hr,hd⟩:=hc
 dsimp only at hc1 hr hd
 cases c with
 |nil=>exact hr.elim
 |mk k a b p p2 s=>
 simp only[Cd.dp]at hd
 have ha1:a.dp<n:=by omega
 have hb1:b.dp<n:=by omega
 have hp1:p.dp<n:=by omega
 have hq1:p2.dp<n:=by omega
 cases ho:q.m.on with
 |false=>
  have ho1:(q.m.e==0)=false:=ho
  have hn1:(q.m.e != 0)=true:=Ob ho
  have h:cdZ q.f.name al q.is q.ps (.mk k a b p p2 s) q.m=(false,q.m):=by simp only[cdZ];rw[if_pos ho]
  simp only[seval,go_sem,↓A0,isSome_some,isSome_none,h,ho1,hn1]
  try simp only[A2,A3]
  try exact UM
 |true=>
 have ho1:(q.m.e==0)=true:=ho
 have hn1:(q.m.e != 0)=false:=Oa ho
 have hoF:¬q.m.on=false:=by rw[ho];decide
 rcases hr with hk|⟨hk,rp⟩|⟨hk,rp,rq⟩|⟨hk,ra,rb⟩
 .subst hk
  have h:cdZ q.f.name al q.is q.ps (.mk 9 a b p p2 s) q.m=(pgZ q.ps s==[],q.m):=by simp only[cdZ];rw[if_neg hoF];rfl
  cases h1:AD q.ps s with
  |none=>
   have h2:pgZ q.ps s=[]:=by unfold pgZ;rw[h1];rfl
   simp only[seval,go_sem,↓A0,isSome_some,isSome_none,h,h1,h2,ho1,hn1,VS]
   try simp only[A2,A3]
   repeat' first|exact ck|with_reducible apply And.intro|intro _
   all_goals first|exact trivial|exact KZ|(refine A1 [] ?_;simp only[seval,go_sem,bne,A5,↓A0,h,h2,VS])
  |some v=>
  have h2:pgZ q.ps s=v:=by unfold pgZ;rw[h1];rfl
  simp only[seval,go_sem,↓A0,isSome_some,isSome_none,h,h1,h2,ho1,hn1]
  try simp only[A2,A3]
  repeat' first|exact ck|with_reducible apply And.intro|intro _
  all_goals first|exact trivial|exact KZ|(refine A1 [] ?_;simp only[seval,go_sem,bne,A5,↓A0,h,h2])
 .subst hk
  have h:cdZ q.f.name al q.is q.ps (.mk 8 a b p p2 s) q.m=(!(cdZ q.f.name al q.is q.ps p q.m).1,(cdZ q.f.name al q.is q.ps p q.m).2):=by simp only[cdZ];rw[if_neg hoF];rfl
  simp only[seval,go_sem,↓A0,isSome_some,isSome_none,h,ho1,hn1]
  try simp only[A2,A3]
  repeat' first|exact ck|with_reducible apply And.intro|intro _
  all_goals first|exact⟨hc1,rp,hp1⟩|exact KZ|(refine A1 [] ?_;simp only[seval,go_sem,bne,A5,↓A0,h])
 .obtain⟨A,hA⟩:∃A,cdZ q.f.name al q.is q.ps p q.m=A:=⟨_,rfl⟩
  obtain⟨u,m1⟩:=A
  have k1:=N5 q.f.name al q.is q.ps p q.m
  rw[hA]at k1
  have hc2:m1.cs.length<=1000000:=by rw[k1.c];exact hc1
  rcases hk with rfl|rfl
  .have h0:cdZ q.f.name al q.is q.ps (.mk 6 a b p p2 s) q.m=if u=true then cdZ q.f.name al q.is q.ps p2 m1 else (false,m1):=by simp only[cdZ];rw[if_neg hoF,hA];rfl
   cases u with
   |true=>
    have h:cdZ q.f.name al q.is q.ps (.mk 6 a b p p2 s) q.m=cdZ q.f.name al q.is q.ps p2 m1:=h0
    simp only[seval,go_sem,↓A0,isSome_some,isSome_none,h,ho1,hn1,hA]
    try simp only[A2,A3]
    try exact bV
   |false=>
   have h:cdZ q.f.name al q.is q.ps (.mk 6 a b p p2 s) q.m=(false,m1):=h0
   simp only[seval,go_sem,↓A0,isSome_some,isSome_none,h,ho1,hn1,hA]
   try simp only[A2,A3]
   try exact bV
  have h0:cdZ q.f.name al q.is q.ps (.mk 7 a b p p2 s) q.m=if u=true then (true,m1) else if m1.on=true then cdZ q.f.name al q.is q.ps p2 m1 else (false,m1):=by simp only[cdZ];rw[if_neg hoF,hA];rfl
  cases u with
  |true=>
   have h:cdZ q.f.name al q.is q.ps (.mk 7 a b p p2 s) q.m=(true,m1):=h0
   simp only[seval,go_sem,↓A0,isSome_some,isSome_none,h,ho1,hn1,hA]
   try simp only[A2,A3]
   try exact bV
  |false=>
  cases ho2:m1.on with
  |true=>
   have ho3:(m1.e==0)=true:=ho2
   have hn3:(m1.e != 0)=false:=Oa ho2
   have h:cdZ q.f.name al q.is q.ps (.mk 7 a b p p2 s) q.m=cdZ q.f.name al q.is q.ps p2 m1:=by rw[h0,if_neg (by decide),if_pos ho2]
   simp only[seval,go_sem,↓A0,isSome_some,isSome_none,h,ho1,hn1,ho3,hn3,hA]
   try simp only[A2,A3]
   try exact bV
  |false=>
  have ho3:(m1.e==0)=false:=ho2
  have hn3:(m1.e != 0)=true:=Ob ho2
  have h:cdZ q.f.name al q.is q.ps (.mk 7 a b p p2 s) q.m=(false,m1):=by rw[h0,if_neg (by decide),if_neg (by rw[ho2];decide)]
  simp only[seval,go_sem,↓A0,isSome_some,isSome_none,h,ho1,hn1,ho3,hn3,hA]
  try simp only[A2,A3]
  try exact bV
 obtain⟨A,hA⟩:∃A,evZ q.f.name al q.is a q.m=A:=⟨_,rfl⟩
 obtain⟨u,m1⟩:=A
 obtain⟨B,hB⟩:∃B,evZ q.f.name al q.is b m1=B:=⟨_,rfl⟩
 obtain⟨v,m2⟩:=B
 have k1:=Hj q.f.name al q.is a q.m
 rw[hA]at k1
 have hc2:m1.cs.length<=1000000:=by rw[k1.c];exact hc1
 have h0:cdZ q.f.name al q.is q.ps (.mk k a b p p2 s) q.m=(cmZ k u v,m2):=by
  simp only[cdZ];rw[if_neg hoF,if_neg (by omega),if_neg (by omega),if_neg (by omega),if_neg (by omega),hA,hB]
 rcases hk with rfl|rfl|rfl|rfl|rfl|rfl
 .have h:cdZ q.f.name al q.is q.ps (.mk 0 a b p p2 s) q.m=(u==v,m2):=h0
  simp only[seval,go_sem,↓A0,isSome_some,isSome_none,h,ho1,hn1,hA,hB]
  try simp only[A2,A3]
  try exact K4
 .have h:cdZ q.f.name al q.is q.ps (.mk 1 a b p p2 s) q.m=(!(u==v),m2):=h0
  simp only[seval,go_sem,↓A0,isSome_some,isSome_none,h,ho1,hn1,hA,hB]
  try simp only[A2,A3]
  try exact K4
 .have h:cdZ q.f.name al q.is q.ps (.mk 2 a b p p2 s) q.m=(decide (u<v),m2):=h0
  simp only[seval,go_sem,↓A0,isSome_some,isSome_none,h,ho1,hn1,hA,hB]
  try simp only[A2,A3]
  try exact K4
 .have h:cdZ q.f.name al q.is q.ps (.mk 3 a b p p2 s) q.m=(decide (u<=v),m2):=h0
  simp only[seval,go_sem,↓A0,isSome_some,isSome_none,h,ho1,hn1,hA,hB]
  try simp only[A2,A3]
  try exact K4
 .have h:cdZ q.f.name al q.is q.ps (.mk 4 a b p p2 s) q.m=(decide (v<u),m2):=h0
  simp only[seval,go_sem,↓A0,isSome_some,isSome_none,h,ho1,hn1,hA,hB]
  try simp only[A2,A3]
  try exact K4
 have h:cdZ q.f.name al q.is q.ps (.mk 5 a b p p2 s) q.m=(decide (v<=u),m2):=h0
 simp only[seval,go_sem,↓A0,isSome_some,isSome_none,h,ho1,hn1,hA,hB]
 try simp only[A2,A3]
 try exact K4
theorem Xx:∀n,Lz n
 |0=>λp w M I lab fz xs hc=>absurd hc.2.2 (Nat.not_lt_zero _)
 |n+1=>pV n (Xx n)
end Go.Proofs.YtapedeoheilnnaaGreat
