/- The document's frame: sums, conditions, walked. Conditions: the sums have all their parts; how many cells and arrays there are. -/
import Derived.Test.YtapedeoheilnnaaGreatZr3
set_option linter.all false
set_option maxRecDepth 20000
set_option maxHeartbeats 16000000
open Option (isSome_some isSome_none)
namespace Go.Proofs.YtapedeoheilnnaaGreat
open Go Go.Sy Go.RowKit
theorem BY{P:Prop}(h:P:=by
 simp only[seval,go_sem,↓A0,isSome_some,isSome_none,h,ho1,hn1,ho3,hn3,hA,hB]
 repeat refine AX ?_
 refine A1 [] ?_;simp only[seval,go_sem,bne,A3,↓A0,h,hA,hB]):P:=h
theorem IS{P:Prop}(h:P:=by
 repeat refine AX ?_
 refine A1 [] ?_;simp only[seval,go_sem,bne,A3,↓A0,h,hA,hB]):P:=h
theorem gE{P:Prop}(h:P:=by
 simp only[seval,go_sem,↓A0,isSome_some,isSome_none,h,ho1,hn1,hA]
 repeat refine AX ?_
 refine A1 [] ?_;simp only[seval,go_sem,bne,A3,↓A0,h,hA]):P:=h
theorem AAM{P:Prop}(h:P:=by
 simp only[seval,go_sem,↓A0,isSome_some,isSome_none,h,ho1,hn1,ho3,hn3,hA]
 repeat refine AX ?_
 refine A1 [] ?_;simp only[seval,go_sem,bne,A3,↓A0,h,hA]):P:=h
theorem AA9{P:Prop}(h:P:=by
 repeat' split
 all_goals first|exact Kz.refl _|exact L6 _ _ _ _):P:=h
theorem Oo(q:Rz):(⟨q.P,q.m,q.f,q.is,q.ps⟩:Rz)=q:=rfl
theorem Rt(is:Zi):List.flatMap (λp=>List.flatMap C.names p.snd) (isC is)=[]:=List.flatMap_eq_nil_iff.2 λp hp=>List.flatMap_eq_nil_iff.2 λc hc=>WT is c (List.mem_flatMap.2 ⟨p,hp,hc⟩)
theorem Ru(ps:Zp):List.flatMap (λp=>List.flatMap C.names p.snd) (psC' ps)=[]:=List.flatMap_eq_nil_iff.2 λp hp=>List.flatMap_eq_nil_iff.2 λc hc=>WU ps c (List.mem_flatMap.2 ⟨p,hp,hc⟩)
theorem Oq(f:Nat->Nat)(is:Zi):(isC is).map (λp=>(p.1,p.2.map (rnC f)))=isC is:=U9 f (WT is)
theorem Ot(f:Nat->Nat)(ps:Zp):(psC' ps).map (λp=>(p.1,p.2.map (rnC f)))=psC' ps:=U9 f (WU ps)
theorem BV(is:Zi)(s:List UInt8):AH (isC is) s=(AH is s).map λn=>[.v (.int .i64 n)]:=Kg (λn:Int=>[C.v (.int .i64 n)]) s is
theorem BW(ps:Zp)(s:List UInt8):AH (psC' ps) s=(AH ps s).map λn=>[.v (.string (bs n))]:=Kg (λn:List UInt8=>[C.v (.string (bs n))]) s ps
theorem BX(is:Zi)(s:List UInt8)(n:Int):B5 (isC is) s [.v (.int .i64 n)]=isC (B5 is s n):=OW (λn:Int=>[C.v (.int .i64 n)]) s n is
theorem BZ(ps:Zp)(s:List UInt8)(n:List UInt8):B5 (psC' ps) s [.v (.string (bs n))]=psC' (B5 ps s n):=OW (λn:List UInt8=>[C.v (.string (bs n))]) s n ps
structure Kz(m r:Ms):Prop where
 c:r.cs=m.cs
 a:r.ar=m.ar
 f:r.fuel=m.fuel
theorem Kz.refl(m:Ms):Kz m m:=⟨rfl,rfl,rfl⟩
theorem Kz.tr{m r t:Ms}(h:Kz m r)(k:Kz r t):Kz m t:=⟨k.c.trans h.c,k.a.trans h.a,k.f.trans h.f⟩
theorem L6(m:Ms)(nm:List UInt8)(al k:Int):Kz m (m.zfail nm al k):=by unfold Ms.zfail;split<;>exact⟨rfl,rfl,rfl⟩
theorem A6e(nm:List UInt8)(al k x y:Int)(m:Ms):Kz m (opZ nm al k x y m).2:=by
 unfold opZ
 exact AA9
theorem A6f(nm:List UInt8)(al:Int)(is:Zi)(s:List UInt8)(m:Ms):Kz m (vrZ nm al is s m).2:=by
 unfold vrZ
 split
 .exact Kz.refl _
 split
 .exact Kz.refl _
 exact L6 _ _ _ _
theorem Ho(nm:List UInt8)(al:Int)(is:Zi):∀(e:Ex) (m:Ms),Kz m (evZ nm al is e m).2
 | .nil,m=>Kz.refl m
 | .mk k n s a b,m=>by
  have h1:=Ho nm al is a m
  have h2:=h1.tr (Ho nm al is b (evZ nm al is a m).2)
  simp only[evZ]
  split
  .exact Kz.refl m
  split
  .exact Kz.refl m
  split
  .exact A6f _ _ _ _ _
  split
  .exact h1
  split
  .exact h2
  exact h2.tr (A6e _ _ _ _ _ _)
theorem NF(nm:List UInt8)(al:Int)(is:Zi)(ps:Zp):∀(c:Cd) (m:Ms),Kz m (cdZ nm al is ps c m).2
 | .nil,m=>Kz.refl m
 | .mk k a b p q s,m=>by
  have h1:=NF nm al is ps p m
  have h2:=h1.tr (NF nm al is ps q (cdZ nm al is ps p m).2)
  have h3:=(Ho nm al is a m).tr (Ho nm al is b (evZ nm al is a m).2)
  simp only[cdZ]
  split
  .exact Kz.refl m
  split
  .exact Kz.refl m
  split
  .exact h1
  split
  .split
   .exact h2
   exact h1
  split
  .split
   .exact h1
   split
   .exact h2
   exact h1
  exact h3
abbrev cB(n:Nat)(q:Rz)(al:Int)(e:Ex):Prop:=q.m.cs.length<=1000000/\exR e/\e.dp<n
abbrev B6(n:Nat)(q:Rz)(al:Int)(e:Ex):Bool:=false
abbrev Ay(n:Nat)(q:Rz)(al:Int)(e:Ex):Rz:={ q with m:=(evZ q.f.name al q.is e q.m).2 }
abbrev B2(n:Nat)(q:Rz)(al:Int)(e:Ex):Rz:={ q with m:=(evZ q.f.name al q.is e q.m).2 }
abbrev B7(n:Nat)(q:Rz)(al:Int)(e:Ex):SV:=.one (.v (.int .i64 (evZ q.f.name al q.is e q.m).1))
theorem qA:∀b,∀v∈ArgC.e (acS (cInt .i64) (acS (cEx) ac0)) b,v.tupB=false:=by rintro ⟨x0,x1,_⟩ v hv;simp only[FV,FU,List.mem_cons,List.not_mem_nil,or_false]at hv;rcases hv with rfl|rfl<;>first|rfl|exact FN _|exact FO _
noncomputable abbrev Rv:ArgL (Rz×(Int)×(Ex)×Unit):=amRz (acS (cInt .i64) (acS (cEx) ac0)) qA
abbrev M6(n:Nat):Prop:=Dj Tryz.prog 90 (Rv).args (Rv).mem (λp:(Rz×(Int)×(Ex)×Unit)=>cB n p.1 p.2.1 p.2.2.1) (λp:(Rz×(Int)×(Ex)×Unit)=>B6 n p.1 p.2.1 p.2.2.1) (λp:(Rz×(Int)×(Ex)×Unit)=>B7 n p.1 p.2.1 p.2.2.1) (λp:(Rz×(Int)×(Ex)×Unit)=>Rz.memO (Ay n p.1 p.2.1 p.2.2.1)) (λp:(Rz×(Int)×(Ex)×Unit)=>mlO (Rz.pan (B2 n p.1 p.2.1 p.2.2.1)))
noncomputable def Jl{X:Ctx}{w0:World}(n:Nat)(h:M6 n):Sy.Spec Tryz.prog X w0:=Dc 90 Tryz.call90 (Rv) _ _ _ _ _ (id (by exact λp _ _=>have h:=GZ p.1 (Ay n p.1 p.2.1 p.2.2.1);⟨h.1,h.2.1,rfl,h.2.2⟩)) (id (by exact λp _ _=>Mi p.1 (B2 n p.1 p.2.1 p.2.2.1))) (id (by exact λp _ _=>⟨(GZ p.1 (Ay n p.1 p.2.1 p.2.2.1)).1,rfl⟩)) KF5 h
theorem BH{X:Ctx}{w0:World}(n:Nat)(h:M6 n):(Jl (X:=X) (w0:=w0) n h).f=90:=rfl
def BI{X:Ctx}{w0:World}(n:Nat)(h:M6 n)(t:Nat)(args:List SV)(H:Hp):=@id ((Jl (X:=X) (w0:=w0) n h).fn t args H=spL X _ t H _ _ _ _ _) rfl
attribute [local go_sem] Fn.c ML.ch ML.ren Rz.mem Rz.memO Rz.pan Sm.ar Sm.c Sm.cd Sm.e Sm.el Sm.f Sm.k Sm.no Sm.th Sm.x Sm.y Ok Oj Ol Di Bl Bk Be Bi Bj A9 A8 CK CJ DJ DI chL fcN AM Rn fzR Rq Rt Oq lmH lmO Lb ND NE DH Cj Ck EQ BV BX BZ BW nmX A5 A4 Dz Dh D3 D4 ED E9 Rr Ru Ot E5 EE rnC rzC Rp PK rzW Oo Fx AF Ci DS Cu CU E8 vrQ BH BI B6 B7 Ay B2 Rm Oi Kn Km
attribute[local go_sem] EU xt BO Ag B1 AU BN in
theorem qB(n:Nat)(hu:M6 n):M6 (n+1):=by
 rintro ⟨q,al,e,_u⟩ w M I lab fz xs hc hA hl hx
 refine Bz Tryz.func90 rfl (Rz.mem q) w M I lab fz (B6 (n+1) q al e) (Rz.pan (B2 (n+1) q al e)) (Rz.memO (Ay (n+1) q al e)) [AU,B1,(Jl n hu)] [] ((Rv).args ⟨q,al,e,_u⟩) (B7 (n+1) q al e) xs hA hl hx (L4 _ _ _ _) (jN rfl) (Nat.le_refl _) rfl (Mj _) ?_
 clear hx hl hA xs
 simp only[Tryz.f90]
 obtain⟨hc1,hr,hd⟩:=hc
 dsimp only at hc1 hr hd
 cases e with
 |nil=>exact hr.elim
 |mk k n1 x a b=>
 simp only[Ex.dp]at hd
 have ha1:a.dp<n:=by omega
 have hb1:b.dp<n:=by omega
 cases ho:q.m.on with
 |false=>
  have ho1:(q.m.e==0)=false:=ho
  have hn1:(q.m.e != 0)=true:=On ho
  have h:evZ q.f.name al q.is (.mk k n1 x a b) q.m=(0,q.m):=by simp only[evZ];rw[if_pos ho]
  simp only[seval,go_sem,↓A0,isSome_some,isSome_none,h,ho1,hn1]
  exact Oz
 |true=>
 have ho1:(q.m.e==0)=true:=ho
 have hn1:(q.m.e != 0)=false:=Om ho
 have hoF:¬q.m.on=false:=by rw[ho];decide
 rcases hr with hk|hk|⟨hk,ra⟩|⟨hk,ra,rb⟩
 .subst hk
  have h:evZ q.f.name al q.is (.mk 0 n1 x a b) q.m=(n1,q.m):=by simp only[evZ];rw[if_neg hoF];rfl
  simp only[seval,go_sem,↓A0,isSome_some,isSome_none,h,ho1,hn1]
  exact Oz
 .subst hk
  have h0:evZ q.f.name al q.is (.mk 1 n1 x a b) q.m=vrZ q.f.name al q.is x q.m:=by simp only[evZ];rw[if_neg hoF];rfl
  cases h1:AH q.is x with
  |some v=>
   have h:evZ q.f.name al q.is (.mk 1 n1 x a b) q.m=(v,q.m):=by rw[h0];unfold vrZ;rw[h1]
   simp only[seval,go_sem,↓A0,isSome_some,isSome_none,h,h1,ho1,hn1]
   exact Oz
  |none=>
  have hcx:=q.m.cx_rg x
  cases h2:decide (0<=q.m.cx x) with
  |true=>
   have h3:=of_decide_eq_true h2
   have h:evZ q.f.name al q.is (.mk 1 n1 x a b) q.m=(q.m.cell (q.m.cx x),q.m):=by rw[h0];unfold vrZ;rw[h1];exact if_pos h3
   have hg:=MR (l:=q.m.cs) (i:=q.m.cx x) ⟨h3,hcx.2⟩
   simp only[seval,go_sem,↓A0,isSome_some,isSome_none,h,h1,h2,ho1,hn1,hg,Ms.cell]
   have:=hcx.2;repeat refine AX ?_
   refine A1 [] ?_;simp only[seval,go_sem,bne,A3,↓A0,h,Ms.cell]
  |false=>
  have h3:=of_decide_eq_false h2
  have h:evZ q.f.name al q.is (.mk 1 n1 x a b) q.m=(0,q.m.zfail q.f.name al 4):=by rw[h0];unfold vrZ;rw[h1];exact if_neg h3
  simp only[seval,go_sem,↓A0,isSome_some,isSome_none,h,h1,h2,ho1,hn1]
  exact Oz
 .subst hk
  have h:evZ q.f.name al q.is (.mk 7 n1 x a b) q.m=(w64i (0-(evZ q.f.name al q.is a q.m).1),(evZ q.f.name al q.is a q.m).2):=by simp only[evZ];rw[if_neg hoF];rfl
  simp only[seval,go_sem,↓A0,isSome_some,isSome_none,h,ho1,hn1]
  exact Oz
 obtain⟨A,hA⟩:∃A,evZ q.f.name al q.is a q.m=A:=⟨_,rfl⟩
 obtain⟨u,m1⟩:=A
 obtain⟨B,hB⟩:∃B,evZ q.f.name al q.is b m1=B:=⟨_,rfl⟩
 obtain⟨v,m2⟩:=B
 have k1:=Ho q.f.name al q.is a q.m
 rw[hA]at k1
 have hc2:m1.cs.length<=1000000:=by rw[k1.c];exact hc1
 have h0:evZ q.f.name al q.is (.mk k n1 x a b) q.m=if m2.on=false then (0,m2) else opZ q.f.name al k u v m2:=by
  simp only[evZ];rw[if_neg hoF,if_neg (by omega),if_neg (by omega),if_neg (by omega),hA,hB]
 cases ho2:m2.on with
 |false=>
  have ho3:(m2.e==0)=false:=ho2
  have hn3:(m2.e != 0)=true:=On ho2
  have h:evZ q.f.name al q.is (.mk k n1 x a b) q.m=(0,m2):=by rw[h0,if_pos ho2]
  rcases hk with rfl|rfl|rfl|rfl|rfl
  .skip
   exact BY
  .skip
   exact BY
  .skip
   exact BY
  .skip
   exact BY
  skip
  exact BY
 |true=>
 have ho3:(m2.e==0)=true:=ho2
 have hn3:(m2.e != 0)=false:=Om ho2
 rw[if_neg (by rw[ho2];decide)]at h0
 rcases hk with rfl|rfl|rfl|rfl|rfl
 .have h:evZ q.f.name al q.is (.mk 2 n1 x a b) q.m=(w64i (u+v),m2):=h0
  exact BY
 .have h:evZ q.f.name al q.is (.mk 3 n1 x a b) q.m=(w64i (u-v),m2):=h0
  exact BY
 .have h:evZ q.f.name al q.is (.mk 4 n1 x a b) q.m=(w64i (u*v),m2):=h0
  exact BY
 .cases cy:(v==0) with
  |true=>
   obtain rfl:v=0:=eq_of_beq cy
   have h:evZ q.f.name al q.is (.mk 5 n1 x a b) q.m=(0,m2.zfail q.f.name al 0):=h0
   exact BY
  |false=>
  have hv0:v≠0:=by simpa using cy
  have h:evZ q.f.name al q.is (.mk 5 n1 x a b) q.m=(w64i (u.tdiv v),m2):=by
   rw[h0];unfold opZ
   rw[if_neg (by decide),if_neg (by decide),if_neg (by decide),if_neg hv0];rfl
  simp only[seval,go_sem,↓A0,isSome_some,isSome_none,h,ho1,hn1,ho3,hn3,hA,hB,cy]
  exact IS
 cases cy:(v==0) with
 |true=>
  obtain rfl:v=0:=eq_of_beq cy
  have h:evZ q.f.name al q.is (.mk 6 n1 x a b) q.m=(0,m2.zfail q.f.name al 0):=h0
  exact BY
 |false=>
 have hv0:v≠0:=by simpa using cy
 have h:evZ q.f.name al q.is (.mk 6 n1 x a b) q.m=(u.tmod v,m2):=by
  rw[h0];unfold opZ
  rw[if_neg (by decide),if_neg (by decide),if_neg (by decide),if_neg hv0];rfl
 simp only[seval,go_sem,↓A0,isSome_some,isSome_none,h,ho1,hn1,ho3,hn3,hA,hB,cy]
 exact IS
theorem y_zEval:∀n,M6 n
 |0=>λp w M I lab fz xs hc=>absurd hc.2.2 (Nat.not_lt_zero _)
 |n+1=>qB n (y_zEval n)
abbrev cC(n:Nat)(q:Rz)(al:Int)(c:Cd):Prop:=q.m.cs.length<=1000000/\cdR c/\c.dp<n
abbrev Bu(n:Nat)(q:Rz)(al:Int)(c:Cd):Bool:=false
abbrev Bh(n:Nat)(q:Rz)(al:Int)(c:Cd):Rz:={ q with m:=(cdZ q.f.name al q.is q.ps c q.m).2 }
abbrev Bo(n:Nat)(q:Rz)(al:Int)(c:Cd):Rz:={ q with m:=(cdZ q.f.name al q.is q.ps c q.m).2 }
abbrev Bv(n:Nat)(q:Rz)(al:Int)(c:Cd):SV:=.one (.v (.bool (cdZ q.f.name al q.is q.ps c q.m).1))
theorem qC:∀b,∀v∈ArgC.e (acS (cInt .i64) (acS (cCd) ac0)) b,v.tupB=false:=by rintro ⟨x0,x1,_⟩ v hv;simp only[FV,FU,List.mem_cons,List.not_mem_nil,or_false]at hv;rcases hv with rfl|rfl<;>first|rfl|exact FN _|exact FO _
noncomputable abbrev Rw:ArgL (Rz×(Int)×(Cd)×Unit):=amRz (acS (cInt .i64) (acS (cCd) ac0)) qC
abbrev M7(n:Nat):Prop:=Dj Tryz.prog 89 (Rw).args (Rw).mem (λp:(Rz×(Int)×(Cd)×Unit)=>cC n p.1 p.2.1 p.2.2.1) (λp:(Rz×(Int)×(Cd)×Unit)=>Bu n p.1 p.2.1 p.2.2.1) (λp:(Rz×(Int)×(Cd)×Unit)=>Bv n p.1 p.2.1 p.2.2.1) (λp:(Rz×(Int)×(Cd)×Unit)=>Rz.memO (Bh n p.1 p.2.1 p.2.2.1)) (λp:(Rz×(Int)×(Cd)×Unit)=>mlO (Rz.pan (Bo n p.1 p.2.1 p.2.2.1)))
noncomputable def Ov{X:Ctx}{w0:World}(n:Nat)(h:M7 n):Sy.Spec Tryz.prog X w0:=Dc 89 Tryz.call89 (Rw) _ _ _ _ _ (id (by exact λp _ _=>have h:=GZ p.1 (Bh n p.1 p.2.1 p.2.2.1);⟨h.1,h.2.1,rfl,h.2.2⟩)) (id (by exact λp _ _=>Mi p.1 (Bo n p.1 p.2.1 p.2.2.1))) (id (by exact λp _ _=>⟨(GZ p.1 (Bh n p.1 p.2.1 p.2.2.1)).1,rfl⟩)) KF5 h
theorem C5{X:Ctx}{w0:World}(n:Nat)(h:M7 n):(Ov (X:=X) (w0:=w0) n h).f=89:=rfl
def C6{X:Ctx}{w0:World}(n:Nat)(h:M7 n)(t:Nat)(args:List SV)(H:Hp):=@id ((Ov (X:=X) (w0:=w0) n h).fn t args H=spL X _ t H _ _ _ _ _) rfl
attribute[local go_sem] EF xt C5 C6 Bu Bv Bh Bo in
theorem qD(n:Nat)(hu:M7 n):M7 (n+1):=by
 rintro ⟨q,al,c,_u⟩ w M I lab fz xs hc hA hl hx
 refine Bz Tryz.func89 rfl (Rz.mem q) w M I lab fz (Bu (n+1) q al c) (Rz.pan (Bo (n+1) q al c)) (Rz.memO (Bh (n+1) q al c)) [(Jl n (y_zEval n)),(Ov n hu)] [] ((Rw).args ⟨q,al,c,_u⟩) (Bv (n+1) q al c) xs hA hl hx (L4 _ _ _ _) (jN rfl) (Nat.le_refl _) rfl (Mj _) ?_
 clear hx hl hA xs
 simp only[Tryz.f89]
 obtain⟨hc1,hr,hd⟩:=hc
 dsimp only at hc1 hr hd
 cases c with
 |nil=>exact hr.elim
 |mk k a b p p2 s=>
 simp only[Cd.dp]at hd
 have ha1:a.dp<n:=by omega
 have hb1:b.dp<n:=by omega
 have hp1:p.dp<n:=by omega
 have hq1:p2.dp<n:=by omega
 cases ho:q.m.on with
 |false=>
  have ho1:(q.m.e==0)=false:=ho
  have hn1:(q.m.e != 0)=true:=On ho
  have h:cdZ q.f.name al q.is q.ps (.mk k a b p p2 s) q.m=(false,q.m):=by simp only[cdZ];rw[if_pos ho]
  simp only[seval,go_sem,↓A0,isSome_some,isSome_none,h,ho1,hn1]
  exact Oz
 |true=>
 have ho1:(q.m.e==0)=true:=ho
 have hn1:(q.m.e != 0)=false:=Om ho
 have hoF:¬q.m.on=false:=by rw[ho];decide
 rcases hr with hk|⟨hk,rp⟩|⟨hk,rp,rq⟩|⟨hk,ra,rb⟩
 .subst hk
  have h:cdZ q.f.name al q.is q.ps (.mk 9 a b p p2 s) q.m=(pgZ q.ps s==[],q.m):=by simp only[cdZ];rw[if_neg hoF];rfl
  cases h1:AH q.ps s with
  |none=>
   have h2:pgZ q.ps s=[]:=by unfold pgZ;rw[h1];rfl
   simp only[seval,go_sem,↓A0,isSome_some,isSome_none,h,h1,h2,ho1,hn1,Vk]
   repeat refine AX ?_
   refine A1 [] ?_;simp only[seval,go_sem,bne,A3,↓A0,h,h2,Vk]
  |some v=>
  have h2:pgZ q.ps s=v:=by unfold pgZ;rw[h1];rfl
  simp only[seval,go_sem,↓A0,isSome_some,isSome_none,h,h1,h2,ho1,hn1]
  repeat refine AX ?_
  refine A1 [] ?_;simp only[seval,go_sem,bne,A3,↓A0,h,h2]
 .subst hk
  have h:cdZ q.f.name al q.is q.ps (.mk 8 a b p p2 s) q.m=(!(cdZ q.f.name al q.is q.ps p q.m).1,(cdZ q.f.name al q.is q.ps p q.m).2):=by simp only[cdZ];rw[if_neg hoF];rfl
  simp only[seval,go_sem,↓A0,isSome_some,isSome_none,h,ho1,hn1]
  exact Oz
 .obtain⟨A,hA⟩:∃A,cdZ q.f.name al q.is q.ps p q.m=A:=⟨_,rfl⟩
  obtain⟨u,m1⟩:=A
  have k1:=NF q.f.name al q.is q.ps p q.m
  rw[hA]at k1
  have hc2:m1.cs.length<=1000000:=by rw[k1.c];exact hc1
  rcases hk with rfl|rfl
  .have h0:cdZ q.f.name al q.is q.ps (.mk 6 a b p p2 s) q.m=if u=true then cdZ q.f.name al q.is q.ps p2 m1 else (false,m1):=by simp only[cdZ];rw[if_neg hoF,hA];rfl
   cases u with
   |true=>
    have h:cdZ q.f.name al q.is q.ps (.mk 6 a b p p2 s) q.m=cdZ q.f.name al q.is q.ps p2 m1:=h0
    exact gE
   |false=>
   have h:cdZ q.f.name al q.is q.ps (.mk 6 a b p p2 s) q.m=(false,m1):=h0
   exact gE
  have h0:cdZ q.f.name al q.is q.ps (.mk 7 a b p p2 s) q.m=if u=true then (true,m1) else if m1.on=true then cdZ q.f.name al q.is q.ps p2 m1 else (false,m1):=by simp only[cdZ];rw[if_neg hoF,hA];rfl
  cases u with
  |true=>
   have h:cdZ q.f.name al q.is q.ps (.mk 7 a b p p2 s) q.m=(true,m1):=h0
   exact gE
  |false=>
  cases ho2:m1.on with
  |true=>
   have ho3:(m1.e==0)=true:=ho2
   have hn3:(m1.e != 0)=false:=Om ho2
   have h:cdZ q.f.name al q.is q.ps (.mk 7 a b p p2 s) q.m=cdZ q.f.name al q.is q.ps p2 m1:=by rw[h0,if_neg (by decide),if_pos ho2]
   exact AAM
  |false=>
  have ho3:(m1.e==0)=false:=ho2
  have hn3:(m1.e != 0)=true:=On ho2
  have h:cdZ q.f.name al q.is q.ps (.mk 7 a b p p2 s) q.m=(false,m1):=by rw[h0,if_neg (by decide),if_neg (by rw[ho2];decide)]
  exact AAM
 obtain⟨A,hA⟩:∃A,evZ q.f.name al q.is a q.m=A:=⟨_,rfl⟩
 obtain⟨u,m1⟩:=A
 obtain⟨B,hB⟩:∃B,evZ q.f.name al q.is b m1=B:=⟨_,rfl⟩
 obtain⟨v,m2⟩:=B
 have k1:=Ho q.f.name al q.is a q.m
 rw[hA]at k1
 have hc2:m1.cs.length<=1000000:=by rw[k1.c];exact hc1
 have h0:cdZ q.f.name al q.is q.ps (.mk k a b p p2 s) q.m=(cmZ k u v,m2):=by
  simp only[cdZ];rw[if_neg hoF,if_neg (by omega),if_neg (by omega),if_neg (by omega),if_neg (by omega),hA,hB]
 rcases hk with rfl|rfl|rfl|rfl|rfl|rfl
 .have h:cdZ q.f.name al q.is q.ps (.mk 0 a b p p2 s) q.m=(u==v,m2):=h0
  simp only[seval,go_sem,↓A0,isSome_some,isSome_none,h,ho1,hn1,hA,hB]
  exact IS
 .have h:cdZ q.f.name al q.is q.ps (.mk 1 a b p p2 s) q.m=(!(u==v),m2):=h0
  simp only[seval,go_sem,↓A0,isSome_some,isSome_none,h,ho1,hn1,hA,hB]
  exact IS
 .have h:cdZ q.f.name al q.is q.ps (.mk 2 a b p p2 s) q.m=(decide (u<v),m2):=h0
  simp only[seval,go_sem,↓A0,isSome_some,isSome_none,h,ho1,hn1,hA,hB]
  exact IS
 .have h:cdZ q.f.name al q.is q.ps (.mk 3 a b p p2 s) q.m=(decide (u<=v),m2):=h0
  simp only[seval,go_sem,↓A0,isSome_some,isSome_none,h,ho1,hn1,hA,hB]
  exact IS
 .have h:cdZ q.f.name al q.is q.ps (.mk 4 a b p p2 s) q.m=(decide (v<u),m2):=h0
  simp only[seval,go_sem,↓A0,isSome_some,isSome_none,h,ho1,hn1,hA,hB]
  exact IS
 have h:cdZ q.f.name al q.is q.ps (.mk 5 a b p p2 s) q.m=(decide (v<=u),m2):=h0
 simp only[seval,go_sem,↓A0,isSome_some,isSome_none,h,ho1,hn1,hA,hB]
 exact IS
theorem Y9:∀n,M7 n
 |0=>λp w M I lab fz xs hc=>absurd hc.2.2 (Nat.not_lt_zero _)
 |n+1=>qD n (Y9 n)
end Go.Proofs.YtapedeoheilnnaaGreat
