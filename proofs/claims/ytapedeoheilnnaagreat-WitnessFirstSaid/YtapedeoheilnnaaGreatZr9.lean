/- The document's machine: statements, walked. Conditions: the programs are regular. -/
import Derived.Test.YtapedeoheilnnaaGreatZr8
set_option linter.all false
open Int (reduceEq)
open Option (isSome_some isSome_none)
namespace Go.Proofs.YtapedeoheilnnaaGreat
open Go Go.Sy Go.RowKit
theorem IT{P:Prop}(h:P:=by
 repeat refine AX ?_
 refine A1 [] ?_;simp only[seval,go_sem,bne,DB,DA,Cv,D5,A3,↓A0,h]):P:=h
theorem SB{P:Prop}(h:P:=by
 have h:stZ (n+1) (.mk 10 x0 y0 e0 f0 cd0 ar0 th0 el0 no0) q=G:=by rw[hS2];unfold smZ;simp only[Sm.k,Sm.x,Sm.y,Sm.e,Sm.f,Sm.cd,Sm.ar,Sm.th,Sm.el,Sm.no,reduceEq,↓reduceIte,hCv,h2,jB,Bool.true_eq_false];exact hG
 simp only[seval,go_sem,↓A0,BV,BW,BX,BZ,isSome_some,isSome_none,AU,Ag,B1,BO,BN,CX,C9,C8,BH,BI,B7,B6,Ay,B2,C5,C6,Bv,Bu,Bh,Bo,Ba,Bp,Bq,BR,BQ,BE,BK,CY,Co,Cp,CH,CG,C1,CA,CZ,Cr,Cs,CC,CB,C0,C2,Br,Bs,B9,B8,Az,B3,Am,An,Ab,Aa,AW,AZ,hzs,hs,h,hCv,h21,h22,hG,C3]
 have:=hcs.1;have:=hcs.1.1;have:=hcs.1.2;repeat refine AX ?_
 refine A1 [] ?_;simp only[seval,go_sem,bne,DB,DA,Cv,D5,A3,↓A0,h]):P:=h
theorem uv{P:Prop}(h:P:=by refine A1 [] ?_;simp only[seval,go_sem,bne,DB,DA,Cv,D5,A3,↓A0,hS2]):P:=h
variable{m2:Ms}{bl:Rz->Rz}{k:Nat}
section
variable {n:Nat}{s:Sm}{q:Rz}
theorem A6k(h:s.k=11):stZ (n+1) s q=lpZ (blZ (stZ n) s.th) s (n+1) q:=by simp only[stZ];rw[if_pos h]
theorem A2e(h:s.k≠11)(ho:q.m.zspd.on=false):stZ (n+1) s q={ q with m:=q.m.zspd }:=by simp only[stZ];rw[if_neg h,if_pos ho]
theorem A6l(h:s.k≠11)(ho:q.m.zspd.on=true):stZ (n+1) s q=smZ (stZ n) s { q with m:=q.m.zspd }:=by simp only[stZ];rw[if_neg h,if_neg (by rw[ho];decide)]
theorem m9(ho:q.m.zspd.on=false):lpZ bl s (k+1) q={ q with m:=q.m.zspd }:=by simp only[lpZ];rw[if_pos ho]
theorem iP(ho:q.m.zspd.on=true)(hc:cdZ q.f.name s.no q.is q.ps s.cd q.m.zspd=(false,m2)):lpZ bl s (k+1) q={ q with m:=m2 }:=by simp only[lpZ];rw[if_neg (by rw[ho];decide),hc];rfl
theorem mD(ho:q.m.zspd.on=true)(hc:cdZ q.f.name s.no q.is q.ps s.cd q.m.zspd=(true,m2))(h2:m2.on=false):lpZ bl s (k+1) q={ q with m:=m2 }:=by simp only[lpZ];rw[if_neg (by rw[ho];decide),hc];dsimp only;rw[if_neg (by decide),if_pos h2]
theorem sK{T:Rz}(ho:q.m.zspd.on=true)(hc:cdZ q.f.name s.no q.is q.ps s.cd q.m.zspd=(true,m2))(h2:m2.on=true)(hT:bl { q with m:=m2 }=T):lpZ bl s (k+1) q=if T.m.on=false then T else lpZ bl s k T:=by simp only[lpZ];rw[if_neg (by rw[ho];decide),hc];dsimp only;rw[if_neg (by decide),if_neg (by rw[h2];decide),hT]
theorem sM{al:Int}{t:List UInt8}{c:Int}(h:thZ q al t=(c,m2))(h0:0<=c):c<(m2.cs.length:Int):=by
 unfold thZ at h
 split at h
 .simp only[jP]at h;omega
 split at h
 .simp only[jP]at h;omega
 split at h
 .simp only[jP]at h;omega
 simp only[jP]at h
 obtain⟨rfl,rfl⟩:=h
 exact(q.m.cx_rg _).2
theorem sN{al i:Int}{t:List UInt8}{c k:Int}(h:idZ q al t i=((c,k),m2))(h0:0<=c):(0<=c/\c<(m2.ar.length:Int))/\0<=k/\k.toNat<(m2.ar.getD c.toNat ⟨[],[]⟩).l.length:=by
 unfold idZ at h
 split at h
 .simp only[jP]at h;omega
 split at h
 .simp only[jP]at h;omega
 split at h
 .simp only[jP]at h;omega
 rename_i hn
 simp only[jP]at h
 obtain⟨⟨rfl,rfl⟩,rfl⟩:=h
 have hn2:¬(i<0∨((q.m.ar.getD (q.m.ax t).toNat ⟨[],[]⟩).l.length:Int)<=i):=hn
 refine⟨⟨h0,(q.m.ax_rg _).2⟩,?_,?_⟩<;>omega
end
attribute [local go_sem] Fn.c ML.ch ML.ren Rz.mem Rz.memO Rz.pan Sm.ar Sm.c Sm.cd Sm.e Sm.el Sm.f Sm.k Sm.no Sm.th Sm.x Sm.y Ok Oj Ol Di Bl Bk Be Bi Bj A9 A8 CK CJ DJ DI chL fcN AM Rn fzR Rq Rt Oq lmH lmO Lb ND NE DH Cj Ck EQ nmX A5 A4 Dz Dh D3 D4 ED E9 Rr Ru Ot E5 EE rnC rzC Rp PK rzW Oo Fx AF Ci DS Cu CU E8 vrQ Rm Oi Kn Km
set_option maxRecDepth 20000 in set_option maxHeartbeats 64000000 in
attribute[local go_sem] xt in
theorem qL(N:Nat)(n:Nat)(hC:Mm N n)(hB:L7 N n):M8 N (n+1):=by
 rintro ⟨q,s,_u⟩ w M I lab fz xs hc hA hl hx
 refine Bz Tryz.func74 rfl (Rz.mem q) w M I lab fz (DA N (n+1) q s) (Rz.pan (D5 N (n+1) q s)) (Rz.memO (Cv N (n+1) q s)) [AU,B1,CX,(Jl N (y_zEval N)),(Ov N (Y9 N)),Ba,CY,CZ,(PO N n hC),(Jm N n hB)] [] ((Ry).args ⟨q,s,_u⟩) (DB N (n+1) q s) xs hA hl hx (L4 _ _ _ _) (jN rfl) (Nat.le_refl _) rfl (Mj _) ?_
 clear hx hl hA xs
 simp only[Tryz.f74]
 obtain⟨⟨hT,hR,k1,k2⟩,hM,ho,hn⟩:=hc
 dsimp only at hT hR k1 k2 hM ho hn
 have he1:s.e.dp<N:=hT.k.e
 have hf1:s.f.dp<N:=hT.k.f
 have hd1:s.cd.dp<N:=hT.k.c
 have hS:OkS N s:=hT.k
 obtain⟨mt,hth⟩:=hT.t
 obtain⟨me,hel⟩:=hT.e
 obtain⟨re,rf,rc,ra⟩:=hR
 have h0:0<=q.m.fuel:=hM.k.on ho
 obtain⟨kt,rth⟩:=k1
 obtain⟨ke,rel⟩:=k2
 obtain⟨k0,x0,y0,e0,f0,cd0,ar0,th0,el0,no0⟩:=s
 dsimp only[Sm.e,Sm.f,Sm.cd,Sm.th,Sm.el,Sm.k,Sm.ar]at he1 hf1 hd1 hth hel re rf rc ra rth rel
 by_cases c11:k0=11
 .subst c11
  have hS:=A6k (n:=n) (q:=q) (show (Sm.mk 11 x0 y0 e0 f0 cd0 ar0 th0 el0 no0).k=11 from rfl)
  obtain⟨G,hG⟩:∃G,lpZ (blZ (stZ n) th0) (.mk 11 x0 y0 e0 f0 cd0 ar0 th0 el0 no0) (n+1) q=G:=⟨_,rfl⟩
  have hS2:stZ (n+1) (.mk 11 x0 y0 e0 f0 cd0 ar0 th0 el0 no0) q=G:=hS.trans hG
  have rcd:=rc (.inr (.inl rfl))
  simp only[seval,go_sem,↓A0,BV,BW,BX,BZ,isSome_some,isSome_none,AU,Ag,B1,BO,BN,CX,C9,C8,BH,BI,B7,B6,Ay,B2,C5,C6,Bv,Bu,Bh,Bo,Ba,Bp,Bq,BR,BQ,BE,BK,CY,Co,Cp,CH,CG,C1,CA,CZ,Cr,Cs,CC,CB,C0,C2,Br,Bs,B9,B8,Az,B3,Am,An,Ab,Aa,AW,AZ]
  refine AC (Y:=Nat×Rz) (λz=>okZ N (n+1) z.2.P z.2.m/\z.2.m.on=true/\z.2.m.fuel<z.1/\lpZ (blZ (stZ n) th0) (.mk 11 x0 y0 e0 f0 cd0 ar0 th0 el0 no0) z.1 z.2=G)
   (λz=>⟨[(0,true,.one (.p 0 0 0)),(1,true,.one (.p 1 0 0)),(5,true,.one (.p 5 0 0))],[(0,.vec 0 zRz [rzC z.2.P z.2.m]),(1,.vec 0 zFz [fzR z.2]),(2,.mp false (isC z.2.is)),(3,.mp false (psC' z.2.ps)),(5,.vec 0 C3 [(Sm.mk 11 x0 y0 e0 f0 cd0 ar0 th0 el0 no0).c])]⟩)
   (λz=>z.1) (n+1,q) ⟨hM,ho,hM.u,hG⟩ ?_ ?_
  .refine A2 [] ?_;simp only[seval,go_sem,↓A0,C3]
  rintro ⟨k,r⟩ ⟨hr,hro,hk,hJ⟩
  dsimp only at hr hro hk hJ
  refine AP [AU,B1,CX,Jl N (y_zEval N),Ov N (Y9 N),Ba,CY,CZ,PO N n hC,Jm N n hB] [] _ _ _ ?_
  have hr0:0<=r.m.fuel:=hr.k.on hro
  have hru:r.m.fuel<((n+1:Nat):Int):=hr.u
  obtain⟨j,rfl⟩:∃j,k=j+1:=⟨k-1,by omega⟩
  obtain⟨q1,q2⟩:=WV r.m hro hr0 (by omega)
  cases hs:r.m.zspd.on with
  |false=>
   have hs1:(r.m.zspd.e==0)=false:=hs
   have hJ':{ r with m:=r.m.zspd }=G:=(m9 (s:=(.mk 11 x0 y0 e0 f0 cd0 ar0 th0 el0 no0)) hs).symm.trans hJ
   subst hJ'
   simp only[seval,go_sem,↓A0,BV,BW,BX,BZ,isSome_some,isSome_none,AU,Ag,B1,BO,BN,CX,C9,C8,BH,BI,B7,B6,Ay,B2,C5,C6,Bv,Bu,Bh,Bo,Ba,Bp,Bq,BR,BQ,BE,BK,CY,Co,Cp,CH,CG,C1,CA,CZ,Cr,Cs,CC,CB,C0,C2,Br,Bs,B9,B8,Az,B3,Am,An,Ab,Aa,AW,AZ,hs,hs1,C3]
   repeat refine AX ?_
   exact uv
  |true=>
  obtain⟨q3,q4⟩:=q2 hs
  have hMs:okZ N n r.P r.m.zspd:=hr.kr q1 (by omega)
  obtain⟨zs,hzs⟩:∃zs,r.m.zspd=zs:=⟨_,rfl⟩
  obtain⟨C,hCv⟩:∃C,cdZ r.f.name no0 r.is r.ps cd0 r.m.zspd=C:=⟨_,rfl⟩
  obtain⟨b,m2⟩:=C
  have kc:=NF r.f.name no0 r.is r.ps cd0 r.m.zspd
  rw[hCv]at kc
  have hcc:cC N ⟨r.P,r.m.zspd,r.f,r.is,r.ps⟩ no0 cd0:=⟨hMs.c,rcd,hd1⟩
  have kr2:=kc.kr (by omega)
  have ku:m2.fuel<=r.m.zspd.fuel:=kr2.u
  have hM2:okZ N n r.P m2:=hMs.kr kr2 (by have:=hMs.u;show m2.fuel<_;omega)
  cases b with
  |false=>
   have hJ':{ r with m:=m2 }=G:=(iP (s:=(.mk 11 x0 y0 e0 f0 cd0 ar0 th0 el0 no0)) hs hCv).symm.trans hJ
   subst hJ'
   rw[hzs]at hs hCv hcc
   simp only[seval,go_sem,↓A0,BV,BW,BX,BZ,isSome_some,isSome_none,AU,Ag,B1,BO,BN,CX,C9,C8,BH,BI,B7,B6,Ay,B2,C5,C6,Bv,Bu,Bh,Bo,Ba,Bp,Bq,BR,BQ,BE,BK,CY,Co,Cp,CH,CG,C1,CA,CZ,Cr,Cs,CC,CB,C0,C2,Br,Bs,B9,B8,Az,B3,Am,An,Ab,Aa,AW,AZ,hzs,hs,hCv,C3]
   have:=hcc.1;repeat refine AX ?_
   exact uv
  |true=>
  cases h2:m2.on with
  |false=>
   have h21:(m2.e==0)=false:=h2
   have hJ':{ r with m:=m2 }=G:=(mD (s:=(.mk 11 x0 y0 e0 f0 cd0 ar0 th0 el0 no0)) hs hCv h2).symm.trans hJ
   subst hJ'
   rw[hzs]at hs hCv hcc
   simp only[seval,go_sem,↓A0,BV,BW,BX,BZ,isSome_some,isSome_none,AU,Ag,B1,BO,BN,CX,C9,C8,BH,BI,B7,B6,Ay,B2,C5,C6,Bv,Bu,Bh,Bo,Ba,Bp,Bq,BR,BQ,BE,BK,CY,Co,Cp,CH,CG,C1,CA,CZ,Cr,Cs,CC,CB,C0,C2,Br,Bs,B9,B8,Az,B3,Am,An,Ab,Aa,AW,AZ,hzs,hs,hCv,h21,C3]
   have:=hcc.1;repeat refine AX ?_
   exact uv
  |true=>
  have h21:(m2.e==0)=true:=h2
  obtain⟨T,hT2⟩:∃T,blZ (stZ n) th0 { r with m:=m2 }=T:=⟨_,rfl⟩
  have kb:=UG (UH n) th0 { r with m:=m2 } hM2.k (by have:=hM2.u;show m2.fuel<=_;omega)
  rw[hT2]at kb
  have hJ2:=(sK (s:=(.mk 11 x0 y0 e0 f0 cd0 ar0 th0 el0 no0)) hs hCv h2 hT2).symm.trans hJ
  have hcs:Ml N n ⟨r.P,m2,r.f,r.is,r.ps⟩ th0:=⟨⟨⟨mt,hth⟩,kt,rth⟩,hM2,(by omega)⟩
  rw[hzs]at hs hCv hcc
  cases h3:T.m.on with
  |false=>
   have h31:(T.m.e==0)=false:=h3
   have h32:(T.m.e != 0)=true:=On h3
   have hJ':T=G:=by rw[<- hJ2];exact(if_pos h3).symm
   subst hJ'
   simp only[seval,go_sem,↓A0,BV,BW,BX,BZ,isSome_some,isSome_none,AU,Ag,B1,BO,BN,CX,C9,C8,BH,BI,B7,B6,Ay,B2,C5,C6,Bv,Bu,Bh,Bo,Ba,Bp,Bq,BR,BQ,BE,BK,CY,Co,Cp,CH,CG,C1,CA,CZ,Cr,Cs,CC,CB,C0,C2,Br,Bs,B9,B8,Az,B3,Am,An,Ab,Aa,AW,AZ,hzs,hs,hCv,h21,hT2,h31,h32,C3]
   try simp only[AD,AE]
   repeat' first|exact ck|with_reducible apply And.intro|intro _
   all_goals first|exact hcc|exact hcc.1|exact rcd|exact hd1|exact hcs|exact⟨mt,hth⟩|exact⟨kt,rth⟩|exact hM2|exact KZ|(refine A1 [] ?_;simp only[seval,go_sem,bne,DB,DA,Cv,D5,A3,↓A0,hS2])
  |true=>
  have h31:(T.m.e==0)=true:=h3
  have h32:(T.m.e != 0)=false:=Om h3
  rw[if_neg (by rw[h3];decide)]at hJ2
  simp only[seval,go_sem,↓A0,BV,BW,BX,BZ,isSome_some,isSome_none,AU,Ag,B1,BO,BN,CX,C9,C8,BH,BI,B7,B6,Ay,B2,C5,C6,Bv,Bu,Bh,Bo,Ba,Bp,Bq,BR,BQ,BE,BK,CY,Co,Cp,CH,CG,C1,CA,CZ,Cr,Cs,CC,CB,C0,C2,Br,Bs,B9,B8,Az,B3,Am,An,Ab,Aa,AW,AZ,hzs,hs,hCv,h21,hT2,h31,h32,C3]
  try simp only[AD,AE]
  repeat' first|exact ck|with_reducible apply And.intro|intro _
  all_goals try first|exact hcc|exact hcc.1|exact rcd|exact hd1|exact hcs|exact⟨mt,hth⟩|exact⟨kt,rth⟩|exact hM2|exact KZ
  have kbP:T.P=r.P:=kb.P
  refine⟨(j,T),⟨by show okZ N (n+1) T.P T.m;rw[kbP];exact hM2.kr kb.m (by have:=kb.m.u;have:=hM2.u;have h7:T.m.fuel<=m2.fuel:=kb.m.u;omega),h3,by have h7:T.m.fuel<=m2.fuel:=kb.m.u;show T.m.fuel<_;omega,hJ2⟩,Nat.lt_succ_self _,A2 [] ?_⟩
  simp only[seval,go_sem,↓A0,C3]
 have d11:(k0==11)=false:=by simpa using c11
 obtain⟨q1,q2⟩:=WV q.m ho h0 (by have:=hM.u;omega)
 cases hs:q.m.zspd.on with
 |false=>
  have hS2:=A2e (n:=n) (q:=q) (s:=(.mk k0 x0 y0 e0 f0 cd0 ar0 th0 el0 no0)) c11 hs
  obtain⟨zs,hzs⟩:∃zs,q.m.zspd=zs:=⟨_,rfl⟩
  rw[hzs]at hs hS2
  simp only[seval,go_sem,↓A0,BV,BW,BX,BZ,isSome_some,isSome_none,AU,Ag,B1,BO,BN,CX,C9,C8,BH,BI,B7,B6,Ay,B2,C5,C6,Bv,Bu,Bh,Bo,Ba,Bp,Bq,BR,BQ,BE,BK,CY,Co,Cp,CH,CG,C1,CA,CZ,Cr,Cs,CC,CB,C0,C2,Br,Bs,B9,B8,Az,B3,Am,An,Ab,Aa,AW,AZ,hzs,hs,d11,hS2,C3]
  repeat refine AX ?_
  exact uv
 |true=>
 have hS2:=A6l (n:=n) (q:=q) (s:=(.mk k0 x0 y0 e0 f0 cd0 ar0 th0 el0 no0)) c11 hs
 obtain⟨q3,q4⟩:=q2 hs
 have hMs:okZ N n q.P q.m.zspd:=hM.kr q1 (by have h7:q.m.fuel<((n+1:Nat):Int):=hM.u;omega)
 have hf0:0<=q.m.zspd.fuel:=by omega
 obtain⟨zs,hzs⟩:∃zs,q.m.zspd=zs:=⟨_,rfl⟩
 rw[hzs]at hs hS2 hMs hf0
 have hs1:(zs.e==0)=true:=hs
 have hcz:=hMs.c
 by_cases c0:k0=0
 .subst c0
  obtain⟨EA,hA⟩:∃E,evZ q.f.name no0 q.is e0 zs=E:=⟨_,rfl⟩
  obtain⟨v,mA⟩:=EA
  have kA:=Ho q.f.name no0 q.is e0 zs
  rw[hA]at kA
  obtain⟨hcA,haA,hlA⟩:=hMs.kz kA
  have rA:=re (.inl rfl)
  have h:stZ (n+1) (.mk 0 x0 y0 e0 f0 cd0 ar0 th0 el0 no0) q=seZ { q with m:=mA } no0 x0 v:=by rw[hS2];unfold smZ;simp only[Sm.k,Sm.x,Sm.y,Sm.e,Sm.f,Sm.cd,Sm.ar,Sm.th,Sm.el,Sm.no,reduceEq,↓reduceIte,hA]
  simp only[seval,go_sem,↓A0,BV,BW,BX,BZ,isSome_some,isSome_none,AU,Ag,B1,BO,BN,CX,C9,C8,BH,BI,B7,B6,Ay,B2,C5,C6,Bv,Bu,Bh,Bo,Ba,Bp,Bq,BR,BQ,BE,BK,CY,Co,Cp,CH,CG,C1,CA,CZ,Cr,Cs,CC,CB,C0,C2,Br,Bs,B9,B8,Az,B3,Am,An,Ab,Aa,AW,AZ,hzs,hs,h,hA,C3]
  exact IT
 by_cases c1:k0=1
 .subst c1
  have hcx:=zs.cx_rg y0
  cases d1:decide (zs.cx y0<0) with
  |true=>
   have h:stZ (n+1) (.mk 1 x0 y0 e0 f0 cd0 ar0 th0 el0 no0) q={ q with m:=zs.zfail q.f.name no0 4 }:=by rw[hS2];unfold smZ;simp only[Sm.k,Sm.x,Sm.y,Sm.e,Sm.f,Sm.cd,Sm.ar,Sm.th,Sm.el,Sm.no,reduceEq,↓reduceIte,of_decide_eq_true d1]
   simp only[seval,go_sem,↓A0,BV,BW,BX,BZ,isSome_some,isSome_none,AU,Ag,B1,BO,BN,CX,C9,C8,BH,BI,B7,B6,Ay,B2,C5,C6,Bv,Bu,Bh,Bo,Ba,Bp,Bq,BR,BQ,BE,BK,CY,Co,Cp,CH,CG,C1,CA,CZ,Cr,Cs,CC,CB,C0,C2,Br,Bs,B9,B8,Az,B3,Am,An,Ab,Aa,AW,AZ,hzs,hs,h,d1,C3]
   exact IT
  |false=>
  have h:stZ (n+1) (.mk 1 x0 y0 e0 f0 cd0 ar0 th0 el0 no0) q={ q with m:=zs,ps:=B5 q.ps x0 y0 }:=by rw[hS2];unfold smZ;simp only[Sm.k,Sm.x,Sm.y,Sm.e,Sm.f,Sm.cd,Sm.ar,Sm.th,Sm.el,Sm.no,reduceEq,↓reduceIte,of_decide_eq_false d1]
  simp only[seval,go_sem,↓A0,BV,BW,BX,BZ,isSome_some,isSome_none,AU,Ag,B1,BO,BN,CX,C9,C8,BH,BI,B7,B6,Ay,B2,C5,C6,Bv,Bu,Bh,Bo,Ba,Bp,Bq,BR,BQ,BE,BK,CY,Co,Cp,CH,CG,C1,CA,CZ,Cr,Cs,CC,CB,C0,C2,Br,Bs,B9,B8,Az,B3,Am,An,Ab,Aa,AW,AZ,hzs,hs,h,d1,C3]
  exact IT
 by_cases c2:k0=2
 .subst c2
  cases hv:AH q.ps y0 with
  |none=>
   have hv2:pgZ q.ps y0=[]:=by unfold pgZ;rw[hv];rfl
   have h:stZ (n+1) (.mk 2 x0 y0 e0 f0 cd0 ar0 th0 el0 no0) q={ q with m:=zs,ps:=B5 q.ps x0 [] }:=by rw[hS2];unfold smZ;simp only[Sm.k,Sm.x,Sm.y,Sm.e,Sm.f,Sm.cd,Sm.ar,Sm.th,Sm.el,Sm.no,reduceEq,↓reduceIte,hv2]
   simp only[seval,go_sem,↓A0,BV,BW,BX,BZ,isSome_some,isSome_none,AU,Ag,B1,BO,BN,CX,C9,C8,BH,BI,B7,B6,Ay,B2,C5,C6,Bv,Bu,Bh,Bo,Ba,Bp,Bq,BR,BQ,BE,BK,CY,Co,Cp,CH,CG,C1,CA,CZ,Cr,Cs,CC,CB,C0,C2,Br,Bs,B9,B8,Az,B3,Am,An,Ab,Aa,AW,AZ,hzs,hs,h,hv,C3]
   exact IT
  |some u=>
  have hv2:pgZ q.ps y0=u:=by unfold pgZ;rw[hv];rfl
  have h:stZ (n+1) (.mk 2 x0 y0 e0 f0 cd0 ar0 th0 el0 no0) q={ q with m:=zs,ps:=B5 q.ps x0 u }:=by rw[hS2];unfold smZ;simp only[Sm.k,Sm.x,Sm.y,Sm.e,Sm.f,Sm.cd,Sm.ar,Sm.th,Sm.el,Sm.no,reduceEq,↓reduceIte,hv2]
  simp only[seval,go_sem,↓A0,BV,BW,BX,BZ,isSome_some,isSome_none,AU,Ag,B1,BO,BN,CX,C9,C8,BH,BI,B7,B6,Ay,B2,C5,C6,Bv,Bu,Bh,Bo,Ba,Bp,Bq,BR,BQ,BE,BK,CY,Co,Cp,CH,CG,C1,CA,CZ,Cr,Cs,CC,CB,C0,C2,Br,Bs,B9,B8,Az,B3,Am,An,Ab,Aa,AW,AZ,hzs,hs,h,hv,C3]
  exact IT
 by_cases c3:k0=3
 .subst c3
  have h:stZ (n+1) (.mk 3 x0 y0 e0 f0 cd0 ar0 th0 el0 no0) q={ q with m:=zs,ps:=B5 q.ps x0 [] }:=by rw[hS2];unfold smZ;simp only[Sm.k,Sm.x,Sm.y,Sm.e,Sm.f,Sm.cd,Sm.ar,Sm.th,Sm.el,Sm.no,reduceEq,↓reduceIte]
  simp only[seval,go_sem,↓A0,BV,BW,BX,BZ,isSome_some,isSome_none,AU,Ag,B1,BO,BN,CX,C9,C8,BH,BI,B7,B6,Ay,B2,C5,C6,Bv,Bu,Bh,Bo,Ba,Bp,Bq,BR,BQ,BE,BK,CY,Co,Cp,CH,CG,C1,CA,CZ,Cr,Cs,CC,CB,C0,C2,Br,Bs,B9,B8,Az,B3,Am,An,Ab,Aa,AW,AZ,hzs,hs,h,C3]
  exact IT
 by_cases c4:k0=4
 .subst c4
  obtain⟨ET,hTh⟩:∃E,thZ { q with m:=zs } no0 y0=E:=⟨_,rfl⟩
  obtain⟨c,mT⟩:=ET
  have kT:=ZZ { q with m:=zs } no0 y0
  rw[hTh]at kT
  obtain⟨hcT,haT,hlT⟩:=hMs.kz kT
  cases dc:decide (0<=c) with
  |true=>
   have hc0:=of_decide_eq_true dc
   have hcl:=sM hTh hc0
   have hg:=MR (l:=mT.cs) (i:=c) ⟨hc0,hcl⟩
   have h:stZ (n+1) (.mk 4 x0 y0 e0 f0 cd0 ar0 th0 el0 no0) q=seZ { q with m:=mT } no0 x0 (mT.cell c):=by rw[hS2];unfold smZ;simp only[Sm.k,Sm.x,Sm.y,Sm.e,Sm.f,Sm.cd,Sm.ar,Sm.th,Sm.el,Sm.no,reduceEq,↓reduceIte,hTh,hc0]
   simp only[seval,go_sem,↓A0,BV,BW,BX,BZ,isSome_some,isSome_none,AU,Ag,B1,BO,BN,CX,C9,C8,BH,BI,B7,B6,Ay,B2,C5,C6,Bv,Bu,Bh,Bo,Ba,Bp,Bq,BR,BQ,BE,BK,CY,Co,Cp,CH,CG,C1,CA,CZ,Cr,Cs,CC,CB,C0,C2,Br,Bs,B9,B8,Az,B3,Am,An,Ab,Aa,AW,AZ,hzs,hs,h,hTh,dc,hg,Ms.cell,C3]
   repeat refine AX ?_
   refine A1 [] ?_;simp only[seval,go_sem,bne,DB,DA,Cv,D5,A3,↓A0,h,Ms.cell]
  |false=>
  have hc0:=of_decide_eq_false dc
  have h:stZ (n+1) (.mk 4 x0 y0 e0 f0 cd0 ar0 th0 el0 no0) q={ q with m:=mT }:=by rw[hS2];unfold smZ;simp only[Sm.k,Sm.x,Sm.y,Sm.e,Sm.f,Sm.cd,Sm.ar,Sm.th,Sm.el,Sm.no,reduceEq,↓reduceIte,hTh,hc0]
  simp only[seval,go_sem,↓A0,BV,BW,BX,BZ,isSome_some,isSome_none,AU,Ag,B1,BO,BN,CX,C9,C8,BH,BI,B7,B6,Ay,B2,C5,C6,Bv,Bu,Bh,Bo,Ba,Bp,Bq,BR,BQ,BE,BK,CY,Co,Cp,CH,CG,C1,CA,CZ,Cr,Cs,CC,CB,C0,C2,Br,Bs,B9,B8,Az,B3,Am,An,Ab,Aa,AW,AZ,hzs,hs,h,hTh,dc,C3]
  exact IT
 by_cases c5:k0=5
 .subst c5
  obtain⟨EA,hA⟩:∃E,evZ q.f.name no0 q.is e0 zs=E:=⟨_,rfl⟩
  obtain⟨v,mA⟩:=EA
  have kA:=Ho q.f.name no0 q.is e0 zs
  rw[hA]at kA
  obtain⟨hcA,haA,hlA⟩:=hMs.kz kA
  have rA:=re (.inr (.inl rfl))
  obtain⟨ET,hTh⟩:∃E,thZ { q with m:=mA } no0 x0=E:=⟨_,rfl⟩
  obtain⟨c,mT⟩:=ET
  have kT:=ZZ { q with m:=mA } no0 x0
  rw[hTh]at kT
  obtain⟨hcT,haT,hlT⟩:=hMs.kz (kA.tr kT)
  cases dc:decide (0<=c) with
  |true=>
   have hc0:=of_decide_eq_true dc
   have hcl:=sM hTh hc0
   have hg:=MR (l:=mT.cs) (i:=c) ⟨hc0,hcl⟩
   have h:stZ (n+1) (.mk 5 x0 y0 e0 f0 cd0 ar0 th0 el0 no0) q={ q with m:=mT.set c v }:=by rw[hS2];unfold smZ;simp only[Sm.k,Sm.x,Sm.y,Sm.e,Sm.f,Sm.cd,Sm.ar,Sm.th,Sm.el,Sm.no,reduceEq,↓reduceIte,hA,hTh,hc0]
   simp only[seval,go_sem,↓A0,BV,BW,BX,BZ,isSome_some,isSome_none,AU,Ag,B1,BO,BN,CX,C9,C8,BH,BI,B7,B6,Ay,B2,C5,C6,Bv,Bu,Bh,Bo,Ba,Bp,Bq,BR,BQ,BE,BK,CY,Co,Cp,CH,CG,C1,CA,CZ,Cr,Cs,CC,CB,C0,C2,Br,Bs,B9,B8,Az,B3,Am,An,Ab,Aa,AW,AZ,hzs,hs,h,hA,hTh,dc,hg,Ms.set,Vj,C3]
   repeat refine AX ?_
   refine A1 [] ?_;simp only[seval,go_sem,bne,DB,DA,Cv,D5,A3,↓A0,h,Ms.set]
  |false=>
  have hc0:=of_decide_eq_false dc
  have h:stZ (n+1) (.mk 5 x0 y0 e0 f0 cd0 ar0 th0 el0 no0) q={ q with m:=mT }:=by rw[hS2];unfold smZ;simp only[Sm.k,Sm.x,Sm.y,Sm.e,Sm.f,Sm.cd,Sm.ar,Sm.th,Sm.el,Sm.no,reduceEq,↓reduceIte,hA,hTh,hc0]
  simp only[seval,go_sem,↓A0,BV,BW,BX,BZ,isSome_some,isSome_none,AU,Ag,B1,BO,BN,CX,C9,C8,BH,BI,B7,B6,Ay,B2,C5,C6,Bv,Bu,Bh,Bo,Ba,Bp,Bq,BR,BQ,BE,BK,CY,Co,Cp,CH,CG,C1,CA,CZ,Cr,Cs,CC,CB,C0,C2,Br,Bs,B9,B8,Az,B3,Am,An,Ab,Aa,AW,AZ,hzs,hs,h,hA,hTh,dc,C3]
  exact IT
 by_cases c6:k0=6
 .subst c6
  obtain⟨EA,hA⟩:∃E,evZ q.f.name no0 q.is e0 zs=E:=⟨_,rfl⟩
  obtain⟨v,mA⟩:=EA
  have kA:=Ho q.f.name no0 q.is e0 zs
  rw[hA]at kA
  obtain⟨hcA,haA,hlA⟩:=hMs.kz kA
  have rA:=re (.inr (.inr (.inl rfl)))
  obtain⟨EI,hI⟩:∃E,idZ { q with m:=mA } no0 y0 v=E:=⟨_,rfl⟩
  obtain⟨⟨c,kk⟩,mI⟩:=EI
  have kI:=Za { q with m:=mA } no0 y0 v
  rw[hI]at kI
  obtain⟨hcI,haI,hlI⟩:=hMs.kz (kA.tr kI)
  cases dc:decide (0<=c) with
  |true=>
   have hc0:=of_decide_eq_true dc
   obtain⟨hi,hv0,hv1⟩:=sN hI hc0
   have hg:=Q9 (l:=mI.ar) (i:=c) hi
   have hgi:=fg hv1
   have h:stZ (n+1) (.mk 6 x0 y0 e0 f0 cd0 ar0 th0 el0 no0) q=seZ { q with m:=mI } no0 x0 ((mI.arr c).getD kk.toNat 0):=by rw[hS2];unfold smZ;simp only[Sm.k,Sm.x,Sm.y,Sm.e,Sm.f,Sm.cd,Sm.ar,Sm.th,Sm.el,Sm.no,reduceEq,↓reduceIte,hA,hI,hc0]
   simp only[seval,go_sem,↓A0,BV,BW,BX,BZ,isSome_some,isSome_none,AU,Ag,B1,BO,BN,CX,C9,C8,BH,BI,B7,B6,Ay,B2,C5,C6,Bv,Bu,Bh,Bo,Ba,Bp,Bq,BR,BQ,BE,BK,CY,Co,Cp,CH,CG,C1,CA,CZ,Cr,Cs,CC,CB,C0,C2,Br,Bs,B9,B8,Az,B3,Am,An,Ab,Aa,AW,AZ,hzs,hs,h,hA,hI,dc,hg,hgi,Ms.arr,C3]
   try simp only[AD,AE]
   repeat' first|exact ck|with_reducible apply And.intro|intro _
   all_goals first|exact hcz|exact hcA|exact rA|exact he1|exact⟨hcz,rA,he1⟩|exact⟨haA,hlA⟩|exact haA|exact hlA|(exact hlA _ (by assumption))|exact hcI|exact hi.1|exact hi.2|exact hv0|exact hv1|exact KZ|(refine A1 [] ?_;simp only[seval,go_sem,bne,DB,DA,Cv,D5,A3,↓A0,h,Ms.arr])
  |false=>
  have hc0:=of_decide_eq_false dc
  have h:stZ (n+1) (.mk 6 x0 y0 e0 f0 cd0 ar0 th0 el0 no0) q={ q with m:=mI }:=by rw[hS2];unfold smZ;simp only[Sm.k,Sm.x,Sm.y,Sm.e,Sm.f,Sm.cd,Sm.ar,Sm.th,Sm.el,Sm.no,reduceEq,↓reduceIte,hA,hI,hc0]
  simp only[seval,go_sem,↓A0,BV,BW,BX,BZ,isSome_some,isSome_none,AU,Ag,B1,BO,BN,CX,C9,C8,BH,BI,B7,B6,Ay,B2,C5,C6,Bv,Bu,Bh,Bo,Ba,Bp,Bq,BR,BQ,BE,BK,CY,Co,Cp,CH,CG,C1,CA,CZ,Cr,Cs,CC,CB,C0,C2,Br,Bs,B9,B8,Az,B3,Am,An,Ab,Aa,AW,AZ,hzs,hs,h,hA,hI,dc,C3]
  try simp only[AD,AE]
  repeat' first|exact ck|with_reducible apply And.intro|intro _
  all_goals first|exact hcz|exact hcA|exact rA|exact he1|exact⟨hcz,rA,he1⟩|exact⟨haA,hlA⟩|exact haA|exact hlA|(exact hlA _ (by assumption))|exact hcI|exact KZ|(refine A1 [] ?_;simp only[seval,go_sem,bne,DB,DA,Cv,D5,A3,↓A0,h])
 by_cases c7:k0=7
 .subst c7
  obtain⟨EA,hA⟩:∃E,evZ q.f.name no0 q.is e0 zs=E:=⟨_,rfl⟩
  obtain⟨v,mA⟩:=EA
  have kA:=Ho q.f.name no0 q.is e0 zs
  rw[hA]at kA
  obtain⟨hcA,haA,hlA⟩:=hMs.kz kA
  have rA:=re (.inr (.inr (.inr (.inl rfl))))
  obtain⟨EB,hB⟩:∃E,evZ q.f.name no0 q.is f0 mA=E:=⟨_,rfl⟩
  obtain⟨u,mB⟩:=EB
  have kB:=Ho q.f.name no0 q.is f0 mA
  rw[hB]at kB
  obtain⟨hcB,haB,hlB⟩:=hMs.kz (kA.tr kB)
  have rB:=rf rfl
  obtain⟨EI,hI⟩:∃E,idZ { q with m:=mB } no0 y0 v=E:=⟨_,rfl⟩
  obtain⟨⟨c,kk⟩,mI⟩:=EI
  have kI:=Za { q with m:=mB } no0 y0 v
  rw[hI]at kI
  obtain⟨hcI,haI,hlI⟩:=hMs.kz ((kA.tr kB).tr kI)
  cases dc:decide (0<=c) with
  |true=>
   have hc0:=of_decide_eq_true dc
   obtain⟨hi,hv0,hv1⟩:=sN hI hc0
   have hg:=Q9 (l:=mI.ar) (i:=c) hi
   have hgi:=fg hv1
   have h:stZ (n+1) (.mk 7 x0 y0 e0 f0 cd0 ar0 th0 el0 no0) q={ q with m:=mI.put c kk u }:=by rw[hS2];unfold smZ;simp only[Sm.k,Sm.x,Sm.y,Sm.e,Sm.f,Sm.cd,Sm.ar,Sm.th,Sm.el,Sm.no,reduceEq,↓reduceIte,hA,hB,hI,hc0]
   simp only[seval,go_sem,↓A0,BV,BW,BX,BZ,isSome_some,isSome_none,AU,Ag,B1,BO,BN,CX,C9,C8,BH,BI,B7,B6,Ay,B2,C5,C6,Bv,Bu,Bh,Bo,Ba,Bp,Bq,BR,BQ,BE,BK,CY,Co,Cp,CH,CG,C1,CA,CZ,Cr,Cs,CC,CB,C0,C2,Br,Bs,B9,B8,Az,B3,Am,An,Ab,Aa,AW,AZ,hzs,hs,h,hA,hB,hI,dc,hg,hgi,Ms.put,Ms.arr,jY,jZ,C3]
   try simp only[AD,AE]
   repeat' first|exact ck|with_reducible apply And.intro|intro _
   all_goals first|exact hcz|exact hcA|exact hcB|exact rA|exact he1|exact⟨hcz,rA,he1⟩|exact⟨hcA,rB,hf1⟩|exact rB|exact hf1|exact⟨haB,hlB⟩|exact haB|exact hlB|(exact hlB _ (by assumption))|exact hcI|exact hi.1|exact hi.2|exact hv0|exact hv1|exact KZ|(refine A1 [] ?_;simp only[seval,go_sem,bne,DB,DA,Cv,D5,A3,↓A0,h,Ms.put,Ms.arr])
  |false=>
  have hc0:=of_decide_eq_false dc
  have h:stZ (n+1) (.mk 7 x0 y0 e0 f0 cd0 ar0 th0 el0 no0) q={ q with m:=mI }:=by rw[hS2];unfold smZ;simp only[Sm.k,Sm.x,Sm.y,Sm.e,Sm.f,Sm.cd,Sm.ar,Sm.th,Sm.el,Sm.no,reduceEq,↓reduceIte,hA,hB,hI,hc0]
  simp only[seval,go_sem,↓A0,BV,BW,BX,BZ,isSome_some,isSome_none,AU,Ag,B1,BO,BN,CX,C9,C8,BH,BI,B7,B6,Ay,B2,C5,C6,Bv,Bu,Bh,Bo,Ba,Bp,Bq,BR,BQ,BE,BK,CY,Co,Cp,CH,CG,C1,CA,CZ,Cr,Cs,CC,CB,C0,C2,Br,Bs,B9,B8,Az,B3,Am,An,Ab,Aa,AW,AZ,hzs,hs,h,hA,hB,hI,dc,C3]
  try simp only[AD,AE]
  repeat' first|exact ck|with_reducible apply And.intro|intro _
  all_goals first|exact hcz|exact hcA|exact hcB|exact rA|exact he1|exact⟨hcz,rA,he1⟩|exact⟨hcA,rB,hf1⟩|exact rB|exact hf1|exact⟨haB,hlB⟩|exact haB|exact hlB|(exact hlB _ (by assumption))|exact hcI|exact KZ|(refine A1 [] ?_;simp only[seval,go_sem,bne,DB,DA,Cv,D5,A3,↓A0,h])
 by_cases c8:k0=8
 .subst c8
  obtain⟨G,hG⟩:∃G,caZ (stZ n) (.mk 8 x0 y0 e0 f0 cd0 ar0 th0 el0 no0) { q with m:=zs }=G:=⟨_,rfl⟩
  have hcc:Yw N n ⟨q.P,zs,q.f,q.is,q.ps⟩ (.mk 8 x0 y0 e0 f0 cd0 ar0 th0 el0 no0):=⟨hS,ra rfl,hMs,hs,(by omega)⟩
  have h:stZ (n+1) (.mk 8 x0 y0 e0 f0 cd0 ar0 th0 el0 no0) q=G:=by rw[hS2];unfold smZ;simp only[Sm.k,Sm.x,Sm.y,Sm.e,Sm.f,Sm.cd,Sm.ar,Sm.th,Sm.el,Sm.no,reduceEq,↓reduceIte];exact hG
  simp only[seval,go_sem,↓A0,BV,BW,BX,BZ,isSome_some,isSome_none,AU,Ag,B1,BO,BN,CX,C9,C8,BH,BI,B7,B6,Ay,B2,C5,C6,Bv,Bu,Bh,Bo,Ba,Bp,Bq,BR,BQ,BE,BK,CY,Co,Cp,CH,CG,C1,CA,CZ,Cr,Cs,CC,CB,C0,C2,Br,Bs,B9,B8,Az,B3,Am,An,Ab,Aa,AW,AZ,hzs,hs,h,hG,C3]
  try simp only[AD,AE]
  repeat' first|exact ck|with_reducible apply And.intro|intro _
  all_goals first|exact hcc|exact hS|exact hMs|(exact ra rfl _ (by assumption) (by assumption))|exact KZ|(refine A1 [] ?_;simp only[seval,go_sem,bne,DB,DA,Cv,D5,A3,↓A0,h])
 by_cases c9:k0=9
 .subst c9
  obtain⟨EA,hA⟩:∃E,evZ q.f.name no0 q.is e0 zs=E:=⟨_,rfl⟩
  obtain⟨v,mA⟩:=EA
  have kA:=Ho q.f.name no0 q.is e0 zs
  rw[hA]at kA
  obtain⟨hcA,haA,hlA⟩:=hMs.kz kA
  have rA:=re (.inr (.inr (.inr (.inr rfl))))
  cases h2:mA.on with
  |true=>
   have h21:(mA.e==0)=true:=h2
   have h:stZ (n+1) (.mk 9 x0 y0 e0 f0 cd0 ar0 th0 el0 no0) q={ q with m:={ mA with e:=1,v:=v } }:=by rw[hS2];unfold smZ;simp only[Sm.k,Sm.x,Sm.y,Sm.e,Sm.f,Sm.cd,Sm.ar,Sm.th,Sm.el,Sm.no,reduceEq,↓reduceIte,hA,h2]
   simp only[seval,go_sem,↓A0,BV,BW,BX,BZ,isSome_some,isSome_none,AU,Ag,B1,BO,BN,CX,C9,C8,BH,BI,B7,B6,Ay,B2,C5,C6,Bv,Bu,Bh,Bo,Ba,Bp,Bq,BR,BQ,BE,BK,CY,Co,Cp,CH,CG,C1,CA,CZ,Cr,Cs,CC,CB,C0,C2,Br,Bs,B9,B8,Az,B3,Am,An,Ab,Aa,AW,AZ,hzs,hs,h,hA,h21,C3]
   exact IT
  |false=>
  have h21:(mA.e==0)=false:=h2
  have h:stZ (n+1) (.mk 9 x0 y0 e0 f0 cd0 ar0 th0 el0 no0) q={ q with m:=mA }:=by rw[hS2];unfold smZ;simp only[Sm.k,Sm.x,Sm.y,Sm.e,Sm.f,Sm.cd,Sm.ar,Sm.th,Sm.el,Sm.no,reduceEq,↓reduceIte,hA,h2,jB]
  simp only[seval,go_sem,↓A0,BV,BW,BX,BZ,isSome_some,isSome_none,AU,Ag,B1,BO,BN,CX,C9,C8,BH,BI,B7,B6,Ay,B2,C5,C6,Bv,Bu,Bh,Bo,Ba,Bp,Bq,BR,BQ,BE,BK,CY,Co,Cp,CH,CG,C1,CA,CZ,Cr,Cs,CC,CB,C0,C2,Br,Bs,B9,B8,Az,B3,Am,An,Ab,Aa,AW,AZ,hzs,hs,h,hA,h21,C3]
  exact IT
 by_cases c10:k0=10
 .subst c10
  obtain⟨EC,hCv⟩:∃E,cdZ q.f.name no0 q.is q.ps cd0 zs=E:=⟨_,rfl⟩
  obtain⟨b,mC⟩:=EC
  have kC:=NF q.f.name no0 q.is q.ps cd0 zs
  rw[hCv]at kC
  have rcd:=rc (.inl rfl)
  have kr2:=kC.kr hf0
  have ku:mC.fuel<=zs.fuel:=kr2.u
  have hM2:okZ N n q.P mC:=hMs.kr kr2 (by have:=hMs.u;show mC.fuel<_;omega)
  cases h2:mC.on with
  |false=>
   have h21:(mC.e==0)=false:=h2
   have h22:(mC.e != 0)=true:=On h2
   have h:stZ (n+1) (.mk 10 x0 y0 e0 f0 cd0 ar0 th0 el0 no0) q={ q with m:=mC }:=by rw[hS2];unfold smZ;simp only[Sm.k,Sm.x,Sm.y,Sm.e,Sm.f,Sm.cd,Sm.ar,Sm.th,Sm.el,Sm.no,reduceEq,↓reduceIte,hCv,h2]
   simp only[seval,go_sem,↓A0,BV,BW,BX,BZ,isSome_some,isSome_none,AU,Ag,B1,BO,BN,CX,C9,C8,BH,BI,B7,B6,Ay,B2,C5,C6,Bv,Bu,Bh,Bo,Ba,Bp,Bq,BR,BQ,BE,BK,CY,Co,Cp,CH,CG,C1,CA,CZ,Cr,Cs,CC,CB,C0,C2,Br,Bs,B9,B8,Az,B3,Am,An,Ab,Aa,AW,AZ,hzs,hs,h,hCv,h21,h22,C3]
   exact IT
  |true=>
  have h21:(mC.e==0)=true:=h2
  have h22:(mC.e != 0)=false:=Om h2
  cases b with
  |true=>
   obtain⟨G,hG⟩:∃G,blZ (stZ n) th0 { q with m:=mC }=G:=⟨_,rfl⟩
   have hcs:Ml N n ⟨q.P,mC,q.f,q.is,q.ps⟩ th0:=⟨⟨⟨mt,hth⟩,kt,rth⟩,hM2,(by omega)⟩
   exact SB
  |false=>
  obtain⟨G,hG⟩:∃G,blZ (stZ n) el0 { q with m:=mC }=G:=⟨_,rfl⟩
  have hcs:Ml N n ⟨q.P,mC,q.f,q.is,q.ps⟩ el0:=⟨⟨⟨me,hel⟩,ke,rel⟩,hM2,(by omega)⟩
  exact SB
 by_cases c12:k0=12
 .subst c12
  obtain⟨EC,hCv⟩:∃E,cdZ q.f.name no0 q.is q.ps cd0 zs=E:=⟨_,rfl⟩
  obtain⟨b,mC⟩:=EC
  have kC:=NF q.f.name no0 q.is q.ps cd0 zs
  rw[hCv]at kC
  have rcd:=rc (.inr (.inr rfl))
  have kr2:=kC.kr hf0
  have ku:mC.fuel<=zs.fuel:=kr2.u
  have hM2:okZ N n q.P mC:=hMs.kr kr2 (by have:=hMs.u;show mC.fuel<_;omega)
  cases b with
  |true=>
   have h:stZ (n+1) (.mk 12 x0 y0 e0 f0 cd0 ar0 th0 el0 no0) q={ q with m:=mC }:=by rw[hS2];unfold smZ;simp only[Sm.k,Sm.x,Sm.y,Sm.e,Sm.f,Sm.cd,Sm.ar,Sm.th,Sm.el,Sm.no,reduceEq,↓reduceIte,hCv]
   simp only[seval,go_sem,↓A0,BV,BW,BX,BZ,isSome_some,isSome_none,AU,Ag,B1,BO,BN,CX,C9,C8,BH,BI,B7,B6,Ay,B2,C5,C6,Bv,Bu,Bh,Bo,Ba,Bp,Bq,BR,BQ,BE,BK,CY,Co,Cp,CH,CG,C1,CA,CZ,Cr,Cs,CC,CB,C0,C2,Br,Bs,B9,B8,Az,B3,Am,An,Ab,Aa,AW,AZ,hzs,hs,h,hCv,C3]
   exact IT
  |false=>
  have h:stZ (n+1) (.mk 12 x0 y0 e0 f0 cd0 ar0 th0 el0 no0) q={ q with m:=mC.zfail q.f.name no0 3 }:=by rw[hS2];unfold smZ;simp only[Sm.k,Sm.x,Sm.y,Sm.e,Sm.f,Sm.cd,Sm.ar,Sm.th,Sm.el,Sm.no,reduceEq,↓reduceIte,hCv,jB]
  simp only[seval,go_sem,↓A0,BV,BW,BX,BZ,isSome_some,isSome_none,AU,Ag,B1,BO,BN,CX,C9,C8,BH,BI,B7,B6,Ay,B2,C5,C6,Bv,Bu,Bh,Bo,Ba,Bp,Bq,BR,BQ,BE,BK,CY,Co,Cp,CH,CG,C1,CA,CZ,Cr,Cs,CC,CB,C0,C2,Br,Bs,B9,B8,Az,B3,Am,An,Ab,Aa,AW,AZ,hzs,hs,h,hCv,C3]
  exact IT
 have d0:(k0==0)=false:=by simpa using c0
 have d1:(k0==1)=false:=by simpa using c1
 have d2:(k0==2)=false:=by simpa using c2
 have d3:(k0==3)=false:=by simpa using c3
 have d4:(k0==4)=false:=by simpa using c4
 have d5:(k0==5)=false:=by simpa using c5
 have d6:(k0==6)=false:=by simpa using c6
 have d7:(k0==7)=false:=by simpa using c7
 have d8:(k0==8)=false:=by simpa using c8
 have d9:(k0==9)=false:=by simpa using c9
 have d10:(k0==10)=false:=by simpa using c10
 have d12:(k0==12)=false:=by simpa using c12
 have h:stZ (n+1) (.mk k0 x0 y0 e0 f0 cd0 ar0 th0 el0 no0) q={ q with m:=zs }:=by
  rw[hS2];unfold smZ;simp only[Sm.k,c0,c1,c2,c3,c4,c5,c6,c7,c8,c9,c10,c12,if_false]
 simp only[seval,go_sem,↓A0,BV,BW,BX,BZ,isSome_some,isSome_none,AU,Ag,B1,BO,BN,CX,C9,C8,BH,BI,B7,B6,Ay,B2,C5,C6,Bv,Bu,Bh,Bo,Ba,Bp,Bq,BR,BQ,BE,BK,CY,Co,Cp,CH,CG,C1,CA,CZ,Cr,Cs,CC,CB,C0,C2,Br,Bs,B9,B8,Az,B3,Am,An,Ab,Aa,AW,AZ,hzs,hs,h,d11,d0,d1,d2,d3,d4,d5,d6,d7,d8,d9,d10,d12,C3]
 exact IT
theorem Qs(N:Nat):∀n,M8 N n
 |0=>λp w M I lab fz xs hc=>absurd hc.2.1.u (by have:=hc.2.1.k.on hc.2.2.1;omega)
 |n+1=>qL N n (qJ N n (S3 N n (Ox N n (Qs N n)))) (Ox N n (Qs N n))
end Go.Proofs.YtapedeoheilnnaaGreat
