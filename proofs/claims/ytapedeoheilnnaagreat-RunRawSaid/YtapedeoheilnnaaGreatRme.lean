/- Statements, walked. No conditions but those in each statement. -/
import Derived.Test.YtapedeoheilnnaaGreatRmd
set_option linter.all false
open Int (reduceEq)
open Option (isSome_some isSome_none)
namespace Go.Proofs.YtapedeoheilnnaaGreat
open Go Go.Sy Go.RowKit
variable{P:Prop}
theorem zA(h:P:=by (repeat' first|exact ck|with_reducible apply And.intro|intro _);all_goals first|exact⟨hT,hM,hn⟩|exact hT|exact hM|exact hn|exact KZ|(refine A1 [] ?_;simp only[seval,go_sem,bne,A5,↓A0,hS2])):P:=h
theorem LD(h:P:=by (repeat' first|exact ck|with_reducible apply And.intro|intro _);all_goals first|exact trivial|exact hcs|exact⟨hcs,he1⟩|exact⟨hcs,hf1⟩|exact⟨hcs,hd1⟩|exact he1|exact hf1|exact hd1|exact⟨hcs,hla⟩|exact hla|(exact hla _ (by assumption))|(exact λ_=>hcs)|(rename_i hd;exact nomatch (Ih _ _).symm.trans hd)|exact hMs|exact hT|exact hn|exact KZ|(refine A1 [] ?_;simp only[seval,go_sem,bne,A5,↓A0,h,Fa.brk])):P:=h
theorem nO(h:P:=by (repeat' first|exact ck|with_reducible apply And.intro|intro _);all_goals first|exact trivial|exact hcs|exact⟨hcs,he1⟩|exact⟨hcs,hf1⟩|exact⟨hcs,hd1⟩|exact he1|exact hf1|exact hd1|exact⟨hcs,hla⟩|exact hla|(exact hla _ (by assumption))|(exact λ_=>hcs)|(rename_i hd;exact nomatch (Ih _ _).symm.trans hd)|exact hMs|exact hT|exact hn|exact KZ|(refine A1 [] ?_;simp only[seval,go_sem,bne,A5,↓A0,h])):P:=h
theorem XE(h:P:=by (repeat' first|exact ck|with_reducible apply And.intro|intro _);all_goals first|exact trivial|exact hcs|exact⟨hcs,he1⟩|exact⟨hcs,hf1⟩|exact⟨hcs,hd1⟩|exact he1|exact hf1|exact hd1|exact⟨hcs,hla⟩|exact hla|(exact hla _ (by assumption))|(exact λ_=>hcs)|(rename_i hd;exact nomatch (Ih _ _).symm.trans hd)|exact hMs|exact hT|exact hn|exact KZ|(refine A1 [] ?_;simp only[seval,go_sem,bne,A5,↓A0,h,Fa.go])):P:=h
theorem zB(h:P:=by (repeat' first|exact ck|with_reducible apply And.intro|intro _);all_goals first|exact hi.1|exact hi.2|exact hcs|exact⟨hcs,he1⟩|exact⟨hcs,hf1⟩|exact⟨hcs,hd1⟩|exact he1|exact hf1|exact hd1|exact⟨hcs,hla⟩|exact hla|(exact hla _ (by assumption))|(exact λ_=>hcs)|(rename_i hd;exact nomatch (Ih _ _).symm.trans hd)|exact hMs|exact hT|exact hn|exact KZ|(refine A1 [] ?_;simp only[seval,go_sem,bne,A5,↓A0,h])):P:=h
theorem zC(h:P:=by (repeat' first|exact ck|with_reducible apply And.intro|intro _);all_goals first|exact hi.1|exact hi.2|exact hv0|exact hv1|exact hcs|exact⟨hcs,he1⟩|exact⟨hcs,hf1⟩|exact⟨hcs,hd1⟩|exact he1|exact hf1|exact hd1|exact⟨hcs,hla⟩|exact hla|(exact hla _ (by assumption))|(exact λ_=>hcs)|(rename_i hd;exact nomatch (Ih _ _).symm.trans hd)|exact hMs|exact hT|exact hn|exact KZ|(refine A1 [] ?_;simp only[seval,go_sem,bne,A5,↓A0,h])):P:=h
theorem zD(h:P:=by (repeat' first|exact ck|with_reducible apply And.intro|intro _);all_goals first|exact⟨hT,hMs,by omega⟩|exact hcs|exact⟨hcs,he1⟩|exact⟨hcs,hf1⟩|exact⟨hcs,hd1⟩|exact he1|exact hf1|exact hd1|exact⟨hcs,hla⟩|exact hla|(exact hla _ (by assumption))|(exact λ_=>hcs)|(rename_i hd;exact nomatch (Ih _ _).symm.trans hd)|exact hMs|exact hT|exact hn|exact KZ|(refine A1 [] ?_;simp only[seval,go_sem,bne,A5,↓A0,h])):P:=h
theorem zE(h:P:=by (repeat' first|exact ck|with_reducible apply And.intro|intro _);all_goals first|exact⟨⟨_,hth⟩,hMs,by omega⟩|exact⟨_,hth⟩|exact hcs|exact⟨hcs,he1⟩|exact⟨hcs,hf1⟩|exact⟨hcs,hd1⟩|exact he1|exact hf1|exact hd1|exact⟨hcs,hla⟩|exact hla|(exact hla _ (by assumption))|(exact λ_=>hcs)|(rename_i hd;exact nomatch (Ih _ _).symm.trans hd)|exact hMs|exact hT|exact hn|exact KZ|(refine A1 [] ?_;simp only[seval,go_sem,bne,A5,↓A0,h])):P:=h
theorem zF(h:P:=by (repeat' first|exact ck|with_reducible apply And.intro|intro _);all_goals first|exact⟨⟨_,hel⟩,hMs,by omega⟩|exact⟨_,hel⟩|exact hcs|exact⟨hcs,he1⟩|exact⟨hcs,hf1⟩|exact⟨hcs,hd1⟩|exact he1|exact hf1|exact hd1|exact⟨hcs,hla⟩|exact hla|(exact hla _ (by assumption))|(exact λ_=>hcs)|(rename_i hd;exact nomatch (Ih _ _).symm.trans hd)|exact hMs|exact hT|exact hn|exact KZ|(refine A1 [] ?_;simp only[seval,go_sem,bne,A5,↓A0,h])):P:=h
section
variable {n:Nat}{s:Sm}{q:Fa}
theorem A40(h:s.k=11):stF (n+1) s q=lpF (blF (stF n) s.th) s (n+1) q:=by simp only[stF];rw[if_pos h]
theorem zG(h:s.k≠11)(ho:q.m.out=true):stF (n+1) s q=⟨true,false,{ q with m:=q.m.exh }⟩:=by simp only[stF];rw[if_neg h,if_pos ho]
theorem A41(h:s.k≠11)(ho:q.m.out=false):stF (n+1) s q=smF (stF n) s { q with m:=q.m.spd }:=by simp only[stF];rw[if_neg h,if_neg (by rw[ho];decide)]
end
theorem Ih(q:Fa)(s:Sm):AD (Fa.dead q s).vs s.x=some va0:=put_get s.x va0 q.vs
theorem HC(q:Fa)(s:Sm)(z:List C):((Fa.dead q s).m.cs.map Nb.c).getD 0 z=[.v (.string (bs [])),.v (.int .i64 0)]:=rfl
theorem HD(q:Fa)(s:Sm):(Fa.dead q s).m.cs.length=1:=rfl
theorem G9(q:Fa)(s:Sm)(z:List C):((Fa.dead q s).m.ar.map Na.c).getD 0 z=[.v (.string (bs [])),.ov zI [[.v (.int .i64 0)]]]:=rfl
theorem GA(q:Fa)(s:Sm):(Fa.dead q s).m.ar.length=1:=rfl
theorem GB(z:List C):([[.v (.int .i64 0)]]:List (List C)).getD 0 z=[.v (.int .i64 0)]:=rfl
theorem HE(q:Fa)(k no:Int)(x y:List UInt8)(e f:Ex)(cd:Cd)(ar:List Ar)(th el:List Sm)(v:Int):FW (Fa.dead q (.mk k x y e f cd ar th el no)) (.mk k x y e f cd ar th el no) v=Fa.go { Fa.dead q (.mk k x y e f cd ar th el no) with vs:=B1 (Fa.dead q (.mk k x y e f cd ar th el no)).vs x ⟨false,v,[]⟩ }:=nG _ _ _
theorem A42(st:Sm->Fa->Ro)(s:Sm)(q:Fa):(GE st s q).t=false:=by
 unfold GE
 split
 .rfl
 split
 .rfl
 dsimp only
 split
 .rfl
 unfold RF
 split
 .rfl
 split
 .rfl
 exact VW _ _ _
theorem fH{l:List Int}{i:Nat}(h:i<l.length)(z:List C):(l.map cI).getD i z=[.v (.int .i64 (l.getD i 0))]:=by simp[List.getD,h,cI]
theorem jD{q:Fa}{m:Ms}{x:List UInt8}{i:Int}(hc:okC q.P m)(h:G2 { q with m:=m } x= .ok i):0<=i/\i<(m.cs.length:Int):=by
 unfold G2 at h
 split at h
 .cases h
 split at h
 .rename_i j hj
  obtain rfl:j=i:=by cases h;rfl
  exact Pg.ci_lt hc hj
 cases h
theorem jE{q:Fa}{m:Ms}{s:Sm}{v k:Int}(hc:okC q.P m)(h:FI { q with m:=m } s v= .ok k):(0<=k/\k<(m.ar.length:Int))/\0<=v/\v.toNat<(m.ar.getD k.toNat ⟨[],[]⟩).l.length:=by
 unfold FI at h
 split at h
 .cases h
 rename_i j hj
 split at h
 .cases h
 rename_i hn
 obtain rfl:j=k:=by cases h;rfl
 have hn2:¬(v<0∨((m.ar.getD j.toNat ⟨[],[]⟩).l.length:Int)<=v):=hn
 refine⟨Pg.ai_lt hc hj,?_,?_⟩<;>omega
attribute [local go_sem] Ev.b Ev.vl Fa.mem Fa.memO Fa.pan ML.ch ML.ren Sm.ar Sm.cd Sm.e Sm.el Sm.f Sm.k Sm.no Sm.th Sm.x Sm.y Va.c HA H9 HB Dd CS CR CA CP CQ L9 L8 DO DN chL evA evW J0 FG FF H7 fcN JC frC J1 H8 lmH lmO Gg ID IE mcC J2 IC mcW DJ Cg Ci CC CB CE CF EG nmX AB AA Dq De Cx Cy EK EJ GJ GI E1 EH rnC Fl AN Cf DP Cr CO EE va0 vrQ J3 JD tg Ea Co Ds Ff DZ tZ u4 nL tj Eb Cp Dt Fg Da tb u5 nM TO Du Ba DG Ey D9 TK E6 FH JI Fc dF Dv CV dE Fe TP Dc C5 T8 Ez DA TL Jk KP JJ NP Db BP Cv EV Cm NO Dk Ei HX FR Pz Dj BV D4 Eh Cw Py Dw F0 IF
set_option maxRecDepth 20000 in set_option maxHeartbeats 64000000 in
attribute[local go_sem] xt in
theorem nP(N:Nat)(n:Nat)(hI:Q0 N n)(hB:JK N n)(hL:Nw N n):Lg N (n+1):=by
 rintro ⟨q,s,_u⟩ w M I lab fz xs hc hA hl hx
 refine Bn Tryz.func87 rfl (Fa.mem q) w M I lab fz (JI N (n+1) q s) (Fa.pan (IF N (n+1) q s)) (Fa.memO (HX N (n+1) q s)) [(UO N n hL),Fe,(KO N (Px N)),Dv,CV,dE,dF,(XD N n hI),(Lf N false (TH N false)),(I5 N n hB)] [] ((Qw).args ⟨q,s,_u⟩) (JJ N (n+1) q s) xs hA hl hx (Ht _ _ _ _) (jN rfl) (Nat.le_refl _) rfl (JH _) ?_
 clear hx hl hA xs
 simp only[Tryz.f87]
 obtain⟨hT,hM,hn⟩:=hc
 dsimp only at hT hM hn
 have he1:s.e.dp<N:=hT.k.e
 have hf1:s.f.dp<N:=hT.k.f
 have hd1:s.cd.dp<N:=hT.k.c
 obtain⟨mt,hth⟩:=hT.t
 obtain⟨me,hel⟩:=hT.e
 obtain⟨k0,x0,y0,e0,f0,cd0,ar0,th0,el0,no0⟩:=s
 dsimp only[Sm.e,Sm.f,Sm.cd,Sm.th,Sm.el]at he1 hf1 hd1 hth hel
 by_cases c11:k0=11
 .subst c11
  have hS:=A40 (n:=n) (q:=q) (show (Sm.mk 11 x0 y0 e0 f0 cd0 ar0 th0 el0 no0).k=11 from rfl)
  obtain⟨T,hTT⟩:∃T,lpF (blF (stF n) th0) (.mk 11 x0 y0 e0 f0 cd0 ar0 th0 el0 no0) (n+1) q=T:=⟨_,rfl⟩
  have hS2:stF (n+1) (.mk 11 x0 y0 e0 f0 cd0 ar0 th0 el0 no0) q=T:=hS.trans hTT
  obtain⟨b,t,r⟩:=T
  cases b with
  |true=>
   simp only[seval,go_sem,↓A0,isSome_some,isSome_none,hS2,hTT]
   try simp only[A2,A3]
   try exact zA
  |false=>
  simp only[seval,go_sem,↓A0,isSome_some,isSome_none,hS2,hTT]
  try simp only[A2,A3]
  try exact zA
 have d11:(k0==11)=false:=by simpa using c11
 cases ho:q.m.out with
 |true=>
  have hS:=zG (n:=n) (q:=q) (s:=.mk k0 x0 y0 e0 f0 cd0 ar0 th0 el0 no0) c11 ho
  simp only[seval,go_sem,↓A0,isSome_some,isSome_none,ho,hS,d11]
  try simp only[A2,A3]
  repeat' first|exact ck|with_reducible apply And.intro|intro _
  all_goals first|exact trivial|exact KZ|(refine A1 [] ?_;simp only[seval,go_sem,bne,A5,↓A0,hS,ho])
 |false=>
 have hS:=A41 (n:=n) (q:=q) (s:=.mk k0 x0 y0 e0 f0 cd0 ar0 th0 el0 no0) c11 ho
 have ks:=VU ho hM.l (by have:=hM.u;omega)
 have ka:=fG ho hM.l (by have:=hM.u;omega)
 have hMs:okMs N n { q with m:=q.m.spd }:=hM.kq ks (by show q.m.spd.fuel<_;have:=hM.u;omega)
 have hcs:okC q.P q.m.spd:=hMs.c
 have hla:∀a∈q.m.spd.ar,a.l.length<=1000000000:=hMs.a
 by_cases c0:k0=0
 .subst c0
  cases he:evF q.P q.m.spd q.vs e0 with
  |no j=>
   have h:stF (n+1) (.mk 0 x0 y0 e0 f0 cd0 ar0 th0 el0 no0) q=Fa.brk { q with m:=q.m.spd } (.mk 0 x0 y0 e0 f0 cd0 ar0 th0 el0 no0) j:=by rw[hS];unfold smF;simp only[Sm.k,Sm.x,Sm.y,Sm.e,Sm.f,Sm.cd,Sm.ar,Sm.th,Sm.el,reduceEq,↓reduceIte,he]
   simp only[seval,go_sem,↓A0,isSome_some,isSome_none,ho,h,he,Fa.brk,HE,HC,HD,G9,GA,GB,Fa.go]
   try simp only[A2,A3]
   try exact LD
  |ok v=>
  obtain⟨A,hA⟩:∃A,FW { q with m:=q.m.spd } (.mk 0 x0 y0 e0 f0 cd0 ar0 th0 el0 no0) v=A:=⟨_,rfl⟩
  have h:stF (n+1) (.mk 0 x0 y0 e0 f0 cd0 ar0 th0 el0 no0) q=A:=by rw[hS];unfold smF;simp only[Sm.k,Sm.x,Sm.y,Sm.e,Sm.f,Sm.cd,Sm.ar,Sm.th,Sm.el,reduceEq,↓reduceIte,he];exact hA
  have hAt:A.t=false:=by rw[<- hA];exact VW _ _ _
  try dsimp only[Ms.cell,Ms.arr]at hA
  obtain⟨b,t,r⟩:=A
  obtain rfl:t=false:=hAt
  cases b with
  |true=>
   simp only[seval,go_sem,↓A0,isSome_some,isSome_none,ho,h,hA,he]
   try simp only[A2,A3]
   try exact nO
  |false=>
  simp only[seval,go_sem,↓A0,isSome_some,isSome_none,ho,h,hA,he]
  try simp only[A2,A3]
  try exact nO
 by_cases c1:k0=1
 .subst c1
  cases hy:q.P.ci y0 with
  |none=>
   have h:stF (n+1) (.mk 1 x0 y0 e0 f0 cd0 ar0 th0 el0 no0) q=Fa.brk { q with m:=q.m.spd } (.mk 1 x0 y0 e0 f0 cd0 ar0 th0 el0 no0) 4:=by rw[hS];unfold smF;simp only[Sm.k,Sm.x,Sm.y,Sm.e,Sm.f,Sm.cd,Sm.ar,Sm.th,Sm.el,reduceEq,↓reduceIte,hy]
   simp only[seval,go_sem,↓A0,isSome_some,isSome_none,ho,h,hy,Fa.brk,HE,HC,HD,G9,GA,GB,Fa.go]
   try simp only[A2,A3]
   try exact LD
  |some i=>
  have h:stF (n+1) (.mk 1 x0 y0 e0 f0 cd0 ar0 th0 el0 no0) q=Fa.go { { q with m:=q.m.spd } with vs:=B1 q.vs x0 ⟨true,0,y0⟩ }:=by rw[hS];unfold smF;simp only[Sm.k,Sm.x,Sm.y,Sm.e,Sm.f,Sm.cd,Sm.ar,Sm.th,Sm.el,reduceEq,↓reduceIte,hy]
  simp only[seval,go_sem,↓A0,isSome_some,isSome_none,ho,h,hy,Fa.go,MJ]
  try simp only[A2,A3]
  try exact XE
 by_cases c2:k0=2
 .subst c2
  cases hv:AD q.vs y0 with
  |none=>
   have hv2:(G1 q.vs y0).s=[]:=by unfold G1;rw[hv];rfl
   have h:stF (n+1) (.mk 2 x0 y0 e0 f0 cd0 ar0 th0 el0 no0) q=Fa.go { { q with m:=q.m.spd } with vs:=B1 q.vs x0 ⟨true,0,[]⟩ }:=by rw[hS];unfold smF;simp only[Sm.k,Sm.x,Sm.y,Sm.e,Sm.f,Sm.cd,Sm.ar,Sm.th,Sm.el,reduceEq,↓reduceIte,hv2]
   simp only[seval,go_sem,↓A0,isSome_some,isSome_none,ho,h,hv,Fa.go,MJ]
   try simp only[A2,A3]
   try exact XE
  |some u=>
  have hv2:(G1 q.vs y0).s=u.s:=by unfold G1;rw[hv];rfl
  have h:stF (n+1) (.mk 2 x0 y0 e0 f0 cd0 ar0 th0 el0 no0) q=Fa.go { { q with m:=q.m.spd } with vs:=B1 q.vs x0 ⟨true,0,u.s⟩ }:=by rw[hS];unfold smF;simp only[Sm.k,Sm.x,Sm.y,Sm.e,Sm.f,Sm.cd,Sm.ar,Sm.th,Sm.el,reduceEq,↓reduceIte,hv2]
  simp only[seval,go_sem,↓A0,isSome_some,isSome_none,ho,h,hv,Fa.go,MJ]
  try simp only[A2,A3]
  try exact XE
 by_cases c3:k0=3
 .subst c3
  have h:stF (n+1) (.mk 3 x0 y0 e0 f0 cd0 ar0 th0 el0 no0) q=Fa.go { { q with m:=q.m.spd } with vs:=B1 q.vs x0 ⟨true,0,[]⟩ }:=by rw[hS];unfold smF;simp only[Sm.k,Sm.x,Sm.y,Sm.e,Sm.f,Sm.cd,Sm.ar,Sm.th,Sm.el,reduceEq,↓reduceIte]
  simp only[seval,go_sem,↓A0,isSome_some,isSome_none,ho,h,Fa.go,MJ]
  try simp only[A2,A3]
  try exact XE
 by_cases c4:k0=4
 .subst c4
  cases hf:G2 { q with m:=q.m.spd } y0 with
  |no j=>
   have h:stF (n+1) (.mk 4 x0 y0 e0 f0 cd0 ar0 th0 el0 no0) q=Fa.brk { q with m:=q.m.spd } (.mk 4 x0 y0 e0 f0 cd0 ar0 th0 el0 no0) j:=by rw[hS];unfold smF;simp only[Sm.k,Sm.x,Sm.y,Sm.e,Sm.f,Sm.cd,Sm.ar,Sm.th,Sm.el,reduceEq,↓reduceIte,hf]
   simp only[seval,go_sem,↓A0,isSome_some,isSome_none,ho,h,hf,Fa.brk,HE,HC,HD,G9,GA,GB,Fa.go]
   try simp only[A2,A3]
   try exact LD
  |ok i=>
  have hi:=jD hcs hf
  have hg:=MK hi
  obtain⟨A,hA⟩:∃A,FW { q with m:=q.m.spd } (.mk 4 x0 y0 e0 f0 cd0 ar0 th0 el0 no0) (q.m.spd.cell i)=A:=⟨_,rfl⟩
  have h:stF (n+1) (.mk 4 x0 y0 e0 f0 cd0 ar0 th0 el0 no0) q=A:=by rw[hS];unfold smF;simp only[Sm.k,Sm.x,Sm.y,Sm.e,Sm.f,Sm.cd,Sm.ar,Sm.th,Sm.el,reduceEq,↓reduceIte,hf];exact hA
  have hAt:A.t=false:=by rw[<- hA];exact VW _ _ _
  try dsimp only[Ms.cell,Ms.arr]at hA
  obtain⟨b,t,r⟩:=A
  obtain rfl:t=false:=hAt
  cases b with
  |true=>
   simp only[seval,go_sem,↓A0,isSome_some,isSome_none,ho,h,hA,hf,hg,Ms.cell]
   try simp only[A2,A3]
   try exact zB
  |false=>
  simp only[seval,go_sem,↓A0,isSome_some,isSome_none,ho,h,hA,hf,hg,Ms.cell]
  try simp only[A2,A3]
  try exact zB
 by_cases c5:k0=5
 .subst c5
  cases he:evF q.P q.m.spd q.vs e0 with
  |no j=>
   have h:stF (n+1) (.mk 5 x0 y0 e0 f0 cd0 ar0 th0 el0 no0) q=Fa.brk { q with m:=q.m.spd } (.mk 5 x0 y0 e0 f0 cd0 ar0 th0 el0 no0) j:=by rw[hS];unfold smF;simp only[Sm.k,Sm.x,Sm.y,Sm.e,Sm.f,Sm.cd,Sm.ar,Sm.th,Sm.el,reduceEq,↓reduceIte,he]
   simp only[seval,go_sem,↓A0,isSome_some,isSome_none,ho,h,he,Fa.brk,HE,HC,HD,G9,GA,GB,Fa.go]
   try simp only[A2,A3]
   try exact LD
  |ok v=>
  cases hf:G2 { q with m:=q.m.spd } x0 with
  |no j=>
   have h:stF (n+1) (.mk 5 x0 y0 e0 f0 cd0 ar0 th0 el0 no0) q=Fa.brk { q with m:=q.m.spd } (.mk 5 x0 y0 e0 f0 cd0 ar0 th0 el0 no0) j:=by rw[hS];unfold smF;simp only[Sm.k,Sm.x,Sm.y,Sm.e,Sm.f,Sm.cd,Sm.ar,Sm.th,Sm.el,reduceEq,↓reduceIte,he,hf]
   simp only[seval,go_sem,↓A0,isSome_some,isSome_none,ho,h,he,hf,Fa.brk,HE,HC,HD,G9,GA,GB,Fa.go]
   try simp only[A2,A3]
   try exact LD
  |ok i=>
  have hi:=jD hcs hf
  have hg:=MK hi
  have h:stF (n+1) (.mk 5 x0 y0 e0 f0 cd0 ar0 th0 el0 no0) q=Fa.go { { q with m:=q.m.spd } with m:=q.m.spd.set i v }:=by rw[hS];unfold smF;simp only[Sm.k,Sm.x,Sm.y,Sm.e,Sm.f,Sm.cd,Sm.ar,Sm.th,Sm.el,reduceEq,↓reduceIte,he,hf]
  simp only[seval,go_sem,↓A0,isSome_some,isSome_none,ho,h,he,hf,hg,Fa.go,Ms.set,VQ]
  try simp only[A2,A3]
  repeat' first|exact ck|with_reducible apply And.intro|intro _
  all_goals first|exact hi.1|exact hi.2|exact hcs|exact⟨hcs,he1⟩|exact⟨hcs,hf1⟩|exact⟨hcs,hd1⟩|exact he1|exact hf1|exact hd1|exact⟨hcs,hla⟩|exact hla|(exact hla _ (by assumption))|(exact λ_=>hcs)|(rename_i hd;exact nomatch (Ih _ _).symm.trans hd)|exact hMs|exact hT|exact hn|exact KZ|(refine A1 [] ?_;simp only[seval,go_sem,bne,A5,↓A0,h,Fa.go,Ms.set])
 by_cases c6:k0=6
 .subst c6
  cases he:evF q.P q.m.spd q.vs e0 with
  |no j=>
   have h:stF (n+1) (.mk 6 x0 y0 e0 f0 cd0 ar0 th0 el0 no0) q=Fa.brk { q with m:=q.m.spd } (.mk 6 x0 y0 e0 f0 cd0 ar0 th0 el0 no0) j:=by rw[hS];unfold smF;simp only[Sm.k,Sm.x,Sm.y,Sm.e,Sm.f,Sm.cd,Sm.ar,Sm.th,Sm.el,reduceEq,↓reduceIte,he]
   simp only[seval,go_sem,↓A0,isSome_some,isSome_none,ho,h,he,Fa.brk,HE,HC,HD,G9,GA,GB,Fa.go]
   try simp only[A2,A3]
   try exact LD
  |ok v=>
  cases hf:FI { q with m:=q.m.spd } (.mk 6 x0 y0 e0 f0 cd0 ar0 th0 el0 no0) v with
  |no j=>
   have h:stF (n+1) (.mk 6 x0 y0 e0 f0 cd0 ar0 th0 el0 no0) q=Fa.brk { q with m:=q.m.spd } (.mk 6 x0 y0 e0 f0 cd0 ar0 th0 el0 no0) j:=by rw[hS];unfold smF;simp only[Sm.k,Sm.x,Sm.y,Sm.e,Sm.f,Sm.cd,Sm.ar,Sm.th,Sm.el,reduceEq,↓reduceIte,he,hf]
   simp only[seval,go_sem,↓A0,isSome_some,isSome_none,ho,h,he,hf,Fa.brk,HE,HC,HD,G9,GA,GB,Fa.go]
   try simp only[A2,A3]
   try exact LD
  |ok k=>
  obtain⟨hi,hv0,hv1⟩:=jE hcs hf
  have hg:=Pl hi
  have hgi:=fH hv1
  obtain⟨A,hA⟩:∃A,FW { q with m:=q.m.spd } (.mk 6 x0 y0 e0 f0 cd0 ar0 th0 el0 no0) ((q.m.spd.arr k).getD v.toNat 0)=A:=⟨_,rfl⟩
  have h:stF (n+1) (.mk 6 x0 y0 e0 f0 cd0 ar0 th0 el0 no0) q=A:=by rw[hS];unfold smF;simp only[Sm.k,Sm.x,Sm.y,Sm.e,Sm.f,Sm.cd,Sm.ar,Sm.th,Sm.el,reduceEq,↓reduceIte,he,hf];exact hA
  have hAt:A.t=false:=by rw[<- hA];exact VW _ _ _
  try dsimp only[Ms.cell,Ms.arr]at hA
  obtain⟨b,t,r⟩:=A
  obtain rfl:t=false:=hAt
  cases b with
  |true=>
   simp only[seval,go_sem,↓A0,isSome_some,isSome_none,ho,h,hA,he,hf,hg,hgi,Ms.arr]
   try simp only[A2,A3]
   try exact zC
  |false=>
  simp only[seval,go_sem,↓A0,isSome_some,isSome_none,ho,h,hA,he,hf,hg,hgi,Ms.arr]
  try simp only[A2,A3]
  try exact zC
 by_cases c7:k0=7
 .subst c7
  cases he:evF q.P q.m.spd q.vs e0 with
  |no j=>
   have h:stF (n+1) (.mk 7 x0 y0 e0 f0 cd0 ar0 th0 el0 no0) q=Fa.brk { q with m:=q.m.spd } (.mk 7 x0 y0 e0 f0 cd0 ar0 th0 el0 no0) j:=by rw[hS];unfold smF;simp only[Sm.k,Sm.x,Sm.y,Sm.e,Sm.f,Sm.cd,Sm.ar,Sm.th,Sm.el,reduceEq,↓reduceIte,he]
   simp only[seval,go_sem,↓A0,isSome_some,isSome_none,ho,h,he,Fa.brk,HE,HC,HD,G9,GA,GB,Fa.go]
   try simp only[A2,A3]
   try exact LD
  |ok v=>
  cases hff:evF q.P q.m.spd q.vs f0 with
  |no j=>
   have h:stF (n+1) (.mk 7 x0 y0 e0 f0 cd0 ar0 th0 el0 no0) q=Fa.brk { q with m:=q.m.spd } (.mk 7 x0 y0 e0 f0 cd0 ar0 th0 el0 no0) j:=by rw[hS];unfold smF;simp only[Sm.k,Sm.x,Sm.y,Sm.e,Sm.f,Sm.cd,Sm.ar,Sm.th,Sm.el,reduceEq,↓reduceIte,he,hff]
   simp only[seval,go_sem,↓A0,isSome_some,isSome_none,ho,h,he,hff,Fa.brk,HE,HC,HD,G9,GA,GB,Fa.go]
   try simp only[A2,A3]
   try exact LD
  |ok u=>
  cases hf:FI { q with m:=q.m.spd } (.mk 7 x0 y0 e0 f0 cd0 ar0 th0 el0 no0) v with
  |no j=>
   have h:stF (n+1) (.mk 7 x0 y0 e0 f0 cd0 ar0 th0 el0 no0) q=Fa.brk { q with m:=q.m.spd } (.mk 7 x0 y0 e0 f0 cd0 ar0 th0 el0 no0) j:=by rw[hS];unfold smF;simp only[Sm.k,Sm.x,Sm.y,Sm.e,Sm.f,Sm.cd,Sm.ar,Sm.th,Sm.el,reduceEq,↓reduceIte,he,hff,hf]
   simp only[seval,go_sem,↓A0,isSome_some,isSome_none,ho,h,he,hff,hf,Fa.brk,HE,HC,HD,G9,GA,GB,Fa.go]
   try simp only[A2,A3]
   try exact LD
  |ok k=>
  obtain⟨hi,hv0,hv1⟩:=jE hcs hf
  have hg:=Pl hi
  have hgi:=fH hv1
  have h:stF (n+1) (.mk 7 x0 y0 e0 f0 cd0 ar0 th0 el0 no0) q=Fa.go { { q with m:=q.m.spd } with m:=q.m.spd.put k v u }:=by rw[hS];unfold smF;simp only[Sm.k,Sm.x,Sm.y,Sm.e,Sm.f,Sm.cd,Sm.ar,Sm.th,Sm.el,reduceEq,↓reduceIte,he,hff,hf]
  simp only[seval,go_sem,↓A0,isSome_some,isSome_none,ho,h,he,hff,hf,hg,hgi,Fa.go,Ms.put,Ms.arr,iv,iw]
  try simp only[A2,A3]
  repeat' first|exact ck|with_reducible apply And.intro|intro _
  all_goals first|exact hi.1|exact hi.2|exact hv0|exact hv1|exact hcs|exact⟨hcs,he1⟩|exact⟨hcs,hf1⟩|exact⟨hcs,hd1⟩|exact he1|exact hf1|exact hd1|exact⟨hcs,hla⟩|exact hla|(exact hla _ (by assumption))|(exact λ_=>hcs)|(rename_i hd;exact nomatch (Ih _ _).symm.trans hd)|exact hMs|exact hT|exact hn|exact KZ|(refine A1 [] ?_;simp only[seval,go_sem,bne,A5,↓A0,h,Fa.go,Ms.put,Ms.arr])
 by_cases c8:k0=8
 .subst c8
  obtain⟨A,hA⟩:∃A,GE (stF n) (.mk 8 x0 y0 e0 f0 cd0 ar0 th0 el0 no0) { q with m:=q.m.spd }=A:=⟨_,rfl⟩
  have h:stF (n+1) (.mk 8 x0 y0 e0 f0 cd0 ar0 th0 el0 no0) q=A:=by rw[hS];unfold smF;simp only[Sm.k,Sm.x,Sm.y,Sm.e,Sm.f,Sm.cd,Sm.ar,Sm.th,Sm.el,reduceEq,↓reduceIte];exact hA
  have hAt:A.t=false:=by rw[<- hA];exact A42 _ _ _
  obtain⟨b,t,r⟩:=A
  obtain rfl:t=false:=hAt
  cases b with
  |true=>
   simp only[seval,go_sem,↓A0,isSome_some,isSome_none,ho,h,hA]
   try simp only[A2,A3]
   try exact zD
  |false=>
  simp only[seval,go_sem,↓A0,isSome_some,isSome_none,ho,h,hA]
  try simp only[A2,A3]
  try exact zD
 by_cases c9:k0=9
 .subst c9
  cases he:evF q.P q.m.spd q.vs e0 with
  |no j=>
   have h:stF (n+1) (.mk 9 x0 y0 e0 f0 cd0 ar0 th0 el0 no0) q=Fa.brk { q with m:=q.m.spd } (.mk 9 x0 y0 e0 f0 cd0 ar0 th0 el0 no0) j:=by rw[hS];unfold smF;simp only[Sm.k,Sm.x,Sm.y,Sm.e,Sm.f,Sm.cd,Sm.ar,Sm.th,Sm.el,reduceEq,↓reduceIte,he]
   simp only[seval,go_sem,↓A0,isSome_some,isSome_none,ho,h,he,Fa.brk,HE,HC,HD,G9,GA,GB,Fa.go]
   try simp only[A2,A3]
   try exact LD
  |ok v=>
  have h:stF (n+1) (.mk 9 x0 y0 e0 f0 cd0 ar0 th0 el0 no0) q=⟨false,true,{ { q with m:=q.m.spd } with ret:=v }⟩:=by rw[hS];unfold smF;simp only[Sm.k,Sm.x,Sm.y,Sm.e,Sm.f,Sm.cd,Sm.ar,Sm.th,Sm.el,reduceEq,↓reduceIte,he]
  simp only[seval,go_sem,↓A0,isSome_some,isSome_none,ho,h,he]
  try simp only[A2,A3]
  try exact nO
 by_cases c10:k0=10
 .subst c10
  cases hcv:cdF q.P q.m.spd q.vs cd0 with
  |no j=>
   have h:stF (n+1) (.mk 10 x0 y0 e0 f0 cd0 ar0 th0 el0 no0) q=Fa.brk { q with m:=q.m.spd } (.mk 10 x0 y0 e0 f0 cd0 ar0 th0 el0 no0) j:=by rw[hS];unfold smF;simp only[Sm.k,Sm.x,Sm.y,Sm.e,Sm.f,Sm.cd,Sm.ar,Sm.th,Sm.el,reduceEq,↓reduceIte,hcv]
   simp only[seval,go_sem,↓A0,isSome_some,isSome_none,ho,h,hcv,Fa.brk,HE,HC,HD,G9,GA,GB,Fa.go]
   try simp only[A2,A3]
   try exact LD
  |ok v=>
  cases v with
  |true=>
   obtain⟨T,hTT⟩:∃T,blF (stF n) th0 { q with m:=q.m.spd }=T:=⟨_,rfl⟩
   have h:stF (n+1) (.mk 10 x0 y0 e0 f0 cd0 ar0 th0 el0 no0) q=T:=by rw[hS];unfold smF;simp only[Sm.k,Sm.x,Sm.y,Sm.e,Sm.f,Sm.cd,Sm.ar,Sm.th,Sm.el,reduceEq,↓reduceIte,hcv];exact hTT
   obtain⟨b,t,r⟩:=T
   cases b with
   |true=>
    simp only[seval,go_sem,↓A0,isSome_some,isSome_none,ho,h,hcv,hTT]
    try simp only[A2,A3]
    try exact zE
   |false=>
   simp only[seval,go_sem,↓A0,isSome_some,isSome_none,ho,h,hcv,hTT]
   try simp only[A2,A3]
   try exact zE
  |false=>
  obtain⟨T,hTT⟩:∃T,blF (stF n) el0 { q with m:=q.m.spd }=T:=⟨_,rfl⟩
  have h:stF (n+1) (.mk 10 x0 y0 e0 f0 cd0 ar0 th0 el0 no0) q=T:=by rw[hS];unfold smF;simp only[Sm.k,Sm.x,Sm.y,Sm.e,Sm.f,Sm.cd,Sm.ar,Sm.th,Sm.el,reduceEq,↓reduceIte,hcv];exact hTT
  obtain⟨b,t,r⟩:=T
  cases b with
  |true=>
   simp only[seval,go_sem,↓A0,isSome_some,isSome_none,ho,h,hcv,hTT]
   try simp only[A2,A3]
   try exact zF
  |false=>
  simp only[seval,go_sem,↓A0,isSome_some,isSome_none,ho,h,hcv,hTT]
  try simp only[A2,A3]
  try exact zF
 by_cases c12:k0=12
 .subst c12
  cases hcv:cdF q.P q.m.spd q.vs cd0 with
  |no j=>
   have h:stF (n+1) (.mk 12 x0 y0 e0 f0 cd0 ar0 th0 el0 no0) q=Fa.brk { q with m:=q.m.spd } (.mk 12 x0 y0 e0 f0 cd0 ar0 th0 el0 no0) j:=by rw[hS];unfold smF;simp only[Sm.k,Sm.x,Sm.y,Sm.e,Sm.f,Sm.cd,Sm.ar,Sm.th,Sm.el,reduceEq,↓reduceIte,hcv]
   simp only[seval,go_sem,↓A0,isSome_some,isSome_none,ho,h,hcv,Fa.brk,HE,HC,HD,G9,GA,GB,Fa.go]
   try simp only[A2,A3]
   try exact LD
  |ok v=>
  cases v with
  |true=>
   have h:stF (n+1) (.mk 12 x0 y0 e0 f0 cd0 ar0 th0 el0 no0) q=Fa.go { q with m:=q.m.spd }:=by rw[hS];unfold smF;simp only[Sm.k,Sm.x,Sm.y,Sm.e,Sm.f,Sm.cd,Sm.ar,Sm.th,Sm.el,reduceEq,↓reduceIte,hcv]
   simp only[seval,go_sem,↓A0,isSome_some,isSome_none,ho,h,hcv,Fa.go]
   try simp only[A2,A3]
   try exact XE
  |false=>
  have h:stF (n+1) (.mk 12 x0 y0 e0 f0 cd0 ar0 th0 el0 no0) q=Fa.brk { q with m:=q.m.spd } (.mk 12 x0 y0 e0 f0 cd0 ar0 th0 el0 no0) 3:=by rw[hS];unfold smF;simp only[Sm.k,Sm.x,Sm.y,Sm.e,Sm.f,Sm.cd,Sm.ar,Sm.th,Sm.el,reduceEq,↓reduceIte,hcv]
  simp only[seval,go_sem,↓A0,isSome_some,isSome_none,ho,h,hcv,Fa.brk,HE,HC,HD,G9,GA,GB,Fa.go]
  try simp only[A2,A3]
  try exact LD
 have d0:(k0==0)=false:=by simpa using c0
 have d1:(k0==1)=false:=by simpa using c1
 have d2:(k0==2)=false:=by simpa using c2
 have d3:(k0==3)=false:=by simpa using c3
 have d4:(k0==4)=false:=by simpa using c4
 have d5:(k0==5)=false:=by simpa using c5
 have d6:(k0==6)=false:=by simpa using c6
 have d7:(k0==7)=false:=by simpa using c7
 have d8:(k0==8)=false:=by simpa using c8
 have d9:(k0==9)=false:=by simpa using c9
 have d10:(k0==10)=false:=by simpa using c10
 have d12:(k0==12)=false:=by simpa using c12
 have h:stF (n+1) (.mk k0 x0 y0 e0 f0 cd0 ar0 th0 el0 no0) q=Fa.go { q with m:=q.m.spd }:=by
  rw[hS];unfold smF;simp only[Sm.k,c0,c1,c2,c3,c4,c5,c6,c7,c8,c9,c10,c12,if_false]
 simp only[seval,go_sem,↓A0,isSome_some,isSome_none,ho,h,Fa.go,d11,d0,d1,d2,d3,d4,d5,d6,d7,d8,d9,d10,d12]
 try simp only[A2,A3]
 try exact XE
theorem TT(N:Nat):∀n,Lg N n
 |0=>λp w M I lab fz xs hc=>absurd hc.2.1.u (by have:=hc.2.1.l;omega)
 |n+1=>nP N n (z9 N n (dM N n (Qy N n (TT N n)))) (Qy N n (TT N n)) (tm N n (Qy N n (TT N n)))
end Go.Proofs.YtapedeoheilnnaaGreat
