/- Statements, walked. No conditions but those in each statement. -/
import Derived.Test.YtapedeoheilnnaaGreatRmd
set_option linter.all false
open Int (reduceEq)
open Option (isSome_some isSome_none)
namespace Go.Proofs.YtapedeoheilnnaaGreat
open Go Go.Sy Go.RowKit
theorem YN{P:Prop}(h:P:=by
 simp only[seval,go_sem,↓A0,isSome_some,isSome_none,ho,h,he,Fa.brk,HM,HK,HL,GI,GJ,GK,Fa.go]
 try exact KZ2):P:=h
theorem p9{P:Prop}(h:P:=by
 simp only[seval,go_sem,↓A0,isSome_some,isSome_none,ho,h,hcv,Fa.brk,HM,HK,HL,GI,GJ,GK,Fa.go]
 try exact KZ2):P:=h
variable{P:Prop}
theorem KZ2(h:P:=by (repeat' first|exact ck|with_reducible apply And.intro|intro _);all_goals first|exact trivial|exact hcs|exact⟨hcs,he1⟩|exact⟨hcs,hf1⟩|exact⟨hcs,hd1⟩|exact he1|exact hf1|exact hd1|exact⟨hcs,hla⟩|exact hla|(exact hla _ (by assumption))|(exact λ_=>hcs)|(rename_i hd;exact nomatch (Iu _ _).symm.trans hd)|exact hMs|exact hT|exact hn|exact KZ|(refine A1 [] ?_;simp only[seval,go_sem,bne,A3,↓A0,h,Fa.brk])):P:=h
theorem KZ3(h:P:=by (repeat' first|exact ck|with_reducible apply And.intro|intro _);all_goals first|exact trivial|exact hcs|exact⟨hcs,he1⟩|exact⟨hcs,hf1⟩|exact⟨hcs,hd1⟩|exact he1|exact hf1|exact hd1|exact⟨hcs,hla⟩|exact hla|(exact hla _ (by assumption))|(exact λ_=>hcs)|(rename_i hd;exact nomatch (Iu _ _).symm.trans hd)|exact hMs|exact hT|exact hn|exact KZ|(refine A1 [] ?_;simp only[seval,go_sem,bne,A3,↓A0,h])):P:=h
theorem KZ4(h:P:=by (repeat' first|exact ck|with_reducible apply And.intro|intro _);all_goals first|exact trivial|exact hcs|exact⟨hcs,he1⟩|exact⟨hcs,hf1⟩|exact⟨hcs,hd1⟩|exact he1|exact hf1|exact hd1|exact⟨hcs,hla⟩|exact hla|(exact hla _ (by assumption))|(exact λ_=>hcs)|(rename_i hd;exact nomatch (Iu _ _).symm.trans hd)|exact hMs|exact hT|exact hn|exact KZ|(refine A1 [] ?_;simp only[seval,go_sem,bne,A3,↓A0,h,Fa.go])):P:=h
theorem KZ5(h:P:=by (repeat' first|exact ck|with_reducible apply And.intro|intro _);all_goals first|exact hi.1|exact hi.2|exact hcs|exact⟨hcs,he1⟩|exact⟨hcs,hf1⟩|exact⟨hcs,hd1⟩|exact he1|exact hf1|exact hd1|exact⟨hcs,hla⟩|exact hla|(exact hla _ (by assumption))|(exact λ_=>hcs)|(rename_i hd;exact nomatch (Iu _ _).symm.trans hd)|exact hMs|exact hT|exact hn|exact KZ|(refine A1 [] ?_;simp only[seval,go_sem,bne,A3,↓A0,h])):P:=h
theorem KZ6(h:P:=by (repeat' first|exact ck|with_reducible apply And.intro|intro _);all_goals first|exact hi.1|exact hi.2|exact hv0|exact hv1|exact hcs|exact⟨hcs,he1⟩|exact⟨hcs,hf1⟩|exact⟨hcs,hd1⟩|exact he1|exact hf1|exact hd1|exact⟨hcs,hla⟩|exact hla|(exact hla _ (by assumption))|(exact λ_=>hcs)|(rename_i hd;exact nomatch (Iu _ _).symm.trans hd)|exact hMs|exact hT|exact hn|exact KZ|(refine A1 [] ?_;simp only[seval,go_sem,bne,A3,↓A0,h])):P:=h
theorem KZ7(h:P:=by (repeat' first|exact ck|with_reducible apply And.intro|intro _);all_goals first|exact⟨hT,hMs,by omega⟩|exact hcs|exact⟨hcs,he1⟩|exact⟨hcs,hf1⟩|exact⟨hcs,hd1⟩|exact he1|exact hf1|exact hd1|exact⟨hcs,hla⟩|exact hla|(exact hla _ (by assumption))|(exact λ_=>hcs)|(rename_i hd;exact nomatch (Iu _ _).symm.trans hd)|exact hMs|exact hT|exact hn|exact KZ|(refine A1 [] ?_;simp only[seval,go_sem,bne,A3,↓A0,h])):P:=h
theorem KZ8(h:P:=by (repeat' first|exact ck|with_reducible apply And.intro|intro _);all_goals first|exact⟨⟨_,hth⟩,hMs,by omega⟩|exact⟨_,hth⟩|exact hcs|exact⟨hcs,he1⟩|exact⟨hcs,hf1⟩|exact⟨hcs,hd1⟩|exact he1|exact hf1|exact hd1|exact⟨hcs,hla⟩|exact hla|(exact hla _ (by assumption))|(exact λ_=>hcs)|(rename_i hd;exact nomatch (Iu _ _).symm.trans hd)|exact hMs|exact hT|exact hn|exact KZ|(refine A1 [] ?_;simp only[seval,go_sem,bne,A3,↓A0,h])):P:=h
theorem KZ9(h:P:=by (repeat' first|exact ck|with_reducible apply And.intro|intro _);all_goals first|exact⟨⟨_,hel⟩,hMs,by omega⟩|exact⟨_,hel⟩|exact hcs|exact⟨hcs,he1⟩|exact⟨hcs,hf1⟩|exact⟨hcs,hd1⟩|exact he1|exact hf1|exact hd1|exact⟨hcs,hla⟩|exact hla|(exact hla _ (by assumption))|(exact λ_=>hcs)|(rename_i hd;exact nomatch (Iu _ _).symm.trans hd)|exact hMs|exact hT|exact hn|exact KZ|(refine A1 [] ?_;simp only[seval,go_sem,bne,A3,↓A0,h])):P:=h
section
variable {n:Nat}{s:Sm}{q:Fa}
theorem A4G(h:s.k=11):stF (n+1) s q=lpF (blF (stF n) s.th) s (n+1) q:=by simp only[stF];rw[if_pos h]
theorem zY(h:s.k≠11)(ho:q.m.out=true):stF (n+1) s q=⟨true,false,{ q with m:=q.m.exh }⟩:=by simp only[stF];rw[if_neg h,if_pos ho]
theorem A4H(h:s.k≠11)(ho:q.m.out=false):stF (n+1) s q=smF (stF n) s { q with m:=q.m.spd }:=by simp only[stF];rw[if_neg h,if_neg (by rw[ho];decide)]
end
theorem Iu(q:Fa)(s:Sm):AH (Fa.dead q s).vs s.x=some va0:=put_get s.x va0 q.vs
theorem HK(q:Fa)(s:Sm)(z:List C):((Fa.dead q s).m.cs.map Nb.c).getD 0 z=[.v (.string (bs [])),.v (.int .i64 0)]:=rfl
theorem HL(q:Fa)(s:Sm):(Fa.dead q s).m.cs.length=1:=rfl
theorem GI(q:Fa)(s:Sm)(z:List C):((Fa.dead q s).m.ar.map Na.c).getD 0 z=[.v (.string (bs [])),.ov zI [[.v (.int .i64 0)]]]:=rfl
theorem GJ(q:Fa)(s:Sm):(Fa.dead q s).m.ar.length=1:=rfl
theorem GK(z:List C):([[.v (.int .i64 0)]]:List (List C)).getD 0 z=[.v (.int .i64 0)]:=rfl
theorem HM(q:Fa)(k no:Int)(x y:List UInt8)(e f:Ex)(cd:Cd)(ar:List Ar)(th el:List Sm)(v:Int):Fk (Fa.dead q (.mk k x y e f cd ar th el no)) (.mk k x y e f cd ar th el no) v=Fa.go { Fa.dead q (.mk k x y e f cd ar th el no) with vs:=B5 (Fa.dead q (.mk k x y e f cd ar th el no)).vs x ⟨false,v,[]⟩ }:=ng _ _ _
theorem A4I(st:Sm->Fa->Ro)(s:Sm)(q:Fa):(GQ st s q).t=false:=by
 unfold GQ
 split
 .rfl
 split
 .rfl
 dsimp only
 split
 .rfl
 unfold RO
 split
 .rfl
 split
 .rfl
 exact Vo _ _ _
theorem fg{l:List Int}{i:Nat}(h:i<l.length)(z:List C):(l.map cI).getD i z=[.v (.int .i64 (l.getD i 0))]:=by simp[List.getD,h,cI]
theorem jh{q:Fa}{m:Ms}{x:List UInt8}{i:Int}(hc:okC q.P m)(h:GC { q with m:=m } x= .ok i):0<=i/\i<(m.cs.length:Int):=by
 unfold GC at h
 split at h
 .cases h
 split at h
 .rename_i j hj
  obtain rfl:j=i:=by cases h;rfl
  exact Pg.ci_lt hc hj
 cases h
theorem ji{q:Fa}{m:Ms}{s:Sm}{v k:Int}(hc:okC q.P m)(h:FR { q with m:=m } s v= .ok k):(0<=k/\k<(m.ar.length:Int))/\0<=v/\v.toNat<(m.ar.getD k.toNat ⟨[],[]⟩).l.length:=by
 unfold FR at h
 split at h
 .cases h
 rename_i j hj
 split at h
 .cases h
 rename_i hn
 obtain rfl:j=k:=by cases h;rfl
 have hn2:¬(v<0∨((m.ar.getD j.toNat ⟨[],[]⟩).l.length:Int)<=v):=hn
 refine⟨Pg.ai_lt hc hj,?_,?_⟩<;>omega
attribute [local go_sem] Ev.b Ev.vl Fa.mem Fa.memO Fa.pan ML.ch ML.ren Sm.ar Sm.cd Sm.e Sm.el Sm.f Sm.k Sm.no Sm.th Sm.x Sm.y Va.c H4 Gz H5 Di Bl Bk Be Bi Bj LJ LI DJ DI chL evA evW IJ F6 F5 Gv fcN JI frC IK Gx lmH lmO Gw IH II mcC IL Hm mcW DH Cj Ck CQ CP CR CS EQ nmX A5 A4 Dz Dh D3 D4 ED E9 GW GV E5 EE rnC Fx AF Ci DS Cu CU E8 va0 vrQ IM JJ uK EH Cb Dk FP DP uG uX nl uL EJ Cc Dl FQ DQ uH uY np Td Dm BP D8 En D1 Ta Dt F7 JP Fc db Dn CN da Fe Nf DZ Bw TN Eo D2 Nc Hy JS JQ Nd DY BC Cn EO Cg NZ Dg Ec Hb FE QK Df BJ Cy Eb Ct QJ Do Ep IP
set_option maxRecDepth 20000 in set_option maxHeartbeats 64000000 in
attribute[local go_sem] xt in
theorem nu(N:Nat)(n:Nat)(hI:QL N n)(hB:JR N n)(hL:O9 N n):Lp N (n+1):=by
 rintro ⟨q,s,_u⟩ w M I lab fz xs hc hA hl hx
 refine Bz Tryz.func87 rfl (Fa.mem q) w M I lab fz (JP N (n+1) q s) (Fa.pan (IP N (n+1) q s)) (Fa.memO (Hb N (n+1) q s)) [(Uf N n hL),Fe,(KX N (QI N)),Dn,CN,da,db,(XM N n hI),(Lo N false (TX N false)),(IA N n hB)] [] ((R9).args ⟨q,s,_u⟩) (JQ N (n+1) q s) xs hA hl hx (Hx _ _ _ _) (jN rfl) (Nat.le_refl _) rfl (JN _) ?_
 clear hx hl hA xs
 simp only[Tryz.f87]
 obtain⟨hT,hM,hn⟩:=hc
 dsimp only at hT hM hn
 have he1:s.e.dp<N:=hT.k.e
 have hf1:s.f.dp<N:=hT.k.f
 have hd1:s.cd.dp<N:=hT.k.c
 obtain⟨mt,hth⟩:=hT.t
 obtain⟨me,hel⟩:=hT.e
 obtain⟨k0,x0,y0,e0,f0,cd0,ar0,th0,el0,no0⟩:=s
 dsimp only[Sm.e,Sm.f,Sm.cd,Sm.th,Sm.el]at he1 hf1 hd1 hth hel
 by_cases c11:k0=11
 .subst c11
  have hS:=A4G (n:=n) (q:=q) (show (Sm.mk 11 x0 y0 e0 f0 cd0 ar0 th0 el0 no0).k=11 from rfl)
  obtain⟨T,hTT⟩:∃T,lpF (blF (stF n) th0) (.mk 11 x0 y0 e0 f0 cd0 ar0 th0 el0 no0) (n+1) q=T:=⟨_,rfl⟩
  have hS2:stF (n+1) (.mk 11 x0 y0 e0 f0 cd0 ar0 th0 el0 no0) q=T:=hS.trans hTT
  obtain⟨b,t,r⟩:=T
  cases b with
  |true=>
   simp only[seval,go_sem,↓A0,isSome_some,isSome_none,hS2,hTT]
   repeat refine AX ?_
   all_goals first|(refine A1 [] ?_;simp only[seval,go_sem,bne,A3,↓A0,hS2])|exact KA
  |false=>
  simp only[seval,go_sem,↓A0,isSome_some,isSome_none,hS2,hTT]
  repeat refine AX ?_
  refine A1 [] ?_;simp only[seval,go_sem,bne,A3,↓A0,hS2]
 have d11:(k0==11)=false:=by simpa using c11
 cases ho:q.m.out with
 |true=>
  have hS:=zY (n:=n) (q:=q) (s:=.mk k0 x0 y0 e0 f0 cd0 ar0 th0 el0 no0) c11 ho
  simp only[seval,go_sem,↓A0,isSome_some,isSome_none,ho,hS,d11]
  repeat refine AX ?_
  all_goals first|(refine A1 [] ?_;simp only[seval,go_sem,bne,A3,↓A0,hS,ho])|exact KA
 |false=>
 have hS:=A4H (n:=n) (q:=q) (s:=.mk k0 x0 y0 e0 f0 cd0 ar0 th0 el0 no0) c11 ho
 have ks:=Vm ho hM.l (by have:=hM.u;omega)
 have ka:=ff ho hM.l (by have:=hM.u;omega)
 have hMs:okMs N n { q with m:=q.m.spd }:=hM.kq ks (by show q.m.spd.fuel<_;have:=hM.u;omega)
 have hcs:okC q.P q.m.spd:=hMs.c
 have hla:∀a∈q.m.spd.ar,a.l.length<=1000000000:=hMs.a
 by_cases c0:k0=0
 .subst c0
  cases he:evF q.P q.m.spd q.vs e0 with
  |no j=>
   have h:stF (n+1) (.mk 0 x0 y0 e0 f0 cd0 ar0 th0 el0 no0) q=Fa.brk { q with m:=q.m.spd } (.mk 0 x0 y0 e0 f0 cd0 ar0 th0 el0 no0) j:=by rw[hS];unfold smF;simp only[Sm.k,Sm.x,Sm.y,Sm.e,Sm.f,Sm.cd,Sm.ar,Sm.th,Sm.el,reduceEq,↓reduceIte,he]
   exact YN
  |ok v=>
  obtain⟨A,hA⟩:∃A,Fk { q with m:=q.m.spd } (.mk 0 x0 y0 e0 f0 cd0 ar0 th0 el0 no0) v=A:=⟨_,rfl⟩
  have h:stF (n+1) (.mk 0 x0 y0 e0 f0 cd0 ar0 th0 el0 no0) q=A:=by rw[hS];unfold smF;simp only[Sm.k,Sm.x,Sm.y,Sm.e,Sm.f,Sm.cd,Sm.ar,Sm.th,Sm.el,reduceEq,↓reduceIte,he];exact hA
  have hAt:A.t=false:=by rw[<- hA];exact Vo _ _ _
  try dsimp only[Ms.cell,Ms.arr]at hA
  obtain⟨b,t,r⟩:=A
  obtain rfl:t=false:=hAt
  cases b with
  |true=>
   simp only[seval,go_sem,↓A0,isSome_some,isSome_none,ho,h,hA,he]
   try exact KZ3
  |false=>
  simp only[seval,go_sem,↓A0,isSome_some,isSome_none,ho,h,hA,he]
  try exact KZ3
 by_cases c1:k0=1
 .subst c1
  cases hy:q.P.ci y0 with
  |none=>
   have h:stF (n+1) (.mk 1 x0 y0 e0 f0 cd0 ar0 th0 el0 no0) q=Fa.brk { q with m:=q.m.spd } (.mk 1 x0 y0 e0 f0 cd0 ar0 th0 el0 no0) 4:=by rw[hS];unfold smF;simp only[Sm.k,Sm.x,Sm.y,Sm.e,Sm.f,Sm.cd,Sm.ar,Sm.th,Sm.el,reduceEq,↓reduceIte,hy]
   simp only[seval,go_sem,↓A0,isSome_some,isSome_none,ho,h,hy,Fa.brk,HM,HK,HL,GI,GJ,GK,Fa.go]
   try exact KZ2
  |some i=>
  have h:stF (n+1) (.mk 1 x0 y0 e0 f0 cd0 ar0 th0 el0 no0) q=Fa.go { { q with m:=q.m.spd } with vs:=B5 q.vs x0 ⟨true,0,y0⟩ }:=by rw[hS];unfold smF;simp only[Sm.k,Sm.x,Sm.y,Sm.e,Sm.f,Sm.cd,Sm.ar,Sm.th,Sm.el,reduceEq,↓reduceIte,hy]
  simp only[seval,go_sem,↓A0,isSome_some,isSome_none,ho,h,hy,Fa.go,MQ]
  try exact KZ4
 by_cases c2:k0=2
 .subst c2
  cases hv:AH q.vs y0 with
  |none=>
   have hv2:(GB q.vs y0).s=[]:=by unfold GB;rw[hv];rfl
   have h:stF (n+1) (.mk 2 x0 y0 e0 f0 cd0 ar0 th0 el0 no0) q=Fa.go { { q with m:=q.m.spd } with vs:=B5 q.vs x0 ⟨true,0,[]⟩ }:=by rw[hS];unfold smF;simp only[Sm.k,Sm.x,Sm.y,Sm.e,Sm.f,Sm.cd,Sm.ar,Sm.th,Sm.el,reduceEq,↓reduceIte,hv2]
   simp only[seval,go_sem,↓A0,isSome_some,isSome_none,ho,h,hv,Fa.go,MQ]
   try exact KZ4
  |some u=>
  have hv2:(GB q.vs y0).s=u.s:=by unfold GB;rw[hv];rfl
  have h:stF (n+1) (.mk 2 x0 y0 e0 f0 cd0 ar0 th0 el0 no0) q=Fa.go { { q with m:=q.m.spd } with vs:=B5 q.vs x0 ⟨true,0,u.s⟩ }:=by rw[hS];unfold smF;simp only[Sm.k,Sm.x,Sm.y,Sm.e,Sm.f,Sm.cd,Sm.ar,Sm.th,Sm.el,reduceEq,↓reduceIte,hv2]
  simp only[seval,go_sem,↓A0,isSome_some,isSome_none,ho,h,hv,Fa.go,MQ]
  try exact KZ4
 by_cases c3:k0=3
 .subst c3
  have h:stF (n+1) (.mk 3 x0 y0 e0 f0 cd0 ar0 th0 el0 no0) q=Fa.go { { q with m:=q.m.spd } with vs:=B5 q.vs x0 ⟨true,0,[]⟩ }:=by rw[hS];unfold smF;simp only[Sm.k,Sm.x,Sm.y,Sm.e,Sm.f,Sm.cd,Sm.ar,Sm.th,Sm.el,reduceEq,↓reduceIte]
  simp only[seval,go_sem,↓A0,isSome_some,isSome_none,ho,h,Fa.go,MQ]
  try exact KZ4
 by_cases c4:k0=4
 .subst c4
  cases hf:GC { q with m:=q.m.spd } y0 with
  |no j=>
   have h:stF (n+1) (.mk 4 x0 y0 e0 f0 cd0 ar0 th0 el0 no0) q=Fa.brk { q with m:=q.m.spd } (.mk 4 x0 y0 e0 f0 cd0 ar0 th0 el0 no0) j:=by rw[hS];unfold smF;simp only[Sm.k,Sm.x,Sm.y,Sm.e,Sm.f,Sm.cd,Sm.ar,Sm.th,Sm.el,reduceEq,↓reduceIte,hf]
   simp only[seval,go_sem,↓A0,isSome_some,isSome_none,ho,h,hf,Fa.brk,HM,HK,HL,GI,GJ,GK,Fa.go]
   try exact KZ2
  |ok i=>
  have hi:=jh hcs hf
  have hg:=MR hi
  obtain⟨A,hA⟩:∃A,Fk { q with m:=q.m.spd } (.mk 4 x0 y0 e0 f0 cd0 ar0 th0 el0 no0) (q.m.spd.cell i)=A:=⟨_,rfl⟩
  have h:stF (n+1) (.mk 4 x0 y0 e0 f0 cd0 ar0 th0 el0 no0) q=A:=by rw[hS];unfold smF;simp only[Sm.k,Sm.x,Sm.y,Sm.e,Sm.f,Sm.cd,Sm.ar,Sm.th,Sm.el,reduceEq,↓reduceIte,hf];exact hA
  have hAt:A.t=false:=by rw[<- hA];exact Vo _ _ _
  try dsimp only[Ms.cell,Ms.arr]at hA
  obtain⟨b,t,r⟩:=A
  obtain rfl:t=false:=hAt
  cases b with
  |true=>
   simp only[seval,go_sem,↓A0,isSome_some,isSome_none,ho,h,hA,hf,hg,Ms.cell]
   try exact KZ5
  |false=>
  simp only[seval,go_sem,↓A0,isSome_some,isSome_none,ho,h,hA,hf,hg,Ms.cell]
  try exact KZ5
 by_cases c5:k0=5
 .subst c5
  cases he:evF q.P q.m.spd q.vs e0 with
  |no j=>
   have h:stF (n+1) (.mk 5 x0 y0 e0 f0 cd0 ar0 th0 el0 no0) q=Fa.brk { q with m:=q.m.spd } (.mk 5 x0 y0 e0 f0 cd0 ar0 th0 el0 no0) j:=by rw[hS];unfold smF;simp only[Sm.k,Sm.x,Sm.y,Sm.e,Sm.f,Sm.cd,Sm.ar,Sm.th,Sm.el,reduceEq,↓reduceIte,he]
   exact YN
  |ok v=>
  cases hf:GC { q with m:=q.m.spd } x0 with
  |no j=>
   have h:stF (n+1) (.mk 5 x0 y0 e0 f0 cd0 ar0 th0 el0 no0) q=Fa.brk { q with m:=q.m.spd } (.mk 5 x0 y0 e0 f0 cd0 ar0 th0 el0 no0) j:=by rw[hS];unfold smF;simp only[Sm.k,Sm.x,Sm.y,Sm.e,Sm.f,Sm.cd,Sm.ar,Sm.th,Sm.el,reduceEq,↓reduceIte,he,hf]
   simp only[seval,go_sem,↓A0,isSome_some,isSome_none,ho,h,he,hf,Fa.brk,HM,HK,HL,GI,GJ,GK,Fa.go]
   try exact KZ2
  |ok i=>
  have hi:=jh hcs hf
  have hg:=MR hi
  have h:stF (n+1) (.mk 5 x0 y0 e0 f0 cd0 ar0 th0 el0 no0) q=Fa.go { { q with m:=q.m.spd } with m:=q.m.spd.set i v }:=by rw[hS];unfold smF;simp only[Sm.k,Sm.x,Sm.y,Sm.e,Sm.f,Sm.cd,Sm.ar,Sm.th,Sm.el,reduceEq,↓reduceIte,he,hf]
  simp only[seval,go_sem,↓A0,isSome_some,isSome_none,ho,h,he,hf,hg,Fa.go,Ms.set,Vj]
  repeat' first|exact ck|with_reducible apply And.intro|intro _
  all_goals first|exact hi.1|exact hi.2|exact hcs|exact⟨hcs,he1⟩|exact⟨hcs,hf1⟩|exact⟨hcs,hd1⟩|exact he1|exact hf1|exact hd1|exact⟨hcs,hla⟩|exact hla|(exact hla _ (by assumption))|(exact λ_=>hcs)|(rename_i hd;exact nomatch (Iu _ _).symm.trans hd)|exact hMs|exact hT|exact hn|exact KZ|(refine A1 [] ?_;simp only[seval,go_sem,bne,A3,↓A0,h,Fa.go,Ms.set])
 by_cases c6:k0=6
 .subst c6
  cases he:evF q.P q.m.spd q.vs e0 with
  |no j=>
   have h:stF (n+1) (.mk 6 x0 y0 e0 f0 cd0 ar0 th0 el0 no0) q=Fa.brk { q with m:=q.m.spd } (.mk 6 x0 y0 e0 f0 cd0 ar0 th0 el0 no0) j:=by rw[hS];unfold smF;simp only[Sm.k,Sm.x,Sm.y,Sm.e,Sm.f,Sm.cd,Sm.ar,Sm.th,Sm.el,reduceEq,↓reduceIte,he]
   exact YN
  |ok v=>
  cases hf:FR { q with m:=q.m.spd } (.mk 6 x0 y0 e0 f0 cd0 ar0 th0 el0 no0) v with
  |no j=>
   have h:stF (n+1) (.mk 6 x0 y0 e0 f0 cd0 ar0 th0 el0 no0) q=Fa.brk { q with m:=q.m.spd } (.mk 6 x0 y0 e0 f0 cd0 ar0 th0 el0 no0) j:=by rw[hS];unfold smF;simp only[Sm.k,Sm.x,Sm.y,Sm.e,Sm.f,Sm.cd,Sm.ar,Sm.th,Sm.el,reduceEq,↓reduceIte,he,hf]
   simp only[seval,go_sem,↓A0,isSome_some,isSome_none,ho,h,he,hf,Fa.brk,HM,HK,HL,GI,GJ,GK,Fa.go]
   try exact KZ2
  |ok k=>
  obtain⟨hi,hv0,hv1⟩:=ji hcs hf
  have hg:=Q9 hi
  have hgi:=fg hv1
  obtain⟨A,hA⟩:∃A,Fk { q with m:=q.m.spd } (.mk 6 x0 y0 e0 f0 cd0 ar0 th0 el0 no0) ((q.m.spd.arr k).getD v.toNat 0)=A:=⟨_,rfl⟩
  have h:stF (n+1) (.mk 6 x0 y0 e0 f0 cd0 ar0 th0 el0 no0) q=A:=by rw[hS];unfold smF;simp only[Sm.k,Sm.x,Sm.y,Sm.e,Sm.f,Sm.cd,Sm.ar,Sm.th,Sm.el,reduceEq,↓reduceIte,he,hf];exact hA
  have hAt:A.t=false:=by rw[<- hA];exact Vo _ _ _
  try dsimp only[Ms.cell,Ms.arr]at hA
  obtain⟨b,t,r⟩:=A
  obtain rfl:t=false:=hAt
  cases b with
  |true=>
   simp only[seval,go_sem,↓A0,isSome_some,isSome_none,ho,h,hA,he,hf,hg,hgi,Ms.arr]
   try exact KZ6
  |false=>
  simp only[seval,go_sem,↓A0,isSome_some,isSome_none,ho,h,hA,he,hf,hg,hgi,Ms.arr]
  try exact KZ6
 by_cases c7:k0=7
 .subst c7
  cases he:evF q.P q.m.spd q.vs e0 with
  |no j=>
   have h:stF (n+1) (.mk 7 x0 y0 e0 f0 cd0 ar0 th0 el0 no0) q=Fa.brk { q with m:=q.m.spd } (.mk 7 x0 y0 e0 f0 cd0 ar0 th0 el0 no0) j:=by rw[hS];unfold smF;simp only[Sm.k,Sm.x,Sm.y,Sm.e,Sm.f,Sm.cd,Sm.ar,Sm.th,Sm.el,reduceEq,↓reduceIte,he]
   exact YN
  |ok v=>
  cases hff:evF q.P q.m.spd q.vs f0 with
  |no j=>
   have h:stF (n+1) (.mk 7 x0 y0 e0 f0 cd0 ar0 th0 el0 no0) q=Fa.brk { q with m:=q.m.spd } (.mk 7 x0 y0 e0 f0 cd0 ar0 th0 el0 no0) j:=by rw[hS];unfold smF;simp only[Sm.k,Sm.x,Sm.y,Sm.e,Sm.f,Sm.cd,Sm.ar,Sm.th,Sm.el,reduceEq,↓reduceIte,he,hff]
   simp only[seval,go_sem,↓A0,isSome_some,isSome_none,ho,h,he,hff,Fa.brk,HM,HK,HL,GI,GJ,GK,Fa.go]
   try exact KZ2
  |ok u=>
  cases hf:FR { q with m:=q.m.spd } (.mk 7 x0 y0 e0 f0 cd0 ar0 th0 el0 no0) v with
  |no j=>
   have h:stF (n+1) (.mk 7 x0 y0 e0 f0 cd0 ar0 th0 el0 no0) q=Fa.brk { q with m:=q.m.spd } (.mk 7 x0 y0 e0 f0 cd0 ar0 th0 el0 no0) j:=by rw[hS];unfold smF;simp only[Sm.k,Sm.x,Sm.y,Sm.e,Sm.f,Sm.cd,Sm.ar,Sm.th,Sm.el,reduceEq,↓reduceIte,he,hff,hf]
   simp only[seval,go_sem,↓A0,isSome_some,isSome_none,ho,h,he,hff,hf,Fa.brk,HM,HK,HL,GI,GJ,GK,Fa.go]
   try exact KZ2
  |ok k=>
  obtain⟨hi,hv0,hv1⟩:=ji hcs hf
  have hg:=Q9 hi
  have hgi:=fg hv1
  have h:stF (n+1) (.mk 7 x0 y0 e0 f0 cd0 ar0 th0 el0 no0) q=Fa.go { { q with m:=q.m.spd } with m:=q.m.spd.put k v u }:=by rw[hS];unfold smF;simp only[Sm.k,Sm.x,Sm.y,Sm.e,Sm.f,Sm.cd,Sm.ar,Sm.th,Sm.el,reduceEq,↓reduceIte,he,hff,hf]
  simp only[seval,go_sem,↓A0,isSome_some,isSome_none,ho,h,he,hff,hf,hg,hgi,Fa.go,Ms.put,Ms.arr,jY,jZ]
  repeat' first|exact ck|with_reducible apply And.intro|intro _
  all_goals first|exact hi.1|exact hi.2|exact hv0|exact hv1|exact hcs|exact⟨hcs,he1⟩|exact⟨hcs,hf1⟩|exact⟨hcs,hd1⟩|exact he1|exact hf1|exact hd1|exact⟨hcs,hla⟩|exact hla|(exact hla _ (by assumption))|(exact λ_=>hcs)|(rename_i hd;exact nomatch (Iu _ _).symm.trans hd)|exact hMs|exact hT|exact hn|exact KZ|(refine A1 [] ?_;simp only[seval,go_sem,bne,A3,↓A0,h,Fa.go,Ms.put,Ms.arr])
 by_cases c8:k0=8
 .subst c8
  obtain⟨A,hA⟩:∃A,GQ (stF n) (.mk 8 x0 y0 e0 f0 cd0 ar0 th0 el0 no0) { q with m:=q.m.spd }=A:=⟨_,rfl⟩
  have h:stF (n+1) (.mk 8 x0 y0 e0 f0 cd0 ar0 th0 el0 no0) q=A:=by rw[hS];unfold smF;simp only[Sm.k,Sm.x,Sm.y,Sm.e,Sm.f,Sm.cd,Sm.ar,Sm.th,Sm.el,reduceEq,↓reduceIte];exact hA
  have hAt:A.t=false:=by rw[<- hA];exact A4I _ _ _
  obtain⟨b,t,r⟩:=A
  obtain rfl:t=false:=hAt
  cases b with
  |true=>
   simp only[seval,go_sem,↓A0,isSome_some,isSome_none,ho,h,hA]
   try exact KZ7
  |false=>
  simp only[seval,go_sem,↓A0,isSome_some,isSome_none,ho,h,hA]
  try exact KZ7
 by_cases c9:k0=9
 .subst c9
  cases he:evF q.P q.m.spd q.vs e0 with
  |no j=>
   have h:stF (n+1) (.mk 9 x0 y0 e0 f0 cd0 ar0 th0 el0 no0) q=Fa.brk { q with m:=q.m.spd } (.mk 9 x0 y0 e0 f0 cd0 ar0 th0 el0 no0) j:=by rw[hS];unfold smF;simp only[Sm.k,Sm.x,Sm.y,Sm.e,Sm.f,Sm.cd,Sm.ar,Sm.th,Sm.el,reduceEq,↓reduceIte,he]
   exact YN
  |ok v=>
  have h:stF (n+1) (.mk 9 x0 y0 e0 f0 cd0 ar0 th0 el0 no0) q=⟨false,true,{ { q with m:=q.m.spd } with ret:=v }⟩:=by rw[hS];unfold smF;simp only[Sm.k,Sm.x,Sm.y,Sm.e,Sm.f,Sm.cd,Sm.ar,Sm.th,Sm.el,reduceEq,↓reduceIte,he]
  simp only[seval,go_sem,↓A0,isSome_some,isSome_none,ho,h,he]
  try exact KZ3
 by_cases c10:k0=10
 .subst c10
  cases hcv:cdF q.P q.m.spd q.vs cd0 with
  |no j=>
   have h:stF (n+1) (.mk 10 x0 y0 e0 f0 cd0 ar0 th0 el0 no0) q=Fa.brk { q with m:=q.m.spd } (.mk 10 x0 y0 e0 f0 cd0 ar0 th0 el0 no0) j:=by rw[hS];unfold smF;simp only[Sm.k,Sm.x,Sm.y,Sm.e,Sm.f,Sm.cd,Sm.ar,Sm.th,Sm.el,reduceEq,↓reduceIte,hcv]
   exact p9
  |ok v=>
  cases v with
  |true=>
   obtain⟨T,hTT⟩:∃T,blF (stF n) th0 { q with m:=q.m.spd }=T:=⟨_,rfl⟩
   have h:stF (n+1) (.mk 10 x0 y0 e0 f0 cd0 ar0 th0 el0 no0) q=T:=by rw[hS];unfold smF;simp only[Sm.k,Sm.x,Sm.y,Sm.e,Sm.f,Sm.cd,Sm.ar,Sm.th,Sm.el,reduceEq,↓reduceIte,hcv];exact hTT
   obtain⟨b,t,r⟩:=T
   cases b with
   |true=>
    simp only[seval,go_sem,↓A0,isSome_some,isSome_none,ho,h,hcv,hTT]
    try exact KZ8
   |false=>
   simp only[seval,go_sem,↓A0,isSome_some,isSome_none,ho,h,hcv,hTT]
   try exact KZ8
  |false=>
  obtain⟨T,hTT⟩:∃T,blF (stF n) el0 { q with m:=q.m.spd }=T:=⟨_,rfl⟩
  have h:stF (n+1) (.mk 10 x0 y0 e0 f0 cd0 ar0 th0 el0 no0) q=T:=by rw[hS];unfold smF;simp only[Sm.k,Sm.x,Sm.y,Sm.e,Sm.f,Sm.cd,Sm.ar,Sm.th,Sm.el,reduceEq,↓reduceIte,hcv];exact hTT
  obtain⟨b,t,r⟩:=T
  cases b with
  |true=>
   simp only[seval,go_sem,↓A0,isSome_some,isSome_none,ho,h,hcv,hTT]
   try exact KZ9
  |false=>
  simp only[seval,go_sem,↓A0,isSome_some,isSome_none,ho,h,hcv,hTT]
  try exact KZ9
 by_cases c12:k0=12
 .subst c12
  cases hcv:cdF q.P q.m.spd q.vs cd0 with
  |no j=>
   have h:stF (n+1) (.mk 12 x0 y0 e0 f0 cd0 ar0 th0 el0 no0) q=Fa.brk { q with m:=q.m.spd } (.mk 12 x0 y0 e0 f0 cd0 ar0 th0 el0 no0) j:=by rw[hS];unfold smF;simp only[Sm.k,Sm.x,Sm.y,Sm.e,Sm.f,Sm.cd,Sm.ar,Sm.th,Sm.el,reduceEq,↓reduceIte,hcv]
   exact p9
  |ok v=>
  cases v with
  |true=>
   have h:stF (n+1) (.mk 12 x0 y0 e0 f0 cd0 ar0 th0 el0 no0) q=Fa.go { q with m:=q.m.spd }:=by rw[hS];unfold smF;simp only[Sm.k,Sm.x,Sm.y,Sm.e,Sm.f,Sm.cd,Sm.ar,Sm.th,Sm.el,reduceEq,↓reduceIte,hcv]
   simp only[seval,go_sem,↓A0,isSome_some,isSome_none,ho,h,hcv,Fa.go]
   try exact KZ4
  |false=>
  have h:stF (n+1) (.mk 12 x0 y0 e0 f0 cd0 ar0 th0 el0 no0) q=Fa.brk { q with m:=q.m.spd } (.mk 12 x0 y0 e0 f0 cd0 ar0 th0 el0 no0) 3:=by rw[hS];unfold smF;simp only[Sm.k,Sm.x,Sm.y,Sm.e,Sm.f,Sm.cd,Sm.ar,Sm.th,Sm.el,reduceEq,↓reduceIte,hcv]
  exact p9
 have d0:(k0==0)=false:=by simpa using c0
 have d1:(k0==1)=false:=by simpa using c1
 have d2:(k0==2)=false:=by simpa using c2
 have d3:(k0==3)=false:=by simpa using c3
 have d4:(k0==4)=false:=by simpa using c4
 have d5:(k0==5)=false:=by simpa using c5
 have d6:(k0==6)=false:=by simpa using c6
 have d7:(k0==7)=false:=by simpa using c7
 have d8:(k0==8)=false:=by simpa using c8
 have d9:(k0==9)=false:=by simpa using c9
 have d10:(k0==10)=false:=by simpa using c10
 have d12:(k0==12)=false:=by simpa using c12
 have h:stF (n+1) (.mk k0 x0 y0 e0 f0 cd0 ar0 th0 el0 no0) q=Fa.go { q with m:=q.m.spd }:=by
  rw[hS];unfold smF;simp only[Sm.k,c0,c1,c2,c3,c4,c5,c6,c7,c8,c9,c10,c12,if_false]
 simp only[seval,go_sem,↓A0,isSome_some,isSome_none,ho,h,Fa.go,d11,d0,d1,d2,d3,d4,d5,d6,d7,d8,d9,d10,d12]
 try exact KZ4
theorem Th(N:Nat):∀n,Lp N n
 |0=>λp w M I lab fz xs hc=>absurd hc.2.1.u (by have:=hc.2.1.l;omega)
 |n+1=>nu N n (zR N n (dk N n (RB N n (Th N n)))) (RB N n (Th N n)) (uN N n (RB N n (Th N n)))
end Go.Proofs.YtapedeoheilnnaaGreat
