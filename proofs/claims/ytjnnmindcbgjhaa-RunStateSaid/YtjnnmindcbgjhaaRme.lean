/- Statements, walked. No conditions but those in each statement. -/
import Derived.Test.YtjnnmindcbgjhaaRmd
set_option linter.unusedVariables false
set_option linter.unusedSimpArgs false
namespace Go.Proofs.Ytjnnmindcbgjhaa
open Go Go.Sy Go.RowKit
section
variable {n:Nat} {s:Sm} {q:Fa}
theorem A1R (h:s.k=11):stF (n+1) s q=lpF (blF (stF n) s.th) s (n+1) q:=by simp only[stF];rw[if_pos h]
theorem vg (h:s.k≠11) (ho:q.m.out=true):stF (n+1) s q=⟨true,false,{ q with m:=q.m.exh }⟩:=by simp only[stF];rw[if_neg h,if_pos ho]
theorem A1S (h:s.k≠11) (ho:q.m.out=false):stF (n+1) s q=smF (stF n) s { q with m:=q.m.spd }:=by simp only[stF];rw[if_neg h,if_neg (by rw[ho];decide)]
end
theorem BL (q:Fa) (s:Sm):Ap (Fa.dead q s).vs s.x=some va0:=put_get s.x va0 q.vs
theorem GI (q:Fa) (s:Sm) (z:List C):((Fa.dead q s).m.cs.map Nb.c).getD 0 z=[.v (.string (bs [])),.v (.int .i64 0)]:=rfl
theorem GJ (q:Fa) (s:Sm):(Fa.dead q s).m.cs.length=1:=rfl
theorem F4 (q:Fa) (s:Sm) (z:List C):((Fa.dead q s).m.ar.map Na.c).getD 0 z=[.v (.string (bs [])),.ov zI [[.v (.int .i64 0)]]]:=rfl
theorem F5 (q:Fa) (s:Sm):(Fa.dead q s).m.ar.length=1:=rfl
theorem F6 (z:List C):([[.v (.int .i64 0)]]:List (List C)).getD 0 z=[.v (.int .i64 0)]:=rfl
theorem F7 (q:Fa) (k no:Int) (x y:List UInt8) (e f:Ex) (cd:Cd) (ar:List Ar) (th el:List Sm):Ap (Fa.dead q (.mk k x y e f cd ar th el no)).vs x=some va0:=put_get x va0 q.vs
theorem GK (q:Fa) (k no:Int) (x y:List UInt8) (e f:Ex) (cd:Cd) (ar:List Ar) (th el:List Sm) (v:Int):FH (Fa.dead q (.mk k x y e f cd ar th el no)) (.mk k x y e f cd ar th el no) v=Fa.go { Fa.dead q (.mk k x y e f cd ar th el no) with vs:=C2 (Fa.dead q (.mk k x y e f cd ar th el no)).vs x ⟨false,v,[]⟩ }:=iG _ _ _
theorem Ia:(some va0=(none:Option Va))=False:=by simp
theorem A1T (st:Sm→Fa→Ro) (s:Sm) (q:Fa):(Fb st s q).t=false:=by
 unfold Fb
 split
 ·rfl
 ·split
  ·rfl
  ·dsimp only
   split
   ·rfl
   ·unfold T5
    split
    ·rfl
    ·split
     ·rfl
     ·exact Tu _ _ _
theorem vh {l:List Int} {i:Nat} (h:i<l.length) (z:List C):(l.map cI).getD i z=[.v (.int .i64 (l.getD i 0))]:=by simp[List.getD,h,cI]
theorem dw {q:Fa} {m:Ms} {x:List UInt8} {i:Int} (hc:okC q.P m) (h:G8 { q with m:=m } x= .ok i):0≤i∧i<(m.cs.length:Int):=by
 unfold G8 at h
 split at h
 ·cases h
 ·split at h
  ·rename_i j hj
   obtain rfl:j=i:=by cases h;rfl
   exact Pg.ci_lt hc hj
  ·cases h
theorem dx {q:Fa} {m:Ms} {s:Sm} {v k:Int} (hc:okC q.P m) (h:Eu { q with m:=m } s v= .ok k):(0≤k∧k<(m.ar.length:Int))∧0≤v∧v.toNat<(m.ar.getD k.toNat ⟨[],[]⟩).l.length:=by
 unfold Eu at h
 split at h
 ·cases h
 ·rename_i j hj
  split at h
  ·cases h
  ·rename_i hn
   obtain rfl:j=k:=by cases h;rfl
   have hn2:¬(v<0∨((m.ar.getD j.toNat ⟨[],[]⟩).l.length:Int)≤v):=hn
   refine⟨Pg.ai_lt hc hj,?_,?_⟩<;>omega
attribute [local go_sem] Ev.b Ev.vl Fa.mem Fa.memO Fa.pan ML.ch ML.ren Sm.ar Sm.cd Sm.e Sm.el Sm.f Sm.k Sm.no Sm.th Sm.x Sm.y Va.c GG GF GH Dm BJ BP BQ BH BN BO Kn Km Cy Cx chL evA evW IW EM EL GM fcN J2 frC IX GE lmH lmO Fv HW HX mcC IY HV mcW EA DR DS Bh Bg Bi Bj Fw nmX AB AA Et Ei Dt Du Fz Fy FO FN EP F9 rnC HN AK DA Ds DQ CS Ea va0 vrQ IZ J3 FR oh D6 Bn Ck EN CP oZ pM iQ oi D7 Bo Cl EO CQ oa pN iR JG C4 Aj Be Ci BR JF CC Cq Ef EC ZW Cj Bf ZV EU I7 Bw B0 KL Cp Bb I5 Eg FE FD Ee BK AW B8 Br B3 Ed BV Bz D0 DK H8 Bs Ab BM CR BF H7 Bx Cb Do
set_option maxRecDepth 20000 in set_option maxHeartbeats 64000000 in
attribute[local go_sem] xt in
theorem iW (N:Nat) (n:Nat) (hI:PO N n) (hB:Ip N n) (hL:NU N n):Ld N (n+1):=by
 rintro ⟨q,s,_u⟩ w M I lab fz xs hc hA hl hx
 refine Ce Try.func85 rfl (Fa.mem q) w M I lab fz (Ef N (n+1) q s) (Fa.pan (Do N (n+1) q s)) (Fa.memO (D0 N (n+1) q s)) [(Sl N n hL),EU,(Ju N (PN N)),Cj,Bf,ZV,ZW,(V6 N n hI),(Lb N false (Rw N false)),(HI N n hB)] [] ((Gc).args ⟨q,s,_u⟩) (FD N (n+1) q s) xs hA hl hx (H6 _ _ _ _) (jN rfl) (Nat.le_refl _) rfl (Im _) ?_
 clear hx hl hA xs
 simp only[Try.f85]
 obtain⟨hT,hM,hn⟩:=hc
 dsimp only at hT hM hn
 have he1:s.e.dp<N:=hT.k.e
 have hf1:s.f.dp<N:=hT.k.f
 have hd1:s.cd.dp<N:=hT.k.c
 obtain⟨mt,hth⟩:=hT.t
 obtain⟨me,hel⟩:=hT.e
 obtain⟨k0,x0,y0,e0,f0,cd0,ar0,th0,el0,no0⟩:=s
 dsimp only[Sm.e,Sm.f,Sm.cd,Sm.th,Sm.el]at he1 hf1 hd1 hth hel
 by_cases c11:k0=11
 ·subst c11
  have hS:=A1R (n:=n) (q:=q) (show (Sm.mk 11 x0 y0 e0 f0 cd0 ar0 th0 el0 no0).k=11 from rfl)
  obtain⟨T,hTT⟩:∃T,lpF (blF (stF n) th0) (.mk 11 x0 y0 e0 f0 cd0 ar0 th0 el0 no0) (n+1) q=T:=⟨_,rfl⟩
  have hS2:stF (n+1) (.mk 11 x0 y0 e0 f0 cd0 ar0 th0 el0 no0) q=T:=hS.trans hTT
  obtain⟨b,t,r⟩:=T
  cases b with
  |true=>
   simp only[↓eB,seval,go_sem,↓A1,Option.isSome_some,Option.isSome_none,hS2,hTT]
   try simp only[A3,A4]
   repeat' first|exact ck|with_reducible apply And.intro|intro _
   all_goals first|exact⟨hT,hM,hn⟩|exact hT|exact hM|exact hn|(rename_i h;first|exact oI h|exact nah h)|(rename_i _ h _ g;exact sL h g)|decide|omega|(refine A0 [] ?_;simp only[↓eB,seval,go_sem,bne,A6,↓A1,hS2])
  |false=>
   simp only[↓eB,seval,go_sem,↓A1,Option.isSome_some,Option.isSome_none,hS2,hTT]
   try simp only[A3,A4]
   repeat' first|exact ck|with_reducible apply And.intro|intro _
   all_goals first|exact⟨hT,hM,hn⟩|exact hT|exact hM|exact hn|(rename_i h;first|exact oI h|exact nah h)|(rename_i _ h _ g;exact sL h g)|decide|omega|(refine A0 [] ?_;simp only[↓eB,seval,go_sem,bne,A6,↓A1,hS2])
 have d11:(k0==11)=false:=by simpa using c11
 cases ho:q.m.out with
 |true=>
  have hS:=vg (n:=n) (q:=q) (s:=.mk k0 x0 y0 e0 f0 cd0 ar0 th0 el0 no0) c11 ho
  simp only[↓eB,seval,go_sem,↓A1,Option.isSome_some,Option.isSome_none,ho,hS,d11]
  try simp only[A3,A4]
  repeat' first|exact ck|with_reducible apply And.intro|intro _
  all_goals first|exact trivial|(rename_i h;first|exact oI h|exact nah h)|(rename_i _ h _ g;exact sL h g)|decide|omega|(refine A0 [] ?_;simp only[↓eB,seval,go_sem,bne,A6,↓A1,hS,ho])
 |false=>
 have hS:=A1S (n:=n) (q:=q) (s:=.mk k0 x0 y0 e0 f0 cd0 ar0 th0 el0 no0) c11 ho
 have ks:=Tt ho hM.l (by have:=hM.u;omega)
 have ka:=iH ho hM.l (by have:=hM.u;omega)
 have hMs:okMs N n { q with m:=q.m.spd }:=hM.kq ks (by show q.m.spd.fuel<_;have:=hM.u;omega)
 have hcs:okC q.P q.m.spd:=hMs.c
 have hla:∀a∈q.m.spd.ar,a.l.length≤1000000000:=hMs.a
 by_cases c0:k0=0
 ·subst c0
  cases he:evF q.P q.m.spd q.vs e0 with
  |no j=>
   have h:stF (n+1) (.mk 0 x0 y0 e0 f0 cd0 ar0 th0 el0 no0) q=Fa.brk { q with m:=q.m.spd } (.mk 0 x0 y0 e0 f0 cd0 ar0 th0 el0 no0) j:=by rw[hS];unfold smF;simp only[Sm.k,Sm.x,Sm.y,Sm.e,Sm.f,Sm.cd,Sm.ar,Sm.th,Sm.el,Int.reduceEq,↓reduceIte,he]
   simp only[↓eB,seval,go_sem,↓A1,Option.isSome_some,Option.isSome_none,ho,h,he,Fa.brk,GK,F7,Ia,GI,GJ,F4,F5,F6,Fa.go]
   try simp only[A3,A4]
   repeat' first|exact ck|with_reducible apply And.intro|intro _
   all_goals first|exact trivial|exact hcs|exact⟨hcs,he1⟩|exact⟨hcs,hf1⟩|exact⟨hcs,hd1⟩|exact he1|exact hf1|exact hd1|exact⟨hcs,hla⟩|exact hla|(exact hla _ (by assumption))|(exact fun _=>hcs)|(rename_i hd;exact nomatch (BL _ _).symm.trans hd)|exact hMs|exact hT|exact hn|(rename_i h;first|exact oI h|exact nah h)|(rename_i _ h _ g;exact sL h g)|decide|omega|(refine A0 [] ?_;simp only[↓eB,seval,go_sem,bne,A6,↓A1,h,Fa.brk])
  |ok v=>
   obtain⟨A,hA⟩:∃A,FH { q with m:=q.m.spd } (.mk 0 x0 y0 e0 f0 cd0 ar0 th0 el0 no0) v=A:=⟨_,rfl⟩
   have h:stF (n+1) (.mk 0 x0 y0 e0 f0 cd0 ar0 th0 el0 no0) q=A:=by rw[hS];unfold smF;simp only[Sm.k,Sm.x,Sm.y,Sm.e,Sm.f,Sm.cd,Sm.ar,Sm.th,Sm.el,Int.reduceEq,↓reduceIte,he];exact hA
   have hAt:A.t=false:=by rw[← hA];exact Tu _ _ _
   try dsimp only[Ms.cell,Ms.arr]at hA
   obtain⟨b,t,r⟩:=A
   obtain rfl:t=false:=hAt
   cases b with
   |true=>
    simp only[↓eB,seval,go_sem,↓A1,Option.isSome_some,Option.isSome_none,ho,h,hA,he]
    try simp only[A3,A4]
    repeat' first|exact ck|with_reducible apply And.intro|intro _
    all_goals first|exact trivial|exact hcs|exact⟨hcs,he1⟩|exact⟨hcs,hf1⟩|exact⟨hcs,hd1⟩|exact he1|exact hf1|exact hd1|exact⟨hcs,hla⟩|exact hla|(exact hla _ (by assumption))|(exact fun _=>hcs)|(rename_i hd;exact nomatch (BL _ _).symm.trans hd)|exact hMs|exact hT|exact hn|(rename_i h;first|exact oI h|exact nah h)|(rename_i _ h _ g;exact sL h g)|decide|omega|(refine A0 [] ?_;simp only[↓eB,seval,go_sem,bne,A6,↓A1,h])
   |false=>
    simp only[↓eB,seval,go_sem,↓A1,Option.isSome_some,Option.isSome_none,ho,h,hA,he]
    try simp only[A3,A4]
    repeat' first|exact ck|with_reducible apply And.intro|intro _
    all_goals first|exact trivial|exact hcs|exact⟨hcs,he1⟩|exact⟨hcs,hf1⟩|exact⟨hcs,hd1⟩|exact he1|exact hf1|exact hd1|exact⟨hcs,hla⟩|exact hla|(exact hla _ (by assumption))|(exact fun _=>hcs)|(rename_i hd;exact nomatch (BL _ _).symm.trans hd)|exact hMs|exact hT|exact hn|(rename_i h;first|exact oI h|exact nah h)|(rename_i _ h _ g;exact sL h g)|decide|omega|(refine A0 [] ?_;simp only[↓eB,seval,go_sem,bne,A6,↓A1,h])
 by_cases c1:k0=1
 ·subst c1
  cases hy:q.P.ci y0 with
  |none=>
   have h:stF (n+1) (.mk 1 x0 y0 e0 f0 cd0 ar0 th0 el0 no0) q=Fa.brk { q with m:=q.m.spd } (.mk 1 x0 y0 e0 f0 cd0 ar0 th0 el0 no0) 4:=by rw[hS];unfold smF;simp only[Sm.k,Sm.x,Sm.y,Sm.e,Sm.f,Sm.cd,Sm.ar,Sm.th,Sm.el,Int.reduceEq,↓reduceIte,hy]
   simp only[↓eB,seval,go_sem,↓A1,Option.isSome_some,Option.isSome_none,ho,h,hy,Fa.brk,GK,F7,Ia,GI,GJ,F4,F5,F6,Fa.go]
   try simp only[A3,A4]
   repeat' first|exact ck|with_reducible apply And.intro|intro _
   all_goals first|exact trivial|exact hcs|exact⟨hcs,he1⟩|exact⟨hcs,hf1⟩|exact⟨hcs,hd1⟩|exact he1|exact hf1|exact hd1|exact⟨hcs,hla⟩|exact hla|(exact hla _ (by assumption))|(exact fun _=>hcs)|(rename_i hd;exact nomatch (BL _ _).symm.trans hd)|exact hMs|exact hT|exact hn|(rename_i h;first|exact oI h|exact nah h)|(rename_i _ h _ g;exact sL h g)|decide|omega|(refine A0 [] ?_;simp only[↓eB,seval,go_sem,bne,A6,↓A1,h,Fa.brk])
  |some i=>
   have h:stF (n+1) (.mk 1 x0 y0 e0 f0 cd0 ar0 th0 el0 no0) q=Fa.go { { q with m:=q.m.spd } with vs:=C2 q.vs x0 ⟨true,0,y0⟩ }:=by rw[hS];unfold smF;simp only[Sm.k,Sm.x,Sm.y,Sm.e,Sm.f,Sm.cd,Sm.ar,Sm.th,Sm.el,Int.reduceEq,↓reduceIte,hy]
   simp only[↓eB,seval,go_sem,↓A1,Option.isSome_some,Option.isSome_none,ho,h,hy,Fa.go,ME]
   try simp only[A3,A4]
   repeat' first|exact ck|with_reducible apply And.intro|intro _
   all_goals first|exact trivial|exact hcs|exact⟨hcs,he1⟩|exact⟨hcs,hf1⟩|exact⟨hcs,hd1⟩|exact he1|exact hf1|exact hd1|exact⟨hcs,hla⟩|exact hla|(exact hla _ (by assumption))|(exact fun _=>hcs)|(rename_i hd;exact nomatch (BL _ _).symm.trans hd)|exact hMs|exact hT|exact hn|(rename_i h;first|exact oI h|exact nah h)|(rename_i _ h _ g;exact sL h g)|decide|omega|(refine A0 [] ?_;simp only[↓eB,seval,go_sem,bne,A6,↓A1,h,Fa.go])
 by_cases c2:k0=2
 ·subst c2
  cases hv:Ap q.vs y0 with
  |none=>
   have hv2:(G0 q.vs y0).s=[]:=by unfold G0;rw[hv];rfl
   have h:stF (n+1) (.mk 2 x0 y0 e0 f0 cd0 ar0 th0 el0 no0) q=Fa.go { { q with m:=q.m.spd } with vs:=C2 q.vs x0 ⟨true,0,[]⟩ }:=by rw[hS];unfold smF;simp only[Sm.k,Sm.x,Sm.y,Sm.e,Sm.f,Sm.cd,Sm.ar,Sm.th,Sm.el,Int.reduceEq,↓reduceIte,hv2]
   simp only[↓eB,seval,go_sem,↓A1,Option.isSome_some,Option.isSome_none,ho,h,hv,Fa.go,ME]
   try simp only[A3,A4]
   repeat' first|exact ck|with_reducible apply And.intro|intro _
   all_goals first|exact trivial|exact hcs|exact⟨hcs,he1⟩|exact⟨hcs,hf1⟩|exact⟨hcs,hd1⟩|exact he1|exact hf1|exact hd1|exact⟨hcs,hla⟩|exact hla|(exact hla _ (by assumption))|(exact fun _=>hcs)|(rename_i hd;exact nomatch (BL _ _).symm.trans hd)|exact hMs|exact hT|exact hn|(rename_i h;first|exact oI h|exact nah h)|(rename_i _ h _ g;exact sL h g)|decide|omega|(refine A0 [] ?_;simp only[↓eB,seval,go_sem,bne,A6,↓A1,h,Fa.go])
  |some u=>
   have hv2:(G0 q.vs y0).s=u.s:=by unfold G0;rw[hv];rfl
   have h:stF (n+1) (.mk 2 x0 y0 e0 f0 cd0 ar0 th0 el0 no0) q=Fa.go { { q with m:=q.m.spd } with vs:=C2 q.vs x0 ⟨true,0,u.s⟩ }:=by rw[hS];unfold smF;simp only[Sm.k,Sm.x,Sm.y,Sm.e,Sm.f,Sm.cd,Sm.ar,Sm.th,Sm.el,Int.reduceEq,↓reduceIte,hv2]
   simp only[↓eB,seval,go_sem,↓A1,Option.isSome_some,Option.isSome_none,ho,h,hv,Fa.go,ME]
   try simp only[A3,A4]
   repeat' first|exact ck|with_reducible apply And.intro|intro _
   all_goals first|exact trivial|exact hcs|exact⟨hcs,he1⟩|exact⟨hcs,hf1⟩|exact⟨hcs,hd1⟩|exact he1|exact hf1|exact hd1|exact⟨hcs,hla⟩|exact hla|(exact hla _ (by assumption))|(exact fun _=>hcs)|(rename_i hd;exact nomatch (BL _ _).symm.trans hd)|exact hMs|exact hT|exact hn|(rename_i h;first|exact oI h|exact nah h)|(rename_i _ h _ g;exact sL h g)|decide|omega|(refine A0 [] ?_;simp only[↓eB,seval,go_sem,bne,A6,↓A1,h,Fa.go])
 by_cases c3:k0=3
 ·subst c3
  have h:stF (n+1) (.mk 3 x0 y0 e0 f0 cd0 ar0 th0 el0 no0) q=Fa.go { { q with m:=q.m.spd } with vs:=C2 q.vs x0 ⟨true,0,[]⟩ }:=by rw[hS];unfold smF;simp only[Sm.k,Sm.x,Sm.y,Sm.e,Sm.f,Sm.cd,Sm.ar,Sm.th,Sm.el,Int.reduceEq,↓reduceIte]
  simp only[↓eB,seval,go_sem,↓A1,Option.isSome_some,Option.isSome_none,ho,h,Fa.go,ME]
  try simp only[A3,A4]
  repeat' first|exact ck|with_reducible apply And.intro|intro _
  all_goals first|exact trivial|exact hcs|exact⟨hcs,he1⟩|exact⟨hcs,hf1⟩|exact⟨hcs,hd1⟩|exact he1|exact hf1|exact hd1|exact⟨hcs,hla⟩|exact hla|(exact hla _ (by assumption))|(exact fun _=>hcs)|(rename_i hd;exact nomatch (BL _ _).symm.trans hd)|exact hMs|exact hT|exact hn|(rename_i h;first|exact oI h|exact nah h)|(rename_i _ h _ g;exact sL h g)|decide|omega|(refine A0 [] ?_;simp only[↓eB,seval,go_sem,bne,A6,↓A1,h,Fa.go])
 by_cases c4:k0=4
 ·subst c4
  cases hf:G8 { q with m:=q.m.spd } y0 with
  |no j=>
   have h:stF (n+1) (.mk 4 x0 y0 e0 f0 cd0 ar0 th0 el0 no0) q=Fa.brk { q with m:=q.m.spd } (.mk 4 x0 y0 e0 f0 cd0 ar0 th0 el0 no0) j:=by rw[hS];unfold smF;simp only[Sm.k,Sm.x,Sm.y,Sm.e,Sm.f,Sm.cd,Sm.ar,Sm.th,Sm.el,Int.reduceEq,↓reduceIte,hf]
   simp only[↓eB,seval,go_sem,↓A1,Option.isSome_some,Option.isSome_none,ho,h,hf,Fa.brk,GK,F7,Ia,GI,GJ,F4,F5,F6,Fa.go]
   try simp only[A3,A4]
   repeat' first|exact ck|with_reducible apply And.intro|intro _
   all_goals first|exact trivial|exact hcs|exact⟨hcs,he1⟩|exact⟨hcs,hf1⟩|exact⟨hcs,hd1⟩|exact he1|exact hf1|exact hd1|exact⟨hcs,hla⟩|exact hla|(exact hla _ (by assumption))|(exact fun _=>hcs)|(rename_i hd;exact nomatch (BL _ _).symm.trans hd)|exact hMs|exact hT|exact hn|(rename_i h;first|exact oI h|exact nah h)|(rename_i _ h _ g;exact sL h g)|decide|omega|(refine A0 [] ?_;simp only[↓eB,seval,go_sem,bne,A6,↓A1,h,Fa.brk])
  |ok i=>
   have hi:=dw hcs hf
   have hg:=UH hi
   obtain⟨A,hA⟩:∃A,FH { q with m:=q.m.spd } (.mk 4 x0 y0 e0 f0 cd0 ar0 th0 el0 no0) (q.m.spd.cell i)=A:=⟨_,rfl⟩
   have h:stF (n+1) (.mk 4 x0 y0 e0 f0 cd0 ar0 th0 el0 no0) q=A:=by rw[hS];unfold smF;simp only[Sm.k,Sm.x,Sm.y,Sm.e,Sm.f,Sm.cd,Sm.ar,Sm.th,Sm.el,Int.reduceEq,↓reduceIte,hf];exact hA
   have hAt:A.t=false:=by rw[← hA];exact Tu _ _ _
   try dsimp only[Ms.cell,Ms.arr]at hA
   obtain⟨b,t,r⟩:=A
   obtain rfl:t=false:=hAt
   cases b with
   |true=>
    simp only[↓eB,seval,go_sem,↓A1,Option.isSome_some,Option.isSome_none,ho,h,hA,hf,hg,Ms.cell]
    try simp only[A3,A4]
    repeat' first|exact ck|with_reducible apply And.intro|intro _
    all_goals first|exact hi.1|exact hi.2|exact hcs|exact⟨hcs,he1⟩|exact⟨hcs,hf1⟩|exact⟨hcs,hd1⟩|exact he1|exact hf1|exact hd1|exact⟨hcs,hla⟩|exact hla|(exact hla _ (by assumption))|(exact fun _=>hcs)|(rename_i hd;exact nomatch (BL _ _).symm.trans hd)|exact hMs|exact hT|exact hn|(rename_i h;first|exact oI h|exact nah h)|(rename_i _ h _ g;exact sL h g)|decide|omega|(refine A0 [] ?_;simp only[↓eB,seval,go_sem,bne,A6,↓A1,h])
   |false=>
    simp only[↓eB,seval,go_sem,↓A1,Option.isSome_some,Option.isSome_none,ho,h,hA,hf,hg,Ms.cell]
    try simp only[A3,A4]
    repeat' first|exact ck|with_reducible apply And.intro|intro _
    all_goals first|exact hi.1|exact hi.2|exact hcs|exact⟨hcs,he1⟩|exact⟨hcs,hf1⟩|exact⟨hcs,hd1⟩|exact he1|exact hf1|exact hd1|exact⟨hcs,hla⟩|exact hla|(exact hla _ (by assumption))|(exact fun _=>hcs)|(rename_i hd;exact nomatch (BL _ _).symm.trans hd)|exact hMs|exact hT|exact hn|(rename_i h;first|exact oI h|exact nah h)|(rename_i _ h _ g;exact sL h g)|decide|omega|(refine A0 [] ?_;simp only[↓eB,seval,go_sem,bne,A6,↓A1,h])
 by_cases c5:k0=5
 ·subst c5
  cases he:evF q.P q.m.spd q.vs e0 with
  |no j=>
   have h:stF (n+1) (.mk 5 x0 y0 e0 f0 cd0 ar0 th0 el0 no0) q=Fa.brk { q with m:=q.m.spd } (.mk 5 x0 y0 e0 f0 cd0 ar0 th0 el0 no0) j:=by rw[hS];unfold smF;simp only[Sm.k,Sm.x,Sm.y,Sm.e,Sm.f,Sm.cd,Sm.ar,Sm.th,Sm.el,Int.reduceEq,↓reduceIte,he]
   simp only[↓eB,seval,go_sem,↓A1,Option.isSome_some,Option.isSome_none,ho,h,he,Fa.brk,GK,F7,Ia,GI,GJ,F4,F5,F6,Fa.go]
   try simp only[A3,A4]
   repeat' first|exact ck|with_reducible apply And.intro|intro _
   all_goals first|exact trivial|exact hcs|exact⟨hcs,he1⟩|exact⟨hcs,hf1⟩|exact⟨hcs,hd1⟩|exact he1|exact hf1|exact hd1|exact⟨hcs,hla⟩|exact hla|(exact hla _ (by assumption))|(exact fun _=>hcs)|(rename_i hd;exact nomatch (BL _ _).symm.trans hd)|exact hMs|exact hT|exact hn|(rename_i h;first|exact oI h|exact nah h)|(rename_i _ h _ g;exact sL h g)|decide|omega|(refine A0 [] ?_;simp only[↓eB,seval,go_sem,bne,A6,↓A1,h,Fa.brk])
  |ok v=>
   cases hf:G8 { q with m:=q.m.spd } x0 with
   |no j=>
    have h:stF (n+1) (.mk 5 x0 y0 e0 f0 cd0 ar0 th0 el0 no0) q=Fa.brk { q with m:=q.m.spd } (.mk 5 x0 y0 e0 f0 cd0 ar0 th0 el0 no0) j:=by rw[hS];unfold smF;simp only[Sm.k,Sm.x,Sm.y,Sm.e,Sm.f,Sm.cd,Sm.ar,Sm.th,Sm.el,Int.reduceEq,↓reduceIte,he,hf]
    simp only[↓eB,seval,go_sem,↓A1,Option.isSome_some,Option.isSome_none,ho,h,he,hf,Fa.brk,GK,F7,Ia,GI,GJ,F4,F5,F6,Fa.go]
    try simp only[A3,A4]
    repeat' first|exact ck|with_reducible apply And.intro|intro _
    all_goals first|exact trivial|exact hcs|exact⟨hcs,he1⟩|exact⟨hcs,hf1⟩|exact⟨hcs,hd1⟩|exact he1|exact hf1|exact hd1|exact⟨hcs,hla⟩|exact hla|(exact hla _ (by assumption))|(exact fun _=>hcs)|(rename_i hd;exact nomatch (BL _ _).symm.trans hd)|exact hMs|exact hT|exact hn|(rename_i h;first|exact oI h|exact nah h)|(rename_i _ h _ g;exact sL h g)|decide|omega|(refine A0 [] ?_;simp only[↓eB,seval,go_sem,bne,A6,↓A1,h,Fa.brk])
   |ok i=>
    have hi:=dw hcs hf
    have hg:=UH hi
    have h:stF (n+1) (.mk 5 x0 y0 e0 f0 cd0 ar0 th0 el0 no0) q=Fa.go { { q with m:=q.m.spd } with m:=q.m.spd.set i v }:=by rw[hS];unfold smF;simp only[Sm.k,Sm.x,Sm.y,Sm.e,Sm.f,Sm.cd,Sm.ar,Sm.th,Sm.el,Int.reduceEq,↓reduceIte,he,hf]
    simp only[↓eB,seval,go_sem,↓A1,Option.isSome_some,Option.isSome_none,ho,h,he,hf,hg,Fa.go,Ms.set,dq]
    try simp only[A3,A4]
    repeat' first|exact ck|with_reducible apply And.intro|intro _
    all_goals first|exact hi.1|exact hi.2|exact hcs|exact⟨hcs,he1⟩|exact⟨hcs,hf1⟩|exact⟨hcs,hd1⟩|exact he1|exact hf1|exact hd1|exact⟨hcs,hla⟩|exact hla|(exact hla _ (by assumption))|(exact fun _=>hcs)|(rename_i hd;exact nomatch (BL _ _).symm.trans hd)|exact hMs|exact hT|exact hn|(rename_i h;first|exact oI h|exact nah h)|(rename_i _ h _ g;exact sL h g)|decide|omega|(refine A0 [] ?_;simp only[↓eB,seval,go_sem,bne,A6,↓A1,h,Fa.go,Ms.set])
 by_cases c6:k0=6
 ·subst c6
  cases he:evF q.P q.m.spd q.vs e0 with
  |no j=>
   have h:stF (n+1) (.mk 6 x0 y0 e0 f0 cd0 ar0 th0 el0 no0) q=Fa.brk { q with m:=q.m.spd } (.mk 6 x0 y0 e0 f0 cd0 ar0 th0 el0 no0) j:=by rw[hS];unfold smF;simp only[Sm.k,Sm.x,Sm.y,Sm.e,Sm.f,Sm.cd,Sm.ar,Sm.th,Sm.el,Int.reduceEq,↓reduceIte,he]
   simp only[↓eB,seval,go_sem,↓A1,Option.isSome_some,Option.isSome_none,ho,h,he,Fa.brk,GK,F7,Ia,GI,GJ,F4,F5,F6,Fa.go]
   try simp only[A3,A4]
   repeat' first|exact ck|with_reducible apply And.intro|intro _
   all_goals first|exact trivial|exact hcs|exact⟨hcs,he1⟩|exact⟨hcs,hf1⟩|exact⟨hcs,hd1⟩|exact he1|exact hf1|exact hd1|exact⟨hcs,hla⟩|exact hla|(exact hla _ (by assumption))|(exact fun _=>hcs)|(rename_i hd;exact nomatch (BL _ _).symm.trans hd)|exact hMs|exact hT|exact hn|(rename_i h;first|exact oI h|exact nah h)|(rename_i _ h _ g;exact sL h g)|decide|omega|(refine A0 [] ?_;simp only[↓eB,seval,go_sem,bne,A6,↓A1,h,Fa.brk])
  |ok v=>
   cases hf:Eu { q with m:=q.m.spd } (.mk 6 x0 y0 e0 f0 cd0 ar0 th0 el0 no0) v with
   |no j=>
    have h:stF (n+1) (.mk 6 x0 y0 e0 f0 cd0 ar0 th0 el0 no0) q=Fa.brk { q with m:=q.m.spd } (.mk 6 x0 y0 e0 f0 cd0 ar0 th0 el0 no0) j:=by rw[hS];unfold smF;simp only[Sm.k,Sm.x,Sm.y,Sm.e,Sm.f,Sm.cd,Sm.ar,Sm.th,Sm.el,Int.reduceEq,↓reduceIte,he,hf]
    simp only[↓eB,seval,go_sem,↓A1,Option.isSome_some,Option.isSome_none,ho,h,he,hf,Fa.brk,GK,F7,Ia,GI,GJ,F4,F5,F6,Fa.go]
    try simp only[A3,A4]
    repeat' first|exact ck|with_reducible apply And.intro|intro _
    all_goals first|exact trivial|exact hcs|exact⟨hcs,he1⟩|exact⟨hcs,hf1⟩|exact⟨hcs,hd1⟩|exact he1|exact hf1|exact hd1|exact⟨hcs,hla⟩|exact hla|(exact hla _ (by assumption))|(exact fun _=>hcs)|(rename_i hd;exact nomatch (BL _ _).symm.trans hd)|exact hMs|exact hT|exact hn|(rename_i h;first|exact oI h|exact nah h)|(rename_i _ h _ g;exact sL h g)|decide|omega|(refine A0 [] ?_;simp only[↓eB,seval,go_sem,bne,A6,↓A1,h,Fa.brk])
   |ok k=>
    obtain⟨hi,hv0,hv1⟩:=dx hcs hf
    have hg:=Xs hi
    have hgi:=vh hv1
    obtain⟨A,hA⟩:∃A,FH { q with m:=q.m.spd } (.mk 6 x0 y0 e0 f0 cd0 ar0 th0 el0 no0) ((q.m.spd.arr k).getD v.toNat 0)=A:=⟨_,rfl⟩
    have h:stF (n+1) (.mk 6 x0 y0 e0 f0 cd0 ar0 th0 el0 no0) q=A:=by rw[hS];unfold smF;simp only[Sm.k,Sm.x,Sm.y,Sm.e,Sm.f,Sm.cd,Sm.ar,Sm.th,Sm.el,Int.reduceEq,↓reduceIte,he,hf];exact hA
    have hAt:A.t=false:=by rw[← hA];exact Tu _ _ _
    try dsimp only[Ms.cell,Ms.arr]at hA
    obtain⟨b,t,r⟩:=A
    obtain rfl:t=false:=hAt
    cases b with
    |true=>
     simp only[↓eB,seval,go_sem,↓A1,Option.isSome_some,Option.isSome_none,ho,h,hA,he,hf,hg,hgi,Ms.arr]
     try simp only[A3,A4]
     repeat' first|exact ck|with_reducible apply And.intro|intro _
     all_goals first|exact hi.1|exact hi.2|exact hv0|exact hv1|exact hcs|exact⟨hcs,he1⟩|exact⟨hcs,hf1⟩|exact⟨hcs,hd1⟩|exact he1|exact hf1|exact hd1|exact⟨hcs,hla⟩|exact hla|(exact hla _ (by assumption))|(exact fun _=>hcs)|(rename_i hd;exact nomatch (BL _ _).symm.trans hd)|exact hMs|exact hT|exact hn|(rename_i h;first|exact oI h|exact nah h)|(rename_i _ h _ g;exact sL h g)|decide|omega|(refine A0 [] ?_;simp only[↓eB,seval,go_sem,bne,A6,↓A1,h])
    |false=>
     simp only[↓eB,seval,go_sem,↓A1,Option.isSome_some,Option.isSome_none,ho,h,hA,he,hf,hg,hgi,Ms.arr]
     try simp only[A3,A4]
     repeat' first|exact ck|with_reducible apply And.intro|intro _
     all_goals first|exact hi.1|exact hi.2|exact hv0|exact hv1|exact hcs|exact⟨hcs,he1⟩|exact⟨hcs,hf1⟩|exact⟨hcs,hd1⟩|exact he1|exact hf1|exact hd1|exact⟨hcs,hla⟩|exact hla|(exact hla _ (by assumption))|(exact fun _=>hcs)|(rename_i hd;exact nomatch (BL _ _).symm.trans hd)|exact hMs|exact hT|exact hn|(rename_i h;first|exact oI h|exact nah h)|(rename_i _ h _ g;exact sL h g)|decide|omega|(refine A0 [] ?_;simp only[↓eB,seval,go_sem,bne,A6,↓A1,h])
 by_cases c7:k0=7
 ·subst c7
  cases he:evF q.P q.m.spd q.vs e0 with
  |no j=>
   have h:stF (n+1) (.mk 7 x0 y0 e0 f0 cd0 ar0 th0 el0 no0) q=Fa.brk { q with m:=q.m.spd } (.mk 7 x0 y0 e0 f0 cd0 ar0 th0 el0 no0) j:=by rw[hS];unfold smF;simp only[Sm.k,Sm.x,Sm.y,Sm.e,Sm.f,Sm.cd,Sm.ar,Sm.th,Sm.el,Int.reduceEq,↓reduceIte,he]
   simp only[↓eB,seval,go_sem,↓A1,Option.isSome_some,Option.isSome_none,ho,h,he,Fa.brk,GK,F7,Ia,GI,GJ,F4,F5,F6,Fa.go]
   try simp only[A3,A4]
   repeat' first|exact ck|with_reducible apply And.intro|intro _
   all_goals first|exact trivial|exact hcs|exact⟨hcs,he1⟩|exact⟨hcs,hf1⟩|exact⟨hcs,hd1⟩|exact he1|exact hf1|exact hd1|exact⟨hcs,hla⟩|exact hla|(exact hla _ (by assumption))|(exact fun _=>hcs)|(rename_i hd;exact nomatch (BL _ _).symm.trans hd)|exact hMs|exact hT|exact hn|(rename_i h;first|exact oI h|exact nah h)|(rename_i _ h _ g;exact sL h g)|decide|omega|(refine A0 [] ?_;simp only[↓eB,seval,go_sem,bne,A6,↓A1,h,Fa.brk])
  |ok v=>
   cases hff:evF q.P q.m.spd q.vs f0 with
   |no j=>
    have h:stF (n+1) (.mk 7 x0 y0 e0 f0 cd0 ar0 th0 el0 no0) q=Fa.brk { q with m:=q.m.spd } (.mk 7 x0 y0 e0 f0 cd0 ar0 th0 el0 no0) j:=by rw[hS];unfold smF;simp only[Sm.k,Sm.x,Sm.y,Sm.e,Sm.f,Sm.cd,Sm.ar,Sm.th,Sm.el,Int.reduceEq,↓reduceIte,he,hff]
    simp only[↓eB,seval,go_sem,↓A1,Option.isSome_some,Option.isSome_none,ho,h,he,hff,Fa.brk,GK,F7,Ia,GI,GJ,F4,F5,F6,Fa.go]
    try simp only[A3,A4]
    repeat' first|exact ck|with_reducible apply And.intro|intro _
    all_goals first|exact trivial|exact hcs|exact⟨hcs,he1⟩|exact⟨hcs,hf1⟩|exact⟨hcs,hd1⟩|exact he1|exact hf1|exact hd1|exact⟨hcs,hla⟩|exact hla|(exact hla _ (by assumption))|(exact fun _=>hcs)|(rename_i hd;exact nomatch (BL _ _).symm.trans hd)|exact hMs|exact hT|exact hn|(rename_i h;first|exact oI h|exact nah h)|(rename_i _ h _ g;exact sL h g)|decide|omega|(refine A0 [] ?_;simp only[↓eB,seval,go_sem,bne,A6,↓A1,h,Fa.brk])
   |ok u=>
   cases hf:Eu { q with m:=q.m.spd } (.mk 7 x0 y0 e0 f0 cd0 ar0 th0 el0 no0) v with
   |no j=>
    have h:stF (n+1) (.mk 7 x0 y0 e0 f0 cd0 ar0 th0 el0 no0) q=Fa.brk { q with m:=q.m.spd } (.mk 7 x0 y0 e0 f0 cd0 ar0 th0 el0 no0) j:=by rw[hS];unfold smF;simp only[Sm.k,Sm.x,Sm.y,Sm.e,Sm.f,Sm.cd,Sm.ar,Sm.th,Sm.el,Int.reduceEq,↓reduceIte,he,hff,hf]
    simp only[↓eB,seval,go_sem,↓A1,Option.isSome_some,Option.isSome_none,ho,h,he,hff,hf,Fa.brk,GK,F7,Ia,GI,GJ,F4,F5,F6,Fa.go]
    try simp only[A3,A4]
    repeat' first|exact ck|with_reducible apply And.intro|intro _
    all_goals first|exact trivial|exact hcs|exact⟨hcs,he1⟩|exact⟨hcs,hf1⟩|exact⟨hcs,hd1⟩|exact he1|exact hf1|exact hd1|exact⟨hcs,hla⟩|exact hla|(exact hla _ (by assumption))|(exact fun _=>hcs)|(rename_i hd;exact nomatch (BL _ _).symm.trans hd)|exact hMs|exact hT|exact hn|(rename_i h;first|exact oI h|exact nah h)|(rename_i _ h _ g;exact sL h g)|decide|omega|(refine A0 [] ?_;simp only[↓eB,seval,go_sem,bne,A6,↓A1,h,Fa.brk])
   |ok k=>
    obtain⟨hi,hv0,hv1⟩:=dx hcs hf
    have hg:=Xs hi
    have hgi:=vh hv1
    have h:stF (n+1) (.mk 7 x0 y0 e0 f0 cd0 ar0 th0 el0 no0) q=Fa.go { { q with m:=q.m.spd } with m:=q.m.spd.put k v u }:=by rw[hS];unfold smF;simp only[Sm.k,Sm.x,Sm.y,Sm.e,Sm.f,Sm.cd,Sm.ar,Sm.th,Sm.el,Int.reduceEq,↓reduceIte,he,hff,hf]
    simp only[↓eB,seval,go_sem,↓A1,Option.isSome_some,Option.isSome_none,ho,h,he,hff,hf,hg,hgi,Fa.go,Ms.put,Ms.arr,vP,vQ]
    try simp only[A3,A4]
    repeat' first|exact ck|with_reducible apply And.intro|intro _
    all_goals first|exact hi.1|exact hi.2|exact hv0|exact hv1|exact hcs|exact⟨hcs,he1⟩|exact⟨hcs,hf1⟩|exact⟨hcs,hd1⟩|exact he1|exact hf1|exact hd1|exact⟨hcs,hla⟩|exact hla|(exact hla _ (by assumption))|(exact fun _=>hcs)|(rename_i hd;exact nomatch (BL _ _).symm.trans hd)|exact hMs|exact hT|exact hn|(rename_i h;first|exact oI h|exact nah h)|(rename_i _ h _ g;exact sL h g)|decide|omega|(refine A0 [] ?_;simp only[↓eB,seval,go_sem,bne,A6,↓A1,h,Fa.go,Ms.put,Ms.arr])
 by_cases c8:k0=8
 ·subst c8
  obtain⟨A,hA⟩:∃A,Fb (stF n) (.mk 8 x0 y0 e0 f0 cd0 ar0 th0 el0 no0) { q with m:=q.m.spd }=A:=⟨_,rfl⟩
  have h:stF (n+1) (.mk 8 x0 y0 e0 f0 cd0 ar0 th0 el0 no0) q=A:=by rw[hS];unfold smF;simp only[Sm.k,Sm.x,Sm.y,Sm.e,Sm.f,Sm.cd,Sm.ar,Sm.th,Sm.el,Int.reduceEq,↓reduceIte];exact hA
  have hAt:A.t=false:=by rw[← hA];exact A1T _ _ _
  obtain⟨b,t,r⟩:=A
  obtain rfl:t=false:=hAt
  cases b with
  |true=>
   simp only[↓eB,seval,go_sem,↓A1,Option.isSome_some,Option.isSome_none,ho,h,hA]
   try simp only[A3,A4]
   repeat' first|exact ck|with_reducible apply And.intro|intro _
   all_goals first|exact⟨hT,hMs,by omega⟩|exact hcs|exact⟨hcs,he1⟩|exact⟨hcs,hf1⟩|exact⟨hcs,hd1⟩|exact he1|exact hf1|exact hd1|exact⟨hcs,hla⟩|exact hla|(exact hla _ (by assumption))|(exact fun _=>hcs)|(rename_i hd;exact nomatch (BL _ _).symm.trans hd)|exact hMs|exact hT|exact hn|(rename_i h;first|exact oI h|exact nah h)|(rename_i _ h _ g;exact sL h g)|decide|omega|(refine A0 [] ?_;simp only[↓eB,seval,go_sem,bne,A6,↓A1,h])
  |false=>
   simp only[↓eB,seval,go_sem,↓A1,Option.isSome_some,Option.isSome_none,ho,h,hA]
   try simp only[A3,A4]
   repeat' first|exact ck|with_reducible apply And.intro|intro _
   all_goals first|exact⟨hT,hMs,by omega⟩|exact hcs|exact⟨hcs,he1⟩|exact⟨hcs,hf1⟩|exact⟨hcs,hd1⟩|exact he1|exact hf1|exact hd1|exact⟨hcs,hla⟩|exact hla|(exact hla _ (by assumption))|(exact fun _=>hcs)|(rename_i hd;exact nomatch (BL _ _).symm.trans hd)|exact hMs|exact hT|exact hn|(rename_i h;first|exact oI h|exact nah h)|(rename_i _ h _ g;exact sL h g)|decide|omega|(refine A0 [] ?_;simp only[↓eB,seval,go_sem,bne,A6,↓A1,h])
 by_cases c9:k0=9
 ·subst c9
  cases he:evF q.P q.m.spd q.vs e0 with
  |no j=>
   have h:stF (n+1) (.mk 9 x0 y0 e0 f0 cd0 ar0 th0 el0 no0) q=Fa.brk { q with m:=q.m.spd } (.mk 9 x0 y0 e0 f0 cd0 ar0 th0 el0 no0) j:=by rw[hS];unfold smF;simp only[Sm.k,Sm.x,Sm.y,Sm.e,Sm.f,Sm.cd,Sm.ar,Sm.th,Sm.el,Int.reduceEq,↓reduceIte,he]
   simp only[↓eB,seval,go_sem,↓A1,Option.isSome_some,Option.isSome_none,ho,h,he,Fa.brk,GK,F7,Ia,GI,GJ,F4,F5,F6,Fa.go]
   try simp only[A3,A4]
   repeat' first|exact ck|with_reducible apply And.intro|intro _
   all_goals first|exact trivial|exact hcs|exact⟨hcs,he1⟩|exact⟨hcs,hf1⟩|exact⟨hcs,hd1⟩|exact he1|exact hf1|exact hd1|exact⟨hcs,hla⟩|exact hla|(exact hla _ (by assumption))|(exact fun _=>hcs)|(rename_i hd;exact nomatch (BL _ _).symm.trans hd)|exact hMs|exact hT|exact hn|(rename_i h;first|exact oI h|exact nah h)|(rename_i _ h _ g;exact sL h g)|decide|omega|(refine A0 [] ?_;simp only[↓eB,seval,go_sem,bne,A6,↓A1,h,Fa.brk])
  |ok v=>
   have h:stF (n+1) (.mk 9 x0 y0 e0 f0 cd0 ar0 th0 el0 no0) q=⟨false,true,{ { q with m:=q.m.spd } with ret:=v }⟩:=by rw[hS];unfold smF;simp only[Sm.k,Sm.x,Sm.y,Sm.e,Sm.f,Sm.cd,Sm.ar,Sm.th,Sm.el,Int.reduceEq,↓reduceIte,he]
   simp only[↓eB,seval,go_sem,↓A1,Option.isSome_some,Option.isSome_none,ho,h,he]
   try simp only[A3,A4]
   repeat' first|exact ck|with_reducible apply And.intro|intro _
   all_goals first|exact trivial|exact hcs|exact⟨hcs,he1⟩|exact⟨hcs,hf1⟩|exact⟨hcs,hd1⟩|exact he1|exact hf1|exact hd1|exact⟨hcs,hla⟩|exact hla|(exact hla _ (by assumption))|(exact fun _=>hcs)|(rename_i hd;exact nomatch (BL _ _).symm.trans hd)|exact hMs|exact hT|exact hn|(rename_i h;first|exact oI h|exact nah h)|(rename_i _ h _ g;exact sL h g)|decide|omega|(refine A0 [] ?_;simp only[↓eB,seval,go_sem,bne,A6,↓A1,h])
 by_cases c10:k0=10
 ·subst c10
  cases hcv:cdF q.P q.m.spd q.vs cd0 with
  |no j=>
   have h:stF (n+1) (.mk 10 x0 y0 e0 f0 cd0 ar0 th0 el0 no0) q=Fa.brk { q with m:=q.m.spd } (.mk 10 x0 y0 e0 f0 cd0 ar0 th0 el0 no0) j:=by rw[hS];unfold smF;simp only[Sm.k,Sm.x,Sm.y,Sm.e,Sm.f,Sm.cd,Sm.ar,Sm.th,Sm.el,Int.reduceEq,↓reduceIte,hcv]
   simp only[↓eB,seval,go_sem,↓A1,Option.isSome_some,Option.isSome_none,ho,h,hcv,Fa.brk,GK,F7,Ia,GI,GJ,F4,F5,F6,Fa.go]
   try simp only[A3,A4]
   repeat' first|exact ck|with_reducible apply And.intro|intro _
   all_goals first|exact trivial|exact hcs|exact⟨hcs,he1⟩|exact⟨hcs,hf1⟩|exact⟨hcs,hd1⟩|exact he1|exact hf1|exact hd1|exact⟨hcs,hla⟩|exact hla|(exact hla _ (by assumption))|(exact fun _=>hcs)|(rename_i hd;exact nomatch (BL _ _).symm.trans hd)|exact hMs|exact hT|exact hn|(rename_i h;first|exact oI h|exact nah h)|(rename_i _ h _ g;exact sL h g)|decide|omega|(refine A0 [] ?_;simp only[↓eB,seval,go_sem,bne,A6,↓A1,h,Fa.brk])
  |ok v=>
  cases v with
  |true=>
   obtain⟨T,hTT⟩:∃T,blF (stF n) th0 { q with m:=q.m.spd }=T:=⟨_,rfl⟩
   have h:stF (n+1) (.mk 10 x0 y0 e0 f0 cd0 ar0 th0 el0 no0) q=T:=by rw[hS];unfold smF;simp only[Sm.k,Sm.x,Sm.y,Sm.e,Sm.f,Sm.cd,Sm.ar,Sm.th,Sm.el,Int.reduceEq,↓reduceIte,hcv];exact hTT
   obtain⟨b,t,r⟩:=T
   cases b with
   |true=>
    simp only[↓eB,seval,go_sem,↓A1,Option.isSome_some,Option.isSome_none,ho,h,hcv,hTT]
    try simp only[A3,A4]
    repeat' first|exact ck|with_reducible apply And.intro|intro _
    all_goals first|exact⟨⟨_,hth⟩,hMs,by omega⟩|exact⟨_,hth⟩|exact hcs|exact⟨hcs,he1⟩|exact⟨hcs,hf1⟩|exact⟨hcs,hd1⟩|exact he1|exact hf1|exact hd1|exact⟨hcs,hla⟩|exact hla|(exact hla _ (by assumption))|(exact fun _=>hcs)|(rename_i hd;exact nomatch (BL _ _).symm.trans hd)|exact hMs|exact hT|exact hn|(rename_i h;first|exact oI h|exact nah h)|(rename_i _ h _ g;exact sL h g)|decide|omega|(refine A0 [] ?_;simp only[↓eB,seval,go_sem,bne,A6,↓A1,h])
   |false=>
    simp only[↓eB,seval,go_sem,↓A1,Option.isSome_some,Option.isSome_none,ho,h,hcv,hTT]
    try simp only[A3,A4]
    repeat' first|exact ck|with_reducible apply And.intro|intro _
    all_goals first|exact⟨⟨_,hth⟩,hMs,by omega⟩|exact⟨_,hth⟩|exact hcs|exact⟨hcs,he1⟩|exact⟨hcs,hf1⟩|exact⟨hcs,hd1⟩|exact he1|exact hf1|exact hd1|exact⟨hcs,hla⟩|exact hla|(exact hla _ (by assumption))|(exact fun _=>hcs)|(rename_i hd;exact nomatch (BL _ _).symm.trans hd)|exact hMs|exact hT|exact hn|(rename_i h;first|exact oI h|exact nah h)|(rename_i _ h _ g;exact sL h g)|decide|omega|(refine A0 [] ?_;simp only[↓eB,seval,go_sem,bne,A6,↓A1,h])
  |false=>
   obtain⟨T,hTT⟩:∃T,blF (stF n) el0 { q with m:=q.m.spd }=T:=⟨_,rfl⟩
   have h:stF (n+1) (.mk 10 x0 y0 e0 f0 cd0 ar0 th0 el0 no0) q=T:=by rw[hS];unfold smF;simp only[Sm.k,Sm.x,Sm.y,Sm.e,Sm.f,Sm.cd,Sm.ar,Sm.th,Sm.el,Int.reduceEq,↓reduceIte,hcv];exact hTT
   obtain⟨b,t,r⟩:=T
   cases b with
   |true=>
    simp only[↓eB,seval,go_sem,↓A1,Option.isSome_some,Option.isSome_none,ho,h,hcv,hTT]
    try simp only[A3,A4]
    repeat' first|exact ck|with_reducible apply And.intro|intro _
    all_goals first|exact⟨⟨_,hel⟩,hMs,by omega⟩|exact⟨_,hel⟩|exact hcs|exact⟨hcs,he1⟩|exact⟨hcs,hf1⟩|exact⟨hcs,hd1⟩|exact he1|exact hf1|exact hd1|exact⟨hcs,hla⟩|exact hla|(exact hla _ (by assumption))|(exact fun _=>hcs)|(rename_i hd;exact nomatch (BL _ _).symm.trans hd)|exact hMs|exact hT|exact hn|(rename_i h;first|exact oI h|exact nah h)|(rename_i _ h _ g;exact sL h g)|decide|omega|(refine A0 [] ?_;simp only[↓eB,seval,go_sem,bne,A6,↓A1,h])
   |false=>
    simp only[↓eB,seval,go_sem,↓A1,Option.isSome_some,Option.isSome_none,ho,h,hcv,hTT]
    try simp only[A3,A4]
    repeat' first|exact ck|with_reducible apply And.intro|intro _
    all_goals first|exact⟨⟨_,hel⟩,hMs,by omega⟩|exact⟨_,hel⟩|exact hcs|exact⟨hcs,he1⟩|exact⟨hcs,hf1⟩|exact⟨hcs,hd1⟩|exact he1|exact hf1|exact hd1|exact⟨hcs,hla⟩|exact hla|(exact hla _ (by assumption))|(exact fun _=>hcs)|(rename_i hd;exact nomatch (BL _ _).symm.trans hd)|exact hMs|exact hT|exact hn|(rename_i h;first|exact oI h|exact nah h)|(rename_i _ h _ g;exact sL h g)|decide|omega|(refine A0 [] ?_;simp only[↓eB,seval,go_sem,bne,A6,↓A1,h])
 by_cases c12:k0=12
 ·subst c12
  cases hcv:cdF q.P q.m.spd q.vs cd0 with
  |no j=>
   have h:stF (n+1) (.mk 12 x0 y0 e0 f0 cd0 ar0 th0 el0 no0) q=Fa.brk { q with m:=q.m.spd } (.mk 12 x0 y0 e0 f0 cd0 ar0 th0 el0 no0) j:=by rw[hS];unfold smF;simp only[Sm.k,Sm.x,Sm.y,Sm.e,Sm.f,Sm.cd,Sm.ar,Sm.th,Sm.el,Int.reduceEq,↓reduceIte,hcv]
   simp only[↓eB,seval,go_sem,↓A1,Option.isSome_some,Option.isSome_none,ho,h,hcv,Fa.brk,GK,F7,Ia,GI,GJ,F4,F5,F6,Fa.go]
   try simp only[A3,A4]
   repeat' first|exact ck|with_reducible apply And.intro|intro _
   all_goals first|exact trivial|exact hcs|exact⟨hcs,he1⟩|exact⟨hcs,hf1⟩|exact⟨hcs,hd1⟩|exact he1|exact hf1|exact hd1|exact⟨hcs,hla⟩|exact hla|(exact hla _ (by assumption))|(exact fun _=>hcs)|(rename_i hd;exact nomatch (BL _ _).symm.trans hd)|exact hMs|exact hT|exact hn|(rename_i h;first|exact oI h|exact nah h)|(rename_i _ h _ g;exact sL h g)|decide|omega|(refine A0 [] ?_;simp only[↓eB,seval,go_sem,bne,A6,↓A1,h,Fa.brk])
  |ok v=>
  cases v with
  |true=>
   have h:stF (n+1) (.mk 12 x0 y0 e0 f0 cd0 ar0 th0 el0 no0) q=Fa.go { q with m:=q.m.spd }:=by rw[hS];unfold smF;simp only[Sm.k,Sm.x,Sm.y,Sm.e,Sm.f,Sm.cd,Sm.ar,Sm.th,Sm.el,Int.reduceEq,↓reduceIte,hcv]
   simp only[↓eB,seval,go_sem,↓A1,Option.isSome_some,Option.isSome_none,ho,h,hcv,Fa.go]
   try simp only[A3,A4]
   repeat' first|exact ck|with_reducible apply And.intro|intro _
   all_goals first|exact trivial|exact hcs|exact⟨hcs,he1⟩|exact⟨hcs,hf1⟩|exact⟨hcs,hd1⟩|exact he1|exact hf1|exact hd1|exact⟨hcs,hla⟩|exact hla|(exact hla _ (by assumption))|(exact fun _=>hcs)|(rename_i hd;exact nomatch (BL _ _).symm.trans hd)|exact hMs|exact hT|exact hn|(rename_i h;first|exact oI h|exact nah h)|(rename_i _ h _ g;exact sL h g)|decide|omega|(refine A0 [] ?_;simp only[↓eB,seval,go_sem,bne,A6,↓A1,h,Fa.go])
  |false=>
   have h:stF (n+1) (.mk 12 x0 y0 e0 f0 cd0 ar0 th0 el0 no0) q=Fa.brk { q with m:=q.m.spd } (.mk 12 x0 y0 e0 f0 cd0 ar0 th0 el0 no0) 3:=by rw[hS];unfold smF;simp only[Sm.k,Sm.x,Sm.y,Sm.e,Sm.f,Sm.cd,Sm.ar,Sm.th,Sm.el,Int.reduceEq,↓reduceIte,hcv]
   simp only[↓eB,seval,go_sem,↓A1,Option.isSome_some,Option.isSome_none,ho,h,hcv,Fa.brk,GK,F7,Ia,GI,GJ,F4,F5,F6,Fa.go]
   try simp only[A3,A4]
   repeat' first|exact ck|with_reducible apply And.intro|intro _
   all_goals first|exact trivial|exact hcs|exact⟨hcs,he1⟩|exact⟨hcs,hf1⟩|exact⟨hcs,hd1⟩|exact he1|exact hf1|exact hd1|exact⟨hcs,hla⟩|exact hla|(exact hla _ (by assumption))|(exact fun _=>hcs)|(rename_i hd;exact nomatch (BL _ _).symm.trans hd)|exact hMs|exact hT|exact hn|(rename_i h;first|exact oI h|exact nah h)|(rename_i _ h _ g;exact sL h g)|decide|omega|(refine A0 [] ?_;simp only[↓eB,seval,go_sem,bne,A6,↓A1,h,Fa.brk])
 have d0:(k0==0)=false:=by simpa using c0
 have d1:(k0==1)=false:=by simpa using c1
 have d2:(k0==2)=false:=by simpa using c2
 have d3:(k0==3)=false:=by simpa using c3
 have d4:(k0==4)=false:=by simpa using c4
 have d5:(k0==5)=false:=by simpa using c5
 have d6:(k0==6)=false:=by simpa using c6
 have d7:(k0==7)=false:=by simpa using c7
 have d8:(k0==8)=false:=by simpa using c8
 have d9:(k0==9)=false:=by simpa using c9
 have d10:(k0==10)=false:=by simpa using c10
 have d12:(k0==12)=false:=by simpa using c12
 have h:stF (n+1) (.mk k0 x0 y0 e0 f0 cd0 ar0 th0 el0 no0) q=Fa.go { q with m:=q.m.spd }:=by
  rw[hS];unfold smF;simp only[Sm.k,c0,c1,c2,c3,c4,c5,c6,c7,c8,c9,c10,c12,if_false]
 simp only[↓eB,seval,go_sem,↓A1,Option.isSome_some,Option.isSome_none,ho,h,Fa.go,d11,d0,d1,d2,d3,d4,d5,d6,d7,d8,d9,d10,d12]
 try simp only[A3,A4]
 repeat' first|exact ck|with_reducible apply And.intro|intro _
 all_goals first|exact trivial|exact hcs|exact⟨hcs,he1⟩|exact⟨hcs,hf1⟩|exact⟨hcs,hd1⟩|exact he1|exact hf1|exact hd1|exact⟨hcs,hla⟩|exact hla|(exact hla _ (by assumption))|(exact fun _=>hcs)|(rename_i hd;exact nomatch (BL _ _).symm.trans hd)|exact hMs|exact hT|exact hn|(rename_i h;first|exact oI h|exact nah h)|(rename_i _ h _ g;exact sL h g)|decide|omega|(refine A0 [] ?_;simp only[↓eB,seval,go_sem,bne,A6,↓A1,h,Fa.go])
theorem S1 (N:Nat):∀n,Ld N n
 |0=>fun p w M I lab fz xs hc=>absurd hc.2.1.u (by have:=hc.2.1.l;omega)
 |n+1=>iW N n (vf N n (ZZ N n (QA N n (S1 N n)))) (QA N n (S1 N n)) (ou N n (QA N n (S1 N n)))
end Go.Proofs.Ytjnnmindcbgjhaa
