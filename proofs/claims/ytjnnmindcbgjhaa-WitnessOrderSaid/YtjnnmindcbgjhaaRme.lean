/- Statements, walked. No conditions but those in each statement. -/
import Derived.Test.YtjnnmindcbgjhaaRmd
set_option linter.unusedVariables false
set_option linter.unusedSimpArgs false
namespace Go.Proofs.Ytjnnmindcbgjhaa
open Go Go.Sy Go.RowKit
section
variable {n:Nat} {s:Sm} {q:Fa}
theorem zG (h:s.k=11):stF (n+1) s q=lpF (blF (stF n) s.th) s (n+1) q:=by simp only[stF];rw[if_pos h]
theorem tG (h:s.k≠11) (ho:q.m.out=true):stF (n+1) s q=⟨true,false,{ q with m:=q.m.exh }⟩:=by simp only[stF];rw[if_neg h,if_pos ho]
theorem zH (h:s.k≠11) (ho:q.m.out=false):stF (n+1) s q=smF (stF n) s { q with m:=q.m.spd }:=by simp only[stF];rw[if_neg h,if_neg (by rw[ho];decide)]
end
theorem BK (q:Fa) (s:Sm):B0 (Fa.dead q s).vs s.x=some va0:=put_get s.x va0 q.vs
theorem Fq (q:Fa) (s:Sm) (z:List C):((Fa.dead q s).m.cs.map Nb.c).getD 0 z=[.v (.string (bs [])),.v (.int .i64 0)]:=rfl
theorem Fs (q:Fa) (s:Sm):(Fa.dead q s).m.cs.length=1:=rfl
theorem Em (q:Fa) (s:Sm) (z:List C):((Fa.dead q s).m.ar.map Na.c).getD 0 z=[.v (.string (bs [])),.ov zI [[.v (.int .i64 0)]]]:=rfl
theorem En (q:Fa) (s:Sm):(Fa.dead q s).m.ar.length=1:=rfl
theorem Eo (z:List C):([[.v (.int .i64 0)]]:List (List C)).getD 0 z=[.v (.int .i64 0)]:=rfl
theorem Ep (q:Fa) (k no:Int) (x y:List UInt8) (e f:Ex) (cd:Cd) (ar:List Ar) (th el:List Sm):B0 (Fa.dead q (.mk k x y e f cd ar th el no)).vs x=some va0:=put_get x va0 q.vs
theorem Ft (q:Fa) (k no:Int) (x y:List UInt8) (e f:Ex) (cd:Cd) (ar:List Ar) (th el:List Sm) (v:Int):F2 (Fa.dead q (.mk k x y e f cd ar th el no)) (.mk k x y e f cd ar th el no) v=Fa.go { Fa.dead q (.mk k x y e f cd ar th el no) with vs:=C8 (Fa.dead q (.mk k x y e f cd ar th el no)).vs x ⟨false,v,[]⟩ }:=eU _ _ _
theorem Hj:(some va0=(none:Option Va))=False:=by simp
theorem zJ (st:Sm→Fa→Ro) (s:Sm) (q:Fa):(FE st s q).t=false:=by
 unfold FE
 split
 ·rfl
 ·split
  ·rfl
  ·dsimp only
   split
   ·rfl
   ·unfold RW
    split
    ·rfl
    ·split
     ·rfl
     ·exact SQ _ _ _
theorem tH {l:List Int} {i:Nat} (h:i<l.length) (z:List C):(l.map cI).getD i z=[.v (.int .i64 (l.getD i 0))]:=by simp[List.getD,h,cI]
theorem bf {q:Fa} {m:Ms} {x:List UInt8} {i:Int} (hc:okC q.P m) (h:Fc { q with m:=m } x= .ok i):0≤i∧i<(m.cs.length:Int):=by
 unfold Fc at h
 split at h
 ·cases h
 ·split at h
  ·rename_i j hj
   obtain rfl:j=i:=by cases h;rfl
   exact Pg.ci_lt hc hj
  ·cases h
theorem bg {q:Fa} {m:Ms} {s:Sm} {v k:Int} (hc:okC q.P m) (h:Ef { q with m:=m } s v= .ok k):(0≤k∧k<(m.ar.length:Int))∧0≤v∧v.toNat<(m.ar.getD k.toNat ⟨[],[]⟩).l.length:=by
 unfold Ef at h
 split at h
 ·cases h
 ·rename_i j hj
  split at h
  ·cases h
  ·rename_i hn
   obtain rfl:j=k:=by cases h;rfl
   have hn2:¬(v<0∨((m.ar.getD j.toNat ⟨[],[]⟩).l.length:Int)≤v):=hn
   refine⟨Pg.ai_lt hc hj,?_,?_⟩<;>omega
attribute [local go_sem] Ev.b Ev.vl Fa.mem Fa.memO Fa.pan ML.ch ML.ren Sm.ar Sm.cd Sm.e Sm.el Sm.f Sm.k Sm.no Sm.th Sm.x Sm.y Va.c Fo Fm Fp EA BG BO BP BD BM BN K1 K0 Cw Cv chL evA evW Hf E5 E4 Fu fcN IF frC Hg Fl lmH lmO FO Gj Gk mcC Hh Gg mcW EZ Dl Dm Bf Be Bg Bh FP nmX AB AA Ds EY Dj Dk FS FR F9 F8 EX Fb rnC Gc AK DW EC Db CT Ee va0 vrQ Hi IG FB lY D0 Bl Cb E6 CK lS mC eh lZ D1 Bm Ce E7 CL lT mD ek IU Bz Ah Bc CZ BR IR C6 Cn ER Dv Y2 Ca Bd Y1 EI HM Bt Au Jh Cm BZ HK ET Ez Ey EQ BI AS B3 Bp Aw EP BW Bv Cy DD GO Bq AY BL CM BC GN Bu CS Dg
set_option maxRecDepth 20000 in set_option maxHeartbeats 64000000 in
attribute[local go_sem] xt in
theorem ew (N:Nat) (n:Nat) (hI:OQ N n) (hB:I4 N n) (hL:Ma N n):Kk N (n+1):=by
 rintro ⟨q,s,_u⟩ w M I lab fz xs hc hA hl hx
 refine Cj Try.func85 rfl (Fa.mem q) w M I lab fz (ER N (n+1) q s) (Fa.pan (Dg N (n+1) q s)) (Fa.memO (Cy N (n+1) q s)) [(RH N n hL),EI,(JC N (OP N)),Ca,Bd,Y1,Y2,(Tb N n hI),(Ki N false (Qc N false)),(GY N n hB)] [] ((G8).args ⟨q,s,_u⟩) (Ey N (n+1) q s) xs hA hl hx (GM _ _ _ _) (jN rfl) (Nat.le_refl _) rfl (Hy _) ?_
 clear hx hl hA xs
 simp only[Try.f85]
 obtain⟨hT,hM,hn⟩:=hc
 dsimp only at hT hM hn
 have he1:s.e.dp<N:=hT.k.e
 have hf1:s.f.dp<N:=hT.k.f
 have hd1:s.cd.dp<N:=hT.k.c
 obtain⟨mt,hth⟩:=hT.t
 obtain⟨me,hel⟩:=hT.e
 obtain⟨k0,x0,y0,e0,f0,cd0,ar0,th0,el0,no0⟩:=s
 dsimp only[Sm.e,Sm.f,Sm.cd,Sm.th,Sm.el]at he1 hf1 hd1 hth hel
 by_cases c11:k0=11
 ·subst c11
  have hS:=zG (n:=n) (q:=q) (show (Sm.mk 11 x0 y0 e0 f0 cd0 ar0 th0 el0 no0).k=11 from rfl)
  obtain⟨T,hTT⟩:∃T,lpF (blF (stF n) th0) (.mk 11 x0 y0 e0 f0 cd0 ar0 th0 el0 no0) (n+1) q=T:=⟨_,rfl⟩
  have hS2:stF (n+1) (.mk 11 x0 y0 e0 f0 cd0 ar0 th0 el0 no0) q=T:=hS.trans hTT
  obtain⟨b,t,r⟩:=T
  cases b with
  |true=>
   simp only[↓eB,seval,go_sem,↓A1,Option.isSome_some,Option.isSome_none,hS2,hTT]
   try simp only[A3,A4]
   repeat' first|exact ck|with_reducible apply And.intro|intro _
   all_goals first|exact⟨hT,hM,hn⟩|exact hT|exact hM|exact hn|(rename_i h;first|exact oI h|exact nah h)|(rename_i _ h _ g;exact sL h g)|decide|omega|(refine A0 [] ?_;simp only[↓eB,seval,go_sem,bne,A6,↓A1,hS2])
  |false=>
   simp only[↓eB,seval,go_sem,↓A1,Option.isSome_some,Option.isSome_none,hS2,hTT]
   try simp only[A3,A4]
   repeat' first|exact ck|with_reducible apply And.intro|intro _
   all_goals first|exact⟨hT,hM,hn⟩|exact hT|exact hM|exact hn|(rename_i h;first|exact oI h|exact nah h)|(rename_i _ h _ g;exact sL h g)|decide|omega|(refine A0 [] ?_;simp only[↓eB,seval,go_sem,bne,A6,↓A1,hS2])
 have d11:(k0==11)=false:=by simpa using c11
 cases ho:q.m.out with
 |true=>
  have hS:=tG (n:=n) (q:=q) (s:=.mk k0 x0 y0 e0 f0 cd0 ar0 th0 el0 no0) c11 ho
  simp only[↓eB,seval,go_sem,↓A1,Option.isSome_some,Option.isSome_none,ho,hS,d11]
  try simp only[A3,A4]
  repeat' first|exact ck|with_reducible apply And.intro|intro _
  all_goals first|exact trivial|(rename_i h;first|exact oI h|exact nah h)|(rename_i _ h _ g;exact sL h g)|decide|omega|(refine A0 [] ?_;simp only[↓eB,seval,go_sem,bne,A6,↓A1,hS,ho])
 |false=>
 have hS:=zH (n:=n) (q:=q) (s:=.mk k0 x0 y0 e0 f0 cd0 ar0 th0 el0 no0) c11 ho
 have ks:=SO ho hM.l (by have:=hM.u;omega)
 have ka:=eV ho hM.l (by have:=hM.u;omega)
 have hMs:okMs N n { q with m:=q.m.spd }:=hM.kq ks (by show q.m.spd.fuel<_;have:=hM.u;omega)
 have hcs:okC q.P q.m.spd:=hMs.c
 have hla:∀a∈q.m.spd.ar,a.l.length≤1000000000:=hMs.a
 by_cases c0:k0=0
 ·subst c0
  cases he:evF q.P q.m.spd q.vs e0 with
  |no j=>
   have h:stF (n+1) (.mk 0 x0 y0 e0 f0 cd0 ar0 th0 el0 no0) q=Fa.brk { q with m:=q.m.spd } (.mk 0 x0 y0 e0 f0 cd0 ar0 th0 el0 no0) j:=by rw[hS];unfold smF;simp only[Sm.k,Sm.x,Sm.y,Sm.e,Sm.f,Sm.cd,Sm.ar,Sm.th,Sm.el,Int.reduceEq,↓reduceIte,he]
   simp only[↓eB,seval,go_sem,↓A1,Option.isSome_some,Option.isSome_none,ho,h,he,Fa.brk,Ft,Ep,Hj,Fq,Fs,Em,En,Eo,Fa.go]
   try simp only[A3,A4]
   repeat' first|exact ck|with_reducible apply And.intro|intro _
   all_goals first|exact trivial|exact hcs|exact⟨hcs,he1⟩|exact⟨hcs,hf1⟩|exact⟨hcs,hd1⟩|exact he1|exact hf1|exact hd1|exact⟨hcs,hla⟩|exact hla|(exact hla _ (by assumption))|(exact fun _=>hcs)|(rename_i hd;exact nomatch (BK _ _).symm.trans hd)|exact hMs|exact hT|exact hn|(rename_i h;first|exact oI h|exact nah h)|(rename_i _ h _ g;exact sL h g)|decide|omega|(refine A0 [] ?_;simp only[↓eB,seval,go_sem,bne,A6,↓A1,h,Fa.brk])
  |ok v=>
   obtain⟨A,hA⟩:∃A,F2 { q with m:=q.m.spd } (.mk 0 x0 y0 e0 f0 cd0 ar0 th0 el0 no0) v=A:=⟨_,rfl⟩
   have h:stF (n+1) (.mk 0 x0 y0 e0 f0 cd0 ar0 th0 el0 no0) q=A:=by rw[hS];unfold smF;simp only[Sm.k,Sm.x,Sm.y,Sm.e,Sm.f,Sm.cd,Sm.ar,Sm.th,Sm.el,Int.reduceEq,↓reduceIte,he];exact hA
   have hAt:A.t=false:=by rw[← hA];exact SQ _ _ _
   try dsimp only[Ms.cell,Ms.arr]at hA
   obtain⟨b,t,r⟩:=A
   obtain rfl:t=false:=hAt
   cases b with
   |true=>
    simp only[↓eB,seval,go_sem,↓A1,Option.isSome_some,Option.isSome_none,ho,h,hA,he]
    try simp only[A3,A4]
    repeat' first|exact ck|with_reducible apply And.intro|intro _
    all_goals first|exact trivial|exact hcs|exact⟨hcs,he1⟩|exact⟨hcs,hf1⟩|exact⟨hcs,hd1⟩|exact he1|exact hf1|exact hd1|exact⟨hcs,hla⟩|exact hla|(exact hla _ (by assumption))|(exact fun _=>hcs)|(rename_i hd;exact nomatch (BK _ _).symm.trans hd)|exact hMs|exact hT|exact hn|(rename_i h;first|exact oI h|exact nah h)|(rename_i _ h _ g;exact sL h g)|decide|omega|(refine A0 [] ?_;simp only[↓eB,seval,go_sem,bne,A6,↓A1,h])
   |false=>
    simp only[↓eB,seval,go_sem,↓A1,Option.isSome_some,Option.isSome_none,ho,h,hA,he]
    try simp only[A3,A4]
    repeat' first|exact ck|with_reducible apply And.intro|intro _
    all_goals first|exact trivial|exact hcs|exact⟨hcs,he1⟩|exact⟨hcs,hf1⟩|exact⟨hcs,hd1⟩|exact he1|exact hf1|exact hd1|exact⟨hcs,hla⟩|exact hla|(exact hla _ (by assumption))|(exact fun _=>hcs)|(rename_i hd;exact nomatch (BK _ _).symm.trans hd)|exact hMs|exact hT|exact hn|(rename_i h;first|exact oI h|exact nah h)|(rename_i _ h _ g;exact sL h g)|decide|omega|(refine A0 [] ?_;simp only[↓eB,seval,go_sem,bne,A6,↓A1,h])
 by_cases c1:k0=1
 ·subst c1
  cases hy:q.P.ci y0 with
  |none=>
   have h:stF (n+1) (.mk 1 x0 y0 e0 f0 cd0 ar0 th0 el0 no0) q=Fa.brk { q with m:=q.m.spd } (.mk 1 x0 y0 e0 f0 cd0 ar0 th0 el0 no0) 4:=by rw[hS];unfold smF;simp only[Sm.k,Sm.x,Sm.y,Sm.e,Sm.f,Sm.cd,Sm.ar,Sm.th,Sm.el,Int.reduceEq,↓reduceIte,hy]
   simp only[↓eB,seval,go_sem,↓A1,Option.isSome_some,Option.isSome_none,ho,h,hy,Fa.brk,Ft,Ep,Hj,Fq,Fs,Em,En,Eo,Fa.go]
   try simp only[A3,A4]
   repeat' first|exact ck|with_reducible apply And.intro|intro _
   all_goals first|exact trivial|exact hcs|exact⟨hcs,he1⟩|exact⟨hcs,hf1⟩|exact⟨hcs,hd1⟩|exact he1|exact hf1|exact hd1|exact⟨hcs,hla⟩|exact hla|(exact hla _ (by assumption))|(exact fun _=>hcs)|(rename_i hd;exact nomatch (BK _ _).symm.trans hd)|exact hMs|exact hT|exact hn|(rename_i h;first|exact oI h|exact nah h)|(rename_i _ h _ g;exact sL h g)|decide|omega|(refine A0 [] ?_;simp only[↓eB,seval,go_sem,bne,A6,↓A1,h,Fa.brk])
  |some i=>
   have h:stF (n+1) (.mk 1 x0 y0 e0 f0 cd0 ar0 th0 el0 no0) q=Fa.go { { q with m:=q.m.spd } with vs:=C8 q.vs x0 ⟨true,0,y0⟩ }:=by rw[hS];unfold smF;simp only[Sm.k,Sm.x,Sm.y,Sm.e,Sm.f,Sm.cd,Sm.ar,Sm.th,Sm.el,Int.reduceEq,↓reduceIte,hy]
   simp only[↓eB,seval,go_sem,↓A1,Option.isSome_some,Option.isSome_none,ho,h,hy,Fa.go,LM]
   try simp only[A3,A4]
   repeat' first|exact ck|with_reducible apply And.intro|intro _
   all_goals first|exact trivial|exact hcs|exact⟨hcs,he1⟩|exact⟨hcs,hf1⟩|exact⟨hcs,hd1⟩|exact he1|exact hf1|exact hd1|exact⟨hcs,hla⟩|exact hla|(exact hla _ (by assumption))|(exact fun _=>hcs)|(rename_i hd;exact nomatch (BK _ _).symm.trans hd)|exact hMs|exact hT|exact hn|(rename_i h;first|exact oI h|exact nah h)|(rename_i _ h _ g;exact sL h g)|decide|omega|(refine A0 [] ?_;simp only[↓eB,seval,go_sem,bne,A6,↓A1,h,Fa.go])
 by_cases c2:k0=2
 ·subst c2
  cases hv:B0 q.vs y0 with
  |none=>
   have hv2:(FT q.vs y0).s=[]:=by unfold FT;rw[hv];rfl
   have h:stF (n+1) (.mk 2 x0 y0 e0 f0 cd0 ar0 th0 el0 no0) q=Fa.go { { q with m:=q.m.spd } with vs:=C8 q.vs x0 ⟨true,0,[]⟩ }:=by rw[hS];unfold smF;simp only[Sm.k,Sm.x,Sm.y,Sm.e,Sm.f,Sm.cd,Sm.ar,Sm.th,Sm.el,Int.reduceEq,↓reduceIte,hv2]
   simp only[↓eB,seval,go_sem,↓A1,Option.isSome_some,Option.isSome_none,ho,h,hv,Fa.go,LM]
   try simp only[A3,A4]
   repeat' first|exact ck|with_reducible apply And.intro|intro _
   all_goals first|exact trivial|exact hcs|exact⟨hcs,he1⟩|exact⟨hcs,hf1⟩|exact⟨hcs,hd1⟩|exact he1|exact hf1|exact hd1|exact⟨hcs,hla⟩|exact hla|(exact hla _ (by assumption))|(exact fun _=>hcs)|(rename_i hd;exact nomatch (BK _ _).symm.trans hd)|exact hMs|exact hT|exact hn|(rename_i h;first|exact oI h|exact nah h)|(rename_i _ h _ g;exact sL h g)|decide|omega|(refine A0 [] ?_;simp only[↓eB,seval,go_sem,bne,A6,↓A1,h,Fa.go])
  |some u=>
   have hv2:(FT q.vs y0).s=u.s:=by unfold FT;rw[hv];rfl
   have h:stF (n+1) (.mk 2 x0 y0 e0 f0 cd0 ar0 th0 el0 no0) q=Fa.go { { q with m:=q.m.spd } with vs:=C8 q.vs x0 ⟨true,0,u.s⟩ }:=by rw[hS];unfold smF;simp only[Sm.k,Sm.x,Sm.y,Sm.e,Sm.f,Sm.cd,Sm.ar,Sm.th,Sm.el,Int.reduceEq,↓reduceIte,hv2]
   simp only[↓eB,seval,go_sem,↓A1,Option.isSome_some,Option.isSome_none,ho,h,hv,Fa.go,LM]
   try simp only[A3,A4]
   repeat' first|exact ck|with_reducible apply And.intro|intro _
   all_goals first|exact trivial|exact hcs|exact⟨hcs,he1⟩|exact⟨hcs,hf1⟩|exact⟨hcs,hd1⟩|exact he1|exact hf1|exact hd1|exact⟨hcs,hla⟩|exact hla|(exact hla _ (by assumption))|(exact fun _=>hcs)|(rename_i hd;exact nomatch (BK _ _).symm.trans hd)|exact hMs|exact hT|exact hn|(rename_i h;first|exact oI h|exact nah h)|(rename_i _ h _ g;exact sL h g)|decide|omega|(refine A0 [] ?_;simp only[↓eB,seval,go_sem,bne,A6,↓A1,h,Fa.go])
 by_cases c3:k0=3
 ·subst c3
  have h:stF (n+1) (.mk 3 x0 y0 e0 f0 cd0 ar0 th0 el0 no0) q=Fa.go { { q with m:=q.m.spd } with vs:=C8 q.vs x0 ⟨true,0,[]⟩ }:=by rw[hS];unfold smF;simp only[Sm.k,Sm.x,Sm.y,Sm.e,Sm.f,Sm.cd,Sm.ar,Sm.th,Sm.el,Int.reduceEq,↓reduceIte]
  simp only[↓eB,seval,go_sem,↓A1,Option.isSome_some,Option.isSome_none,ho,h,Fa.go,LM]
  try simp only[A3,A4]
  repeat' first|exact ck|with_reducible apply And.intro|intro _
  all_goals first|exact trivial|exact hcs|exact⟨hcs,he1⟩|exact⟨hcs,hf1⟩|exact⟨hcs,hd1⟩|exact he1|exact hf1|exact hd1|exact⟨hcs,hla⟩|exact hla|(exact hla _ (by assumption))|(exact fun _=>hcs)|(rename_i hd;exact nomatch (BK _ _).symm.trans hd)|exact hMs|exact hT|exact hn|(rename_i h;first|exact oI h|exact nah h)|(rename_i _ h _ g;exact sL h g)|decide|omega|(refine A0 [] ?_;simp only[↓eB,seval,go_sem,bne,A6,↓A1,h,Fa.go])
 by_cases c4:k0=4
 ·subst c4
  cases hf:Fc { q with m:=q.m.spd } y0 with
  |no j=>
   have h:stF (n+1) (.mk 4 x0 y0 e0 f0 cd0 ar0 th0 el0 no0) q=Fa.brk { q with m:=q.m.spd } (.mk 4 x0 y0 e0 f0 cd0 ar0 th0 el0 no0) j:=by rw[hS];unfold smF;simp only[Sm.k,Sm.x,Sm.y,Sm.e,Sm.f,Sm.cd,Sm.ar,Sm.th,Sm.el,Int.reduceEq,↓reduceIte,hf]
   simp only[↓eB,seval,go_sem,↓A1,Option.isSome_some,Option.isSome_none,ho,h,hf,Fa.brk,Ft,Ep,Hj,Fq,Fs,Em,En,Eo,Fa.go]
   try simp only[A3,A4]
   repeat' first|exact ck|with_reducible apply And.intro|intro _
   all_goals first|exact trivial|exact hcs|exact⟨hcs,he1⟩|exact⟨hcs,hf1⟩|exact⟨hcs,hd1⟩|exact he1|exact hf1|exact hd1|exact⟨hcs,hla⟩|exact hla|(exact hla _ (by assumption))|(exact fun _=>hcs)|(rename_i hd;exact nomatch (BK _ _).symm.trans hd)|exact hMs|exact hT|exact hn|(rename_i h;first|exact oI h|exact nah h)|(rename_i _ h _ g;exact sL h g)|decide|omega|(refine A0 [] ?_;simp only[↓eB,seval,go_sem,bne,A6,↓A1,h,Fa.brk])
  |ok i=>
   have hi:=bf hcs hf
   have hg:=Ss hi
   obtain⟨A,hA⟩:∃A,F2 { q with m:=q.m.spd } (.mk 4 x0 y0 e0 f0 cd0 ar0 th0 el0 no0) (q.m.spd.cell i)=A:=⟨_,rfl⟩
   have h:stF (n+1) (.mk 4 x0 y0 e0 f0 cd0 ar0 th0 el0 no0) q=A:=by rw[hS];unfold smF;simp only[Sm.k,Sm.x,Sm.y,Sm.e,Sm.f,Sm.cd,Sm.ar,Sm.th,Sm.el,Int.reduceEq,↓reduceIte,hf];exact hA
   have hAt:A.t=false:=by rw[← hA];exact SQ _ _ _
   try dsimp only[Ms.cell,Ms.arr]at hA
   obtain⟨b,t,r⟩:=A
   obtain rfl:t=false:=hAt
   cases b with
   |true=>
    simp only[↓eB,seval,go_sem,↓A1,Option.isSome_some,Option.isSome_none,ho,h,hA,hf,hg,Ms.cell]
    try simp only[A3,A4]
    repeat' first|exact ck|with_reducible apply And.intro|intro _
    all_goals first|exact hi.1|exact hi.2|exact hcs|exact⟨hcs,he1⟩|exact⟨hcs,hf1⟩|exact⟨hcs,hd1⟩|exact he1|exact hf1|exact hd1|exact⟨hcs,hla⟩|exact hla|(exact hla _ (by assumption))|(exact fun _=>hcs)|(rename_i hd;exact nomatch (BK _ _).symm.trans hd)|exact hMs|exact hT|exact hn|(rename_i h;first|exact oI h|exact nah h)|(rename_i _ h _ g;exact sL h g)|decide|omega|(refine A0 [] ?_;simp only[↓eB,seval,go_sem,bne,A6,↓A1,h])
   |false=>
    simp only[↓eB,seval,go_sem,↓A1,Option.isSome_some,Option.isSome_none,ho,h,hA,hf,hg,Ms.cell]
    try simp only[A3,A4]
    repeat' first|exact ck|with_reducible apply And.intro|intro _
    all_goals first|exact hi.1|exact hi.2|exact hcs|exact⟨hcs,he1⟩|exact⟨hcs,hf1⟩|exact⟨hcs,hd1⟩|exact he1|exact hf1|exact hd1|exact⟨hcs,hla⟩|exact hla|(exact hla _ (by assumption))|(exact fun _=>hcs)|(rename_i hd;exact nomatch (BK _ _).symm.trans hd)|exact hMs|exact hT|exact hn|(rename_i h;first|exact oI h|exact nah h)|(rename_i _ h _ g;exact sL h g)|decide|omega|(refine A0 [] ?_;simp only[↓eB,seval,go_sem,bne,A6,↓A1,h])
 by_cases c5:k0=5
 ·subst c5
  cases he:evF q.P q.m.spd q.vs e0 with
  |no j=>
   have h:stF (n+1) (.mk 5 x0 y0 e0 f0 cd0 ar0 th0 el0 no0) q=Fa.brk { q with m:=q.m.spd } (.mk 5 x0 y0 e0 f0 cd0 ar0 th0 el0 no0) j:=by rw[hS];unfold smF;simp only[Sm.k,Sm.x,Sm.y,Sm.e,Sm.f,Sm.cd,Sm.ar,Sm.th,Sm.el,Int.reduceEq,↓reduceIte,he]
   simp only[↓eB,seval,go_sem,↓A1,Option.isSome_some,Option.isSome_none,ho,h,he,Fa.brk,Ft,Ep,Hj,Fq,Fs,Em,En,Eo,Fa.go]
   try simp only[A3,A4]
   repeat' first|exact ck|with_reducible apply And.intro|intro _
   all_goals first|exact trivial|exact hcs|exact⟨hcs,he1⟩|exact⟨hcs,hf1⟩|exact⟨hcs,hd1⟩|exact he1|exact hf1|exact hd1|exact⟨hcs,hla⟩|exact hla|(exact hla _ (by assumption))|(exact fun _=>hcs)|(rename_i hd;exact nomatch (BK _ _).symm.trans hd)|exact hMs|exact hT|exact hn|(rename_i h;first|exact oI h|exact nah h)|(rename_i _ h _ g;exact sL h g)|decide|omega|(refine A0 [] ?_;simp only[↓eB,seval,go_sem,bne,A6,↓A1,h,Fa.brk])
  |ok v=>
   cases hf:Fc { q with m:=q.m.spd } x0 with
   |no j=>
    have h:stF (n+1) (.mk 5 x0 y0 e0 f0 cd0 ar0 th0 el0 no0) q=Fa.brk { q with m:=q.m.spd } (.mk 5 x0 y0 e0 f0 cd0 ar0 th0 el0 no0) j:=by rw[hS];unfold smF;simp only[Sm.k,Sm.x,Sm.y,Sm.e,Sm.f,Sm.cd,Sm.ar,Sm.th,Sm.el,Int.reduceEq,↓reduceIte,he,hf]
    simp only[↓eB,seval,go_sem,↓A1,Option.isSome_some,Option.isSome_none,ho,h,he,hf,Fa.brk,Ft,Ep,Hj,Fq,Fs,Em,En,Eo,Fa.go]
    try simp only[A3,A4]
    repeat' first|exact ck|with_reducible apply And.intro|intro _
    all_goals first|exact trivial|exact hcs|exact⟨hcs,he1⟩|exact⟨hcs,hf1⟩|exact⟨hcs,hd1⟩|exact he1|exact hf1|exact hd1|exact⟨hcs,hla⟩|exact hla|(exact hla _ (by assumption))|(exact fun _=>hcs)|(rename_i hd;exact nomatch (BK _ _).symm.trans hd)|exact hMs|exact hT|exact hn|(rename_i h;first|exact oI h|exact nah h)|(rename_i _ h _ g;exact sL h g)|decide|omega|(refine A0 [] ?_;simp only[↓eB,seval,go_sem,bne,A6,↓A1,h,Fa.brk])
   |ok i=>
    have hi:=bf hcs hf
    have hg:=Ss hi
    have h:stF (n+1) (.mk 5 x0 y0 e0 f0 cd0 ar0 th0 el0 no0) q=Fa.go { { q with m:=q.m.spd } with m:=q.m.spd.set i v }:=by rw[hS];unfold smF;simp only[Sm.k,Sm.x,Sm.y,Sm.e,Sm.f,Sm.cd,Sm.ar,Sm.th,Sm.el,Int.reduceEq,↓reduceIte,he,hf]
    simp only[↓eB,seval,go_sem,↓A1,Option.isSome_some,Option.isSome_none,ho,h,he,hf,hg,Fa.go,Ms.set,bY]
    try simp only[A3,A4]
    repeat' first|exact ck|with_reducible apply And.intro|intro _
    all_goals first|exact hi.1|exact hi.2|exact hcs|exact⟨hcs,he1⟩|exact⟨hcs,hf1⟩|exact⟨hcs,hd1⟩|exact he1|exact hf1|exact hd1|exact⟨hcs,hla⟩|exact hla|(exact hla _ (by assumption))|(exact fun _=>hcs)|(rename_i hd;exact nomatch (BK _ _).symm.trans hd)|exact hMs|exact hT|exact hn|(rename_i h;first|exact oI h|exact nah h)|(rename_i _ h _ g;exact sL h g)|decide|omega|(refine A0 [] ?_;simp only[↓eB,seval,go_sem,bne,A6,↓A1,h,Fa.go,Ms.set])
 by_cases c6:k0=6
 ·subst c6
  cases he:evF q.P q.m.spd q.vs e0 with
  |no j=>
   have h:stF (n+1) (.mk 6 x0 y0 e0 f0 cd0 ar0 th0 el0 no0) q=Fa.brk { q with m:=q.m.spd } (.mk 6 x0 y0 e0 f0 cd0 ar0 th0 el0 no0) j:=by rw[hS];unfold smF;simp only[Sm.k,Sm.x,Sm.y,Sm.e,Sm.f,Sm.cd,Sm.ar,Sm.th,Sm.el,Int.reduceEq,↓reduceIte,he]
   simp only[↓eB,seval,go_sem,↓A1,Option.isSome_some,Option.isSome_none,ho,h,he,Fa.brk,Ft,Ep,Hj,Fq,Fs,Em,En,Eo,Fa.go]
   try simp only[A3,A4]
   repeat' first|exact ck|with_reducible apply And.intro|intro _
   all_goals first|exact trivial|exact hcs|exact⟨hcs,he1⟩|exact⟨hcs,hf1⟩|exact⟨hcs,hd1⟩|exact he1|exact hf1|exact hd1|exact⟨hcs,hla⟩|exact hla|(exact hla _ (by assumption))|(exact fun _=>hcs)|(rename_i hd;exact nomatch (BK _ _).symm.trans hd)|exact hMs|exact hT|exact hn|(rename_i h;first|exact oI h|exact nah h)|(rename_i _ h _ g;exact sL h g)|decide|omega|(refine A0 [] ?_;simp only[↓eB,seval,go_sem,bne,A6,↓A1,h,Fa.brk])
  |ok v=>
   cases hf:Ef { q with m:=q.m.spd } (.mk 6 x0 y0 e0 f0 cd0 ar0 th0 el0 no0) v with
   |no j=>
    have h:stF (n+1) (.mk 6 x0 y0 e0 f0 cd0 ar0 th0 el0 no0) q=Fa.brk { q with m:=q.m.spd } (.mk 6 x0 y0 e0 f0 cd0 ar0 th0 el0 no0) j:=by rw[hS];unfold smF;simp only[Sm.k,Sm.x,Sm.y,Sm.e,Sm.f,Sm.cd,Sm.ar,Sm.th,Sm.el,Int.reduceEq,↓reduceIte,he,hf]
    simp only[↓eB,seval,go_sem,↓A1,Option.isSome_some,Option.isSome_none,ho,h,he,hf,Fa.brk,Ft,Ep,Hj,Fq,Fs,Em,En,Eo,Fa.go]
    try simp only[A3,A4]
    repeat' first|exact ck|with_reducible apply And.intro|intro _
    all_goals first|exact trivial|exact hcs|exact⟨hcs,he1⟩|exact⟨hcs,hf1⟩|exact⟨hcs,hd1⟩|exact he1|exact hf1|exact hd1|exact⟨hcs,hla⟩|exact hla|(exact hla _ (by assumption))|(exact fun _=>hcs)|(rename_i hd;exact nomatch (BK _ _).symm.trans hd)|exact hMs|exact hT|exact hn|(rename_i h;first|exact oI h|exact nah h)|(rename_i _ h _ g;exact sL h g)|decide|omega|(refine A0 [] ?_;simp only[↓eB,seval,go_sem,bne,A6,↓A1,h,Fa.brk])
   |ok k=>
    obtain⟨hi,hv0,hv1⟩:=bg hcs hf
    have hg:=WJ hi
    have hgi:=tH hv1
    obtain⟨A,hA⟩:∃A,F2 { q with m:=q.m.spd } (.mk 6 x0 y0 e0 f0 cd0 ar0 th0 el0 no0) ((q.m.spd.arr k).getD v.toNat 0)=A:=⟨_,rfl⟩
    have h:stF (n+1) (.mk 6 x0 y0 e0 f0 cd0 ar0 th0 el0 no0) q=A:=by rw[hS];unfold smF;simp only[Sm.k,Sm.x,Sm.y,Sm.e,Sm.f,Sm.cd,Sm.ar,Sm.th,Sm.el,Int.reduceEq,↓reduceIte,he,hf];exact hA
    have hAt:A.t=false:=by rw[← hA];exact SQ _ _ _
    try dsimp only[Ms.cell,Ms.arr]at hA
    obtain⟨b,t,r⟩:=A
    obtain rfl:t=false:=hAt
    cases b with
    |true=>
     simp only[↓eB,seval,go_sem,↓A1,Option.isSome_some,Option.isSome_none,ho,h,hA,he,hf,hg,hgi,Ms.arr]
     try simp only[A3,A4]
     repeat' first|exact ck|with_reducible apply And.intro|intro _
     all_goals first|exact hi.1|exact hi.2|exact hv0|exact hv1|exact hcs|exact⟨hcs,he1⟩|exact⟨hcs,hf1⟩|exact⟨hcs,hd1⟩|exact he1|exact hf1|exact hd1|exact⟨hcs,hla⟩|exact hla|(exact hla _ (by assumption))|(exact fun _=>hcs)|(rename_i hd;exact nomatch (BK _ _).symm.trans hd)|exact hMs|exact hT|exact hn|(rename_i h;first|exact oI h|exact nah h)|(rename_i _ h _ g;exact sL h g)|decide|omega|(refine A0 [] ?_;simp only[↓eB,seval,go_sem,bne,A6,↓A1,h])
    |false=>
     simp only[↓eB,seval,go_sem,↓A1,Option.isSome_some,Option.isSome_none,ho,h,hA,he,hf,hg,hgi,Ms.arr]
     try simp only[A3,A4]
     repeat' first|exact ck|with_reducible apply And.intro|intro _
     all_goals first|exact hi.1|exact hi.2|exact hv0|exact hv1|exact hcs|exact⟨hcs,he1⟩|exact⟨hcs,hf1⟩|exact⟨hcs,hd1⟩|exact he1|exact hf1|exact hd1|exact⟨hcs,hla⟩|exact hla|(exact hla _ (by assumption))|(exact fun _=>hcs)|(rename_i hd;exact nomatch (BK _ _).symm.trans hd)|exact hMs|exact hT|exact hn|(rename_i h;first|exact oI h|exact nah h)|(rename_i _ h _ g;exact sL h g)|decide|omega|(refine A0 [] ?_;simp only[↓eB,seval,go_sem,bne,A6,↓A1,h])
 by_cases c7:k0=7
 ·subst c7
  cases he:evF q.P q.m.spd q.vs e0 with
  |no j=>
   have h:stF (n+1) (.mk 7 x0 y0 e0 f0 cd0 ar0 th0 el0 no0) q=Fa.brk { q with m:=q.m.spd } (.mk 7 x0 y0 e0 f0 cd0 ar0 th0 el0 no0) j:=by rw[hS];unfold smF;simp only[Sm.k,Sm.x,Sm.y,Sm.e,Sm.f,Sm.cd,Sm.ar,Sm.th,Sm.el,Int.reduceEq,↓reduceIte,he]
   simp only[↓eB,seval,go_sem,↓A1,Option.isSome_some,Option.isSome_none,ho,h,he,Fa.brk,Ft,Ep,Hj,Fq,Fs,Em,En,Eo,Fa.go]
   try simp only[A3,A4]
   repeat' first|exact ck|with_reducible apply And.intro|intro _
   all_goals first|exact trivial|exact hcs|exact⟨hcs,he1⟩|exact⟨hcs,hf1⟩|exact⟨hcs,hd1⟩|exact he1|exact hf1|exact hd1|exact⟨hcs,hla⟩|exact hla|(exact hla _ (by assumption))|(exact fun _=>hcs)|(rename_i hd;exact nomatch (BK _ _).symm.trans hd)|exact hMs|exact hT|exact hn|(rename_i h;first|exact oI h|exact nah h)|(rename_i _ h _ g;exact sL h g)|decide|omega|(refine A0 [] ?_;simp only[↓eB,seval,go_sem,bne,A6,↓A1,h,Fa.brk])
  |ok v=>
   cases hff:evF q.P q.m.spd q.vs f0 with
   |no j=>
    have h:stF (n+1) (.mk 7 x0 y0 e0 f0 cd0 ar0 th0 el0 no0) q=Fa.brk { q with m:=q.m.spd } (.mk 7 x0 y0 e0 f0 cd0 ar0 th0 el0 no0) j:=by rw[hS];unfold smF;simp only[Sm.k,Sm.x,Sm.y,Sm.e,Sm.f,Sm.cd,Sm.ar,Sm.th,Sm.el,Int.reduceEq,↓reduceIte,he,hff]
    simp only[↓eB,seval,go_sem,↓A1,Option.isSome_some,Option.isSome_none,ho,h,he,hff,Fa.brk,Ft,Ep,Hj,Fq,Fs,Em,En,Eo,Fa.go]
    try simp only[A3,A4]
    repeat' first|exact ck|with_reducible apply And.intro|intro _
    all_goals first|exact trivial|exact hcs|exact⟨hcs,he1⟩|exact⟨hcs,hf1⟩|exact⟨hcs,hd1⟩|exact he1|exact hf1|exact hd1|exact⟨hcs,hla⟩|exact hla|(exact hla _ (by assumption))|(exact fun _=>hcs)|(rename_i hd;exact nomatch (BK _ _).symm.trans hd)|exact hMs|exact hT|exact hn|(rename_i h;first|exact oI h|exact nah h)|(rename_i _ h _ g;exact sL h g)|decide|omega|(refine A0 [] ?_;simp only[↓eB,seval,go_sem,bne,A6,↓A1,h,Fa.brk])
   |ok u=>
   cases hf:Ef { q with m:=q.m.spd } (.mk 7 x0 y0 e0 f0 cd0 ar0 th0 el0 no0) v with
   |no j=>
    have h:stF (n+1) (.mk 7 x0 y0 e0 f0 cd0 ar0 th0 el0 no0) q=Fa.brk { q with m:=q.m.spd } (.mk 7 x0 y0 e0 f0 cd0 ar0 th0 el0 no0) j:=by rw[hS];unfold smF;simp only[Sm.k,Sm.x,Sm.y,Sm.e,Sm.f,Sm.cd,Sm.ar,Sm.th,Sm.el,Int.reduceEq,↓reduceIte,he,hff,hf]
    simp only[↓eB,seval,go_sem,↓A1,Option.isSome_some,Option.isSome_none,ho,h,he,hff,hf,Fa.brk,Ft,Ep,Hj,Fq,Fs,Em,En,Eo,Fa.go]
    try simp only[A3,A4]
    repeat' first|exact ck|with_reducible apply And.intro|intro _
    all_goals first|exact trivial|exact hcs|exact⟨hcs,he1⟩|exact⟨hcs,hf1⟩|exact⟨hcs,hd1⟩|exact he1|exact hf1|exact hd1|exact⟨hcs,hla⟩|exact hla|(exact hla _ (by assumption))|(exact fun _=>hcs)|(rename_i hd;exact nomatch (BK _ _).symm.trans hd)|exact hMs|exact hT|exact hn|(rename_i h;first|exact oI h|exact nah h)|(rename_i _ h _ g;exact sL h g)|decide|omega|(refine A0 [] ?_;simp only[↓eB,seval,go_sem,bne,A6,↓A1,h,Fa.brk])
   |ok k=>
    obtain⟨hi,hv0,hv1⟩:=bg hcs hf
    have hg:=WJ hi
    have hgi:=tH hv1
    have h:stF (n+1) (.mk 7 x0 y0 e0 f0 cd0 ar0 th0 el0 no0) q=Fa.go { { q with m:=q.m.spd } with m:=q.m.spd.put k v u }:=by rw[hS];unfold smF;simp only[Sm.k,Sm.x,Sm.y,Sm.e,Sm.f,Sm.cd,Sm.ar,Sm.th,Sm.el,Int.reduceEq,↓reduceIte,he,hff,hf]
    simp only[↓eB,seval,go_sem,↓A1,Option.isSome_some,Option.isSome_none,ho,h,he,hff,hf,hg,hgi,Fa.go,Ms.put,Ms.arr,sk,sq]
    try simp only[A3,A4]
    repeat' first|exact ck|with_reducible apply And.intro|intro _
    all_goals first|exact hi.1|exact hi.2|exact hv0|exact hv1|exact hcs|exact⟨hcs,he1⟩|exact⟨hcs,hf1⟩|exact⟨hcs,hd1⟩|exact he1|exact hf1|exact hd1|exact⟨hcs,hla⟩|exact hla|(exact hla _ (by assumption))|(exact fun _=>hcs)|(rename_i hd;exact nomatch (BK _ _).symm.trans hd)|exact hMs|exact hT|exact hn|(rename_i h;first|exact oI h|exact nah h)|(rename_i _ h _ g;exact sL h g)|decide|omega|(refine A0 [] ?_;simp only[↓eB,seval,go_sem,bne,A6,↓A1,h,Fa.go,Ms.put,Ms.arr])
 by_cases c8:k0=8
 ·subst c8
  obtain⟨A,hA⟩:∃A,FE (stF n) (.mk 8 x0 y0 e0 f0 cd0 ar0 th0 el0 no0) { q with m:=q.m.spd }=A:=⟨_,rfl⟩
  have h:stF (n+1) (.mk 8 x0 y0 e0 f0 cd0 ar0 th0 el0 no0) q=A:=by rw[hS];unfold smF;simp only[Sm.k,Sm.x,Sm.y,Sm.e,Sm.f,Sm.cd,Sm.ar,Sm.th,Sm.el,Int.reduceEq,↓reduceIte];exact hA
  have hAt:A.t=false:=by rw[← hA];exact zJ _ _ _
  obtain⟨b,t,r⟩:=A
  obtain rfl:t=false:=hAt
  cases b with
  |true=>
   simp only[↓eB,seval,go_sem,↓A1,Option.isSome_some,Option.isSome_none,ho,h,hA]
   try simp only[A3,A4]
   repeat' first|exact ck|with_reducible apply And.intro|intro _
   all_goals first|exact⟨hT,hMs,by omega⟩|exact hcs|exact⟨hcs,he1⟩|exact⟨hcs,hf1⟩|exact⟨hcs,hd1⟩|exact he1|exact hf1|exact hd1|exact⟨hcs,hla⟩|exact hla|(exact hla _ (by assumption))|(exact fun _=>hcs)|(rename_i hd;exact nomatch (BK _ _).symm.trans hd)|exact hMs|exact hT|exact hn|(rename_i h;first|exact oI h|exact nah h)|(rename_i _ h _ g;exact sL h g)|decide|omega|(refine A0 [] ?_;simp only[↓eB,seval,go_sem,bne,A6,↓A1,h])
  |false=>
   simp only[↓eB,seval,go_sem,↓A1,Option.isSome_some,Option.isSome_none,ho,h,hA]
   try simp only[A3,A4]
   repeat' first|exact ck|with_reducible apply And.intro|intro _
   all_goals first|exact⟨hT,hMs,by omega⟩|exact hcs|exact⟨hcs,he1⟩|exact⟨hcs,hf1⟩|exact⟨hcs,hd1⟩|exact he1|exact hf1|exact hd1|exact⟨hcs,hla⟩|exact hla|(exact hla _ (by assumption))|(exact fun _=>hcs)|(rename_i hd;exact nomatch (BK _ _).symm.trans hd)|exact hMs|exact hT|exact hn|(rename_i h;first|exact oI h|exact nah h)|(rename_i _ h _ g;exact sL h g)|decide|omega|(refine A0 [] ?_;simp only[↓eB,seval,go_sem,bne,A6,↓A1,h])
 by_cases c9:k0=9
 ·subst c9
  cases he:evF q.P q.m.spd q.vs e0 with
  |no j=>
   have h:stF (n+1) (.mk 9 x0 y0 e0 f0 cd0 ar0 th0 el0 no0) q=Fa.brk { q with m:=q.m.spd } (.mk 9 x0 y0 e0 f0 cd0 ar0 th0 el0 no0) j:=by rw[hS];unfold smF;simp only[Sm.k,Sm.x,Sm.y,Sm.e,Sm.f,Sm.cd,Sm.ar,Sm.th,Sm.el,Int.reduceEq,↓reduceIte,he]
   simp only[↓eB,seval,go_sem,↓A1,Option.isSome_some,Option.isSome_none,ho,h,he,Fa.brk,Ft,Ep,Hj,Fq,Fs,Em,En,Eo,Fa.go]
   try simp only[A3,A4]
   repeat' first|exact ck|with_reducible apply And.intro|intro _
   all_goals first|exact trivial|exact hcs|exact⟨hcs,he1⟩|exact⟨hcs,hf1⟩|exact⟨hcs,hd1⟩|exact he1|exact hf1|exact hd1|exact⟨hcs,hla⟩|exact hla|(exact hla _ (by assumption))|(exact fun _=>hcs)|(rename_i hd;exact nomatch (BK _ _).symm.trans hd)|exact hMs|exact hT|exact hn|(rename_i h;first|exact oI h|exact nah h)|(rename_i _ h _ g;exact sL h g)|decide|omega|(refine A0 [] ?_;simp only[↓eB,seval,go_sem,bne,A6,↓A1,h,Fa.brk])
  |ok v=>
   have h:stF (n+1) (.mk 9 x0 y0 e0 f0 cd0 ar0 th0 el0 no0) q=⟨false,true,{ { q with m:=q.m.spd } with ret:=v }⟩:=by rw[hS];unfold smF;simp only[Sm.k,Sm.x,Sm.y,Sm.e,Sm.f,Sm.cd,Sm.ar,Sm.th,Sm.el,Int.reduceEq,↓reduceIte,he]
   simp only[↓eB,seval,go_sem,↓A1,Option.isSome_some,Option.isSome_none,ho,h,he]
   try simp only[A3,A4]
   repeat' first|exact ck|with_reducible apply And.intro|intro _
   all_goals first|exact trivial|exact hcs|exact⟨hcs,he1⟩|exact⟨hcs,hf1⟩|exact⟨hcs,hd1⟩|exact he1|exact hf1|exact hd1|exact⟨hcs,hla⟩|exact hla|(exact hla _ (by assumption))|(exact fun _=>hcs)|(rename_i hd;exact nomatch (BK _ _).symm.trans hd)|exact hMs|exact hT|exact hn|(rename_i h;first|exact oI h|exact nah h)|(rename_i _ h _ g;exact sL h g)|decide|omega|(refine A0 [] ?_;simp only[↓eB,seval,go_sem,bne,A6,↓A1,h])
 by_cases c10:k0=10
 ·subst c10
  cases hcv:cdF q.P q.m.spd q.vs cd0 with
  |no j=>
   have h:stF (n+1) (.mk 10 x0 y0 e0 f0 cd0 ar0 th0 el0 no0) q=Fa.brk { q with m:=q.m.spd } (.mk 10 x0 y0 e0 f0 cd0 ar0 th0 el0 no0) j:=by rw[hS];unfold smF;simp only[Sm.k,Sm.x,Sm.y,Sm.e,Sm.f,Sm.cd,Sm.ar,Sm.th,Sm.el,Int.reduceEq,↓reduceIte,hcv]
   simp only[↓eB,seval,go_sem,↓A1,Option.isSome_some,Option.isSome_none,ho,h,hcv,Fa.brk,Ft,Ep,Hj,Fq,Fs,Em,En,Eo,Fa.go]
   try simp only[A3,A4]
   repeat' first|exact ck|with_reducible apply And.intro|intro _
   all_goals first|exact trivial|exact hcs|exact⟨hcs,he1⟩|exact⟨hcs,hf1⟩|exact⟨hcs,hd1⟩|exact he1|exact hf1|exact hd1|exact⟨hcs,hla⟩|exact hla|(exact hla _ (by assumption))|(exact fun _=>hcs)|(rename_i hd;exact nomatch (BK _ _).symm.trans hd)|exact hMs|exact hT|exact hn|(rename_i h;first|exact oI h|exact nah h)|(rename_i _ h _ g;exact sL h g)|decide|omega|(refine A0 [] ?_;simp only[↓eB,seval,go_sem,bne,A6,↓A1,h,Fa.brk])
  |ok v=>
  cases v with
  |true=>
   obtain⟨T,hTT⟩:∃T,blF (stF n) th0 { q with m:=q.m.spd }=T:=⟨_,rfl⟩
   have h:stF (n+1) (.mk 10 x0 y0 e0 f0 cd0 ar0 th0 el0 no0) q=T:=by rw[hS];unfold smF;simp only[Sm.k,Sm.x,Sm.y,Sm.e,Sm.f,Sm.cd,Sm.ar,Sm.th,Sm.el,Int.reduceEq,↓reduceIte,hcv];exact hTT
   obtain⟨b,t,r⟩:=T
   cases b with
   |true=>
    simp only[↓eB,seval,go_sem,↓A1,Option.isSome_some,Option.isSome_none,ho,h,hcv,hTT]
    try simp only[A3,A4]
    repeat' first|exact ck|with_reducible apply And.intro|intro _
    all_goals first|exact⟨⟨_,hth⟩,hMs,by omega⟩|exact⟨_,hth⟩|exact hcs|exact⟨hcs,he1⟩|exact⟨hcs,hf1⟩|exact⟨hcs,hd1⟩|exact he1|exact hf1|exact hd1|exact⟨hcs,hla⟩|exact hla|(exact hla _ (by assumption))|(exact fun _=>hcs)|(rename_i hd;exact nomatch (BK _ _).symm.trans hd)|exact hMs|exact hT|exact hn|(rename_i h;first|exact oI h|exact nah h)|(rename_i _ h _ g;exact sL h g)|decide|omega|(refine A0 [] ?_;simp only[↓eB,seval,go_sem,bne,A6,↓A1,h])
   |false=>
    simp only[↓eB,seval,go_sem,↓A1,Option.isSome_some,Option.isSome_none,ho,h,hcv,hTT]
    try simp only[A3,A4]
    repeat' first|exact ck|with_reducible apply And.intro|intro _
    all_goals first|exact⟨⟨_,hth⟩,hMs,by omega⟩|exact⟨_,hth⟩|exact hcs|exact⟨hcs,he1⟩|exact⟨hcs,hf1⟩|exact⟨hcs,hd1⟩|exact he1|exact hf1|exact hd1|exact⟨hcs,hla⟩|exact hla|(exact hla _ (by assumption))|(exact fun _=>hcs)|(rename_i hd;exact nomatch (BK _ _).symm.trans hd)|exact hMs|exact hT|exact hn|(rename_i h;first|exact oI h|exact nah h)|(rename_i _ h _ g;exact sL h g)|decide|omega|(refine A0 [] ?_;simp only[↓eB,seval,go_sem,bne,A6,↓A1,h])
  |false=>
   obtain⟨T,hTT⟩:∃T,blF (stF n) el0 { q with m:=q.m.spd }=T:=⟨_,rfl⟩
   have h:stF (n+1) (.mk 10 x0 y0 e0 f0 cd0 ar0 th0 el0 no0) q=T:=by rw[hS];unfold smF;simp only[Sm.k,Sm.x,Sm.y,Sm.e,Sm.f,Sm.cd,Sm.ar,Sm.th,Sm.el,Int.reduceEq,↓reduceIte,hcv];exact hTT
   obtain⟨b,t,r⟩:=T
   cases b with
   |true=>
    simp only[↓eB,seval,go_sem,↓A1,Option.isSome_some,Option.isSome_none,ho,h,hcv,hTT]
    try simp only[A3,A4]
    repeat' first|exact ck|with_reducible apply And.intro|intro _
    all_goals first|exact⟨⟨_,hel⟩,hMs,by omega⟩|exact⟨_,hel⟩|exact hcs|exact⟨hcs,he1⟩|exact⟨hcs,hf1⟩|exact⟨hcs,hd1⟩|exact he1|exact hf1|exact hd1|exact⟨hcs,hla⟩|exact hla|(exact hla _ (by assumption))|(exact fun _=>hcs)|(rename_i hd;exact nomatch (BK _ _).symm.trans hd)|exact hMs|exact hT|exact hn|(rename_i h;first|exact oI h|exact nah h)|(rename_i _ h _ g;exact sL h g)|decide|omega|(refine A0 [] ?_;simp only[↓eB,seval,go_sem,bne,A6,↓A1,h])
   |false=>
    simp only[↓eB,seval,go_sem,↓A1,Option.isSome_some,Option.isSome_none,ho,h,hcv,hTT]
    try simp only[A3,A4]
    repeat' first|exact ck|with_reducible apply And.intro|intro _
    all_goals first|exact⟨⟨_,hel⟩,hMs,by omega⟩|exact⟨_,hel⟩|exact hcs|exact⟨hcs,he1⟩|exact⟨hcs,hf1⟩|exact⟨hcs,hd1⟩|exact he1|exact hf1|exact hd1|exact⟨hcs,hla⟩|exact hla|(exact hla _ (by assumption))|(exact fun _=>hcs)|(rename_i hd;exact nomatch (BK _ _).symm.trans hd)|exact hMs|exact hT|exact hn|(rename_i h;first|exact oI h|exact nah h)|(rename_i _ h _ g;exact sL h g)|decide|omega|(refine A0 [] ?_;simp only[↓eB,seval,go_sem,bne,A6,↓A1,h])
 by_cases c12:k0=12
 ·subst c12
  cases hcv:cdF q.P q.m.spd q.vs cd0 with
  |no j=>
   have h:stF (n+1) (.mk 12 x0 y0 e0 f0 cd0 ar0 th0 el0 no0) q=Fa.brk { q with m:=q.m.spd } (.mk 12 x0 y0 e0 f0 cd0 ar0 th0 el0 no0) j:=by rw[hS];unfold smF;simp only[Sm.k,Sm.x,Sm.y,Sm.e,Sm.f,Sm.cd,Sm.ar,Sm.th,Sm.el,Int.reduceEq,↓reduceIte,hcv]
   simp only[↓eB,seval,go_sem,↓A1,Option.isSome_some,Option.isSome_none,ho,h,hcv,Fa.brk,Ft,Ep,Hj,Fq,Fs,Em,En,Eo,Fa.go]
   try simp only[A3,A4]
   repeat' first|exact ck|with_reducible apply And.intro|intro _
   all_goals first|exact trivial|exact hcs|exact⟨hcs,he1⟩|exact⟨hcs,hf1⟩|exact⟨hcs,hd1⟩|exact he1|exact hf1|exact hd1|exact⟨hcs,hla⟩|exact hla|(exact hla _ (by assumption))|(exact fun _=>hcs)|(rename_i hd;exact nomatch (BK _ _).symm.trans hd)|exact hMs|exact hT|exact hn|(rename_i h;first|exact oI h|exact nah h)|(rename_i _ h _ g;exact sL h g)|decide|omega|(refine A0 [] ?_;simp only[↓eB,seval,go_sem,bne,A6,↓A1,h,Fa.brk])
  |ok v=>
  cases v with
  |true=>
   have h:stF (n+1) (.mk 12 x0 y0 e0 f0 cd0 ar0 th0 el0 no0) q=Fa.go { q with m:=q.m.spd }:=by rw[hS];unfold smF;simp only[Sm.k,Sm.x,Sm.y,Sm.e,Sm.f,Sm.cd,Sm.ar,Sm.th,Sm.el,Int.reduceEq,↓reduceIte,hcv]
   simp only[↓eB,seval,go_sem,↓A1,Option.isSome_some,Option.isSome_none,ho,h,hcv,Fa.go]
   try simp only[A3,A4]
   repeat' first|exact ck|with_reducible apply And.intro|intro _
   all_goals first|exact trivial|exact hcs|exact⟨hcs,he1⟩|exact⟨hcs,hf1⟩|exact⟨hcs,hd1⟩|exact he1|exact hf1|exact hd1|exact⟨hcs,hla⟩|exact hla|(exact hla _ (by assumption))|(exact fun _=>hcs)|(rename_i hd;exact nomatch (BK _ _).symm.trans hd)|exact hMs|exact hT|exact hn|(rename_i h;first|exact oI h|exact nah h)|(rename_i _ h _ g;exact sL h g)|decide|omega|(refine A0 [] ?_;simp only[↓eB,seval,go_sem,bne,A6,↓A1,h,Fa.go])
  |false=>
   have h:stF (n+1) (.mk 12 x0 y0 e0 f0 cd0 ar0 th0 el0 no0) q=Fa.brk { q with m:=q.m.spd } (.mk 12 x0 y0 e0 f0 cd0 ar0 th0 el0 no0) 3:=by rw[hS];unfold smF;simp only[Sm.k,Sm.x,Sm.y,Sm.e,Sm.f,Sm.cd,Sm.ar,Sm.th,Sm.el,Int.reduceEq,↓reduceIte,hcv]
   simp only[↓eB,seval,go_sem,↓A1,Option.isSome_some,Option.isSome_none,ho,h,hcv,Fa.brk,Ft,Ep,Hj,Fq,Fs,Em,En,Eo,Fa.go]
   try simp only[A3,A4]
   repeat' first|exact ck|with_reducible apply And.intro|intro _
   all_goals first|exact trivial|exact hcs|exact⟨hcs,he1⟩|exact⟨hcs,hf1⟩|exact⟨hcs,hd1⟩|exact he1|exact hf1|exact hd1|exact⟨hcs,hla⟩|exact hla|(exact hla _ (by assumption))|(exact fun _=>hcs)|(rename_i hd;exact nomatch (BK _ _).symm.trans hd)|exact hMs|exact hT|exact hn|(rename_i h;first|exact oI h|exact nah h)|(rename_i _ h _ g;exact sL h g)|decide|omega|(refine A0 [] ?_;simp only[↓eB,seval,go_sem,bne,A6,↓A1,h,Fa.brk])
 have d0:(k0==0)=false:=by simpa using c0
 have d1:(k0==1)=false:=by simpa using c1
 have d2:(k0==2)=false:=by simpa using c2
 have d3:(k0==3)=false:=by simpa using c3
 have d4:(k0==4)=false:=by simpa using c4
 have d5:(k0==5)=false:=by simpa using c5
 have d6:(k0==6)=false:=by simpa using c6
 have d7:(k0==7)=false:=by simpa using c7
 have d8:(k0==8)=false:=by simpa using c8
 have d9:(k0==9)=false:=by simpa using c9
 have d10:(k0==10)=false:=by simpa using c10
 have d12:(k0==12)=false:=by simpa using c12
 have h:stF (n+1) (.mk k0 x0 y0 e0 f0 cd0 ar0 th0 el0 no0) q=Fa.go { q with m:=q.m.spd }:=by
  rw[hS];unfold smF;simp only[Sm.k,c0,c1,c2,c3,c4,c5,c6,c7,c8,c9,c10,c12,if_false]
 simp only[↓eB,seval,go_sem,↓A1,Option.isSome_some,Option.isSome_none,ho,h,Fa.go,d11,d0,d1,d2,d3,d4,d5,d6,d7,d8,d9,d10,d12]
 try simp only[A3,A4]
 repeat' first|exact ck|with_reducible apply And.intro|intro _
 all_goals first|exact trivial|exact hcs|exact⟨hcs,he1⟩|exact⟨hcs,hf1⟩|exact⟨hcs,hd1⟩|exact he1|exact hf1|exact hd1|exact⟨hcs,hla⟩|exact hla|(exact hla _ (by assumption))|(exact fun _=>hcs)|(rename_i hd;exact nomatch (BK _ _).symm.trans hd)|exact hMs|exact hT|exact hn|(rename_i h;first|exact oI h|exact nah h)|(rename_i _ h _ g;exact sL h g)|decide|omega|(refine A0 [] ?_;simp only[↓eB,seval,go_sem,bne,A6,↓A1,h,Fa.go])
theorem Qi (N:Nat):∀n,Kk N n
 |0=>fun p w M I lab fz xs hc=>absurd hc.2.1.u (by have:=hc.2.1.l;omega)
 |n+1=>ew N n (tF N n (Y5 N n (P4 N n (Qi N n)))) (P4 N n (Qi N n)) (lf N n (P4 N n (Qi N n)))
end Go.Proofs.Ytjnnmindcbgjhaa
