/- What a run of the document's machine keeps, plain. No conditions but those in each statement. -/
import Derived.Test.YtapedeoheilnnaaGreatMi0
import Derived.Test.YtapedeoheilnnaaGreatZr4
import Derived.Test.YtapedeoheilnnaaGreatSy28
set_option linter.all false
open Nat (le_of_not_lt)
open List (map_append)
namespace Go.Proofs.YtapedeoheilnnaaGreat
open Go Go.Sy Go.RowKit
theorem Ks{P:Prop}(h:P:=by
 simp only[AD,AE]
 refine⟨λhg=>?_,λhg=>⟨⟨rfl,λq hq=>(Option.some.inj hq).symm,by simp[BS,C.stor],by decide,by omega,by omega⟩,?_⟩⟩
 .rw[if_pos hg]at hJ
  refine A1 [.nil 2 1001 FW,.fz 1001] ?_;simp only[seval,go_sem,bne,FM,<- hJ,MM,FW,MK]
 rw[if_neg (by rw[hg];decide)]at hJ
 refine⟨(i+k,(out++[(⟨0,(s.drop i).take k,(i:Int)⟩:Tok)])),⟨by dsimp only;omega,by simp;omega,f,by dsimp only;omega,hJ⟩,by dsimp only;omega,
  BU (t:=⟨[(0,true,.one (.v (.string (bs s)))),(5,true,.one (.s 166)),(6,true,.one (.v (.int .i64 ((i+k:Nat):Int))))],[(166,.vec 0 FW ((out++[(⟨0,(s.drop i).take k,(i:Int)⟩:Tok)]).map Gd))]⟩) ?_ ?_⟩
 .refine A2 [] ?_;simp only[seval,go_sem,E2,map_append,List.flatMap_append,Gd]
 refine A2 [.mv 166 1000] ?_;simp only[seval,go_sem,E2,Nw,rxI]):P:=h
theorem UW{P:Prop}(h:P:=by
 refine⟨(i+k,(out++[(⟨1,(s.drop i).take k,(i:Int)⟩:Tok)])),⟨by dsimp only;omega,by simp;omega,f,by dsimp only;omega,hJ⟩,by dsimp only;omega,
  BU (t:=⟨[(0,true,.one (.v (.string (bs s)))),(5,true,.one (.s 227)),(6,true,.one (.v (.int .i64 ((i+k:Nat):Int))))],[(227,.vec 0 FW ((out++[(⟨1,(s.drop i).take k,(i:Int)⟩:Tok)]).map Gd))]⟩) ?_ ?_⟩
 .refine A2 [] ?_;simp only[seval,go_sem,E2,map_append,List.flatMap_append,Gd]
 refine A2 [.mv 227 1000] ?_;simp only[seval,go_sem,E2,Nw,rxI]):P:=h
theorem Xf{P:Prop}(h:P:=by refine A1 [.nil 2 1001 FW,.fz 1001] ?_;simp only[seval,go_sem,bne,FM,<- hJ,MM,FW,MK]):P:=h
theorem AAC{P:Prop}(h:P:=by
 refine⟨(i+k,out),⟨by dsimp only;omega,by dsimp only;omega,f,by dsimp only;omega,hJ⟩,by dsimp only;omega,?_⟩
 refine A2 [] ?_;simp only[seval,go_sem,E2,rxI]):P:=h
variable{st:Sm->Rz->Rz}{q:Rz}
def Fz(m:Ms):Prop:=m.e=3∨0<=m.fuel
theorem Fz.on{m:Ms}(h:Fz m)(ho:m.on=true):0<=m.fuel:=by
 rcases h with h|h
 .have h2:m.e=0:=eq_of_beq (show (m.e==0)=true from ho)
  omega
 exact h
structure Kr(m r:Ms):Prop where
 c:r.cs.length=m.cs.length
 a:r.ar.map naL=m.ar.map naL
 k:Fz r
 u:r.fuel<=m.fuel
structure Kf(q r:Rz):Prop where
 P:r.P=q.P
 f:r.f=q.f
 m:Kr q.m r.m
theorem Kr.tr{m r t:Ms}(h:Kr m r)(k:Kr r t):Kr m t:=⟨k.c.trans h.c,k.a.trans h.a,k.k,Int.le_trans k.u h.u⟩
theorem Kf.tr{r t:Rz}(h:Kf q r)(k:Kf r t):Kf q t:=⟨k.P.trans h.P,k.f.trans h.f,h.m.tr k.m⟩
theorem Kr.refl{m:Ms}(h:Fz m):Kr m m:=⟨rfl,rfl,h,Int.le_refl _⟩
theorem Kf.refl(h:Fz q.m):Kf q q:=⟨rfl,rfl,Kr.refl h⟩
theorem Kz.kr{m r:Ms}(h:Kz m r)(h0:0<=m.fuel):Kr m r:=⟨by rw[h.c],by rw[h.a],.inr (by rw[h.f];exact h0),by rw[h.f];exact Int.le_refl _⟩
theorem WV(m:Ms)(h:m.on=true)(h0:0<=m.fuel)(h1:m.fuel<=1000000000):Kr m m.zspd/\(m.zspd.on=true->1<=m.fuel/\m.zspd.fuel=m.fuel-1):=by
 have hw:w64i (m.fuel-1)=m.fuel-1:=by unfold w64i;rw[wrap_i64 (by omega) (by omega)]
 have hf:m.zspd.fuel=m.fuel-1:=hw
 by_cases h3:m.fuel<1
 .have he:m.zspd.e=3:=if_pos ⟨h,h3⟩
  exact⟨⟨rfl,rfl,.inl he,by omega⟩,λh2=>by
   unfold Ms.on at h2
   rw[he]at h2;exact absurd h2 (by decide)⟩
 exact⟨⟨rfl,rfl,.inr (by omega),by omega⟩,λ_=>⟨by omega,hf⟩⟩
theorem ZY(q:Rz)(al:Int)(s:List UInt8)(v:Int)(h0:Fz q.m):Kf q (seZ q al s v):=by
 unfold seZ
 split
 .exact Kf.refl h0
 split
 .exact⟨rfl,rfl,Kr.refl h0⟩
 split
 .refine⟨rfl,rfl,⟨?_,rfl,h0,Int.le_refl _⟩⟩
  show (q.m.cs.set _ _).length=_
  rw[List.length_set]
 rename_i ho _ _ _
 have ho:q.m.on=true:=by simpa using ho
 exact⟨rfl,rfl,(L6 _ _ _ _).kr (h0.on ho)⟩
theorem ZZ(q:Rz)(al:Int)(s:List UInt8):Kz q.m (thZ q al s).2:=by
 unfold thZ
 exact AA9
theorem Za(q:Rz)(al:Int)(s:List UInt8)(i:Int):Kz q.m (idZ q al s i).2:=by
 unfold idZ
 exact AA9
theorem iL(nm:List UInt8)(al:Int)(is:Zi)(ps:Zp):∀(l:List Ar) (m:Ms),Kz m (agZ nm al is ps l m).2
 |[],m=>Kz.refl m
 |a::l,m=>by
  simp only[agZ]
  split
  .exact iL nm al is ps l m
  exact(Ho nm al is a.e m).tr (iL nm al is ps l _)
theorem cE(nm:List UInt8)(al:Int)(is:Zi)(ps:Zp):∀(l:List Ar) (m:Ms),(agZ nm al is ps l m).1.length=l.length
 |[],m=>rfl
 |a::l,m=>by
  simp only[agZ]
  split
  .simp only[List.length_cons,cE nm al is ps l m]
  simp only[List.length_cons,cE nm al is ps l _]
def KrS(st:Sm->Rz->Rz):Prop:=∀s q,q.m.on=true->0<=q.m.fuel->q.m.fuel<=1000000000->Kf q (st s q)
theorem UG(h:KrS st):∀(l:List Sm) (q:Rz),Fz q.m->q.m.fuel<=1000000000->Kf q (blZ st l q)
 |[],q,h0,_=>Kf.refl h0
 |s::l,q,h0,h1=>by
  simp only[blZ]
  split
  .rename_i ho
   have k:=h s q ho (h0.on ho) h1
   exact k.tr (UG h l _ k.m.k (by have:=k.m.u;omega))
  exact Kf.refl h0
theorem sE(h:KrS st)(P:Pg)(g:Fn)(a:List Va)(m:Ms)(h0:Fz m)(h1:m.fuel<=1000000000):Kr m (enZ st P g a m).2:=by
 unfold enZ
 split
 .exact Kr.refl h0
 split
 .exact⟨rfl,rfl,.inl rfl,Int.le_refl _⟩
 have k:=(UG h g.body ⟨P,{ m with deep:=w64i (m.deep+1) },g,isP g.ps a (isL g.ls []),psP' g.ps a (psL' g.ls [])⟩ h0 h1).m
 dsimp only
 split
 .rename_i he
  have he:=eq_of_beq he
  refine⟨k.c,k.a,.inr ?_,k.u⟩
  rcases k.k with h|h
  .omega
  exact h
 exact⟨k.c,k.a,k.k,k.u⟩
theorem A6h(h:KrS st)(s:Sm)(q:Rz)(h0:0<=q.m.fuel)(h1:q.m.fuel<=1000000000):Kf q (caZ st s q):=by
 have ka:=iL q.f.name s.no q.is q.ps s.ar q.m
 have kr:=ka.kr h0
 have hf:∀nm al k,Kr q.m ((agZ q.f.name s.no q.is q.ps s.ar q.m).2.zfail nm al k):=λnm al k=>(ka.tr (L6 _ _ _ _)).kr h0
 unfold caZ
 dsimp only
 split
 .exact⟨rfl,rfl,kr⟩
 split
 .exact⟨rfl,rfl,hf _ _ _⟩
 rename_i g _
 split
 .exact⟨rfl,rfl,hf _ _ _⟩
 have ke:=sE h q.P g (agZ q.f.name s.no q.is q.ps s.ar q.m).1 _ kr.k (by rw[ka.f];exact h1)
 have k2:=kr.tr ke
 split
 .exact⟨rfl,rfl,k2⟩
 exact Kf.tr (r:={ q with m:=(enZ st q.P g (agZ q.f.name s.no q.is q.ps s.ar q.m).1 (agZ q.f.name s.no q.is q.ps s.ar q.m).2).2 }) ⟨rfl,rfl,k2⟩ (ZY _ _ _ _ k2.k)
theorem sF{bl:Rz->Rz}{s:Sm}(h:∀q,Fz q.m->q.m.fuel<=1000000000->Kf q (bl q)):∀(k:Nat) (q:Rz),q.m.on=true->0<=q.m.fuel->q.m.fuel<=1000000000->Kf q (lpZ bl s k q)
 |0,q,_,h0,_=>Kf.refl (.inr h0)
 |k+1,q,ho,h0,h1=>by
  obtain⟨k1,k2⟩:=WV q.m ho h0 h1
  simp only[lpZ]
  split
  .exact⟨rfl,rfl,k1⟩
  rename_i hn
  have hn:q.m.zspd.on=true:=by simpa using hn
  obtain⟨k3,k4⟩:=k2 hn
  have kc:=(NF q.f.name s.no q.is q.ps s.cd q.m.zspd).kr (by omega)
  have k5:Kf q { q with m:=(cdZ q.f.name s.no q.is q.ps s.cd q.m.zspd).2 }:=⟨rfl,rfl,k1.tr kc⟩
  split
  .exact k5
  split
  .exact k5
  have kb:=h { q with m:=(cdZ q.f.name s.no q.is q.ps s.cd q.m.zspd).2 } kc.k (by have:=k5.m.u;omega)
  split
  .exact k5.tr kb
  rename_i hb
  have hb:=eq_true_of_ne_false hb
  have k6:=k5.tr kb
  exact k6.tr (sF h k _ hb (k6.m.k.on hb) (by have:=k6.m.u;omega))
theorem F1{c:Prop}[Decidable c]{a b:Rz}(h1:Kf q a)(h2:Kf q b):Kf q (if c then a else b):=by grind
theorem qG(m:Ms)(i j v:Int)(h:Fz m):Kr m (m.put i j v):=⟨rfl,de m i j v,h,Int.le_refl _⟩
theorem qH(m:Ms)(i v:Int)(h:Fz m):Kr m (m.set i v):=⟨by show (m.cs.set _ _).length=_;rw[List.length_set],rfl,h,Int.le_refl _⟩
theorem A6i(h:KrS st)(s:Sm)(q:Rz)(ho:q.m.on=true)(h0:0<=q.m.fuel)(h1:q.m.fuel<=1000000000):Kf q (smZ st s q):=by
 have hz:Fz q.m:=.inr h0
 have hm:∀{m:Ms},Kr q.m m->Kf q { q with m:=m }:=λk=>⟨rfl,rfl,k⟩
 have hq:∀{m:Ms} {r:Rz},Kr q.m m->Kf { q with m:=m } r->Kf q r:=λk k2=>(hm k).tr k2
 have ke:∀e,Kz q.m (evZ q.f.name s.no q.is e q.m).2:=λe=>Ho _ _ _ _ _
 unfold smZ
 dsimp only
 refine F1 ?_ (F1 ?_ (F1 ?_ (F1 ?_ (F1 ?_ (F1 ?_ (F1 ?_ (F1 ?_ (F1 ?_ (F1 ?_ (F1 ?_ (F1 ?_ ?_)))))))))))
 .have k:=(ke s.e).kr h0
  exact hq k (ZY _ _ _ _ k.k)
 .exact F1 (hm ((L6 _ _ _ _).kr h0)) ⟨rfl,rfl,Kr.refl hz⟩
 .exact⟨rfl,rfl,Kr.refl hz⟩
 .exact⟨rfl,rfl,Kr.refl hz⟩
 .have k:=(ZZ q s.no s.y).kr h0
  exact F1 (hq k (ZY _ _ _ _ k.k)) (hm k)
 .have k:=(ke s.e).tr (ZZ { q with m:=(evZ q.f.name s.no q.is s.e q.m).2 } s.no s.x)
  have k:=k.kr h0
  exact F1 (hm (k.tr (qH _ _ _ k.k))) (hm k)
 .have k:=(ke s.e).tr (Za { q with m:=(evZ q.f.name s.no q.is s.e q.m).2 } s.no s.y (evZ q.f.name s.no q.is s.e q.m).1)
  have k:=k.kr h0
  exact F1 (hq k (ZY _ _ _ _ k.k)) (hm k)
 .have k:=((ke s.e).tr (Ho q.f.name s.no q.is s.f _)).tr (Za { q with m:=(evZ q.f.name s.no q.is s.f (evZ q.f.name s.no q.is s.e q.m).2).2 } s.no s.y (evZ q.f.name s.no q.is s.e q.m).1)
  have k:=k.kr h0
  exact F1 (hm (k.tr (qG _ _ _ _ k.k))) (hm k)
 .exact A6h h s q h0 h1
 .have k:=(ke s.e).kr h0
  exact F1 (hm ⟨k.c,k.a,.inr (by show 0<=(evZ q.f.name s.no q.is s.e q.m).2.fuel;rw[(ke s.e).f];exact h0),k.u⟩) (hm k)
 .have kc:=(NF q.f.name s.no q.is q.ps s.cd q.m).kr h0
  have hb:∀l,Kf q (blZ st l { q with m:=(cdZ q.f.name s.no q.is q.ps s.cd q.m).2 }):=λl=>hq kc (UG h l _ kc.k (by have:=kc.u;show (cdZ q.f.name s.no q.is q.ps s.cd q.m).2.fuel<=_;omega))
  exact F1 (hm kc) (F1 (hb _) (hb _))
 .have kc:=NF q.f.name s.no q.is q.ps s.cd q.m
  exact F1 (hm (kc.kr h0)) (hm ((kc.tr (L6 _ _ _ _)).kr h0))
 exact Kf.refl hz
theorem UH:∀n,KrS (stZ n)
 |0=>λs q _ h0 _=>Kf.refl (.inr h0)
 |n+1=>λs q ho h0 h1=>by
  simp only[stZ]
  split
  .exact sF (λq h2 h3=>UG (UH n) s.th q h2 h3) (n+1) q ho h0 h1
  obtain⟨k1,k2⟩:=WV q.m ho h0 h1
  split
  .exact⟨rfl,rfl,k1⟩
  rename_i hn
  have hn:q.m.zspd.on=true:=by simpa using hn
  obtain⟨k3,k4⟩:=k2 hn
  exact(⟨rfl,rfl,k1⟩:Kf q { q with m:=q.m.zspd }).tr (A6i (UH n) s _ hn (by show 0<=q.m.zspd.fuel;omega) (by show q.m.zspd.fuel<=_;omega))
structure okZ(N n:Nat)(P:Pg)(m:Ms):Prop where
 p:okPg N P
 r:∀f∈P.fs,∃k,bkR k f.body
 c:m.cs.length<=1000000
 a:m.ar.length<=1000000
 l:∀a∈m.ar,a.l.length<=1000000000
 k:Fz m
 u:m.fuel<n
theorem A6j{m r:List Na}(h:r.map naL=m.map naL)(hm:∀a∈m,a.l.length<=1000000000):∀a∈r,a.l.length<=1000000000:=λa ha=>by
 have h1:naL a∈r.map naL:=List.mem_map_of_mem ha
 rw[h]at h1
 obtain⟨b,hb,e⟩:=List.mem_map.1 h1
 have:=hm b hb
 show naL a<=_
 rw[<- e];exact this
theorem okZ.kr{N n n':Nat}{P:Pg}{m r:Ms}(h:okZ N n P m)(k:Kr m r)(hu:r.fuel<n'):okZ N n' P r:=
 ⟨h.p,h.r,by rw[k.c];exact h.c,by have:=congrArg List.length k.a;rw[List.length_map,List.length_map]at this;rw[this];exact h.a,A6j k.a h.l,k.k,hu⟩
theorem okZ.kz{N n:Nat}{P:Pg}{m r:Ms}(h:okZ N n P m)(k:Kz m r):r.cs.length<=1000000/\r.ar.length<=1000000/\∀a∈r.ar,a.l.length<=1000000000:=⟨by rw[k.c];exact h.c,by rw[k.a];exact h.a,by rw[k.a];exact h.l⟩
abbrev fV(b:Int):Prop:=True
abbrev FL(b:Int):SV:=SV.one (.v (.bool (M3 b)))
theorem iy:Ca Tryz.prog 75 (acS (cInt .u8) ac0) (λp:(Int×Unit)=>fV p.1) (λp:(Int×Unit)=>FL p.1):=by
 rintro ⟨b,_u⟩ w fz xs hc hfz hl hx
 refine Bg Tryz.func75 rfl w fz [] [] (acS (cInt .u8) ac0) (λp:(Int×Unit)=>FL p.1) _ xs hfz hl hx (jN rfl) ?_
 clear hx hl hfz xs
 simp only[Tryz.f75]
 simp only[seval,go_sem]
 try simp only[AD,AE]
 repeat' first|exact ck|with_reducible apply And.intro|intro _
 all_goals try simp only[bne,Bool.not_eq_true',Bool.not_eq_false',Bool.not_not] at*
 all_goals first
  |(refine A1 [] ?_;simp only[seval,go_sem,bne,FL,M3];first|done|(simp only[*,if_true,if_false,jB,Bool.true_or,Bool.or_true,Bool.false_or,Bool.or_false,Bool.and_false,Bool.false_and,Bool.true_and,Bool.and_true,Bool.not_true,Bool.not_false,Bool.or_self,Bool.and_self,Int.reduceEq,Int.reduceNeg,Nat.reduceEqDiff,reduceCtorEq,MI,MJ,Gt,Hv,and_self,↓reduceIte];done)|(simp_all;done))
  |omega
  |(simp only[decide_eq_true_eq,decide_eq_false_iff_not]at *;omega)
  |(simp_all;done)
  |(simp_all;omega)
  |trace_state
theorem KF8{p:Prop}(h:p:=by intro p;first|rfl|simp[SV.names,C.names]):p:=h
noncomputable def Eg{X:Ctx}{w0:World}:Sy.Spec Tryz.prog X w0:=Dq 75 Tryz.call75 (acS (cInt .u8) ac0) _ _ KF8 iy
abbrev iz(b:Int):Prop:=True
abbrev G8(b:Int):SV:=SV.one (.v (.bool (F9 b)))
theorem nE:Ca Tryz.prog 76 (acS (cInt .u8) ac0) (λp:(Int×Unit)=>iz p.1) (λp:(Int×Unit)=>G8 p.1):=by
 rintro ⟨b,_u⟩ w fz xs hc hfz hl hx
 refine Bg Tryz.func76 rfl w fz [] [] (acS (cInt .u8) ac0) (λp:(Int×Unit)=>G8 p.1) _ xs hfz hl hx (jN rfl) ?_
 clear hx hl hfz xs
 simp only[Tryz.f76]
 simp only[seval,go_sem]
 try simp only[AD,AE]
 repeat' first|exact ck|with_reducible apply And.intro|intro _
 all_goals try simp only[bne,Bool.not_eq_true',Bool.not_eq_false',Bool.not_not] at*
 all_goals first
  |(refine A1 [] ?_;simp only[seval,go_sem,bne,G8,F9];first|done|(simp only[*,if_true,if_false,jB,Bool.true_or,Bool.or_true,Bool.false_or,Bool.or_false,Bool.and_false,Bool.false_and,Bool.true_and,Bool.and_true,Bool.not_true,Bool.not_false,Bool.or_self,Bool.and_self,Int.reduceEq,Int.reduceNeg,Nat.reduceEqDiff,reduceCtorEq,MI,MJ,Gt,Hv,and_self,↓reduceIte];done)|(simp_all;done))
  |omega
  |(simp only[decide_eq_true_eq,decide_eq_false_iff_not]at *;omega)
  |(simp_all;done)
  |(simp_all;omega)
  |trace_state
noncomputable def FC{X:Ctx}{w0:World}:Sy.Spec Tryz.prog X w0:=Dq 76 Tryz.call76 (acS (cInt .u8) ac0) _ _ KF8 nE
abbrev Ws(s:List UInt8)(c:Int):Prop:=E1 s
abbrev NS(s:List UInt8)(c:Int):SV:=SV.one (.v (.bool (Oh s c)))
theorem yj:Ca Tryz.prog 77 (acS (cStr) (acS (cInt .u8) ac0)) (λp:(List UInt8×(Int×Unit))=>Ws p.1 p.2.1) (λp:(List UInt8×(Int×Unit))=>NS p.1 p.2.1):=by
 rintro ⟨s,c,_u⟩ w fz xs hc hfz hl hx
 refine Bg Tryz.func77 rfl w fz [] [] (acS (cStr) (acS (cInt .u8) ac0)) (λp:(List UInt8×(Int×Unit))=>NS p.1 p.2.1) _ xs hfz hl hx (jN rfl) ?_
 clear hx hl hfz xs
 simp only[Tryz.f77]
 simp only[seval,go_sem]
 have hs:s.length<=4294967296:=hc
 refine AC (Y:=Nat) (λi=>i<=s.length/\Oh (s.drop i) c=Oh s c)
  (λi=>⟨[(0,true,.one (.v (.string (bs s)))),(1,true,.one (.v (.int .u8 c))),(5,true,.one (.v (.int .i64 (i:Int))))],[]⟩)
  (λi=>s.length-i) 0 ⟨Nat.zero_le _,by simp⟩ ?_ ?_
 .exact N4
 rintro i ⟨hi,hJ⟩
 refine AP [] [] _ _ _ ?_
 by_cases hlt:i<s.length
 .have h1:=Ah hlt
  have h2:=GU hlt
  have h3:=FH hi hs
  rw[xH hlt]at hJ
  simp only[seval,go_sem,h1,h2,h3]
  simp only[AD,AE]
  refine⟨λhb=>?_,λhb=>⟨i+1,⟨hlt,?_⟩,by omega,?_⟩⟩
  .rw[hb,Bool.true_or]at hJ
   refine A1 [] ?_;simp only[seval,go_sem,bne,NS,<- hJ]
  .rw[hb,Bool.false_or]at hJ;exact hJ
  exact N4
 have h1:=Ai (le_of_not_lt hlt)
 rw[List.drop_eq_nil_of_le (le_of_not_lt hlt)]at hJ
 have hJ':Oh s c=false:=hJ.symm
 simp only[seval,go_sem,h1]
 refine A1 [] ?_;simp only[seval,go_sem,bne,NS,hJ']
noncomputable def Gn{X:Ctx}{w0:World}:Sy.Spec Tryz.prog X w0:=Dq 77 Tryz.call77 (acS (cStr) (acS (cInt .u8) ac0)) _ _ KF8 yj
abbrev fW(s:List UInt8):Prop:=E1 s
abbrev FM(s:List UInt8):SV:=MM (rxT s)
set_option maxRecDepth 20000 in set_option maxHeartbeats 4000000 in
theorem j9:Ca Tryz.prog 56 (acS (cStr) ac0) (λp:(List UInt8×Unit)=>fW p.1) (λp:(List UInt8×Unit)=>FM p.1):=by
 rintro ⟨s,_u⟩ w fz xs hc hfz hl hx
 refine Bg Tryz.func56 rfl w fz [Eg,FC,Gn] [] (acS (cStr) ac0) (λp:(List UInt8×Unit)=>FM p.1) _ xs hfz hl hx (jN rfl) ?_
 clear hx hl hfz xs
 simp only[Tryz.f56]
 simp only[seval,go_sem,Eg,FC,Gn,FL,G8,NS,Ws]
 simp only[AD,AE]
 refine⟨λh=>?_,λh=>?_⟩
 .have hR:rxT s=([],0,53):=by unfold rxT;rw[if_pos h]
  refine A1 [.nil 2 1000 FW,.fz 1000] ?_;simp only[seval,go_sem,bne,FM,hR,MM,FW,MK]
 have hR:rxT s=rxF s s.length 0 []:=by unfold rxT;rw[if_neg (by rw[h];decide)]
 have hs:s.length<=4096:=by simp at h;omega
 refine AC (Y:=Nat×List Tok) (λy=>rxJ s y.1 y.2) (λy=>rxI s y.1 y.2) (λy=>s.length-y.1) (0,[]) ⟨Nat.zero_le _,Nat.le_refl _,s.length,by dsimp only;omega,hR.symm⟩ ?_ ?_
 .refine A2 [.nil 5 1000 FW] ?_;simp only[seval,go_sem,FW]
 rintro ⟨i,out⟩ ⟨hi,ho,f,hf,hJ⟩
 simp only at hi ho hf hJ
 refine AP [Eg,FC,Gn] [] _ _ _ ?_
 by_cases hlt:i<s.length
 .have h1:=Ah hlt
  have h2:=GU hlt
  have h3:=FH hi (n:=s.length) (by omega)
  have h3':=Kl hlt
  have h4:((i:Int)<=((i+1:Nat):Int))=True:=Kl (by omega)
  obtain⟨f,rfl⟩:∃g,f=g+1:=⟨f-1,by omega⟩
  simp only[rxF]at hJ
  rw[if_neg (Nat.not_le.2 hlt)]at hJ
  have h5:E1 WQ:=by decide
  obtain⟨z6,q1,q3⟩:∃z6,decide (((i+2:Nat):Int)<=(s.length:Int))=z6/\(z6=true->i+2<=s.length):=⟨_,rfl,λh=>by simp at h;omega⟩
  have q2:IntKind.i64.wrap ((i:Int)+2)=((i+2:Nat):Int):=by rw[wrap_i64 (by omega) (by omega)];rfl
  have q4:((i:Int)<=((i+2:Nat):Int))=True:=Kl (by omega)
  have q6:(i+2)-i=2:=by omega
  have q7:(i+1)-i=1:=by omega
  have q8:z6=true->((i+2:Nat):Int)<=(s.length:Int):=λh=>by have:=q3 h;omega
  simp only[seval,go_sem,h1,h2,h3,h3',h4,h5,q1,q2,q4,q6,q7,Eg,FC,Gn,FL,G8,NS,Ws]
  simp only[AD,AE]
  refine⟨λhb=>?_,λhb=>⟨λhc=>?_,λhc=>⟨λhl=>?_,λhl=>⟨λhd=>?_,λhd=>?_⟩⟩⟩⟩
  .
   rw[if_pos (show blB (chI s i)=true from hb)]at hJ
   refine⟨(i+1,out),⟨hlt,by dsimp only;omega,f,by dsimp only;omega,hJ⟩,by dsimp only;omega,?_⟩
   refine A2 [] ?_;simp only[seval,go_sem,E2,rxI]
  .
   rw[if_neg (show ¬blB (chI s i)=true by show ¬(_||_||_||_)=true;rw[hb];decide),if_pos hc]at hJ
   have hk1:=Ji nlB hlt
   have hc2:((s.getD i 0).toNat:Int)=35:=beq_iff_eq.1 hc
   rw[if_pos (show nlB _=true by show (!(((s.getD i 0).toNat:Int)==10))=true;rw[hc2];rfl)]at hk1
   have hk2:=Of nlB (s.drop i)
   simp only[List.length_drop]at hk2
   obtain⟨k,hk⟩:∃k,Dr nlB (s.drop i)=k:=⟨_,rfl⟩
   rw[hk]at hJ hk1 hk2
   refine AC (Y:=Nat) (λj=>i<=j/\j<=s.length/\j+Dr nlB (s.drop j)=i+k) (λj=>rxI s j out) (λj=>s.length-j) i ⟨Nat.le_refl _,hi,by rw[hk]⟩ ?_ ?_
   .refine A2 [] ?_;simp only[seval,go_sem,E2,rxI]
   rintro j ⟨hj1,hj2,hj3⟩
   refine AP [Eg,FC,Gn] [] _ _ _ ?_
   by_cases hjl:j<s.length
   .have m1:=Ah hjl
    have m2:=GU hjl
    have m3:=FH hj2 (n:=s.length) (by omega)
    rw[Ji _ hjl]at hj3
    simp only[seval,go_sem,m1,m2,m3]
    simp only[AD,AE]
    refine⟨λhq=>?_,λhq=>?_⟩
    .rw[if_pos (show nlB _=true from hq)]at hj3
     refine⟨j+1,⟨by omega,hjl,by omega⟩,by omega,?_⟩
     refine A2 [] ?_;simp only[seval,go_sem,E2,rxI]
    rw[if_neg (show ¬nlB _=true by show ¬(!(_==_))=true;rw[show (!(((s.getD j 0).toNat:Int)==10))=false from hq];decide)]at hj3
    obtain rfl:j=i+k:=by omega
    exact AAC
   have m1:=Ai (le_of_not_lt hjl)
   rw[Ss _ (le_of_not_lt hjl)]at hj3
   obtain rfl:j=i+k:=by omega
   simp only[seval,go_sem,m1]
   exact AAC
  .
   rw[if_neg (show ¬blB (chI s i)=true by show ¬(_||_||_||_)=true;rw[hb];decide),if_neg (by show ¬(_==_)=true;rw[hc];decide),if_pos hl]at hJ
   have hk1:=Ji idB hlt
   rw[if_pos (show idB _=true by show (M3 _||F9 _)=true;rw[hl];rfl)]at hk1
   have hk2:=Of idB (s.drop i)
   simp only[List.length_drop]at hk2
   obtain⟨k,hk⟩:∃k,Dr idB (s.drop i)=k:=⟨_,rfl⟩
   rw[hk]at hJ hk1 hk2
   refine AC (Y:=Nat) (λj=>i<=j/\j<=s.length/\j+Dr idB (s.drop j)=i+k) (λj=>⟨[(0,true,.one (.v (.string (bs s)))),(5,true,.one (.s 1000)),(6,true,.one (.v (.int .i64 (j:Int)))),(8,true,.one (.v (.int .i64 (i:Int))))],[(1000,.vec 0 FW (out.map Gd))]⟩) (λj=>s.length-j) i ⟨Nat.le_refl _,hi,by rw[hk]⟩ ?_ ?_
   .refine A2 [] ?_;simp only[seval,go_sem,E2]
   rintro j ⟨hj1,hj2,hj3⟩
   refine AP [Eg,FC,Gn] [] _ _ _ ?_
   have e1:IntKind.i64.wrap (((i+k:Nat):Int)-(i:Int))=(k:Int):=by rw[wrap_i64 (by omega) (by omega)];omega
   have e2:(i+k)-i=k:=by omega
   have e3:((i:Int)<=((i+k:Nat):Int))=True:=Kl (by omega)
   have e4:(((i+k:Nat):Int)<=(s.length:Int))=True:=Kl (by omega)
   by_cases hjl:j<s.length
   .have m1:=Ah hjl
    have m2:=GU hjl
    have m3:=FH hj2 (n:=s.length) (by omega)
    rw[Ji _ hjl]at hj3
    cases hq:idB (chI s j) with
    |true=>
     rw[if_pos hq]at hj3
     have hq':(M3 ((s.getD j 0).toNat:Int)||F9 ((s.getD j 0).toNat:Int))=true:=hq
     simp only[seval,go_sem,m1,m2,m3,hq',Eg,FC,Gn,FL,G8]
     refine⟨j+1,⟨by omega,hjl,by omega⟩,by omega,?_⟩
     refine A2 [] ?_;simp only[seval,go_sem,E2]
    |false=>
    rw[if_neg (by rw[hq];decide)]at hj3
    obtain rfl:j=i+k:=by omega
    have hq':(M3 ((s.getD (i+k) 0).toNat:Int)||F9 ((s.getD (i+k) 0).toNat:Int))=false:=hq
    simp only[seval,go_sem,m1,m2,m3,hq',e1,e2,e3,e4,Eg,FC,Gn,FL,G8]
    exact Ks
   have m1:=Ai (le_of_not_lt hjl)
   rw[Ss _ (le_of_not_lt hjl)]at hj3
   obtain rfl:j=i+k:=by omega
   simp only[seval,go_sem,m1,e1,e2,e3,e4,Eg,FC,Gn,FL,G8]
   exact Ks
  .
   rw[if_neg (show ¬blB (chI s i)=true by show ¬(_||_||_||_)=true;rw[hb];decide),if_neg (by show ¬(_==_)=true;rw[hc];decide),if_neg (by rw[show M3 (chI s i)=false from hl];decide),if_pos hd]at hJ
   have hk1:=Ji F9 hlt
   rw[if_pos hd]at hk1
   have hk2:=Of F9 (s.drop i)
   simp only[List.length_drop]at hk2
   obtain⟨k,hk⟩:∃k,Dr F9 (s.drop i)=k:=⟨_,rfl⟩
   rw[hk]at hJ hk1 hk2
   refine AC (Y:=Nat×Int×Bool) (λy=>i<=y.1/\y.1<=s.length/\y.1+Dr F9 (s.drop y.1)=i+k/\dgF (s.drop y.1) y.2.1 y.2.2=dgF (s.drop i) 0 false) (λy=>⟨[(0,true,.one (.v (.string (bs s)))),(5,true,.one (.s 1000)),(6,true,.one (.v (.int .i64 (y.1:Int)))),(7,true,.one (.v (.int .u8 (chI s i)))),(8,true,.one (.v (.int .i64 (i:Int)))),(9,true,.one (.v (.int .u64 y.2.1))),(10,true,.one (.v (.bool y.2.2)))],[(1000,.vec 0 FW (out.map Gd))]⟩) (λy=>s.length-y.1) (i,0,false) ⟨Nat.le_refl _,hi,by dsimp only;rw[hk],rfl⟩ ?_ ?_
   .refine A2 [] ?_;simp only[seval,go_sem,E2,chI]
   rintro ⟨j,n,g⟩ ⟨hj1,hj2,hj3,hj4⟩
   simp only at hj1 hj2 hj3 hj4
   refine AP [Eg,FC,Gn] [] _ _ _ ?_
   have e1:IntKind.i64.wrap (((i+k:Nat):Int)-(i:Int))=(k:Int):=by rw[wrap_i64 (by omega) (by omega)];omega
   have e2:(i+k)-i=k:=by omega
   have e3:((i:Int)<=((i+k:Nat):Int))=True:=Kl (by omega)
   have e4:(((i+k:Nat):Int)<=(s.length:Int))=True:=Kl (by omega)
   by_cases hjl:j<s.length
   .have m1:=Ah hjl
    have m2:=GU hjl
    have m3:=FH hj2 (n:=s.length) (by omega)
    rw[Ji _ hjl]at hj3
    rw[A24 hjl]at hj4
    cases hq:F9 (chI s j) with
    |true=>
     rw[if_pos hq]at hj3 hj4
     have hq':F9 ((s.getD j 0).toNat:Int)=true:=hq
     simp only[seval,go_sem,m1,m2,m3,hq',Eg,FC,Gn,FL,G8]
     simp only[AD,AE]
     refine⟨λhg=>?_,λhg=>?_⟩
     .rw[if_pos hg]at hj4
      refine⟨(j+1,n,true),⟨by dsimp only;omega,hjl,by dsimp only;omega,hj4⟩,by dsimp only;omega,?_⟩
      refine A2 [] ?_;simp only[seval,go_sem,E2]
     rw[if_neg (by rw[hg];decide)]at hj4
     refine⟨(j+1,IntKind.u64.wrap (IntKind.u64.wrap (10*n)+IntKind.u64.wrap (IntKind.u8.wrap (chI s j-48))),g),⟨by dsimp only;omega,hjl,by dsimp only;omega,hj4⟩,by dsimp only;omega,?_⟩
     refine A2 [] ?_;simp only[seval,go_sem,E2,chI]
    |false=>
    rw[if_neg (by rw[hq];decide)]at hj3 hj4
    obtain rfl:j=i+k:=by omega
    have hq':F9 ((s.getD (i+k) 0).toNat:Int)=false:=hq
    simp only[seval,go_sem,m1,m2,m3,hq',e1,e2,e3,e4,Eg,FC,Gn,FL,G8]
    have hG:Y8 (s.drop i)=(g||decide (9223372036854775807<n)):=by unfold Y8;rw[<- hj4]
    rw[hG]at hJ
    simp only[AD,AE]
    refine⟨λhg=>?_,λhg=>?_⟩
    .rw[if_pos hg]at hJ
     exact Xf
    rw[if_neg (by rw[hg];decide)]at hJ
    refine⟨λhz=>⟨hz,λhz2=>by rw[hz,hz2];rfl⟩,λh5=>?_,λh5=>⟨⟨rfl,λq hq=>(Option.some.inj hq).symm,by simp[BS,C.stor],by decide,by omega,by omega⟩,?_⟩⟩
    .rw[if_pos (by rw[m1];simp only[Bool.true_and];exact h5)]at hJ
     exact Xf
    rw[if_neg (by rw[m1];simp only[Bool.true_and];rw[show _=false from h5];decide)]at hJ
    exact UW
   have m1:=Ai (le_of_not_lt hjl)
   rw[Ss _ (le_of_not_lt hjl)]at hj3
   rw[xI (le_of_not_lt hjl)]at hj4
   obtain rfl:j=i+k:=by omega
   simp only[seval,go_sem,m1,e1,e2,e3,e4,Eg,FC,Gn,FL,G8]
   have hG:Y8 (s.drop i)=(g||decide (9223372036854775807<n)):=by unfold Y8;rw[<- hj4]
   rw[hG]at hJ
   simp only[AD,AE]
   refine⟨λhg=>?_,λhg=>?_⟩
   .rw[if_pos hg]at hJ
    exact Xf
   rw[if_neg (by rw[hg];decide)]at hJ
   refine⟨λh5=>?_,λh5=>⟨⟨rfl,λq hq=>(Option.some.inj hq).symm,by simp[BS,C.stor],by decide,by omega,by omega⟩,?_⟩⟩
   .rw[if_pos (by rw[m1];simp only[Bool.false_and,Bool.false_or];exact h5)]at hJ
    exact Xf
   rw[if_neg (by rw[m1];simp only[Bool.false_and,Bool.false_or];rw[show _=false from h5];decide)]at hJ
   exact UW
  rw[if_neg (show ¬blB (chI s i)=true by show ¬(_||_||_||_)=true;rw[hb];decide),if_neg (by show ¬(_==_)=true;rw[hc];decide),if_neg (by rw[show M3 (chI s i)=false from hl];decide),if_neg (by rw[show F9 (chI s i)=false from hd];decide)]at hJ
  have hT:iE s i=(z6&&((s.drop i).take 2==[61,61]||(s.drop i).take 2==[33,61]||(s.drop i).take 2==[60,61]||(s.drop i).take 2==[62,61]||(s.drop i).take 2==[38,38]||(s.drop i).take 2==[124,124])):=by unfold iE;rw[q1]
  clear q1
  repeat refine And.intro (by first|exact λh=>⟨h,h,h,q8 h⟩|exact λh=>⟨h,h,h,q8 (rn h)⟩|exact λh=>⟨h,λhx=>by rw[h,hx];rfl⟩) ?_
  rw[<- hT]
  have q9:IntKind.i64.wrap ((i:Int)+((2:Nat):Int))=((i+2:Nat):Int):=q2
  have q10:IntKind.i64.wrap ((i:Int)+((1:Nat):Int))=((i+1:Nat):Int):=h3
  refine⟨λh6=>?_,λh6=>⟨λh7=>?_,λh7=>?_⟩⟩
  .have h8:=q3 (rn (by rw[<- hT];exact h6))
   have l2:((s.drop i).take 2).length=2:=by simp;omega
   rw[if_pos h6]at hJ
   simp only[l2,q9]
   refine⟨by omega,⟨rfl,λq hq=>(Option.some.inj hq).symm,by simp[BS,C.stor],by decide,by omega,by omega⟩,?_⟩
   refine⟨(i+2,(out++[(⟨2,(s.drop i).take 2,(i:Int)⟩:Tok)])),⟨by dsimp only;omega,by simp;omega,f,by dsimp only;omega,hJ⟩,by dsimp only;omega,
    BU (t:=⟨[(0,true,.one (.v (.string (bs s)))),(5,true,.one (.s 99)),(6,true,.one (.v (.int .i64 ((i+2:Nat):Int))))],[(99,.vec 0 FW ((out++[(⟨2,(s.drop i).take 2,(i:Int)⟩:Tok)]).map Gd))]⟩) ?_ ?_⟩
   .refine A2 [] ?_;simp only[seval,go_sem,E2,map_append,List.flatMap_append,Gd]
   refine A2 [.mv 99 1000] ?_;simp only[seval,go_sem,E2,Nw,rxI]
  .rw[if_neg (by rw[h6];decide),if_neg (by rw[show Oh WQ (chI s i)=false from A6S h7];decide)]at hJ
   exact Xf
  have l1:((s.drop i).take 1).length=1:=by simp;omega
  rw[if_neg (by rw[h6];decide),if_pos (show Oh WQ (chI s i)=true from A6T h7)]at hJ
  simp only[l1,q10]
  refine⟨⟨rfl,λq hq=>(Option.some.inj hq).symm,by simp[BS,C.stor],by decide,by omega,by omega⟩,?_⟩
  refine⟨(i+1,(out++[(⟨2,(s.drop i).take 1,(i:Int)⟩:Tok)])),⟨by dsimp only;omega,by simp;omega,f,by dsimp only;omega,hJ⟩,by dsimp only;omega,
   BU (t:=⟨[(0,true,.one (.v (.string (bs s)))),(5,true,.one (.s 99)),(6,true,.one (.v (.int .i64 ((i+1:Nat):Int))))],[(99,.vec 0 FW ((out++[(⟨2,(s.drop i).take 1,(i:Int)⟩:Tok)]).map Gd))]⟩) ?_ ?_⟩
  .refine A2 [] ?_;simp only[seval,go_sem,E2,map_append,List.flatMap_append,Gd]
  refine A2 [.mv 99 1000] ?_;simp only[seval,go_sem,E2,Nw,rxI]
 have hi':i=s.length:=by omega
 subst hi'
 have h1:=Ai (Nat.le_refl s.length)
 have hJ:(out,0,0)=rxT s:=by
  cases f with
  |zero=>exact hJ
  |succ f=>simp only[rxF]at hJ;rw[if_pos (Nat.le_refl _)]at hJ;exact hJ
 simp only[seval,go_sem,h1]
 refine A1 [.fz 1000] ?_;simp only[seval,go_sem,bne,FM,<- hJ,MM,FW,MK,lW]
end Go.Proofs.YtapedeoheilnnaaGreat
