/- The program's first failing try, and how many there are, walked. Conditions: those of runs. -/
import Derived.Test.YtapedeoheilnnaaGreatZs3
import Derived.Test.YtapedeoheilnnaaGreatRml
import Derived.Test.YtapedeoheilnnaaGreatGq
set_option linter.all false
set_option maxRecDepth 20000
set_option maxHeartbeats 32000000
open List (length_map)
namespace Go.Proofs.YtapedeoheilnnaaGreat
open Go Go.Sy Go.RowKit
variable{P:Pg}{l:List Int}
def B0A(P:Pg)(f:List UInt8)(l:List Int):Int:=if (fnd f P.fs).isSome=true then A9n (canF P f l) else 0
theorem eA{f:List UInt8}{g:Fn}:∀{l:List Fn},fnd f l=some g->g∈l
 |x::r,h=>by
  simp only[fnd]at h
  split at h
  .rw[Option.some.inj h];exact List.mem_cons_self ..
  exact List.mem_cons_of_mem _ (eA h)
theorem oN{P:Pg}{f:List UInt8}(h:∀g∈P.fs,g.ps.length<=5000):(canF P f l).length<=5000:=by
 unfold canF
 cases hf:fnd f P.fs with
 |none=>exact Nat.zero_le _
 |some g=>dsimp only;rw[length_map];exact h g (eA hf)
theorem B0v(l:List Int):0<(A4b l).length/\(A4b l).length<=l.length+1:=by
 unfold A4b
 split
 .exact⟨Nat.zero_lt_one,by simp⟩
 rename_i h
 rw[length_map]
 refine⟨?_,Nat.le_succ _⟩
 cases l with
 |nil=>exact absurd rfl h
 |cons a l=>exact Nat.succ_pos _
theorem B0I{P:Pg}{f:List UInt8}{l:List Int}(h1:P.g.c.length<=1000000)(h2:l.length<=1000000):∀x∈canF P f l,0<x.length/\x.length<=1000000000:=by
 intro x hx
 unfold canF at hx
 cases hf:fnd f P.fs with
 |none=>rw[hf]at hx;cases hx
 |some g=>
 rw[hf]at hx
 obtain⟨v,_,rfl⟩:=List.mem_map.1 hx
 unfold A7t
 split
 .unfold A7s
  rw[List.length_cons,length_map];omega
 have:=B0v l;omega
theorem B0b:∀(l:List (List Va)) (n:Int),(∀x∈l,0<x.length/\x.length<=1000000000)->1<=n->n<=2000->1<=B03 l n/\B03 l n<=2000
 |[],n,_,h1,h2=>⟨h1,h2⟩
 |c::r,n,h,h1,h2=>by
  simp only[B03]
  split
  .exact⟨by decide,by decide⟩
  rename_i hc
  have hl:(c.length:Int)<2000:=by simpa using hc
  obtain⟨h3,_⟩:=h c (List.mem_cons_self ..)
  have hm:1<=n*(c.length:Int):=by
   have:1*1<=n*(c.length:Int):=Int.mul_le_mul h1 (by omega) (by omega) (by omega)
   omega
  have hm2:n*(c.length:Int)<=2000*2000:=Int.mul_le_mul h2 (by omega) (by omega) (by omega)
  have hw:IntKind.i64.wrap (n*(c.length:Int))=n*(c.length:Int):=wrap_i64 (by omega) (by omega)
  rw[hw]
  refine B0b r _ (λx hx=>h x (List.mem_cons_of_mem _ hx)) ?_ ?_<;>(unfold mn;split<;>omega)
theorem uy(l:List (List Va))(n:Int):(pkF l n).length=l.length:=by
 unfold pkF
 induction l with
 |nil=>rfl
 |cons c r ih=>show (pkR r n).1.length+1=_;rw[ih];rfl
def A9k(g:Nat->Ms):Nat->Nat->Option Nat
 |0,_=>none
 |r+1,i=>if ((g i).e==1)=true then some i else A9k g r (i+1)
def blS(P:Pg):Sta:=⟨blC P.g.c,blA P.g.a⟩
def B0J(n:Nat)(P:Pg)(f:List UInt8)(fuel:Int)(l:List Int)(i:Nat):Ms:=clF n P f (pkF (canF P f l) (i:Int)) (blS P) fuel
def A9v(n:Nat)(P:Pg)(f:List UInt8)(fuel:Int)(l:List Int):Option Nat:=if (fnd f P.fs).isSome=true then A9k (B0J n P f fuel l) (A9n (canF P f l)).toNat 0 else none
def B05:Ms:=⟨0,0,[],[],0,0,[],0,0⟩
def x6(n:Nat)(P:Pg)(f:List UInt8)(fuel:Int)(l:List Int):List Va×Ms×Bool:=match A9v n P f fuel l with
 |some i=>(pkF (canF P f l) (i:Int),B0J n P f fuel l i,true)
 |none=>([],B05,false)
structure okW(N n:Nat)(P:Pg)(l:List Int)(fuel:Int):Prop where
 p:okPg N P
 c:P.g.c.length<=1000000
 a:P.g.a.length<=1000000
 q:∀x∈P.g.a,1<=x.n/\x.n<=1048576
 i:l.length<=1000000
 f:fuel<n
 n:n<=1000000000
theorem okW.ps{N n:Nat}{P:Pg}{fuel:Int}(h:okW N n P l fuel):∀g∈P.fs,g.ps.length<=5000:=λg hg=>(h.p.f g hg).1.1
theorem okW.r{N n:Nat}{fuel:Int}(h:okW N n P l fuel)(f:List UInt8)(i:Int):okR N n P (pkF (canF P f l) i) (blS P) fuel:=
 ⟨h.p,h.c,h.a,h.q,by simp[blS,blC];exact h.c,by simp[blS,blA];exact h.a,by rw[uy];exact oN h.ps,h.f,h.n⟩
abbrev B0B(p:Pg)(f:List UInt8)(l:List Int):Prop:=p.g.c.length<=1000000/\l.length<=1000000/\p.fs.length<=1000000/\∀g∈p.fs,g.ps.length<=5000
abbrev A9o(p:Pg)(f:List UInt8)(l:List Int):SV:=.one (.v (.int .i64 (B0A p f l)))
noncomputable abbrev B0C:ArgC ((Pg)×(List UInt8)×(List Int)×Unit):=(acS (cPg) (acS (cStr) (acS (cI6) ac0)))
abbrev B1B:Prop:=Ca Tryz.prog 23 B0C (λp:(Pg)×(List UInt8)×(List Int)×Unit=>B0B p.1 p.2.1 p.2.2.1) (λp:(Pg)×(List UInt8)×(List Int)×Unit=>A9o p.1 p.2.1 p.2.2.1)
section
attribute [local go_sem] B0o B0n rM rL GM GL MX MW Ae Ad ouC pgR stR
attribute[local go_sem] JU Tr kG A9l A9e Q2 A9h A9b in
theorem B1Q:B1B:=by
 rintro ⟨p,f,l,_u⟩ w fz xs hc hfz hl hx
 refine Bg Tryz.func23 rfl w fz [kG,A9e] [] B0C (λp:(Pg)×(List UInt8)×(List Int)×Unit=>A9o p.1 p.2.1 p.2.2.1) _ xs hfz hl hx (jN rfl) ?_
 clear hx hl hfz xs
 simp only[Tryz.f23]
 obtain⟨h1,h2,h3,h4⟩:=hc
 obtain⟨⟨pc,pa⟩,pf⟩:=p
 have hk:(canF ⟨⟨pc,pa⟩,pf⟩ f l).length<=5000:=oN h4
 dsimp only at h1 h2 h3 h4
 cases hf:(fnd f pf).isSome with
 |false=>
  have hr:B0A ⟨⟨pc,pa⟩,pf⟩ f l=0:=if_neg (by rw[hf];decide)
  simp only[seval,go_sem,hf]
  refine⟨⟨h1,h2,h3,h4⟩,?_⟩
  refine A1 [] ?_;simp only[seval,go_sem,bne,A9o,hr]
 |true=>
 have hr:B0A ⟨⟨pc,pa⟩,pf⟩ f l=A9n (canF ⟨⟨pc,pa⟩,pf⟩ f l):=if_pos hf
 simp only[seval,go_sem,hf]
 refine⟨⟨h1,h2,h3,h4⟩,(by show _<=_;omega),?_⟩
 refine A1 [] ?_;simp only[seval,go_sem,bne,A9o,hr]
noncomputable def B00{X:Ctx}{w0:World}:Sy.Spec Tryz.prog X w0:=Dq 23 Tryz.call23 B0C _ _ KF2 B1Q
abbrev A9z:List C:=tgN 47 7
abbrev ouZ:List C:=[C.v (.int .i64 0),C.v (.int .i64 0),C.v (.string (bs [])),C.v (.int .i64 0),C.v (.int .i64 0),C.v (.slice none 0 0),C.v (.slice none 0 0)]
abbrev B1C(N:Nat)(n:Nat)(p:Pg)(f:List UInt8)(fuel:Int)(l:List Int):Prop:=okW N n p l fuel
abbrev A9p(N:Nat)(n:Nat)(p:Pg)(f:List UInt8)(fuel:Int)(l:List Int):SV:=.tup [.inl (.d (.sl IQ ((x6 n p f fuel l).1.map Va.r))),.inr (ouC (x6 n p f fuel l).2.1),.inl (.v (.bool (x6 n p f fuel l).2.2))]
noncomputable abbrev B0D:ArgC ((Pg)×(List UInt8)×(Int)×(List Int)×Unit):=(acS (cPg) (acS (cStr) (acS (cInt .i64) (acS (cI6) ac0))))
abbrev B0T(N:Nat)(n:Nat):Prop:=Ca Tryz.prog 20 B0D (λp:(Pg)×(List UInt8)×(Int)×(List Int)×Unit=>B1C N n p.1 p.2.1 p.2.2.1 p.2.2.2.1) (λp:(Pg)×(List UInt8)×(Int)×(List Int)×Unit=>A9p N n p.1 p.2.1 p.2.2.1 p.2.2.2.1)
noncomputable def B01{X:Ctx}{w0:World}(N:Nat)(n:Nat)(h:B0T N n):Sy.Spec Tryz.prog X w0:=Dq 20 Tryz.call20 B0D _ _ KF2 h
theorem B0c(N:Nat)(n:Nat):B0T N n:=by
 rintro ⟨p,f,fuel,l,_u⟩ w fz xs hc hfz hl hx
 refine Bg Tryz.func20 rfl w fz [kG,A9e,A9l,Lq,(Tr N n (jw N n))] [(5,[.fz 28,.fz 600028])] B0D (λp:(Pg)×(List UInt8)×(Int)×(List Int)×Unit=>A9p N n p.1 p.2.1 p.2.2.1 p.2.2.2.1) _ xs hfz hl hx (jN rfl) ?_
 clear hx hl hfz xs
 simp only[Tryz.f20]
 obtain⟨⟨pc,pa⟩,pf⟩:=p
 have hw:okW N n ⟨⟨pc,pa⟩,pf⟩ l fuel:=hc
 have hk:(canF ⟨⟨pc,pa⟩,pf⟩ f l).length<=5000:=oN hw.ps
 have hne:∀x∈canF ⟨⟨pc,pa⟩,pf⟩ f l,0<x.length/\x.length<=1000000000:=B0I hw.c hw.i
 obtain⟨t1,t2⟩:=B0b _ 1 hne (Int.le_refl _) (by decide)
 have hcan:B04 ⟨⟨pc,pa⟩,pf⟩ f l:=⟨hw.c,hw.i,hw.p.l,hw.ps⟩
 cases hf:(fnd f pf).isSome with
 |false=>
  have hr:x6 n ⟨⟨pc,pa⟩,pf⟩ f fuel l=([],B05,false):=by
   have:A9v n ⟨⟨pc,pa⟩,pf⟩ f fuel l=none:=if_neg (by rw[hf];decide)
   unfold x6;rw[this]
  simp only[seval,go_sem,kG,Q2,A9e,A9b,A9l,A9h,Tr,JU,hf]
  refine⟨hcan,?_⟩
  refine A1 [] ?_;simp only[seval,go_sem,bne,A9p,hr,B05]
 |true=>
 have hfr:A9v n ⟨⟨pc,pa⟩,pf⟩ f fuel l=A9k (B0J n ⟨⟨pc,pa⟩,pf⟩ f fuel l) (A9n (canF ⟨⟨pc,pa⟩,pf⟩ f l)).toNat 0:=if_pos hf
 simp only[seval,go_sem,kG,Q2,A9e,A9b,A9l,A9h,Tr,JU,OI,LL,LM,MU,lmH,lmO,chL,ML.ch,Cj,Ck,DH,CU,E8,nmX,xt,Di,ML.ren,rnC,E5,EE,vrQ,Ci,fcN,↓A0,JV,XW,M_Bl,SM,SN,Ez,G9,hf,SP,SQ,LO,LP,zNb,zNa]
 have hbl:Vy ((⟨⟨pc,pa⟩,pf⟩:Pg),()):=⟨hw.c,hw.a,λx hx=>(hw.q x hx).2⟩
 refine⟨hcan,hbl,(by show _<=_;omega),?_⟩
 obtain⟨cs,hcs⟩:∃cs,canF ⟨⟨pc,pa⟩,pf⟩ f l=cs:=⟨_,rfl⟩
 obtain⟨T,hT⟩:∃T:Nat,A9n cs=(T:Int):=⟨(A9n cs).toNat,by rw[<- hcs];unfold A9n;omega⟩
 have hT2:T<=2000:=by rw[hcs]at t2;have:A9n cs<=2000:=t2;omega
 rw[hcs]at hk hne
 rw[hcs,hT]at hfr
 obtain⟨g,hg⟩:∃g,B0J n ⟨⟨pc,pa⟩,pf⟩ f fuel l=g:=⟨_,rfl⟩
 have hgi:∀i:Nat,clF n ⟨⟨pc,pa⟩,pf⟩ f (pkF cs (i:Int)) ⟨blC pc,blA pa⟩ fuel=g i:=λi=>by rw[<- hg,<- hcs];rfl
 have hcr:∀i:Nat,okR N n ⟨⟨pc,pa⟩,pf⟩ (pkF cs (i:Int)) ⟨blC pc,blA pa⟩ fuel:=λi=>by rw[<- hcs];exact hw.r f i
 rw[hg]at hfr
 have hfr:A9v n ⟨⟨pc,pa⟩,pf⟩ f fuel l=A9k g T 0:=hfr
 simp only[hcs,hT]
 refine AC (Y:=Nat) (λi=>i<=T/\A9k g (T-i) i=A9k g T 0)
  (λi=>⟨[(1,true,.one (.v (.string (bs f)))),(2,true,.one (.v (.int .i64 fuel))),(4,true,.one (.p 4 0 0)),(8,true,.one (.v (.slice none 0 0))),(9,true,.one (.p 9 0 0)),(10,true,.one (.v (.bool false))),(11,true,.one (.d (.sl v5 (cs.map nF)))),(13,true,.one (.p 13 0 0)),(30,true,.one (.v (.int .i64 (T:Int)))),(31,true,.one (.v (.int .i64 (i:Int))))],
   [(4,.vec 0 [C.v (.bool false),C.v (.bool false),C.v (.bool false)] [[.d (.sl Fq (pc.map cSd)),.d (.sl GP (pa.map Gy.r)),.d (.sl zFn (pf.map Fn.r))]]),(9,.vec 0 A9z [ouZ]),(13,.vec 0 Fi [[.d (.sl [.v (.string (bs [])),.v (.int .i64 0)] ((blC pc).map Nb.r)),.d (.sl [.v (.string (bs [])),.v (.slice none 0 0)] ((blA pa).map Na.r))]])]⟩)
  (λi=>T-i) 0 ⟨Nat.zero_le _,rfl⟩ ?_ ?_
 .refine A2 [] ?_;simp only[seval,go_sem,Fi,A9z,zNb,zNa,ouZ]
 rintro i ⟨hi,hI⟩
 refine AP [kG,A9e,A9l,Lq,Tr N n (jw N n)] [] _ _ _ ?_
 by_cases hlt:i<T
 .obtain⟨r,hr1⟩:∃r,T-i=r+1:=⟨T-i-1,by omega⟩
  rw[hr1]at hI
  have hd:decide ((i:Int)<(T:Int))=true:=decide_eq_true (by omega)
  have hpc:B0d cs (i:Int):=⟨hk,hne,(by omega),(by omega)⟩
  have hw1:IntKind.i64.wrap ((i:Int)+1)=((i+1:Nat):Int):=by rw[wrap_i64 (by omega) (by omega)];omega
  obtain⟨m,hm⟩:∃m,g i=m:=⟨_,rfl⟩
  have hgm:=(hgi i).trans hm
  have hcri:=hcr i
  cases he:(m.e==1) with
  |true=>
   have hr:x6 n ⟨⟨pc,pa⟩,pf⟩ f fuel l=(pkF cs (i:Int),m,true):=by
    have h2:A9k g (r+1) i=some i:=if_pos (by rw[hm];exact he)
    have h3:A9v n ⟨⟨pc,pa⟩,pf⟩ f fuel l=some i:=hfr.trans (hI.symm.trans h2)
    unfold x6;rw[h3];dsimp only;rw[hg,hm,hcs]
   simp only[seval,go_sem,kG,Q2,A9e,A9b,A9l,A9h,Tr,JU,hd,hgm,he,Fi,A9z,zNb,zNa,ouZ]
   refine⟨hpc,hcri,Bn (by kernel_rfl),?_⟩
   refine A1 [] ?_;simp only[seval,go_sem,bne,A9p,hr]
  |false=>
  have hI2:A9k g r (i+1)=A9k g T 0:=by
   rw[<- hI];exact(if_neg (by rw[hm,he];decide)).symm
  simp only[seval,go_sem,kG,Q2,A9e,A9b,A9l,A9h,Tr,JU,hd,hgm,he,hw1,Fi,A9z,zNb,zNa,ouZ]
  refine⟨hpc,hcri,i+1,⟨(by omega),(by rw[show T-(i+1)=r by omega];exact hI2)⟩,(by omega),?_⟩
  exact N4
 have hiT:i=T:=by omega
 subst hiT
 have hd:decide ((i:Int)<(i:Int))=false:=decide_eq_false (by omega)
 have hr:x6 n ⟨⟨pc,pa⟩,pf⟩ f fuel l=([],B05,false):=by
  have h2:A9v n ⟨⟨pc,pa⟩,pf⟩ f fuel l=none:=by rw[hfr,<- hI,Nat.sub_self];rfl
  unfold x6;rw[h2]
 simp only[seval,go_sem,kG,Q2,A9e,A9b,A9l,A9h,Tr,JU,hd,Fi,A9z,ouZ]
 refine A1 [] ?_;simp only[seval,go_sem,bne,A9p,hr,B05]
end
open Go Go.Sy Go.RowKit
def wT:List UInt8:=[102,110,32,102,40,120,41,32,123,32,114,101,116,117,114,110,32,49,32,47,32,120,59,32,125]
def wP:Pg:=⟨⟨[],[]⟩,[⟨[102],[⟨[120],false⟩],[],[(.mk 9 [] [] (.mk 5 0 [] (.mk 0 1 [] .nil .nil) (.mk 1 0 [120] .nil .nil)) .nil .nil [] [] [] 0)]⟩]⟩
theorem B24:prF 8 kgl [⟨[102],wT⟩]=wP:=by kernel_rfl
theorem B25:∀u∈[(⟨[102],wT⟩:Un)],okUn 50 8 kgl u:=by
 intro u hu
 rw[List.mem_singleton.1 hu]
 exact zy (by decide) (by have e:wT.length=25:=rfl;unfold E1;omega) (by kernel_rfl)
theorem B26(l:List Int)(f:Int)(hl:l.length<=1000000)(hf:f<10):okW 50 10 wP l f:=⟨uo (M:=8) (by kernel_rfl),by decide,by decide,(by intro x hx;cases hx),hl,hf,by decide⟩
theorem B27:x6 10 wP [102] 9 [3,0]=([⟨false,0,[]⟩],⟨8,1,[],[],1,0,[102],0,0⟩,true):=by kernel_rfl
theorem B28:x6 10 wP [102] 9 [3,4]=([],B05,false):=by kernel_rfl
theorem B29:B0A wP [102] [3,0]=2:=by kernel_rfl
theorem B2A:B0A wP [103] [1]=0:=by kernel_rfl
abbrev B0l:Prop:=True
abbrev A9u:SV:=.one (.v (.bool true))
noncomputable abbrev B02:ArgC (Unit):=ac0
abbrev B0m:Prop:=Ca Tryz.prog 19 B02 (λp:Unit=>B0l ) (λp:Unit=>A9u )
theorem B0w:B0m:=by
 rintro ⟨_u⟩ w fz xs hc hfz hl hx
 refine Bg Tryz.func19 rfl w fz [(TL 50 8 kgl (y_Prog 50 8 kgl)),(B01 50 10 (B0c 50 10)),B00] [(2,[.flag 13]),(3,[.flag 20]),(4,[.flag 49,.flag 55])] B02 (λp:Unit=>A9u ) _ xs hfz hl hx (jN rfl) ?_
 clear hx hl hfz xs
 simp only[Tryz.f19]
 have he:=B24
 have hu:=B25
 have hr:=B26
 simp only[wT]at he hu
 have hw:=hr [] 0 (by decide) (by decide)
 have hcn:∀(f:List UInt8) (l:List Int),l.length<=1000000->B0B wP f l:=λf l h=>⟨hw.c,h,hw.p.l,hw.ps⟩
 simp only[seval,go_sem,TL,B01,B00,A9o,LG,LF,A00,Un.c,pqR,zUc,GL,GM,pgR,rL,rM,B0t,B1a,ouC,Va.r,he,B27,B28,B29,B2A,Dz]
 refine⟨⟨jN rfl,hu⟩,hr _ 9 (by decide) (by decide),hr _ 9 (by decide) (by decide),hcn _ _ (by decide),hcn _ _ (by decide),?_⟩
 refine A1 [] ?_;simp only[seval,go_sem,bne,A9u]
noncomputable def B0F{X:Ctx}{w0:World}:Sy.Spec Tryz.prog X w0:=Dq 19 Tryz.call19 B02 _ _ KF2 B0w
abbrev cY(g:Int):Prop:=0<=g
abbrev EK(g:Int):SV:=.one (.v (.string (bs (glS g))))
noncomputable abbrev PU:ArgC ((Int)×Unit):=(acS (cInt .u8) ac0)
abbrev cZ:Prop:=Ca Tryz.prog 45 PU (λp:(Int)×Unit=>cY p.1) (λp:(Int)×Unit=>EK p.1)
theorem gL:cZ:=by
 rintro ⟨g,_u⟩ w fz xs hc hfz hl hx
 refine Bg Tryz.func45 rfl w fz [] [] PU (λp:(Int)×Unit=>EK p.1) _ xs hfz hl hx (jN rfl) ?_
 clear hx hl hfz xs
 simp only[Tryz.f45]
 cases c0:(g.tmod 5==0) with
 |true=>
  have hr:glS g=XB:=by unfold glS;rw[if_pos c0]
  simp only[seval,go_sem,c0]
  repeat refine AX ?_
  refine A1 [] ?_;simp only[seval,go_sem,bne,EK,hr,XB]
 |false=>
 cases c1:(g.tmod 5==1) with
 |true=>
  have hr:glS g=XC:=by unfold glS;rw[if_neg (by rw[c0];decide),if_pos c1]
  simp only[seval,go_sem,c0,c1]
  repeat refine AX ?_
  refine A1 [] ?_;simp only[seval,go_sem,bne,EK,hr,XC]
 |false=>
 cases c2:(g.tmod 5==2) with
 |true=>
  have hr:glS g=XD:=by unfold glS;rw[if_neg (by rw[c0];decide),if_neg (by rw[c1];decide),if_pos c2]
  simp only[seval,go_sem,c0,c1,c2]
  repeat refine AX ?_
  refine A1 [] ?_;simp only[seval,go_sem,bne,EK,hr,XD]
 |false=>
 cases c3:(g.tmod 5==3) with
 |true=>
  have hr:glS g=XE:=by unfold glS;rw[if_neg (by rw[c0];decide),if_neg (by rw[c1];decide),if_neg (by rw[c2];decide),if_pos c3]
  simp only[seval,go_sem,c0,c1,c2,c3]
  repeat refine AX ?_
  refine A1 [] ?_;simp only[seval,go_sem,bne,EK,hr,XE]
 |false=>
 have hr:glS g=XF:=by unfold glS;rw[if_neg (by rw[c0];decide),if_neg (by rw[c1];decide),if_neg (by rw[c2];decide),if_neg (by rw[c3];decide)]
 simp only[seval,go_sem,c0,c1,c2,c3]
 repeat refine AX ?_
 refine A1 [] ?_;simp only[seval,go_sem,bne,EK,hr,XF]
noncomputable def Gj{X:Ctx}{w0:World}:Sy.Spec Tryz.prog X w0:=Dq 45 Tryz.call45 PU _ _ KF6 gL
end Go.Proofs.YtapedeoheilnnaaGreat
