/- The program's first failing try, and how many there are, walked. Conditions: those of runs. -/
import Derived.Test.YtjnnmindcbgjhaaWj
import Derived.Test.YtjnnmindcbgjhaaKr
set_option linter.unusedVariables false
set_option linter.unusedSimpArgs false
set_option maxRecDepth 20000
set_option maxHeartbeats 32000000
open List (length_map)
namespace Go.Proofs.Ytjnnmindcbgjhaa
open Go Go.Sy Go.RowKit
def Le (P:Pg) (f:List UInt8) (l:List Int):Int:=if (fnd f P.fs).isSome=true then HW (canF P f l) else 0
theorem Zm {f:List UInt8} {g:Fn}:∀{l:List Fn},fnd f l=some g→g∈l
 |x::r,h=>by
  simp only[fnd]at h
  split at h
  ·rw[Option.some.inj h];exact List.mem_cons_self ..
  ·exact List.mem_cons_of_mem _ (Zm h)
theorem T6 {P:Pg} {f:List UInt8} {l:List Int} (h:∀g∈P.fs,g.ps.length≤5000):(canF P f l).length≤5000:=by
 unfold canF
 cases hf:fnd f P.fs with
 |none=>exact Nat.zero_le _
 |some g=>dsimp only;rw[length_map];exact h g (Zm hf)
theorem eb (l:List Int):0<(HA l).length∧(HA l).length≤l.length+1:=by
 unfold HA
 split
 ·exact⟨Nat.zero_lt_one,by simp⟩
 ·rename_i h
  rw[length_map]
  refine⟨?_,Nat.le_succ _⟩
  cases l with
  |nil=>exact absurd rfl h
  |cons a l=>exact Nat.succ_pos _
theorem sN {P:Pg} {f:List UInt8} {l:List Int} (h1:P.g.c.length≤1000000) (h2:l.length≤1000000):∀x∈canF P f l,0<x.length∧x.length≤1000000000:=by
 intro x hx
 unfold canF at hx
 cases hf:fnd f P.fs with
 |none=>rw[hf]at hx;cases hx
 |some g=>
  rw[hf]at hx
  obtain⟨v,_,rfl⟩:=List.mem_map.1 hx
  unfold Ns
  split
  ·unfold My
   rw[List.length_cons,length_map];omega
  ·have:=eb l;omega
theorem Zn:∀(l:List (List Va)) (n:Int),(∀x∈l,0<x.length∧x.length≤1000000000)→1≤n→n≤2000→1≤QT l n∧QT l n≤2000
 |[],n,_,h1,h2=>⟨h1,h2⟩
 |c::r,n,h,h1,h2=>by
  simp only[QT]
  split
  ·exact⟨by decide,by decide⟩
  ·rename_i hc
   have hl:(c.length:Int)<2000:=by simpa using hc
   obtain⟨h3,_⟩:=h c (List.mem_cons_self ..)
   have hm:1≤n*(c.length:Int):=by
    have:1*1≤n*(c.length:Int):=Int.mul_le_mul h1 (by omega) (by omega) (by omega)
    omega
   have hm2:n*(c.length:Int)≤2000*2000:=Int.mul_le_mul h2 (by omega) (by omega) (by omega)
   have hw:IntKind.i64.wrap (n*(c.length:Int))=n*(c.length:Int):=wrap_i64 (by omega) (by omega)
   rw[hw]
   refine Zn r _ (fun x hx=>h x (List.mem_cons_of_mem _ hx)) ?_ ?_<;>(unfold mn;split<;>omega)
theorem sO (l:List (List Va)) (n:Int):(pkF l n).length=l.length:=by
 unfold pkF
 induction l with
 |nil=>rfl
 |cons c r ih=>show (pkR r n).1.length+1=_;rw[ih];rfl
def QU (g:Nat→Ms):Nat→Nat→Option Nat
 |0,_=>none
 |r+1,i=>if ((g i).e==1)=true then some i else QU g r (i+1)
def blS (P:Pg):Sta:=⟨blC P.g.c,blA P.g.a⟩
def bZ (n:Nat) (P:Pg) (f:List UInt8) (fuel:Int) (l:List Int) (i:Nat):Ms:=clF n P f (pkF (canF P f l) (i:Int)) (blS P) fuel
def VW (n:Nat) (P:Pg) (f:List UInt8) (fuel:Int) (l:List Int):Option Nat:=if (fnd f P.fs).isSome=true then QU (bZ n P f fuel l) (HW (canF P f l)).toNat 0 else none
def VX:Ms:=⟨0,0,[],[],0,0,[],0,0⟩
def Nu (n:Nat) (P:Pg) (f:List UInt8) (fuel:Int) (l:List Int):List Va×Ms×Bool:=match VW n P f fuel l with
 |some i=>(pkF (canF P f l) (i:Int),bZ n P f fuel l i,true)
 |none=>([],VX,false)
structure okW (N n:Nat) (P:Pg) (l:List Int) (fuel:Int):Prop where
 p:okPg N P
 c:P.g.c.length≤1000000
 a:P.g.a.length≤1000000
 q:∀x∈P.g.a,1≤x.n∧x.n≤1048576
 i:l.length≤1000000
 f:fuel<n
 n:n≤1000000000
theorem okW.ps {N n:Nat} {P:Pg} {l:List Int} {fuel:Int} (h:okW N n P l fuel):∀g∈P.fs,g.ps.length≤5000:=fun g hg=>(h.p.f g hg).1.1
theorem okW.r {N n:Nat} {P:Pg} {l:List Int} {fuel:Int} (h:okW N n P l fuel) (f:List UInt8) (i:Int):okR N n P (pkF (canF P f l) i) (blS P) fuel:=
 ⟨h.p,h.c,h.a,h.q,by simp[blS,blC];exact h.c,by simp[blS,blA];exact h.a,by rw[sO];exact T6 h.ps,h.f,h.n⟩
abbrev QV (p:Pg) (f:List UInt8) (l:List Int):Prop:=p.g.c.length≤1000000∧l.length≤1000000∧p.fs.length≤1000000∧∀g∈p.fs,g.ps.length≤5000
abbrev Iu (p:Pg) (f:List UInt8) (l:List Int):SV:=.one (.v (.int .i64 (Le p f l)))
noncomputable abbrev T7:ArgC ((Pg)×(List UInt8)×(List Int)×Unit):=(acS (cPg) (acS (cStr) (acS (cI6) ac0)))
abbrev jO:Prop:=CY Try.prog 26 T7 (fun p:(Pg)×(List UInt8)×(List Int)×Unit=>QV p.1 p.2.1 p.2.2.1) (fun p:(Pg)×(List UInt8)×(List Int)×Unit=>Iu p.1 p.2.1 p.2.2.1)
theorem jQ:∀p:(Pg)×(List UInt8)×(List Int)×Unit,((fun p:(Pg)×(List UInt8)×(List Int)×Unit=>Iu p.1 p.2.1 p.2.2.1) p).names=[]:=by intro p;rfl
attribute [local go_sem] bY bX Pn TH O2 O1 X7 X6 BU BK ouC pgR stR
attribute[local go_sem] Ef KA Dn KG HX Cp Gx FK in
theorem sP:jO:=by
 rintro ⟨p,f,l,_u⟩ w fz xs hc hfz hl hx
 refine BH Try.func26 rfl w fz [Dn,HX] [] T7 (fun p:(Pg)×(List UInt8)×(List Int)×Unit=>Iu p.1 p.2.1 p.2.2.1) _ xs hfz hl hx (jN rfl) ?_
 clear hx hl hfz xs
 simp only[Try.f26]
 obtain⟨h1,h2,h3,h4⟩:=hc
 obtain⟨⟨pc,pa⟩,pf⟩:=p
 have hk:(canF ⟨⟨pc,pa⟩,pf⟩ f l).length≤5000:=T6 h4
 dsimp only at h1 h2 h3 h4
 cases hf:(fnd f pf).isSome with
 |false=>
  have hr:Le ⟨⟨pc,pa⟩,pf⟩ f l=0:=if_neg (by rw[hf];decide)
  simp only[↓eB,seval,go_sem,hf]
  refine⟨⟨h1,h2,h3,h4⟩,?_⟩
  refine A0 [] ?_;simp only[↓eB,seval,go_sem,bne,Iu,hr]
 |true=>
  have hr:Le ⟨⟨pc,pa⟩,pf⟩ f l=HW (canF ⟨⟨pc,pa⟩,pf⟩ f l):=if_pos hf
  simp only[↓eB,seval,go_sem,hf]
  refine⟨⟨h1,h2,h3,h4⟩,(by show _≤_;omega),?_⟩
  refine A0 [] ?_;simp only[↓eB,seval,go_sem,bne,Iu,hr]
noncomputable def QW {X:Ctx} {w0:World}:Sy.Spec Try.prog X w0:=D5 26 Try.call26 T7 (fun p:(Pg)×(List UInt8)×(List Int)×Unit=>QV p.1 p.2.1 p.2.2.1) (fun p:(Pg)×(List UInt8)×(List Int)×Unit=>Iu p.1 p.2.1 p.2.2.1) jQ sP
abbrev YB:List C:=tgN 46 7
abbrev ouZ:List C:=[C.v (.int .i64 0),C.v (.int .i64 0),C.v (.string (bs [])),C.v (.int .i64 0),C.v (.int .i64 0),C.v (.slice none 0 0),C.v (.slice none 0 0)]
abbrev YC (N:Nat) (n:Nat) (p:Pg) (f:List UInt8) (fuel:Int) (l:List Int):Prop:=okW N n p l fuel
abbrev Jz (N:Nat) (n:Nat) (p:Pg) (f:List UInt8) (fuel:Int) (l:List Int):SV:=.tup [.inl (.d (.sl Ed ((Nu n p f fuel l).1.map Va.r))),.inr (ouC (Nu n p f fuel l).2.1),.inl (.v (.bool (Nu n p f fuel l).2.2))]
noncomputable abbrev T8:ArgC ((Pg)×(List UInt8)×(Int)×(List Int)×Unit):=(acS (cPg) (acS (cStr) (acS (cInt .i64) (acS (cI6) ac0))))
abbrev YD (N:Nat) (n:Nat):Prop:=CY Try.prog 28 T8 (fun p:(Pg)×(List UInt8)×(Int)×(List Int)×Unit=>YC N n p.1 p.2.1 p.2.2.1 p.2.2.2.1) (fun p:(Pg)×(List UInt8)×(Int)×(List Int)×Unit=>Jz N n p.1 p.2.1 p.2.2.1 p.2.2.2.1)
theorem jR (N:Nat) (n:Nat):∀p:(Pg)×(List UInt8)×(Int)×(List Int)×Unit,((fun p:(Pg)×(List UInt8)×(Int)×(List Int)×Unit=>Jz N n p.1 p.2.1 p.2.2.1 p.2.2.2.1) p).names=[]:=by intro p;rfl
noncomputable def YE {X:Ctx} {w0:World} (N:Nat) (n:Nat) (h:YD N n):Sy.Spec Try.prog X w0:=D5 28 Try.call28 T8 (fun p:(Pg)×(List UInt8)×(Int)×(List Int)×Unit=>YC N n p.1 p.2.1 p.2.2.1 p.2.2.2.1) (fun p:(Pg)×(List UInt8)×(Int)×(List Int)×Unit=>Jz N n p.1 p.2.1 p.2.2.1 p.2.2.2.1) (jR N n) h
theorem sQ (N:Nat) (n:Nat):YD N n:=by
 rintro ⟨p,f,fuel,l,_u⟩ w fz xs hc hfz hl hx
 refine BH Try.func28 rfl w fz [Dn,HX,KG,Jo,(KA N n (dY N n))] [(5,[.fz 28,.fz 600028])] T8 (fun p:(Pg)×(List UInt8)×(Int)×(List Int)×Unit=>Jz N n p.1 p.2.1 p.2.2.1 p.2.2.2.1) _ xs hfz hl hx (jN rfl) ?_
 clear hx hl hfz xs
 simp only[Try.f28]
 obtain⟨⟨pc,pa⟩,pf⟩:=p
 have hw:okW N n ⟨⟨pc,pa⟩,pf⟩ l fuel:=hc
 have hk:(canF ⟨⟨pc,pa⟩,pf⟩ f l).length≤5000:=T6 hw.ps
 have hne:∀x∈canF ⟨⟨pc,pa⟩,pf⟩ f l,0<x.length∧x.length≤1000000000:=sN hw.c hw.i
 obtain⟨t1,t2⟩:=Zn _ 1 hne (Int.le_refl _) (by decide)
 have hcan:MH ⟨⟨pc,pa⟩,pf⟩ f l:=⟨hw.c,hw.i,hw.p.l,hw.ps⟩
 cases hf:(fnd f pf).isSome with
 |false=>
  have hr:Nu n ⟨⟨pc,pa⟩,pf⟩ f fuel l=([],VX,false):=by
   have:VW n ⟨⟨pc,pa⟩,pf⟩ f fuel l=none:=if_neg (by rw[hf];decide)
   unfold Nu;rw[this]
  simp only[↓eB,seval,go_sem,Dn,Cp,HX,FK,KG,Gx,KA,Ef,hf]
  refine⟨hcan,?_⟩
  refine A0 [] ?_;simp only[↓eB,seval,go_sem,bne,Jz,hr,VX]
 |true=>
  have hfr:VW n ⟨⟨pc,pa⟩,pf⟩ f fuel l=QU (bZ n ⟨⟨pc,pa⟩,pf⟩ f fuel l) (HW (canF ⟨⟨pc,pa⟩,pf⟩ f l)).toNat 0:=if_pos hf
  simp only[↓eB,seval,go_sem,Dn,Cp,HX,FK,KG,Gx,KA,Ef,R2,PR,PS,PQ,lmH,lmO,chL,ML.ch,DQ,DR,E9,CR,EW,nmX,xt,Dl,ML.ren,rnC,EN,F7,vrQ,DA,fcN,↓A1,Ia,Uw,M_Bl,X8,X9,KV,Lw,hf,XC,XD,XE,XF,zNb,zNa]
  have hbl:Rq ((⟨⟨pc,pa⟩,pf⟩:Pg),()):=⟨hw.c,hw.a,fun x hx=>(hw.q x hx).2⟩
  refine⟨hcan,hbl,(by show _≤_;omega),?_⟩
  obtain⟨cs,hcs⟩:∃cs,canF ⟨⟨pc,pa⟩,pf⟩ f l=cs:=⟨_,rfl⟩
  obtain⟨T,hT⟩:∃T:Nat,HW cs=(T:Int):=⟨(HW cs).toNat,by rw[← hcs];unfold HW;omega⟩
  have hT2:T≤2000:=by rw[hcs]at t2;have:HW cs≤2000:=t2;omega
  rw[hcs]at hk hne
  rw[hcs,hT]at hfr
  obtain⟨g,hg⟩:∃g,bZ n ⟨⟨pc,pa⟩,pf⟩ f fuel l=g:=⟨_,rfl⟩
  have hgi:∀i:Nat,clF n ⟨⟨pc,pa⟩,pf⟩ f (pkF cs (i:Int)) ⟨blC pc,blA pa⟩ fuel=g i:=fun i=>by rw[← hg,← hcs];rfl
  have hcr:∀i:Nat,okR N n ⟨⟨pc,pa⟩,pf⟩ (pkF cs (i:Int)) ⟨blC pc,blA pa⟩ fuel:=fun i=>by rw[← hcs];exact hw.r f i
  rw[hg]at hfr
  have hfr:VW n ⟨⟨pc,pa⟩,pf⟩ f fuel l=QU g T 0:=hfr
  simp only[hcs,hT]
  refine Aa (Y:=Nat) (fun i=>i≤T∧QU g (T-i) i=QU g T 0)
   (fun i=>⟨[(1,true,.one (.v (.string (bs f)))),(2,true,.one (.v (.int .i64 fuel))),(4,true,.one (.p 4 0 0)),(8,true,.one (.v (.slice none 0 0))),(9,true,.one (.p 9 0 0)),(10,true,.one (.v (.bool false))),(11,true,.one (.d (.sl QS (cs.map Jy)))),(13,true,.one (.p 13 0 0)),(30,true,.one (.v (.int .i64 (T:Int)))),(31,true,.one (.v (.int .i64 (i:Int))))],
    [(4,.vec 0 [C.v (.bool false),C.v (.bool false),C.v (.bool false)] [[.d (.sl Fj (pc.map cSd)),.d (.sl Gm (pa.map Gy.r)),.d (.sl zFn (pf.map Fn.r))]]),(9,.vec 0 YB [ouZ]),(13,.vec 0 Wg [[.d (.sl [.v (.string (bs [])),.v (.int .i64 0)] ((blC pc).map Nb.r)),.d (.sl [.v (.string (bs [])),.v (.slice none 0 0)] ((blA pa).map Na.r))]])]⟩)
   (fun i=>T-i) 0 ⟨Nat.zero_le _,rfl⟩ ?_ ?_
  ·refine A4 [] ?_;simp only[↓eB,seval,go_sem,Wg,YB,zNb,zNa,ouZ]
  ·rintro i ⟨hi,hI⟩
   refine Ap [Dn,HX,KG,Jo,KA N n (dY N n)] [] _ _ _ ?_
   by_cases hlt:i<T
   ·obtain⟨r,hr1⟩:∃r,T-i=r+1:=⟨T-i-1,by omega⟩
    rw[hr1]at hI
    have hd:decide ((i:Int)<(T:Int))=true:=decide_eq_true (by omega)
    have hpc:VU cs (i:Int):=⟨hk,hne,(by omega),(by omega)⟩
    have hw1:IntKind.i64.wrap ((i:Int)+1)=((i+1:Nat):Int):=by rw[wrap_i64 (by omega) (by omega)];omega
    obtain⟨m,hm⟩:∃m,g i=m:=⟨_,rfl⟩
    have hgm:=(hgi i).trans hm
    have hcri:=hcr i
    cases he:(m.e==1) with
    |true=>
     have hr:Nu n ⟨⟨pc,pa⟩,pf⟩ f fuel l=(pkF cs (i:Int),m,true):=by
      have h2:QU g (r+1) i=some i:=if_pos (by rw[hm];exact he)
      have h3:VW n ⟨⟨pc,pa⟩,pf⟩ f fuel l=some i:=hfr.trans (hI.symm.trans h2)
      unfold Nu;rw[h3];dsimp only;rw[hg,hm,hcs]
     simp only[↓eB,seval,go_sem,Dn,Cp,HX,FK,KG,Gx,KA,Ef,hd,hgm,he,Wg,YB,zNb,zNa,ouZ]
     refine⟨hpc,hcri,CT (by kernel_rfl),?_⟩
     refine A0 [] ?_;simp only[↓eB,seval,go_sem,bne,Jz,hr]
    |false=>
     have hI2:QU g r (i+1)=QU g T 0:=by
      rw[← hI];exact(if_neg (by rw[hm,he];decide)).symm
     simp only[↓eB,seval,go_sem,Dn,Cp,HX,FK,KG,Gx,KA,Ef,hd,hgm,he,hw1,Wg,YB,zNb,zNa,ouZ]
     refine⟨hpc,hcri,i+1,⟨(by omega),(by rw[show T-(i+1)=r by omega];exact hI2)⟩,(by omega),?_⟩
     refine A4 [] ?_;simp only[↓eB,seval,go_sem]
   ·have hiT:i=T:=by omega
    subst hiT
    have hd:decide ((i:Int)<(i:Int))=false:=decide_eq_false (by omega)
    have hr:Nu n ⟨⟨pc,pa⟩,pf⟩ f fuel l=([],VX,false):=by
     have h2:VW n ⟨⟨pc,pa⟩,pf⟩ f fuel l=none:=by rw[hfr,← hI,Nat.sub_self];rfl
     unfold Nu;rw[h2]
    simp only[↓eB,seval,go_sem,Dn,Cp,HX,FK,KG,Gx,KA,Ef,hd,Wg,YB,ouZ]
    refine A0 [] ?_;simp only[↓eB,seval,go_sem,bne,Jz,hr,VX]
end Go.Proofs.Ytjnnmindcbgjhaa
namespace Go.Proofs.Ytjnnmindcbgjhaa
open Go Go.Sy Go.RowKit
def wT:List UInt8:=[102,110,32,102,40,120,41,32,123,32,114,101,116,117,114,110,32,49,32,47,32,120,59,32,125]
def wP:Pg:=⟨⟨[],[]⟩,[⟨[102],[⟨[120],false⟩],[],[(.mk 9 [] [] (.mk 5 0 [] (.mk 0 1 [] .nil .nil) (.mk 1 0 [120] .nil .nil)) .nil .nil [] [] [] 0)]⟩]⟩
theorem A9m:prF 8 kgl [⟨[102],wT⟩]=wP:=by kernel_rfl
theorem A9n:∀u∈[(⟨[102],wT⟩:Un)],okUn 50 8 kgl u:=by
 intro u hu
 rw[List.mem_singleton.1 hu]
 exact Qg (by decide) (by have e:wT.length=25:=rfl;unfold Ce;omega) (by kernel_rfl)
theorem A9o (l:List Int) (f:Int) (hl:l.length≤1000000) (hf:f<10):okW 50 10 wP l f:=⟨kv (M:=8) (by kernel_rfl),by decide,by decide,(by intro x hx;cases hx),hl,hf,by decide⟩
theorem A9p:Nu 10 wP [102] 9 [3,0]=([⟨false,0,[]⟩],⟨8,1,[],[],1,0,[102],0,0⟩,true):=by kernel_rfl
theorem A9q:Nu 10 wP [102] 9 [3,4]=([],VX,false):=by kernel_rfl
theorem A9r:Le wP [102] [3,0]=2:=by kernel_rfl
theorem A9s:Le wP [103] [1]=0:=by kernel_rfl
abbrev UE:Prop:=True
abbrev JI:SV:=.one (.v (.bool true))
noncomputable abbrev QX:ArgC (Unit):=ac0
abbrev ba:Prop:=CY Try.prog 25 QX (fun p:Unit=>UE ) (fun p:Unit=>JI )
theorem bb:∀p:Unit,((fun p:Unit=>JI ) p).names=[]:=by intro p;rfl
theorem ec:ba:=by
 rintro ⟨_u⟩ w fz xs hc hfz hl hx
 refine BH Try.func25 rfl w fz [(Re 50 8 kgl (y_Prog 50 8 kgl)),(YE 50 10 (sQ 50 10)),QW] [(2,[.flag 13]),(3,[.flag 20]),(4,[.flag 49,.flag 55])] QX (fun p:Unit=>JI ) _ xs hfz hl hx (jN rfl) ?_
 clear hx hl hfz xs
 simp only[Try.f25]
 have he:=A9m
 have hu:=A9n
 have hr:=A9o
 simp only[wT]at he hu
 have hw:=hr [] 0 (by decide) (by decide)
 have hcn:∀(f:List UInt8) (l:List Int),l.length≤1000000→QV wP f l:=fun f l h=>⟨hw.c,h,hw.p.l,hw.ps⟩
 simp only[↓eB,seval,go_sem,Re,YE,QW,Iu,KK,KJ,sq,Un.c,pqR,zUc,O1,O2,pgR,TH,Pn,sr,ss,ouC,Va.r,he,A9p,A9q,A9r,A9s,Es]
 refine⟨⟨jN rfl,hu⟩,hr _ 9 (by decide) (by decide),hr _ 9 (by decide) (by decide),hcn _ _ (by decide),hcn _ _ (by decide),?_⟩
 refine A0 [] ?_;simp only[↓eB,seval,go_sem,bne,JI]
noncomputable def UF {X:Ctx} {w0:World}:Sy.Spec Try.prog X w0:=D5 25 Try.call25 QX (fun p:Unit=>UE ) (fun p:Unit=>JI ) bb ec
end Go.Proofs.Ytjnnmindcbgjhaa
