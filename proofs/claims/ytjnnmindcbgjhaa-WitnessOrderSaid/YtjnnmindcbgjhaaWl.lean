/- The program's first failing try, and how many there are, walked. Conditions: those of runs. -/
import Derived.Test.YtjnnmindcbgjhaaWj
import Derived.Test.YtjnnmindcbgjhaaRmn
import Derived.Test.YtjnnmindcbgjhaaMk1
set_option linter.unusedVariables false
set_option linter.unusedSimpArgs false
set_option maxRecDepth 20000
set_option maxHeartbeats 32000000
open List (length_map)
namespace Go.Proofs.Ytjnnmindcbgjhaa
open Go Go.Sy Go.RowKit
def X6 (P:Pg) (f:List UInt8) (l:List Int):Int:=if (fnd f P.fs).isSome=true then JT (canF P f l) else 0
theorem Yi {f:List UInt8} {g:Fn}:∀{l:List Fn},fnd f l=some g→g∈l
 |x::r,h=>by
  simp only[fnd]at h
  split at h
  ·rw[Option.some.inj h];exact List.mem_cons_self ..
  ·exact List.mem_cons_of_mem _ (Yi h)
theorem Ru {P:Pg} {f:List UInt8} {l:List Int} (h:∀g∈P.fs,g.ps.length≤5000):(canF P f l).length≤5000:=by
 unfold canF
 cases hf:fnd f P.fs with
 |none=>exact Nat.zero_le _
 |some g=>dsimp only;rw[length_map];exact h g (Yi hf)
theorem dL (l:List Int):0<(Ci l).length∧(Ci l).length≤l.length+1:=by
 unfold Ci
 split
 ·exact⟨Nat.zero_lt_one,by simp⟩
 ·rename_i h
  rw[length_map]
  refine⟨?_,Nat.le_succ _⟩
  cases l with
  |nil=>exact absurd rfl h
  |cons a l=>exact Nat.succ_pos _
theorem qi {P:Pg} {f:List UInt8} {l:List Int} (h1:P.g.c.length≤1000000) (h2:l.length≤1000000):∀x∈canF P f l,0<x.length∧x.length≤1000000000:=by
 intro x hx
 unfold canF at hx
 cases hf:fnd f P.fs with
 |none=>rw[hf]at hx;cases hx
 |some g=>
  rw[hf]at hx
  obtain⟨v,_,rfl⟩:=List.mem_map.1 hx
  unfold UG
  split
  ·unfold Pi
   rw[List.length_cons,length_map];omega
  ·have:=dL l;omega
theorem Yj:∀(l:List (List Va)) (n:Int),(∀x∈l,0<x.length∧x.length≤1000000000)→1≤n→n≤2000→1≤QK l n∧QK l n≤2000
 |[],n,_,h1,h2=>⟨h1,h2⟩
 |c::r,n,h,h1,h2=>by
  simp only[QK]
  split
  ·exact⟨by decide,by decide⟩
  ·rename_i hc
   have hl:(c.length:Int)<2000:=by simpa using hc
   obtain⟨h3,_⟩:=h c (List.mem_cons_self ..)
   have hm:1≤n*(c.length:Int):=by
    have:1*1≤n*(c.length:Int):=Int.mul_le_mul h1 (by omega) (by omega) (by omega)
    omega
   have hm2:n*(c.length:Int)≤2000*2000:=Int.mul_le_mul h2 (by omega) (by omega) (by omega)
   have hw:IntKind.i64.wrap (n*(c.length:Int))=n*(c.length:Int):=wrap_i64 (by omega) (by omega)
   rw[hw]
   refine Yj r _ (fun x hx=>h x (List.mem_cons_of_mem _ hx)) ?_ ?_<;>(unfold mn;split<;>omega)
theorem qj (l:List (List Va)) (n:Int):(pkF l n).length=l.length:=by
 unfold pkF
 induction l with
 |nil=>rfl
 |cons c r ih=>show (pkR r n).1.length+1=_;rw[ih];rfl
def JU (g:Nat→Ms):Nat→Nat→Option Nat
 |0,_=>none
 |r+1,i=>if ((g i).e==1)=true then some i else JU g r (i+1)
def blS (P:Pg):Sta:=⟨blC P.g.c,blA P.g.a⟩
def QL (n:Nat) (P:Pg) (f:List UInt8) (fuel:Int) (l:List Int) (i:Nat):Ms:=clF n P f (pkF (canF P f l) (i:Int)) (blS P) fuel
def Ns (n:Nat) (P:Pg) (f:List UInt8) (fuel:Int) (l:List Int):Option Nat:=if (fnd f P.fs).isSome=true then JU (QL n P f fuel l) (JT (canF P f l)).toNat 0 else none
def PY:Ms:=⟨0,0,[],[],0,0,[],0,0⟩
def JV (n:Nat) (P:Pg) (f:List UInt8) (fuel:Int) (l:List Int):List Va×Ms×Bool:=match Ns n P f fuel l with
 |some i=>(pkF (canF P f l) (i:Int),QL n P f fuel l i,true)
 |none=>([],PY,false)
structure okW (N n:Nat) (P:Pg) (l:List Int) (fuel:Int):Prop where
 p:okPg N P
 c:P.g.c.length≤1000000
 a:P.g.a.length≤1000000
 q:∀x∈P.g.a,1≤x.n∧x.n≤1048576
 i:l.length≤1000000
 f:fuel<n
 n:n≤1000000000
theorem okW.ps {N n:Nat} {P:Pg} {l:List Int} {fuel:Int} (h:okW N n P l fuel):∀g∈P.fs,g.ps.length≤5000:=fun g hg=>(h.p.f g hg).1.1
theorem okW.r {N n:Nat} {P:Pg} {l:List Int} {fuel:Int} (h:okW N n P l fuel) (f:List UInt8) (i:Int):okR N n P (pkF (canF P f l) i) (blS P) fuel:=
 ⟨h.p,h.c,h.a,h.q,by simp[blS,blC];exact h.c,by simp[blS,blA];exact h.a,by rw[qj];exact Ru h.ps,h.f,h.n⟩
abbrev Rv (p:Pg) (f:List UInt8) (l:List Int):Prop:=p.g.c.length≤1000000∧l.length≤1000000∧p.fs.length≤1000000∧∀g∈p.fs,g.ps.length≤5000
abbrev JW (p:Pg) (f:List UInt8) (l:List Int):SV:=.one (.v (.int .i64 (X6 p f l)))
noncomputable abbrev Rw:ArgC ((Pg)×(List UInt8)×(List Int)×Unit):=(acS (cPg) (acS (cStr) (acS (cI6) ac0)))
abbrev hO:Prop:=Cg Try.prog 26 Rw (fun p:(Pg)×(List UInt8)×(List Int)×Unit=>Rv p.1 p.2.1 p.2.2.1) (fun p:(Pg)×(List UInt8)×(List Int)×Unit=>JW p.1 p.2.1 p.2.2.1)
theorem hX:∀p:(Pg)×(List UInt8)×(List Int)×Unit,((fun p:(Pg)×(List UInt8)×(List Int)×Unit=>JW p.1 p.2.1 p.2.2.1) p).names=[]:=by intro p;rfl
attribute [local go_sem] Zw Zv Ox SD NF NE Vu Vt BV BJ ouC pgR stR
attribute[local go_sem] EU Jf Df Jm H6 Ck GX F7 in
theorem qk:hO:=by
 rintro ⟨p,f,l,_u⟩ w fz xs hc hfz hl hx
 refine Bw Try.func26 rfl w fz [Df,H6] [] Rw (fun p:(Pg)×(List UInt8)×(List Int)×Unit=>JW p.1 p.2.1 p.2.2.1) _ xs hfz hl hx (jN rfl) ?_
 clear hx hl hfz xs
 simp only[Try.f26]
 obtain⟨h1,h2,h3,h4⟩:=hc
 obtain⟨⟨pc,pa⟩,pf⟩:=p
 have hk:(canF ⟨⟨pc,pa⟩,pf⟩ f l).length≤5000:=Ru h4
 dsimp only at h1 h2 h3 h4
 cases hf:(fnd f pf).isSome with
 |false=>
  have hr:X6 ⟨⟨pc,pa⟩,pf⟩ f l=0:=if_neg (by rw[hf];decide)
  simp only[↓eB,seval,go_sem,hf]
  refine⟨⟨h1,h2,h3,h4⟩,?_⟩
  refine A0 [] ?_;simp only[↓eB,seval,go_sem,bne,JW,hr]
 |true=>
  have hr:X6 ⟨⟨pc,pa⟩,pf⟩ f l=JT (canF ⟨⟨pc,pa⟩,pf⟩ f l):=if_pos hf
  simp only[↓eB,seval,go_sem,hf]
  refine⟨⟨h1,h2,h3,h4⟩,(by show _≤_;omega),?_⟩
  refine A0 [] ?_;simp only[↓eB,seval,go_sem,bne,JW,hr]
noncomputable def X7 {X:Ctx} {w0:World}:Sy.Spec Try.prog X w0:=DG 26 Try.call26 Rw (fun p:(Pg)×(List UInt8)×(List Int)×Unit=>Rv p.1 p.2.1 p.2.2.1) (fun p:(Pg)×(List UInt8)×(List Int)×Unit=>JW p.1 p.2.1 p.2.2.1) hX qk
abbrev X8:List C:=tgN 46 7
abbrev ouZ:List C:=[C.v (.int .i64 0),C.v (.int .i64 0),C.v (.string (bs [])),C.v (.int .i64 0),C.v (.int .i64 0),C.v (.slice none 0 0),C.v (.slice none 0 0)]
abbrev X9 (N:Nat) (n:Nat) (p:Pg) (f:List UInt8) (fuel:Int) (l:List Int):Prop:=okW N n p l fuel
abbrev JX (N:Nat) (n:Nat) (p:Pg) (f:List UInt8) (fuel:Int) (l:List Int):SV:=.tup [.inl (.d (.sl ES ((JV n p f fuel l).1.map Va.r))),.inr (ouC (JV n p f fuel l).2.1),.inl (.v (.bool (JV n p f fuel l).2.2))]
noncomputable abbrev Rx:ArgC ((Pg)×(List UInt8)×(Int)×(List Int)×Unit):=(acS (cPg) (acS (cStr) (acS (cInt .i64) (acS (cI6) ac0))))
abbrev XA (N:Nat) (n:Nat):Prop:=Cg Try.prog 28 Rx (fun p:(Pg)×(List UInt8)×(Int)×(List Int)×Unit=>X9 N n p.1 p.2.1 p.2.2.1 p.2.2.2.1) (fun p:(Pg)×(List UInt8)×(Int)×(List Int)×Unit=>JX N n p.1 p.2.1 p.2.2.1 p.2.2.2.1)
theorem hY (N:Nat) (n:Nat):∀p:(Pg)×(List UInt8)×(Int)×(List Int)×Unit,((fun p:(Pg)×(List UInt8)×(Int)×(List Int)×Unit=>JX N n p.1 p.2.1 p.2.2.1 p.2.2.2.1) p).names=[]:=by intro p;rfl
noncomputable def DK {X:Ctx} {w0:World} (N:Nat) (n:Nat) (h:XA N n):Sy.Spec Try.prog X w0:=DG 28 Try.call28 Rx (fun p:(Pg)×(List UInt8)×(Int)×(List Int)×Unit=>X9 N n p.1 p.2.1 p.2.2.1 p.2.2.2.1) (fun p:(Pg)×(List UInt8)×(Int)×(List Int)×Unit=>JX N n p.1 p.2.1 p.2.2.1 p.2.2.2.1) (hY N n) h
theorem UJ (N:Nat) (n:Nat):XA N n:=by
 rintro ⟨p,f,fuel,l,_u⟩ w fz xs hc hfz hl hx
 refine Bw Try.func28 rfl w fz [Df,H6,Jm,JE,(Jf N n (bz N n))] [(5,[.fz 28,.fz 600028])] Rx (fun p:(Pg)×(List UInt8)×(Int)×(List Int)×Unit=>JX N n p.1 p.2.1 p.2.2.1 p.2.2.2.1) _ xs hfz hl hx (jN rfl) ?_
 clear hx hl hfz xs
 simp only[Try.f28]
 obtain⟨⟨pc,pa⟩,pf⟩:=p
 have hw:okW N n ⟨⟨pc,pa⟩,pf⟩ l fuel:=hc
 have hk:(canF ⟨⟨pc,pa⟩,pf⟩ f l).length≤5000:=Ru hw.ps
 have hne:∀x∈canF ⟨⟨pc,pa⟩,pf⟩ f l,0<x.length∧x.length≤1000000000:=qi hw.c hw.i
 obtain⟨t1,t2⟩:=Yj _ 1 hne (Int.le_refl _) (by decide)
 have hcan:Lc ⟨⟨pc,pa⟩,pf⟩ f l:=⟨hw.c,hw.i,hw.p.l,hw.ps⟩
 cases hf:(fnd f pf).isSome with
 |false=>
  have hr:JV n ⟨⟨pc,pa⟩,pf⟩ f fuel l=([],PY,false):=by
   have:Ns n ⟨⟨pc,pa⟩,pf⟩ f fuel l=none:=if_neg (by rw[hf];decide)
   unfold JV;rw[this]
  simp only[↓eB,seval,go_sem,Df,Ck,H6,F7,Jm,GX,Jf,EU,hf]
  refine⟨hcan,?_⟩
  refine A0 [] ?_;simp only[↓eB,seval,go_sem,bne,JX,hr,PY]
 |true=>
  have hfr:Ns n ⟨⟨pc,pa⟩,pf⟩ f fuel l=JU (QL n ⟨⟨pc,pa⟩,pf⟩ f fuel l) (JT (canF ⟨⟨pc,pa⟩,pf⟩ f l)).toNat 0:=if_pos hf
  simp only[↓eB,seval,go_sem,Df,Ck,H6,F7,Jm,GX,Jf,EU,Vq,Sd,Se,Sc,lmH,lmO,chL,ML.ch,Dl,Dm,EZ,CT,Ee,nmX,xt,EA,ML.ren,rnC,EX,Fb,vrQ,DW,fcN,↓A1,I6,Ti,M_Bl,Vv,Vx,Jz,LJ,hf,W0,W1,W2,W3,zNb,zNa]
  have hbl:Qk ((⟨⟨pc,pa⟩,pf⟩:Pg),()):=⟨hw.c,hw.a,fun x hx=>(hw.q x hx).2⟩
  refine⟨hcan,hbl,(by show _≤_;omega),?_⟩
  obtain⟨cs,hcs⟩:∃cs,canF ⟨⟨pc,pa⟩,pf⟩ f l=cs:=⟨_,rfl⟩
  obtain⟨T,hT⟩:∃T:Nat,JT cs=(T:Int):=⟨(JT cs).toNat,by rw[← hcs];unfold JT;omega⟩
  have hT2:T≤2000:=by rw[hcs]at t2;have:JT cs≤2000:=t2;omega
  rw[hcs]at hk hne
  rw[hcs,hT]at hfr
  obtain⟨g,hg⟩:∃g,QL n ⟨⟨pc,pa⟩,pf⟩ f fuel l=g:=⟨_,rfl⟩
  have hgi:∀i:Nat,clF n ⟨⟨pc,pa⟩,pf⟩ f (pkF cs (i:Int)) ⟨blC pc,blA pa⟩ fuel=g i:=fun i=>by rw[← hg,← hcs];rfl
  have hcr:∀i:Nat,okR N n ⟨⟨pc,pa⟩,pf⟩ (pkF cs (i:Int)) ⟨blC pc,blA pa⟩ fuel:=fun i=>by rw[← hcs];exact hw.r f i
  rw[hg]at hfr
  have hfr:Ns n ⟨⟨pc,pa⟩,pf⟩ f fuel l=JU g T 0:=hfr
  simp only[hcs,hT]
  refine Ac (Y:=Nat) (fun i=>i≤T∧JU g (T-i) i=JU g T 0)
   (fun i=>⟨[(1,true,.one (.v (.string (bs f)))),(2,true,.one (.v (.int .i64 fuel))),(4,true,.one (.p 4 0 0)),(8,true,.one (.v (.slice none 0 0))),(9,true,.one (.p 9 0 0)),(10,true,.one (.v (.bool false))),(11,true,.one (.d (.sl PX (cs.map JS)))),(13,true,.one (.p 13 0 0)),(30,true,.one (.v (.int .i64 (T:Int)))),(31,true,.one (.v (.int .i64 (i:Int))))],
    [(4,.vec 0 [C.v (.bool false),C.v (.bool false),C.v (.bool false)] [[.d (.sl FN (pc.map cSd)),.d (.sl GL (pa.map Gy.r)),.d (.sl zFn (pf.map Fn.r))]]),(9,.vec 0 X8 [ouZ]),(13,.vec 0 Vc [[.d (.sl [.v (.string (bs [])),.v (.int .i64 0)] ((blC pc).map Nb.r)),.d (.sl [.v (.string (bs [])),.v (.slice none 0 0)] ((blA pa).map Na.r))]])]⟩)
   (fun i=>T-i) 0 ⟨Nat.zero_le _,rfl⟩ ?_ ?_
  ·refine A2 [] ?_;simp only[↓eB,seval,go_sem,Vc,X8,zNb,zNa,ouZ]
  ·rintro i ⟨hi,hI⟩
   refine Aq [Df,H6,Jm,JE,Jf N n (bz N n)] [] _ _ _ ?_
   by_cases hlt:i<T
   ·obtain⟨r,hr1⟩:∃r,T-i=r+1:=⟨T-i-1,by omega⟩
    rw[hr1]at hI
    have hd:decide ((i:Int)<(T:Int))=true:=decide_eq_true (by omega)
    have hpc:UH cs (i:Int):=⟨hk,hne,(by omega),(by omega)⟩
    have hw1:IntKind.i64.wrap ((i:Int)+1)=((i+1:Nat):Int):=by rw[wrap_i64 (by omega) (by omega)];omega
    obtain⟨m,hm⟩:∃m,g i=m:=⟨_,rfl⟩
    have hgm:=(hgi i).trans hm
    have hcri:=hcr i
    cases he:(m.e==1) with
    |true=>
     have hr:JV n ⟨⟨pc,pa⟩,pf⟩ f fuel l=(pkF cs (i:Int),m,true):=by
      have h2:JU g (r+1) i=some i:=if_pos (by rw[hm];exact he)
      have h3:Ns n ⟨⟨pc,pa⟩,pf⟩ f fuel l=some i:=hfr.trans (hI.symm.trans h2)
      unfold JV;rw[h3];dsimp only;rw[hg,hm,hcs]
     simp only[↓eB,seval,go_sem,Df,Ck,H6,F7,Jm,GX,Jf,EU,hd,hgm,he,Vc,X8,zNb,zNa,ouZ]
     refine⟨hpc,hcri,Dw (by kernel_rfl),?_⟩
     refine A0 [] ?_;simp only[↓eB,seval,go_sem,bne,JX,hr]
    |false=>
     have hI2:JU g r (i+1)=JU g T 0:=by
      rw[← hI];exact(if_neg (by rw[hm,he];decide)).symm
     simp only[↓eB,seval,go_sem,Df,Ck,H6,F7,Jm,GX,Jf,EU,hd,hgm,he,hw1,Vc,X8,zNb,zNa,ouZ]
     refine⟨hpc,hcri,i+1,⟨(by omega),(by rw[show T-(i+1)=r by omega];exact hI2)⟩,(by omega),?_⟩
     refine A2 [] ?_;simp only[↓eB,seval,go_sem]
   ·have hiT:i=T:=by omega
    subst hiT
    have hd:decide ((i:Int)<(i:Int))=false:=decide_eq_false (by omega)
    have hr:JV n ⟨⟨pc,pa⟩,pf⟩ f fuel l=([],PY,false):=by
     have h2:Ns n ⟨⟨pc,pa⟩,pf⟩ f fuel l=none:=by rw[hfr,← hI,Nat.sub_self];rfl
     unfold JV;rw[h2]
    simp only[↓eB,seval,go_sem,Df,Ck,H6,F7,Jm,GX,Jf,EU,hd,Vc,X8,ouZ]
    refine A0 [] ?_;simp only[↓eB,seval,go_sem,bne,JX,hr,PY]
end Go.Proofs.Ytjnnmindcbgjhaa
namespace Go.Proofs.Ytjnnmindcbgjhaa
open Go Go.Sy Go.RowKit
def wT:List UInt8:=[102,110,32,102,40,120,41,32,123,32,114,101,116,117,114,110,32,49,32,47,32,120,59,32,125]
def wP:Pg:=⟨⟨[],[]⟩,[⟨[102],[⟨[120],false⟩],[],[(.mk 9 [] [] (.mk 5 0 [] (.mk 0 1 [] .nil .nil) (.mk 1 0 [120] .nil .nil)) .nil .nil [] [] [] 0)]⟩]⟩
theorem A8s:prF 8 kgl [⟨[102],wT⟩]=wP:=by kernel_rfl
theorem A8t:∀u∈[(⟨[102],wT⟩:Un)],okUn 50 8 kgl u:=by
 intro u hu
 rw[List.mem_singleton.1 hu]
 exact cA (by decide) (by have e:wT.length=25:=rfl;unfold Ed;omega) (by kernel_rfl)
theorem A8u (l:List Int) (f:Int) (hl:l.length≤1000000) (hf:f<10):okW 50 10 wP l f:=⟨YG (M:=8) (by kernel_rfl),by decide,by decide,(by intro x hx;cases hx),hl,hf,by decide⟩
theorem A8v:JV 10 wP [102] 9 [3,0]=([⟨false,0,[]⟩],⟨8,1,[],[],1,0,[102],0,0⟩,true):=by kernel_rfl
theorem A8w:JV 10 wP [102] 9 [3,4]=([],PY,false):=by kernel_rfl
theorem A8x:X6 wP [102] [3,0]=2:=by kernel_rfl
theorem A8y:X6 wP [103] [1]=0:=by kernel_rfl
abbrev TA:Prop:=True
abbrev C2:SV:=.one (.v (.bool true))
noncomputable abbrev PZ:ArgC (Unit):=ac0
abbrev Zx:Prop:=Cg Try.prog 25 PZ (fun p:Unit=>TA ) (fun p:Unit=>C2 )
theorem Zy:∀p:Unit,((fun p:Unit=>C2 ) p).names=[]:=by intro p;rfl
theorem dM:Zx:=by
 rintro ⟨_u⟩ w fz xs hc hfz hl hx
 refine Bw Try.func25 rfl w fz [(Dq 50 8 kgl (y_Prog 50 8 kgl)),(DK 50 10 (UJ 50 10)),X7] [(2,[.flag 13]),(3,[.flag 20]),(4,[.flag 49,.flag 55])] PZ (fun p:Unit=>C2 ) _ xs hfz hl hx (jN rfl) ?_
 clear hx hl hfz xs
 simp only[Try.f25]
 have he:=A8s
 have hu:=A8t
 have hr:=A8u
 simp only[wT]at he hu
 have hw:=hr [] 0 (by decide) (by decide)
 have hcn:∀(f:List UInt8) (l:List Int),l.length≤1000000→Rv wP f l:=fun f l h=>⟨hw.c,h,hw.p.l,hw.ps⟩
 simp only[↓eB,seval,go_sem,Dq,DK,X7,JW,Jq,Jp,cB,Un.c,pqR,zUc,NE,NF,pgR,SD,Ox,aj,ak,ouC,Va.r,he,A8v,A8w,A8x,A8y,Ds]
 refine⟨⟨jN rfl,hu⟩,hr _ 9 (by decide) (by decide),hr _ 9 (by decide) (by decide),hcn _ _ (by decide),hcn _ _ (by decide),?_⟩
 refine A0 [] ?_;simp only[↓eB,seval,go_sem,bne,C2]
noncomputable def CW {X:Ctx} {w0:World}:Sy.Spec Try.prog X w0:=DG 25 Try.call25 PZ (fun p:Unit=>TA ) (fun p:Unit=>C2 ) Zy dM
end Go.Proofs.Ytjnnmindcbgjhaa
namespace Go.Proofs.Ytjnnmindcbgjhaa
open Go Go.Sy Go.RowKit
structure coQ (D N:Nat) (t:List UInt8) (c:Cc):Prop where
 w:c.wf
 d:c.dp≤D
 z:Lz t c.tk
 n:t≠[]
 l:t.length≤N
def agN:List Cx→List Kt
 |[]=>[]
 |[c]=>c.tk
 |c::l=>c.tk++kO 44::agN l
structure agQ (t:List UInt8) (l:List Cx):Prop where
 o:∀e∈l,exO e
 d:agD l≤1
 z:Lz t (agN l)
 n:t≠[]
 l:t.length≤46
structure lfQ (m:Mk) (r:T) (s:Cs):Prop where
 w:s.wf
 d:s.dp≤3
 z:Lw r.1 s.tk
 c:s.ct=1
 l:r.1.length≤100
 q:Sm0 (dcM m) r.2
theorem Lp.cast {P:UInt8→Bool} {t u:List UInt8} {ts us:List Kt} (h:Lp P t ts) (e:t=u) (e2:ts=us):Lp P u us:=by subst e;subst e2;exact h
variable {B:Mk→T} {s:Int} {m:Mk}
end Go.Proofs.Ytjnnmindcbgjhaa
