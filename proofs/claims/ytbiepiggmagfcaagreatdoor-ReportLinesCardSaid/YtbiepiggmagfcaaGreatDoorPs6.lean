/- print: globals. Conditions: the lengths are of 64 bits, the text is shorter than 10^9 bytes; the table of powers of ten is laid. -/
import Derived.Test.YtbiepiggmagfcaaGreatDoorPs5
import Derived.Test.YtbiepiggmagfcaaGreatDoorRp5
import Derived.Test.YtbiepiggmagfcaaGreatDoorPb4
set_option linter.unusedVariables false
set_option linter.unusedSimpArgs false
open List (length_map)
namespace Go.Proofs.YtbiepiggmagfcaaGreatDoor
open Go Go.Sy Go.RowKit
structure Ga where
 s:List UInt8
 n:Int
structure Gb where
 cs:List (List UInt8)
 as':List Ga
def Ga.r (a:Ga):List D:=[dS a.s,dI a.n]
def zGa:List D:=[dS [],dI 0]
theorem B2L:zGa.length=2:=rfl
def Gb.c (g:Gb):List C:=[.d (.sl zSD (g.cs.map sD1)),.d (.sl zGa (g.as'.map Ga.r))]
theorem B2M (a b:Ga) (h:a.r=b.r):a=b:=by
 obtain⟨s,n⟩:=a
 obtain⟨s',n'⟩:=b
 simp only[Ga.r,List.cons.injEq,D.v.injEq,Value.int.injEq,Value.string.injEq,and_true,true_and]at h
 rw[bs_inj h.1,h.2]
theorem B2Q (v:SV) (a b:Gb) (h:leV v (.agg a.c)) (h':leV v (.agg b.c)):a=b:=by
 cases v with
 |one c=>exact h.elim
 |tup l=>exact h.elim
 |agg l=>
  obtain⟨cs,as'⟩:=a
  obtain⟨cs2,as2⟩:=b
  match l,h,h' with
  |[c0,c1],⟨h0,h1,_⟩,⟨g0,g1,_⟩=>
   have k1:=Bh rG (Jb h0 g0)
   have k2:=Bh B2M (Jb h1 g1)
   simp only at k1 k2
   subst k1;subst k2;rfl
noncomputable def cGb:Cod Gb:=IF (fun g=>.agg g.c) B2Q (fun g=>rfl)
theorem B2R (g:Gb):cGb.e g= .agg g.c:=rfl
theorem B2S (cs:List (List UInt8)) (as':List Ga):cGb.d (.agg [.d (.sl zSD (cs.map sD1)),.d (.sl zGa (as'.map Ga.r))])=some ⟨cs,as'⟩:=Df (e:=fun g:Gb=>.agg g.c) (a:=⟨cs,as'⟩) (ED _)
theorem B2J {A:Type} (f:A→List UInt8) {l:List A} {i:Nat} {x:A} (h:l[i]?=some x):(l.take (i+1)).flatMap f=(l.take i).flatMap f++f x:=by
 rw[List.take_add_one,h,List.flatMap_append];simp
theorem B2N {A:Type} (f:A→List UInt8) (l:List A) (i:Nat):((l.take i).flatMap f).length≤(l.flatMap f).length:=by
 have h1:l.flatMap f=(l.take i).flatMap f++(l.drop i).flatMap f:=by rw[← List.flatMap_append,List.take_append_drop]
 rw[h1,List.length_append];omega
end Go.Proofs.YtbiepiggmagfcaaGreatDoor
namespace Go.Proofs.YtbiepiggmagfcaaGreatDoor
open Go Go.Sy Go.Shelf Go.RowKit
def jnN (l:List (List UInt8)):List UInt8:=Lib.join l [10]
theorem qx (l:List (List UInt8)) (w:World) (fz:Nat→Prop) (hfz:∀b,fz b→b<w.heap.size) (hl:l.length≤1000000) (ht:(jnN l).length≤1000000000) {x:Value} (h:Rd (hp w) fz (.sl zSD (l.map sD1)) x) :
  Calls Tryz.prog 47 #[x,.string (bs [10])] w fun e w'=>e= .returned (.string (bs (jnN l)))∧Below w.heap.size w w':=by
 have hbs:∀s:List UInt8,(bs s).data.toList=s:=fun s=>by simp[bs]
 have h5:List.map (fun b:ByteArray=>b.data.toList) (l.map bs)=l:=by
  rw[List.map_map]
  have:((fun b:ByteArray=>b.data.toList)∘bs)=id:=by funext s;exact hbs s
  rw[this,List.map_id]
 generalize hD:l.map sD1=es at h
 cases h with
 |nil _ a cap h0=>
  obtain rfl:l=[]:=by simpa using hD
  exact(Any.strings_Join_none Tryz.lays156 x5 a cap (bs [10]) w).mono fun e w' ⟨he,hw⟩=>⟨he,hw▸Below.refl _ _⟩
 |sl _ _ b off cap arr T m val hz hb hcap hl' hc hr=>
  subst hD
  have hbw:w.heap[b]?=some (.cells arr T m):=hb
  have:=Any.strings_Join Tryz.lays156 x5 b off cap (l.map bs) (bs [10]) w (fun j x hj=>by
    simp only[List.getElem?_map,Option.map_eq_some_iff]at hj
    obtain⟨s,hs,rfl⟩:=hj
    have h1:(l.map sD1)[j]?=some (sD1 s):=by simp[hs]
    have h2:=hc j 0 _ (dS s) h1 rfl
    have h3:=hr j 0 _ (dS s) h1 rfl
    generalize val j 0=y at h2 h3
    cases h3
    simp only[World.cell?,hbw,Option.isSome_none,jB,if_false]
    rw[← h2];congr 1;simp[zSD])
   (hfz b hz) (by rw[length_map];omega) (by rw[length_map];rw[length_map]at hcap;exact hcap) (by
    rw[h5,hbs]
    show (jnN l).length≤_
    omega)
  rw[h5,hbs]at this
  rw[length_map]at this ⊢
  exact this
abbrev XS (l:List (List UInt8)) (s:List UInt8):Prop:=s=[10]∧l.length≤1000000∧(jnN l).length≤1000000000
abbrev OE (l:List (List UInt8)) (_:List UInt8):Value:=.string (bs (jnN l))
theorem qy:M9 Tryz.prog 47 (ahS (cSl rSs) (ahS cStr.H ah0)) (fun p=>XS p.1 p.2.1) (fun p=>ofV (OE p.1 p.2.1)):=by
 rintro ⟨l,s,_u⟩ w fz xs ⟨hs,hl1,hl2⟩ hfz hl hx
 dsimp only at hs hl1 hl2
 subst hs
 obtain⟨x,y,rfl⟩:∃x y,xs=[x,y]:=by
  match xs,hl with
  |[x,y],_=>exact⟨x,y,rfl⟩
 have hy:=hx 1 _ y rfl rfl
 have hxx:=hx 0 _ x rfl rfl
 obtain rfl:=CF hy rfl
 have hr:Rd (hp w) fz (.sl zSD (l.map sD1)) x:=by
  have:=hxx.2
  cases this
  assumption
 refine(qx l w fz hfz hl1 hl2 hr).mono ?_
 rintro e w' ⟨rfl,hb⟩
 exact⟨_,_,fz,rfl,rfl,rfl,fun _ h=>h,fun _ h=>.inl h,fun b h=>Nat.lt_of_lt_of_le (hfz b h) hb.size,F1 (w:=w') rfl,hb⟩
theorem kV:∀p:(List (List UInt8))×(List UInt8)×Unit,okV ((fun p:(List (List UInt8))×(List UInt8)×Unit=>OE p.1 p.2.1) p)=true:=by intro p;rfl
noncomputable def XT {X:Ctx} {w0:World}:Sy.Spec Tryz.prog X w0:=MT 47 Tryz.call47 (ahS (cSl rSs) (ahS cStr.H ah0)) (fun p=>XS p.1 p.2.1) (fun p=>OE p.1 p.2.1) kV qy
abbrev K2 (p:Rp):Prop:=p.l.length≤1000000∧(jnN p.l).length≤1000000000
abbrev K3 (p:Rp):SV:=.one (.v (.string (bs (jnN p.l))))
abbrev Fe (p:Rp):List (Option MV):=[some (zRp,[p.c])]
noncomputable abbrev Ff:ArgM ((Rp)×Unit):=(amP (mRp) am0)
abbrev gD:Prop:=BD Tryz.prog 56 ((Ff).args 0) (Ff).mem (fun p:(Rp)×Unit=>K2 p.1) (fun p:(Rp)×Unit=>K3 p.1) (fun p:(Rp)×Unit=>Fe p.1)
theorem gE:∀p,(fun p:(Rp)×Unit=>K2 p.1) p→BA ((Ff).mem p).length ((fun p:(Rp)×Unit=>Fe p.1) p)=true:=by intro p _;rfl
theorem gF:∀p,(fun p:(Rp)×Unit=>K2 p.1) p→AQ ((fun p:(Rp)×Unit=>Fe p.1) p).length ((fun p:(Rp)×Unit=>K3 p.1) p)=true:=by intro p _;rfl
theorem gG:∀p,(fun p:(Rp)×Unit=>K2 p.1) p→∀q,some q∈(fun p:(Rp)×Unit=>Fe p.1) p→∀r∈q.2,∀c∈r,c.names=[]:=by intro p _;exact TK _
attribute [local go_sem] Fn.c Rp.c Ht Jc KW KV UQ GU TI TJ WJ WI cF cE cD sR1 gk K8 XR I8 XT Xq OE TG TH zRp XZ zSs XK
theorem kW:gD:=by
 rintro ⟨p,_u⟩ w M I lab fz xs hc hA hl hx
 refine AJ Tryz.func56 rfl _ w M I lab fz [XT] [(1,[.unr 0 0 0 1000])] _ _ _ xs hA hl hx (fun v hv k hk=>by have:=(Ff).an 0 ⟨p,_u⟩ v hv k hk;omega) (jN rfl) (jN rfl) ?_
 clear hx hl hA xs
 simp only[Tryz.f56]
 obtain⟨h1,h2⟩:=hc
 obtain⟨l,a,n⟩:=p
 dsimp only at h1 h2
 simp only[↓eB,seval,go_sem,Af.ds]
 try simp only[A1,A2]
 repeat' first|exact ck|with_reducible apply And.intro|intro _
 all_goals first|exact h1|exact h2|exact rfl|(rename_i h;first|exact oI h|exact nah h)|(rename_i _ h _ g;exact sL h g)|decide|omega|(refine A0 [.fold 0 0 0] ?_;simp only[↓eB,seval,go_sem,bne,K3,Fe])
noncomputable def VG {X:Ctx} {w0:World}:Sy.Spec Tryz.prog X w0:=Be 56 Tryz.call56 (Ff) (fun p:(Rp)×Unit=>K2 p.1) (fun p:(Rp)×Unit=>K3 p.1) (fun p:(Rp)×Unit=>Fe p.1) gE gF gG kW
noncomputable def cAs:Cod (List Al):=IF (fun l=>.one (.d (.sl zAl (l.map Al.r)))) (fun v a b h h'=>by
 cases v with
 |one c=>exact Bh Xr (Jb h h')
 |agg l=>exact h.elim
 |tup l=>exact h.elim) (fun l=>rfl)
theorem bw (l:List Al):cAs.e l= .one (.d (.sl zAl (l.map Al.r))):=rfl
theorem Sp (l:List Al):cAs.d (.one (.d (.sl zAl (l.map Al.r))))=some l:=Df (e:=fun l:List Al=>.one (.d (.sl zAl (l.map Al.r)))) (ED _)
noncomputable def cNs:Cod (List Nt):=IF (fun l=>.one (.d (.sl zNt (l.map Nt.r)))) (fun v a b h h'=>by
 cases v with
 |one c=>exact Bh gj (Jb h h')
 |agg l=>exact h.elim
 |tup l=>exact h.elim) (fun l=>rfl)
theorem bx (l:List Nt):cNs.e l= .one (.d (.sl zNt (l.map Nt.r))):=rfl
theorem bz (l:List Nt):cNs.d (.one (.d (.sl zNt (l.map Nt.r))))=some l:=Df (e:=fun l:List Nt=>.one (.d (.sl zNt (l.map Nt.r)))) (ED _)
def rpL (f:Fn) (A:List Al) (N:List Nt):List (List UInt8):=bkB A N f.body (Eh (fnT f)) ((((Eh (fnT f)).length-2-htB f.body:Nat)):Int)
structure okRep (n m:Nat) (f:Fn) (A:List Al) (N:List Nt):Prop where
 p:Cp n m f.body
 b:okB n m f.body
 m:m≤1000
 ps:f.ps.length≤5000
 ls:f.ls.length≤5000
 t:(fnT f).length≤1000000000
 h:htB f.body≤10000
 o:Xt ⟨Eh (fnT f),A,N⟩ (htB f.body)
 i:htB f.body+2≤(Eh (fnT f)).length
 j:(jnN (rpL f A N)).length≤1000000000
abbrev KX (n:Nat) (m:Nat) (f:Fn) (A:List Al) (N:List Nt):Prop:=okRep n m f A N
abbrev Hx (n:Nat) (m:Nat) (f:Fn) (A:List Al) (N:List Nt):SV:=.one (.v (.string (bs (jnN (rpL f A N)))))
noncomputable abbrev Hy:ArgC ((Fn)×(List Al)×(List Nt)×Unit):=(acS (cFn) (acS (cAs) (acS (cNs) ac0)))
abbrev Sq (n:Nat) (m:Nat):Prop:=Cn Tryz.prog 21 AY Hy (fun p:(Fn)×(List Al)×(List Nt)×Unit=>KX n m p.1 p.2.1 p.2.2.1) (fun p:(Fn)×(List Al)×(List Nt)×Unit=>Hx n m p.1 p.2.1 p.2.2.1)
set_option maxRecDepth 20000 in set_option maxHeartbeats 8000000 in
theorem PY (n:Nat) (m:Nat):Sq n m:=by
 rintro ⟨f,A,N,_u⟩ w fz xs hT hc hfz hl hx
 have hG:=Cj Br DA (fz:=fz) hT
 refine A9 Tryz.func21 rfl w fz [(XR n m (y_pFunc n m) hG),Xq,(K8 n m (Xs n m)),(I8 n m (VQ n m)),VG] [(2,[.fold 15 0 0])] Hy (fun p:(Fn)×(List Al)×(List Nt)×Unit=>Hx n m p.1 p.2.1 p.2.2.1) _ xs hfz hl hx (jN rfl) ?_
 clear hx hl hfz xs
 simp only[Tryz.f21]
 obtain⟨h1,h2,h3,h4,h5,h6,h7,h8,h9,h10⟩:=hc
 obtain⟨nm,ps,ls,bd⟩:=f
 dsimp only at h1 h2 h4 h5 h7 h8 h9
 obtain⟨L,hL⟩:∃L,Eh (fnT ⟨nm,ps,ls,bd⟩)=L:=⟨_,rfl⟩
 unfold rpL at h10
 dsimp only at h10
 rw[hL]at h8 h9 h10
 have hLl:L.length≤1000000:=h8.1
 have q0:(fnT ⟨nm,ps,ls,bd⟩).length<4294967281:=by dsimp only at h6;omega
 obtain⟨i0,hi0⟩:∃i0:Nat,L.length-2-htB bd=i0:=⟨_,rfl⟩
 have w1:IntKind.i64.wrap ((L.length:Int)-2)=((L.length-2:Nat):Int):=by rw[wrap_i64 (by omega) (by omega)];omega
 have w2:IntKind.i64.wrap (((L.length-2:Nat):Int)-(htB bd:Int))=(i0:Int):=by rw[wrap_i64 (by omega) (by omega)];omega
 have q1:(0:Int)≤(i0:Int):=by omega
 have q2:(i0:Int)+(htB bd:Int)≤10000000:=by omega
 have q3:=HV A N bd L (i0:Int)
 have q4:(bkB A N bd L (i0:Int)).length≤1000000:=by omega
 rw[hi0]at h10
 simp only[↓eB,seval,go_sem,bw,Sp,bx,bz,VG,hL,w1,w2]
 try simp only[A1,A2]
 repeat' first|exact ck|with_reducible apply And.intro|intro _
 all_goals first|exact h1|exact h2|exact h3|exact h4|exact h5|exact h6|exact h7|exact h8|exact h9|exact h10|exact q0|exact q1|exact q2|exact q4|exact rfl|(rename_i h;first|exact oI h|exact nah h)|(rename_i _ h _ g;exact sL h g)|decide|omega|(refine A0 [] ?_;simp only[↓eB,seval,go_sem,bne,Hx,rpL,hL,hi0])
end Go.Proofs.YtbiepiggmagfcaaGreatDoor
namespace Go.Proofs.YtbiepiggmagfcaaGreatDoor
open Go Go.Sy Go.RowKit
abbrev kX:List UInt8:=[48,49,50,51,52,53,54,55,56,57]
theorem gH:∀n,n<10→(kX.drop n).take (n+1-n)=[UInt8.ofNat (48+n)]:=by decide
theorem Ll {u:Nat} (h:u<10):Lib.decDigits u=[UInt8.ofNat (48+u)]:=by rw[Lib.decDigits,dif_pos h]
theorem Sr {u:Nat} (h:¬u<10):Lib.decDigits u=Lib.decDigits (u / 10)++[UInt8.ofNat (48+u % 10)]:=by rw[Lib.decDigits,dif_neg h]
theorem UM:∀(f u:Nat),u<10 ^ (f+1)→(Lib.decDigits u).length≤f+1
 |0,u,h=>by rw[Ll (by simpa using h)];simp
 |f+1,u,h=>by
  by_cases hu:u<10
  ·rw[Ll hu];simp
  ·rw[Sr hu]
   have:=UM f (u / 10) (by rw[Nat.div_lt_iff_lt_mul (by decide)];rw[Nat.pow_succ]at h;exact h)
   simp;omega
theorem Fg (u:Nat):Lib.itoa (u:Int)=Lib.decDigits u:=by unfold Lib.itoa;rw[if_neg (by omega)];rfl
theorem itoa_neg {u:Nat} (h:0<u):Lib.itoa (-(u:Int))=45::Lib.decDigits u:=by unfold Lib.itoa;rw[if_pos (by omega)];simp
theorem kY (f:Nat) (n:Int) (h:n.natAbs<10 ^ (f+1)):(Lib.itoa n).length≤f+2:=by
 unfold Lib.itoa
 split
 ·have:=UM f n.natAbs h;simp;omega
 ·have:=UM f n.toNat (by omega);omega
theorem Gx {n:Int} (h:w64 n):(Lib.itoa n).length≤22:=kY 20 n (Nat.lt_of_le_of_lt (show n.natAbs≤9223372036854775808 by obtain⟨h1,h2⟩:=h;omega) (by decide))
abbrev cdD (f:Nat) (p:Int×Unit):Prop:=w64 p.1∧(p.1.natAbs<10 ^ f∨(0≤p.1∧p.1<10))
abbrev fnD (p:Int×Unit):SV:=.one (.v (.string (bs (Lib.itoa p.1))))
theorem A2u:∀p,(fnD p).names=[]:=by intro p;rfl
theorem A2v:∀f:Nat,AP Tryz.prog 51 (acS (cInt .i64) ac0) (cdD f) fnD:=by
 intro f
 induction f with
 |zero=>
  rintro ⟨n,_u⟩ w fz xs hc hfz hl hx
  refine Ya Tryz.func51 rfl w fz [] [] (acS (cInt .i64) ac0) fnD _ xs hfz hl hx (jN rfl) ?_
  clear hx hl hfz xs
  simp only[Tryz.f51]
  obtain⟨⟨h1,h2⟩,h3⟩:=hc
  dsimp only at h1 h2 h3
  rw[Nat.pow_zero]at h3
  obtain⟨m,rfl⟩:∃m:Nat,n=(m:Int):=⟨n.natAbs,by omega⟩
  have h9:m<10:=by omega
  have d1:decide ((m:Int)<0)=false:=by simp
  have d2:decide ((m:Int)<10)=true:=by simp;omega
  have d3:IntKind.i64.wrap ((m:Int)+1)=((m+1:Nat):Int):=by rw[wrap_i64 (by omega) (by omega)];rfl
  have d4:=gH m h9
  simp only[kX]at d4
  simp only[↓eB,seval,go_sem,d1,d2,d3]
  refine⟨⟨by omega,by omega⟩,?_⟩
  rw[d4]
  refine A0 [] ?_;simp only[↓eB,seval,go_sem,bne,fnD,Fg,Ll h9]
 |succ f ih=>
  rintro ⟨n,_u⟩ w fz xs hc hfz hl hx
  refine Ya Tryz.func51 rfl w fz [Am 51 Tryz.call51 (acS (cInt .i64) ac0) (cdD f) fnD A2u ih] [] (acS (cInt .i64) ac0) fnD _ xs hfz hl hx (jN rfl) ?_
  clear hx hl hfz xs
  simp only[Tryz.f51]
  obtain⟨⟨h1,h2⟩,h3⟩:=hc
  dsimp only at h1 h2 h3
  rw[Nat.pow_succ]at h3
  by_cases hn:n<0
  ·obtain⟨m,rfl⟩:∃m:Nat,n = -(m:Int):=⟨n.natAbs,by omega⟩
   have d1:decide (-(m:Int)<0)=true:=by simp;omega
   by_cases h9:9<m
   ·have d2:decide (-(m:Int) < -9)=true:=by simp;omega
    have d3:IntKind.i64.wrap ((-(m:Int)).tdiv 10) = -((m / 10:Nat):Int):=by
     rw[Int.neg_tdiv,Int.tdiv_eq_ediv_of_nonneg (by omega),wrap_i64 (by omega) (by omega)];omega
    have d4:IntKind.i64.wrap (0-(-(m:Int)).tmod 10)=((m % 10:Nat):Int):=by
     rw[Int.neg_tmod,Int.tmod_eq_emod_of_nonneg (by omega),wrap_i64 (by omega) (by omega)];omega
    have h7:m % 10<10:=Nat.mod_lt _ (by decide)
    have k1:w64 (-((m / 10:Nat):Int)):=⟨by omega,by omega⟩
    have k2:w64 ((m % 10:Nat):Int):=⟨by omega,by omega⟩
    have l1:=Gx k1
    have l2:=Gx k2
    have e1:Lib.itoa (-((m / 10:Nat):Int))++Lib.itoa ((m % 10:Nat):Int)=Lib.itoa (-(m:Int)):=by
     rw[itoa_neg (by omega),itoa_neg (by omega),Fg,Ll h7,Sr (u:=m) (by omega)];rfl
    simp only[↓eB,seval,go_sem,d1,d2,d3,d4]
    refine⟨⟨k1,.inl ?_⟩,⟨k2,.inr ⟨by dsimp only;omega,by dsimp only;omega⟩⟩,by omega,?_⟩
    ·show (-((m / 10:Nat):Int)).natAbs<_
     omega
    ·rw[e1]
     refine A0 [] ?_;simp only[↓eB,seval,go_sem,bne,fnD]
   ·have d2:decide (-(m:Int) < -9)=false:=by simp;omega
    have d3:IntKind.i64.wrap (0 - -(m:Int))=(m:Int):=by rw[wrap_i64 (by omega) (by omega)];omega
    have k1:w64 (m:Int):=⟨by omega,by omega⟩
    have l1:=Gx k1
    have e1:45::Lib.itoa (m:Int)=Lib.itoa (-(m:Int)):=by rw[itoa_neg (by omega),Fg]
    simp only[↓eB,seval,go_sem,d1,d2,d3]
    refine⟨⟨k1,.inr ⟨by dsimp only;omega,by dsimp only;omega⟩⟩,by omega,?_⟩
    rw[e1]
    refine A0 [] ?_;simp only[↓eB,seval,go_sem,bne,fnD]
  ·obtain⟨m,rfl⟩:∃m:Nat,n=(m:Int):=⟨n.natAbs,by omega⟩
   have d1:decide ((m:Int)<0)=false:=by simp
   by_cases h9:m<10
   ·have d2:decide ((m:Int)<10)=true:=by simp;omega
    have d3:IntKind.i64.wrap ((m:Int)+1)=((m+1:Nat):Int):=by rw[wrap_i64 (by omega) (by omega)];rfl
    have d4:=gH m h9
    simp only[kX]at d4
    simp only[↓eB,seval,go_sem,d1,d2,d3]
    refine⟨⟨by omega,by omega⟩,?_⟩
    rw[d4]
    refine A0 [] ?_;simp only[↓eB,seval,go_sem,bne,fnD,Fg,Ll h9]
   ·have d2:decide ((m:Int)<10)=false:=by simp;omega
    have d3:IntKind.i64.wrap ((m:Int).tdiv 10)=((m / 10:Nat):Int):=by
     rw[Int.tdiv_eq_ediv_of_nonneg (by omega),wrap_i64 (by omega) (by omega)];omega
    have d4:(m:Int).tmod 10=((m % 10:Nat):Int):=by rw[Int.tmod_eq_emod_of_nonneg (by omega)];omega
    have h7:m % 10<10:=Nat.mod_lt _ (by decide)
    have k1:w64 ((m / 10:Nat):Int):=⟨by omega,by omega⟩
    have k2:w64 ((m % 10:Nat):Int):=⟨by omega,by omega⟩
    have l1:=Gx k1
    have l2:=Gx k2
    have e1:Lib.itoa ((m / 10:Nat):Int)++Lib.itoa ((m % 10:Nat):Int)=Lib.itoa (m:Int):=by
     rw[Fg,Fg,Fg,Ll h7,Sr (u:=m) h9]
    simp only[↓eB,seval,go_sem,d1,d2,d3,d4]
    refine⟨⟨k1,.inl ?_⟩,⟨k2,.inr ⟨by dsimp only;omega,by dsimp only;omega⟩⟩,by omega,?_⟩
    ·show (((m / 10:Nat):Int)).natAbs<_
     omega
    ·rw[e1]
     refine A0 [] ?_;simp only[↓eB,seval,go_sem,bne,fnD]
theorem xU {n:Int} (h:w64 n):n.natAbs<10 ^ 20:=Nat.lt_of_le_of_lt (show n.natAbs≤9223372036854775808 by obtain⟨h1,h2⟩:=h;omega) (by decide)
abbrev nL (n:Int):Prop:=w64 n
abbrev Ss (n:Int):SV:=SV.one (.v (.string (bs (itT n))))
theorem A7r:AP Tryz.prog 51 (acS (cInt .i64) ac0) (fun p:(Int×Unit)=>nL p.1) (fun p:(Int×Unit)=>Ss p.1):=fun a w fz xs hc=>A2v 20 a w fz xs ⟨hc,.inl (xU hc)⟩
theorem A2w:∀p:(Int×Unit),((fun p:(Int×Unit)=>Ss p.1) p).names=[]:=by intro p;first|rfl|simp[SV.names,C.names]
noncomputable def OH {X:Ctx} {w0:World}:Sy.Spec Tryz.prog X w0:=Am 51 Tryz.call51 (acS (cInt .i64) ac0) (fun p:(Int×Unit)=>nL p.1) (fun p:(Int×Unit)=>Ss p.1) A2w A7r
theorem G9 {n:Int} (h:w64 n):(itT n).length≤22:=Gx h
end Go.Proofs.YtbiepiggmagfcaaGreatDoor
