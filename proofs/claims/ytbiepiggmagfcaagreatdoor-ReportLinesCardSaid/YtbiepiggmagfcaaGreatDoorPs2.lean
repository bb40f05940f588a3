/- The lines of a printed function, in plain words; the parts of a line. No conditions but those in each statement. -/
import Derived.Test.YtbiepiggmagfcaaGreatDoorPx2
set_option linter.unusedVariables false
set_option linter.unusedSimpArgs false
open List (length_append length_cons length_nil flatten_cons map_append)
namespace Go.Proofs.YtbiepiggmagfcaaGreatDoor
open Go Go.Sy Go.RowKit
structure Ln where
 t:List UInt8
 n:Int
def Az (a:Ar):List UInt8:=if a.p=true then a.s else exT a.e
def FX (x:List UInt8):List UInt8:=if (x==[])=true then [] else x++[32,61,32]
def hdL (s:Sm):List (List UInt8):=
 if (s.k==0)=true then [s.x,[32,61,32],exT s.e,[59]]
 else if (s.k==1)=true then [s.x,[32,61,32,38],s.y,[59]]
 else if (s.k==2)=true then [s.x,[32,61,32],s.y,[59]]
 else if (s.k==3)=true then [s.x,[32,61,32,110,117,108,108,59]]
 else if (s.k==4)=true then [s.x,[32,61,32,42],s.y,[59]]
 else if (s.k==5)=true then [[42],s.x,[32,61,32],exT s.e,[59]]
 else if (s.k==6)=true then [s.x,[32,61,32],s.y,[91],exT s.e,[93,59]]
 else if (s.k==7)=true then [s.y,[91],exT s.e,[93,32,61,32],exT s.f,[59]]
 else if (s.k==8)=true then [FX s.x,s.y,[40],jnT (s.ar.map Az),[41,59]]
 else if (s.k==9)=true then [[114,101,116,117,114,110,32],exT s.e,[59]]
 else if (s.k==12)=true then [[97,115,115,101,114,116,32,40],coT s.cd,[41,59]]
 else if (s.k==10)=true then [[105,102,32,40],coT s.cd,[41,32,123]]
 else [[119,104,105,108,101,32,40],coT s.cd,[41,32,123]]
def tbs (d:Nat):List UInt8:=List.replicate d 9
def lnO (d:Nat) (t:List UInt8) (n:Int):Ln:=⟨tbs d++t,n⟩
mutual
def lnS (d:Nat):Sm→List Ln
 | .mk k x y e f c ar th el no=>lnO d (hdL (.mk k x y e f c ar th el no)).flatten no::
  (
   if (k==10)=true then lnB (d+1) th++((if el.isEmpty=true then [] else lnO d [125,32,101,108,115,101,32,123] (-1)::lnB (d+1) el)++[lnO d [125] (-1)])
   else if (k==11)=true then lnB (d+1) th++[lnO d [125] (-1)] else [])
def lnB (d:Nat):List Sm→List Ln
 |[]=>[]
 |s::l=>lnS d s++lnB d l
end
def vrT (v:Vr):List UInt8:=if v.p=true then [42]++v.s else v.s
def locT (v:Vr):List UInt8:=[9]++(if v.p=true then [112,116,114,32] else [118,97,114,32])++v.s++[59]
def lnF (f:Fn):List Ln:=⟨[[102,110,32],f.name,[40],jnT (f.ps.map vrT),[41,32,123]].flatten,-1⟩::(f.ls.map (fun v=>⟨locT v,-1⟩)++(lnB 1 f.body++[⟨[125],-1⟩]))
def lnX (l:List Ln):List UInt8:=l.flatMap fun x=>x.t++[10]
theorem AO:lnX []=[]:=rfl
theorem EA (x:Ln) (l:List Ln):lnX (x::l)=(x.t++[10])++lnX l:=rfl
theorem Bb (l m:List Ln):lnX (l++m)=lnX l++lnX m:=by simp[lnX]
def fnT (f:Fn):List UInt8:=lnX (lnF f)
theorem NW (d:Nat):lnB d []=[]:=by simp[lnB]
theorem FY (d:Nat) (s:Sm) (l:List Sm):lnB d (s::l)=lnS d s++lnB d l:=by simp[lnB]
theorem Li (d:Nat):∀(l:List Sm) (s:Sm),lnB d (l++[s])=lnB d l++lnS d s
 |[],s=>by simp[lnB]
 |a::l,s=>by rw[List.cons_append,FY,Li d l s,FY,List.append_assoc]
theorem BJ (d:Nat) (s:Sm):lnS d s=lnO d (hdL s).flatten s.no::
  (
   if (s.k==10)=true then lnB (d+1) s.th++((if s.el.isEmpty=true then [] else lnO d [125,32,101,108,115,101,32,123] (-1)::lnB (d+1) s.el)++[lnO d [125] (-1)])
   else if (s.k==11)=true then lnB (d+1) s.th++[lnO d [125] (-1)] else []):=by
 cases s;simp only[lnS];rfl
structure PrS (n:Nat) (s:Sm):Prop where
 ok:OkS n s
 k0:0≤s.k
 k1:s.k≤12
 e:okN s.e
 f:okN s.f
 c:MZ s.cd
 a:∀a∈s.ar,okN a.e
def Cp (n:Nat):Nat→List Sm→Prop
 |0,_=>False
 |m+1,l=>l.length≤5000∧∀s∈l,PrS n s∧Cp n m s.th∧Cp n m s.el
theorem XI {n m:Nat} {l:List Sm} (h:Cp n m l):Cp n m []:=by
 cases m with
 |zero=>exact h.elim
 |succ m=>exact⟨Nat.zero_le _,fun s hs=>by cases hs⟩
theorem MY (l m:List Ln):(lnX (l++m)).length=(lnX l).length+(lnX m).length:=by rw[Bb,length_append]
theorem xS {k:Int} (h0:0≤k) (h1:k≤12):k=0∨k=1∨k=2∨k=3∨k=4∨k=5∨k=6∨k=7∨k=8∨k=9∨k=10∨k=11∨k=12:=by omega
theorem PX (x y:List UInt8) (e f:Ex) (c:Cd) (ar:List Ar) (th el:List Sm) (no:Int):hdL (.mk 0 x y e f c ar th el no)=[x,[32,61,32],exT e,[59]]:=by simp only[hdL,Sm.k,Sm.x,Sm.y,Sm.e,Sm.f,Sm.cd,Sm.ar,Int.reduceBEq,if_true,if_false,jB]
theorem RS (x y:List UInt8) (e f:Ex) (c:Cd) (ar:List Ar) (th el:List Sm) (no:Int):hdL (.mk 1 x y e f c ar th el no)=[x,[32,61,32,38],y,[59]]:=by simp only[hdL,Sm.k,Sm.x,Sm.y,Sm.e,Sm.f,Sm.cd,Sm.ar,Int.reduceBEq,if_true,if_false,jB]
theorem XJ (x y:List UInt8) (e f:Ex) (c:Cd) (ar:List Ar) (th el:List Sm) (no:Int):hdL (.mk 2 x y e f c ar th el no)=[x,[32,61,32],y,[59]]:=by simp only[hdL,Sm.k,Sm.x,Sm.y,Sm.e,Sm.f,Sm.cd,Sm.ar,Int.reduceBEq,if_true,if_false,jB]
theorem RT (x y:List UInt8) (e f:Ex) (c:Cd) (ar:List Ar) (th el:List Sm) (no:Int):hdL (.mk 3 x y e f c ar th el no)=[x,[32,61,32,110,117,108,108,59]]:=by simp only[hdL,Sm.k,Sm.x,Sm.y,Sm.e,Sm.f,Sm.cd,Sm.ar,Int.reduceBEq,if_true,if_false,jB]
theorem RU (x y:List UInt8) (e f:Ex) (c:Cd) (ar:List Ar) (th el:List Sm) (no:Int):hdL (.mk 4 x y e f c ar th el no)=[x,[32,61,32,42],y,[59]]:=by simp only[hdL,Sm.k,Sm.x,Sm.y,Sm.e,Sm.f,Sm.cd,Sm.ar,Int.reduceBEq,if_true,if_false,jB]
theorem RV (x y:List UInt8) (e f:Ex) (c:Cd) (ar:List Ar) (th el:List Sm) (no:Int):hdL (.mk 5 x y e f c ar th el no)=[[42],x,[32,61,32],exT e,[59]]:=by simp only[hdL,Sm.k,Sm.x,Sm.y,Sm.e,Sm.f,Sm.cd,Sm.ar,Int.reduceBEq,if_true,if_false,jB]
theorem RW (x y:List UInt8) (e f:Ex) (c:Cd) (ar:List Ar) (th el:List Sm) (no:Int):hdL (.mk 6 x y e f c ar th el no)=[x,[32,61,32],y,[91],exT e,[93,59]]:=by simp only[hdL,Sm.k,Sm.x,Sm.y,Sm.e,Sm.f,Sm.cd,Sm.ar,Int.reduceBEq,if_true,if_false,jB]
theorem RX (x y:List UInt8) (e f:Ex) (c:Cd) (ar:List Ar) (th el:List Sm) (no:Int):hdL (.mk 7 x y e f c ar th el no)=[y,[91],exT e,[93,32,61,32],exT f,[59]]:=by simp only[hdL,Sm.k,Sm.x,Sm.y,Sm.e,Sm.f,Sm.cd,Sm.ar,Int.reduceBEq,if_true,if_false,jB]
theorem J8 (x y:List UInt8) (e f:Ex) (c:Cd) (ar:List Ar) (th el:List Sm) (no:Int):hdL (.mk 8 x y e f c ar th el no)=[FX x,y,[40],jnT (ar.map Az),[41,59]]:=by simp only[hdL,Sm.k,Sm.x,Sm.y,Sm.e,Sm.f,Sm.cd,Sm.ar,Int.reduceBEq,if_true,if_false,jB]
theorem RY (x y:List UInt8) (e f:Ex) (c:Cd) (ar:List Ar) (th el:List Sm) (no:Int):hdL (.mk 9 x y e f c ar th el no)=[[114,101,116,117,114,110,32],exT e,[59]]:=by simp only[hdL,Sm.k,Sm.x,Sm.y,Sm.e,Sm.f,Sm.cd,Sm.ar,Int.reduceBEq,if_true,if_false,jB]
theorem FG (x y:List UInt8) (e f:Ex) (c:Cd) (ar:List Ar) (th el:List Sm) (no:Int):hdL (.mk 10 x y e f c ar th el no)=[[105,102,32,40],coT c,[41,32,123]]:=by simp only[hdL,Sm.k,Sm.x,Sm.y,Sm.e,Sm.f,Sm.cd,Sm.ar,Int.reduceBEq,if_true,if_false,jB]
theorem OA (x y:List UInt8) (e f:Ex) (c:Cd) (ar:List Ar) (th el:List Sm) (no:Int):hdL (.mk 11 x y e f c ar th el no)=[[119,104,105,108,101,32,40],coT c,[41,32,123]]:=by simp only[hdL,Sm.k,Sm.x,Sm.y,Sm.e,Sm.f,Sm.cd,Sm.ar,Int.reduceBEq,if_true,if_false,jB]
theorem OB (x y:List UInt8) (e f:Ex) (c:Cd) (ar:List Ar) (th el:List Sm) (no:Int):hdL (.mk 12 x y e f c ar th el no)=[[97,115,115,101,114,116,32,40],coT c,[41,59]]:=by simp only[hdL,Sm.k,Sm.x,Sm.y,Sm.e,Sm.f,Sm.cd,Sm.ar,Int.reduceBEq,if_true,if_false,jB]
end Go.Proofs.YtbiepiggmagfcaaGreatDoor
namespace Go.Proofs.YtbiepiggmagfcaaGreatDoor
open Go Go.Sy Go.RowKit
theorem XK:D2 zSs=some zSD:=rfl
theorem Zg:zAr.length=3:=rfl
theorem WD:FX []=[]:=rfl
theorem Sn (a:UInt8) (l:List UInt8):FX (a::l)=(a::l)++[32,61,32]:=rfl
theorem XL {l:List Ar} {i:Nat} {x:Ar} (h:l[i]?=some x) (z:List D):(l.map Ar.r).getD i z=x.r:=by simp[List.getD,h]
theorem XM:∀{l:List (List UInt8)} {s:List UInt8},s∈l→s.length≤Lib.lens l
 |a::l,s,h=>by
  rcases List.mem_cons.1 h with rfl|h
  ·simp only[Lib.lens,List.map_cons,List.sum_cons];omega
  ·have:=XM h;simp only[Lib.lens,List.map_cons,List.sum_cons]at this ⊢;omega
theorem fm {l:List (List UInt8)} {s:List UInt8} (h:s∈l):s.length≤(jnT l).length:=by
 cases l with
 |nil=>cases h
 |cons a l=>
  have:=XM h
  unfold jnT
  rw[Lib.join_length];omega
def apT (l:List Ar) (i:Nat):List (List UInt8):=(l.take i).map Az
theorem EI (l:List Ar):apT l 0=[]:=rfl
theorem nJ {l:List Ar} {i:Nat} {x:Ar} (h:l[i]?=some x):apT l i++[Az x]=apT l (i+1):=by
 unfold apT;rw[List.take_add_one,h];simp
theorem UK {l:List Ar} {i:Nat} (h:l.length≤i):apT l i=l.map Az:=by unfold apT;rw[List.take_of_length_le h]
theorem Zh {l:List Ar} {i:Nat} (h:i≤l.length):(apT l i).length=i:=by unfold apT;rw[List.length_map,List.length_take];omega
abbrev NX (n:Nat) (b:Bd) (s:Sm):Prop:=b.r.length=1∧0≤dep b∧dep b≤1000000∧(∀a∈s.ar,a.e.dp<n∧okN a.e)∧s.ar.length≤5000∧b.t.length+(BL (dep b).toNat [FX s.x,s.y,[40],jnT (s.ar.map Az),[41,59]]).length≤1000000000
abbrev Kz (n:Nat) (b:Bd) (s:Sm):SV:=.tup []
abbrev HQ (n:Nat) (b:Bd) (s:Sm):List (Option MV):=[some (tgN 111 3,[({ b with u:=true,t:=b.t++BL (dep b).toNat [FX s.x,s.y,[40],jnT (s.ar.map Az),[41,59]] }:Bd).c])]
noncomputable abbrev J9 (n:Nat):ArgN ((Bd)×(Sm)×Unit):=(amB (rBd 111 1) (amD (cSm) am0))
abbrev Zi (n:Nat):Prop:=Ft Tryz.prog 102 AY CX (J9 n).args (J9 n).mem (fun p:(Bd)×(Sm)×Unit=>NX n p.1 p.2.1) (fun p:(Bd)×(Sm)×Unit=>Kz n p.1 p.2.1) (fun p:(Bd)×(Sm)×Unit=>HQ n p.1 p.2.1)
theorem qt (n:Nat):∀p,(fun p:(Bd)×(Sm)×Unit=>NX n p.1 p.2.1) p→BA ((J9 n).mem p).length ((fun p:(Bd)×(Sm)×Unit=>HQ n p.1 p.2.1) p)=true:=by intro p _;rfl
theorem qu (n:Nat):∀p,(fun p:(Bd)×(Sm)×Unit=>NX n p.1 p.2.1) p→AQ ((fun p:(Bd)×(Sm)×Unit=>HQ n p.1 p.2.1) p).length ((fun p:(Bd)×(Sm)×Unit=>Kz n p.1 p.2.1) p)=true:=by intro p _;rfl
theorem qv (n:Nat):∀p,(fun p:(Bd)×(Sm)×Unit=>NX n p.1 p.2.1) p→∀(i:Nat) q,((fun p:(Bd)×(Sm)×Unit=>HQ n p.1 p.2.1) p)[i]?=some (some q)→∀r∈q.2,∀c∈r,cOK i c:=by intro p _;exact HI _ _
noncomputable def Zj {X:Ctx} {w0:World} (n:Nat) (h:Zi n) (hG:BB X w0 AY CX):Sy.Spec Tryz.prog X w0:=Gd 102 Tryz.call102 AY CX (J9 n) (fun p:(Bd)×(Sm)×Unit=>NX n p.1 p.2.1) (fun p:(Bd)×(Sm)×Unit=>Kz n p.1 p.2.1) (fun p:(Bd)×(Sm)×Unit=>HQ n p.1 p.2.1) (qt n) (qu n) (qv n) h hG
attribute [local go_sem] Ar.c Ar.r Sm.ar Sm.c Sm.cd Sm.e Sm.el Sm.f Sm.k Sm.no Sm.th Sm.x Sm.y adC Kf Kg nC MF Hs Jr KT KU QY QX UQ inK Zg MC Jk Jm Hh Hi Jj Jl MB cF cE cD sR1 UA Dn QT JB G5 Nb XZ XK
set_option maxRecDepth 20000 in set_option maxHeartbeats 4000000 in
theorem xT (n:Nat):Zi n:=by
 rintro ⟨b,s,_u⟩ w M I lab fz xs hT hBk hc hA hl hx
 have hG:=MR Br hT hBk (fz:=fz) (I:=I) (n:=1)
 refine Eb 1 Tryz.func102 rfl _ rfl w M I lab fz [(Dn n (Pa n) hG),JB,(G5 (BC _ _))] [] _ _ _ xs hA hl hx ((J9 n).an ⟨b,s,_u⟩) (jN rfl) (jN rfl) ?_
 clear hx hl hA xs
 simp only[Tryz.f102]
 obtain⟨hm,hd0,hd1,ha,hal,hlen⟩:=hc
 obtain⟨u,t,r⟩:=b
 obtain⟨k,x,y,e,f,c,ar,th,el,no⟩:=s
 dsimp only[Sm.ar,Sm.x,Sm.y]at hm hd0 hd1 ha hal hlen ⊢
 obtain⟨d,rfl⟩:∃d:Int,r=[d]:=List.length_eq_one_iff.1 hm
 rw[BZ]at hd0 hd1 hlen
 simp only[↓eB,seval,go_sem,Af.ds]
 refine AH (Y:=Nat) (fun z=>z≤ar.length)
  (fun z=>⟨[(0,true,.one (.p 0 0 0)),(3,true,.one (.p 3 0 0)),(4,true,.one (.s 1000)),(9,true,.one (.d (.sl zAr (ar.map Ar.r)))),(10,true,.one (.v (.int .i64 (ar.length:Int)))),(11,true,.one (.v (.int .i64 (z:Int))))],[(0,.vec 0 (tgN 111 3) [[adC u,.ov zB8 (t.map byK),.v (.int .i64 d)]]),(3,.vec 0 (EW 10) [(Sm.mk k x y e f c ar th el no).c]),(1000,.vec 0 zSs ((apT ar z).map sR1))]⟩)
  (fun z=>ar.length-z) 0 (Nat.zero_le _) ?_ ?_
 ·cases u
  all_goals (refine A4 [.nil 4 1000 zSs] ?_;simp only[↓eB,seval,go_sem,Af.ds,EI])
 ·rintro i hi
  refine Ab [Dn n (Pa n) hG,JB,G5 (BC _ _)] [] _ _ _ ?_
  cases hx:ar[i]? with
  |none=>
   have h2:=List.getElem?_eq_none_iff.1 hx
   have h1:=Ao h2
   have h3:=UK h2
   have l1:(ar.map Az).length≤1000000:=by rw[List.length_map];omega
   have l3:t.length+d.toNat+[FX x,y,[40],jnT (ar.map Az),[41,59]].flatten.length+1≤100000000000000:=by
    simp only[BL,length_append,List.length_replicate,length_cons,length_nil]at hlen;omega
   have l4:(jnT (ar.map Az)).length≤1000000000:=by
    simp only[BL,length_append,List.length_replicate,length_cons,length_nil,flatten_cons]at hlen;omega
   have l5:(FX x).length≤1000000000:=by
    simp only[BL,length_append,List.length_replicate,length_cons,length_nil,flatten_cons]at hlen;omega
   cases x with
   |nil=>
    cases u<;>simp only[↓eB,seval,go_sem,Af.ds,h1,h3]
    all_goals
     try simp only[A1,A2]
     repeat' first|exact ck|with_reducible apply And.intro|intro _
     all_goals first|exact l1|exact l4|exact hd0|exact hd1|exact l3|(exact jN rfl)|(rename_i h;first|exact oI h|exact nah h)|(rename_i _ h _ g;exact sL h g)|decide|omega|(refine A0 [] ?_;simp only[↓eB,seval,go_sem,bne,Kz,HQ,WD,Sn,BZ])
   |cons x0 xs=>
    have l6:xs.length+4≤1000000000:=by rw[Sn]at l5;simpa using l5
    cases u<;>simp only[↓eB,seval,go_sem,Af.ds,h1,h3]
    all_goals
     try simp only[A1,A2]
     repeat' first|exact ck|with_reducible apply And.intro|intro _
     all_goals first|exact l1|exact l4|exact hd0|exact hd1|exact l3|(exact jN rfl)|(rename_i h;first|exact oI h|exact nah h)|(rename_i _ h _ g;exact sL h g)|decide|omega|(refine A0 [] ?_;simp only[↓eB,seval,go_sem,bne,Kz,HQ,WD,Sn,BZ])
  |some a=>
   have hlt:i<ar.length:=(List.getElem?_eq_some_iff.1 hx).1
   have h1:=Ah hlt
   have h2:=AX hlt
   have h2':=AM (n:=ar.length) (Nat.le_of_lt hlt) (by omega)
   have h3:=XL hx
   obtain⟨g1,g2⟩:=ha a (List.mem_of_getElem? hx)
   have g4:=Zh (Nat.le_of_lt hlt)
   have g5:=nJ hx
   obtain⟨ap,an,ae⟩:=a
   have g6:∀r:List UInt8,((apT ar i).map sR1++[sR1 r]).length≤5001:=by intro r;simp[g4];omega
   cases ap with
   |true=>
    have g7:(apT ar i).map sR1++[sR1 an]=(apT ar (i+1)).map sR1:=by rw[← g5,map_append];rfl
    simp only[↓eB,seval,go_sem,Af.ds,h1,h2,h2',h3]
    try simp only[A1,A2]
    repeat' first|exact ck|with_reducible apply And.intro|intro _
    all_goals try first|exact hlt|exact rfl|(rename_i h;first|exact oI h|exact nah h)|(rename_i _ h _ g;exact sL h g)|decide|omega
    refine⟨i+1,hlt,by omega,BP (t:=⟨[(0,true,.one (.p 0 0 0)),(3,true,.one (.p 3 0 0)),(4,true,.one (.s 21)),(9,true,.one (.d (.sl zAr (ar.map Ar.r)))),(10,true,.one (.v (.int .i64 (ar.length:Int)))),(11,true,.one (.v (.int .i64 ((i+1:Nat):Int))))],[(0,.vec 0 (tgN 111 3) [[adC u,.ov zB8 (t.map byK),.v (.int .i64 d)]]),(3,.vec 0 (EW 10) [(Sm.mk k x y e f c ar th el no).c]),(21,.vec 0 zSs ((apT ar (i+1)).map sR1))]⟩) (A4 [] ?_) (A4 [.mv 21 1000] ?_)⟩
    ·rw[← g7]
     cases u<;>simp only[↓eB,seval,go_sem,Af.fn,map_append,List.flatMap_append,Af.ds]
    ·cases u<;>simp only[↓eB,seval,go_sem,Af.fn,map_append,List.flatMap_append,Af.ds,Af.mv]
   |false=>
    have g8:(exT ae).length≤1000000000:=by
     have q1:exT ae∈ar.map Az:=List.mem_map.2 ⟨_,List.mem_of_getElem? hx,rfl⟩
     have q2:=fm q1
     simp only[BL,length_append,List.length_replicate,length_cons,length_nil,flatten_cons]at hlen;omega
    have g7:(apT ar i).map sR1++[sR1 (exT ae)]=(apT ar (i+1)).map sR1:=by rw[← g5,map_append];rfl
    simp only[↓eB,seval,go_sem,Af.ds,h1,h2,h2',h3]
    try simp only[A1,A2]
    repeat' first|exact ck|with_reducible apply And.intro|intro _
    all_goals try first|exact hlt|exact rfl|exact g1|exact g2|exact g8|(rename_i h;first|exact oI h|exact nah h)|(rename_i _ h _ g;exact sL h g)|decide|omega
    refine⟨i+1,hlt,by omega,BP (t:=⟨[(0,true,.one (.p 0 0 0)),(3,true,.one (.p 3 0 0)),(4,true,.one (.s 27)),(9,true,.one (.d (.sl zAr (ar.map Ar.r)))),(10,true,.one (.v (.int .i64 (ar.length:Int)))),(11,true,.one (.v (.int .i64 ((i+1:Nat):Int))))],[(0,.vec 0 (tgN 111 3) [[adC u,.ov zB8 (t.map byK),.v (.int .i64 d)]]),(3,.vec 0 (EW 10) [(Sm.mk k x y e f c ar th el no).c]),(27,.vec 0 zSs ((apT ar (i+1)).map sR1))]⟩) (A4 [] ?_) (A4 [.mv 27 1000] ?_)⟩
    ·rw[← g7]
     cases u<;>simp only[↓eB,seval,go_sem,Af.fn,map_append,List.flatMap_append,Af.ds]
    ·cases u<;>simp only[↓eB,seval,go_sem,Af.fn,map_append,List.flatMap_append,Af.ds,Af.mv]
end Go.Proofs.YtbiepiggmagfcaaGreatDoor
