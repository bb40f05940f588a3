/- The document's line of a statement. Conditions: each node has its parts, the numbers are of 64 bits, the text is shorter than 10^9 bytes. -/
import Derived.Test.YtbiepiggmagfcaaGreatDoorPr1
set_option linter.unusedVariables false
set_option linter.unusedSimpArgs false
open List (length_append length_cons length_nil append_assoc nil_append append_nil cons_append mem_of_getElem? flatten_cons flatten_nil)
namespace Go.Proofs.YtbiepiggmagfcaaGreatDoor
open Go Go.Sy Go.RowKit
abbrev XE (n:Int):Prop:=0≤n∧n≤1000000
abbrev Lg (n:Int):SV:=SV.one (.v (.string (bs (tbs n.toNat))))
attribute [local go_sem] Ar.r Sm.ar Sm.c Sm.cd Sm.e Sm.el Sm.f Sm.k Sm.no Sm.th Sm.x Sm.y MH T3 QV QW Hs Jr KT KU QY QX Zg Le Dd
theorem qo:AP Tryz.prog 84 (acS (cInt .i64) ac0) (fun p:(Int×Unit)=>XE p.1) (fun p:(Int×Unit)=>Lg p.1):=by
 rintro ⟨n,_u⟩ w fz xs hc hfz hl hx
 refine A9 Tryz.func84 rfl w fz [] [] (acS (cInt .i64) ac0) (fun p:(Int×Unit)=>Lg p.1) _ xs hfz hl hx (jN rfl) ?_
 clear hx hl hfz xs
 simp only[Tryz.f84]
 obtain⟨h0,h1⟩:=hc
 obtain⟨m,rfl⟩:∃m:Nat,n=(m:Int):=⟨n.toNat,by omega⟩
 simp only[↓eB,seval,go_sem]
 refine AH (Y:=Nat) (fun y=>y≤m)
  (fun y=>⟨[(0,true,.one (.v (.int .i64 (m:Int)))),(3,true,.one (.v (.string (bs (tbs y))))),(4,true,.one (.v (.int .i64 (y:Int))))],[]⟩)
  (fun y=>m-y) 0 (Nat.zero_le _) ?_ ?_
 ·refine A4 [] ?_;simp only[↓eB,seval,go_sem,A2r]
 ·rintro i hi
  refine Ab [] [] _ _ _ ?_
  by_cases hlt:i<m
  ·have h1:=Ah hlt
   have h2:=AM (n:=m) (Nat.le_of_lt hlt) (by omega)
   have h3:=A2q i
   have h4:=NU i
   simp only[↓eB,seval,go_sem,h1,h2,h3]
   try simp only[A1,A2]
   repeat' first|exact ck|with_reducible apply And.intro|intro _
   all_goals try first|(rw[h4];omega)|exact rfl|(rename_i h;first|exact oI h|exact nah h)|(rename_i _ h _ g;exact sL h g)|decide|omega
   refine⟨i+1,hlt,by omega,A4 [] ?_⟩
   simp only[↓eB,seval,go_sem]
  ·obtain rfl:i=m:=by omega
   have h1:=Ao (Nat.le_refl i)
   simp only[↓eB,seval,go_sem,h1]
   try simp only[A1,A2]
   repeat' first|exact ck|with_reducible apply And.intro|intro _
   all_goals first|exact trivial|(rename_i h;first|exact oI h|exact nah h)|(rename_i _ h _ g;exact sL h g)|decide|omega|(refine A0 [] ?_;simp only[↓eB,seval,go_sem,bne,Lg])
theorem kM:∀p:(Int×Unit),((fun p:(Int×Unit)=>Lg p.1) p).names=[]:=by intro p;first|rfl|simp[SV.names,C.names]
noncomputable def J6 {X:Ctx} {w0:World}:Sy.Spec Tryz.prog X w0:=Am 84 Tryz.call84 (acS (cInt .i64) ac0) (fun p:(Int×Unit)=>XE p.1) (fun p:(Int×Unit)=>Lg p.1) kM qo
theorem xM (x:List UInt8):jnT [x]=x:=Lib.join_one x _
theorem Zd {l:List (List UInt8)} (h:l≠[]) (x:List UInt8):jnT (l++[x])=jnT l++([44,32]++x):=by
 cases l with
 |nil=>exact absurd rfl h
 |cons a r=>
  unfold jnT
  rw[cons_append,Lib.join_cons,Lib.join_cons,Lib.joinTail,Lib.joinTail]
  simp
theorem V9 {l:List (List UInt8)} (i:Nat):(jnT (l.take i)).length≤(jnT l).length:=by
 cases l with
 |nil=>simp
 |cons a r=>
  cases i with
  |zero=>simp[jnT,Lib.join_nil]
  |succ i=>
   unfold jnT
   rw[List.take_succ_cons,Lib.join_cons,Lib.join_cons,length_append,length_append]
   have:=Lib.joinTail_take_le [44,32] r i
   omega
theorem DJ:jnT []=[]:=rfl
theorem Sl (l:List Ar) (i:Nat):(jnT (apT l i)).length≤(jnT (l.map Az)).length:=by
 unfold apT;rw[List.map_take];exact V9 i
theorem Ze {l:List Ar} {i:Nat} {x:Ar} (h:l[i]?=some x):jnT (apT l (i+1))=jnT (apT l i)++((if i=0 then [] else [44,32])++Az x):=by
 rw[← nJ h]
 cases i with
 |zero=>rw[EI,nil_append,xM,DJ];rfl
 |succ i=>
  rw[Zd]
  ·rfl
  ·intro h0
   have:=Zh (l:=l) (i:=i+1) (by have:=(List.getElem?_eq_some_iff.1 h).1;omega)
   rw[h0]at this;cases this
theorem bu (i:Nat):decide ((0:Int)<((i+1:Nat):Int))=true:=by simp only[decide_eq_true_eq];omega
abbrev XF (n:Nat) (s:Sm):Prop:=PrS n s∧RgS s∧(hdL s).flatten.length≤1000000000
abbrev Bw (n:Nat) (s:Sm):SV:=.one (.v (.string (bs (hdL s).flatten)))
noncomputable abbrev RR:ArgC ((Sm)×Unit):=(acS (cSm) ac0)
abbrev XG (n:Nat):Prop:=AP Tryz.prog 85 RR (fun p:(Sm)×Unit=>XF n p.1) (fun p:(Sm)×Unit=>Bw n p.1)
theorem kN (n:Nat):∀p:(Sm)×Unit,((fun p:(Sm)×Unit=>Bw n p.1) p).names=[]:=by intro p;rfl
noncomputable def J7 {X:Ctx} {w0:World} (n:Nat) (h:XG n):Sy.Spec Tryz.prog X w0:=Am 85 Tryz.call85 RR (fun p:(Sm)×Unit=>XF n p.1) (fun p:(Sm)×Unit=>Bw n p.1) (kN n) h
set_option maxRecDepth 20000 in set_option maxHeartbeats 16000000 in
theorem Zf (n:Nat):XG n:=by
 rintro ⟨s,_u⟩ w fz xs hc hfz hl hx
 refine A9 Tryz.func85 rfl w fz [(Dd n (y_rExpr n)),(Le n (Zc n))] [] RR (fun p:(Sm)×Unit=>Bw n p.1) _ xs hfz hl hx (jN rfl) ?_
 clear hx hl hfz xs
 simp only[Tryz.f85]
 obtain⟨hk,hr,hlen⟩:=hc
 dsimp only at hk hr hlen
 have hds:=hk.dp
 obtain⟨hok,k0,k1,ne,nf,nc,na⟩:=hk
 have e1:=hok.e
 have e2:=hok.f
 have e3:=hok.c
 have e5:=hok.l
 obtain⟨r1,r2,r3,r4⟩:=hr
 obtain⟨k,x,y,e,f,c,ar,th,el,no⟩:=s
 dsimp only[Sm.k,Sm.e,Sm.f,Sm.cd,Sm.ar]at k0 k1 ne nf nc na e1 e2 e3 e5 hds r1 r2 r3 r4
 rcases xS k0 k1 with rfl|rfl|rfl|rfl|rfl|rfl|rfl|rfl|rfl|rfl|rfl|rfl|rfl
 ·rw[PX]at hlen
  simp only[flatten_cons,flatten_nil,jL3]at hlen
  simp only[↓eB,seval,go_sem]
  try simp only[A1,A2]
  repeat' first|exact ck|with_reducible apply And.intro|intro _
  all_goals first|exact e1|exact e2|exact e3|exact ne|exact nf|exact nc|(exact r1 (by decide))|(exact r2 rfl)|(exact r3 (by decide))|(simp only[jL3];omega)|(rename_i h;first|exact oI h|exact nah h)|(rename_i _ h _ g;exact sL h g)|decide|omega|(refine A0 [] ?_;simp only[↓eB,seval,go_sem,bne,Bw,PX,flatten_cons,flatten_nil,append_assoc])
 ·rw[RS]at hlen
  simp only[flatten_cons,flatten_nil,jL3]at hlen
  simp only[↓eB,seval,go_sem]
  try simp only[A1,A2]
  repeat' first|exact ck|with_reducible apply And.intro|intro _
  all_goals first|exact e1|exact e2|exact e3|exact ne|exact nf|exact nc|(exact r1 (by decide))|(exact r2 rfl)|(exact r3 (by decide))|(simp only[jL3];omega)|(rename_i h;first|exact oI h|exact nah h)|(rename_i _ h _ g;exact sL h g)|decide|omega|(refine A0 [] ?_;simp only[↓eB,seval,go_sem,bne,Bw,RS,flatten_cons,flatten_nil,append_assoc])
 ·rw[XJ]at hlen
  simp only[flatten_cons,flatten_nil,jL3]at hlen
  simp only[↓eB,seval,go_sem]
  try simp only[A1,A2]
  repeat' first|exact ck|with_reducible apply And.intro|intro _
  all_goals first|exact e1|exact e2|exact e3|exact ne|exact nf|exact nc|(exact r1 (by decide))|(exact r2 rfl)|(exact r3 (by decide))|(simp only[jL3];omega)|(rename_i h;first|exact oI h|exact nah h)|(rename_i _ h _ g;exact sL h g)|decide|omega|(refine A0 [] ?_;simp only[↓eB,seval,go_sem,bne,Bw,XJ,flatten_cons,flatten_nil,append_assoc])
 ·rw[RT]at hlen
  simp only[flatten_cons,flatten_nil,jL3]at hlen
  simp only[↓eB,seval,go_sem]
  try simp only[A1,A2]
  repeat' first|exact ck|with_reducible apply And.intro|intro _
  all_goals first|exact e1|exact e2|exact e3|exact ne|exact nf|exact nc|(exact r1 (by decide))|(exact r2 rfl)|(exact r3 (by decide))|(simp only[jL3];omega)|(rename_i h;first|exact oI h|exact nah h)|(rename_i _ h _ g;exact sL h g)|decide|omega|(refine A0 [] ?_;simp only[↓eB,seval,go_sem,bne,Bw,RT,flatten_cons,flatten_nil,append_assoc])
 ·rw[RU]at hlen
  simp only[flatten_cons,flatten_nil,jL3]at hlen
  simp only[↓eB,seval,go_sem]
  try simp only[A1,A2]
  repeat' first|exact ck|with_reducible apply And.intro|intro _
  all_goals first|exact e1|exact e2|exact e3|exact ne|exact nf|exact nc|(exact r1 (by decide))|(exact r2 rfl)|(exact r3 (by decide))|(simp only[jL3];omega)|(rename_i h;first|exact oI h|exact nah h)|(rename_i _ h _ g;exact sL h g)|decide|omega|(refine A0 [] ?_;simp only[↓eB,seval,go_sem,bne,Bw,RU,flatten_cons,flatten_nil,append_assoc])
 ·rw[RV]at hlen
  simp only[flatten_cons,flatten_nil,jL3]at hlen
  simp only[↓eB,seval,go_sem]
  try simp only[A1,A2]
  repeat' first|exact ck|with_reducible apply And.intro|intro _
  all_goals first|exact e1|exact e2|exact e3|exact ne|exact nf|exact nc|(exact r1 (by decide))|(exact r2 rfl)|(exact r3 (by decide))|(simp only[jL3];omega)|(rename_i h;first|exact oI h|exact nah h)|(rename_i _ h _ g;exact sL h g)|decide|omega|(refine A0 [] ?_;simp only[↓eB,seval,go_sem,bne,Bw,RV,flatten_cons,flatten_nil,append_assoc])
 ·rw[RW]at hlen
  simp only[flatten_cons,flatten_nil,jL3]at hlen
  simp only[↓eB,seval,go_sem]
  try simp only[A1,A2]
  repeat' first|exact ck|with_reducible apply And.intro|intro _
  all_goals first|exact e1|exact e2|exact e3|exact ne|exact nf|exact nc|(exact r1 (by decide))|(exact r2 rfl)|(exact r3 (by decide))|(simp only[jL3];omega)|(rename_i h;first|exact oI h|exact nah h)|(rename_i _ h _ g;exact sL h g)|decide|omega|(refine A0 [] ?_;simp only[↓eB,seval,go_sem,bne,Bw,RW,flatten_cons,flatten_nil,append_assoc])
 ·rw[RX]at hlen
  simp only[flatten_cons,flatten_nil,jL3]at hlen
  simp only[↓eB,seval,go_sem]
  try simp only[A1,A2]
  repeat' first|exact ck|with_reducible apply And.intro|intro _
  all_goals first|exact e1|exact e2|exact e3|exact ne|exact nf|exact nc|(exact r1 (by decide))|(exact r2 rfl)|(exact r3 (by decide))|(simp only[jL3];omega)|(rename_i h;first|exact oI h|exact nah h)|(rename_i _ h _ g;exact sL h g)|decide|omega|(refine A0 [] ?_;simp only[↓eB,seval,go_sem,bne,Bw,RX,flatten_cons,flatten_nil,append_assoc])
 ·have q4:=r4 rfl
  clear r1 r2 r3 r4
  rw[J8]at hlen
  simp only[flatten_cons,flatten_nil,jL3]at hlen
  have hT:(FX x++(y++[40])).length+(jnT (ar.map Az)).length+2≤1000000000:=by
   simp only[flatten_cons,flatten_nil,jL3];omega
  cases x with
  |nil=>
   have hT:(y++[40]).length+(jnT (ar.map Az)).length+2≤1000000000:=hT
   have hU:y.length≤1000000000:=by simp only[length_append]at hT;omega
   simp only[↓eB,seval,go_sem]
   try simp only[A1,A2]
   repeat' (first|exact ck|with_reducible apply And.intro)
   all_goals try first|exact hU|decide|omega
   refine AH (Y:=Nat) (fun z=>z≤ar.length) (fun z=>⟨[(1,true,.one (.p 1 0 0)),(3,true,.one (.v (.string (bs ((y++[40])++jnT (apT ar z)))))),(4,true,.one (.v (.int .i64 (z:Int))))],[(1,.vec 0 (EW 10) [(Sm.mk 8 [] y e f c ar th el no).c])]⟩)
    (fun z=>ar.length-z) 0 (Nat.zero_le _) ?_ ?_
   ·refine A4 [] ?_;simp only[↓eB,seval,go_sem,EI,DJ,append_assoc]
   ·rintro i hi
    refine Ab [Dd n (y_rExpr n)] [] _ _ _ ?_
    have hj:((y++[40])++jnT (apT ar i)).length+2≤1000000000:=by
     have:=Sl ar i
     simp only[jL3]at hT ⊢
     omega
    cases hx:ar[i]? with
    |none=>
     have h2:=List.getElem?_eq_none_iff.1 hx
     have h1:=Ao h2
     have h3:=UK h2
     rw[h3]at hj
     simp only[↓eB,seval,go_sem,h1,h3]
     try simp only[A1,A2]
     repeat' first|exact ck|with_reducible apply And.intro|intro _
     all_goals first|(simp only[jL3]at *;omega)|(rename_i h;first|exact oI h|exact nah h)|(rename_i _ h _ g;exact sL h g)|decide|omega|(refine A0 [] ?_;simp only[↓eB,seval,go_sem,bne,Bw,J8,WD,Sn,flatten_cons,flatten_nil,append_assoc])
    |some a=>
     have hlt:i<ar.length:=(List.getElem?_eq_some_iff.1 hx).1
     have h1:=Ah hlt
     have h2:=AX hlt
     have h2':=AM (n:=ar.length) (Nat.le_of_lt hlt) (by omega)
     obtain⟨g1,g2⟩:=hds a (mem_of_getElem? hx)
     have g3:=q4 a (mem_of_getElem? hx)
     have hj2:((y++[40])++jnT (apT ar (i+1))).length+2≤1000000000:=by
      have:=Sl ar (i+1)
      simp only[jL3]at hT ⊢
      omega
     have g5:(y++[40])++jnT (apT ar (i+1))=(y++[40])++jnT (apT ar i)++((if i=0 then [] else [44,32])++Az a):=by rw[Ze hx];simp only[append_assoc]
     rw[g5]at hj2
     obtain⟨ap,an,ae⟩:=a
     have h3:=XL hx
     cases i with
     |zero=>
      have k1:decide ((0:Int)<(ar.length:Int))=true:=h1
      have k2:((0:Int)<(ar.length:Int))=True:=h2
      have k3:IntKind.i64.wrap (0+1)=1:=h2'
      cases ap with
      |true=>
       have g6:(y++[40])++jnT (apT ar 1)=(y++[40])++an:=by rw[g5];simp[EI,DJ,Az]
       simp only[↓eB,seval,go_sem,k1,k2,k3,h3,EI,DJ]
       try simp only[A1,A2]
       repeat' first|exact ck|with_reducible apply And.intro|intro _
       all_goals try first|exact hlt|exact rfl|(simp only[if_true,Az,EI,DJ,nil_append,append_nil,jL3]at *;omega)|(rename_i h;first|exact oI h|exact nah h)|(rename_i _ h _ g;exact sL h g)|decide|omega
       simp only[append_assoc,cons_append,nil_append]at g6
       refine⟨0+1,hlt,by omega,A4 [] ?_⟩
       simp only[↓eB,seval,go_sem,g6,append_assoc]
      |false=>
       have g6:(y++[40])++jnT (apT ar 1)=(y++[40])++exT ae:=by rw[g5];simp[EI,DJ,Az]
       have g7:(exT ae).length≤1000000000:=by simp only[if_true,Az,jB,if_false,length_append]at hj2;omega
       simp only[↓eB,seval,go_sem,k1,k2,k3,h3,EI,DJ]
       try simp only[A1,A2]
       repeat' first|exact ck|with_reducible apply And.intro|intro _
       all_goals try first|exact hlt|exact rfl|exact g1|exact g2|(exact g3 rfl)|exact g7|(simp only[if_true,Az,jB,if_false,EI,DJ,nil_append,append_nil,jL3]at *;omega)|(rename_i h;first|exact oI h|exact nah h)|(rename_i _ h _ g;exact sL h g)|decide|omega
       simp only[append_assoc,cons_append,nil_append]at g6
       refine⟨0+1,hlt,by omega,A4 [] ?_⟩
       simp only[↓eB,seval,go_sem,g6,append_assoc]
     |succ i=>
      have w0:=bu i
      cases ap with
      |true=>
       have g6:(y++[40])++jnT (apT ar (i+1+1))=(y++[40])++jnT (apT ar (i+1))++([44,32]++an):=by rw[g5];rfl
       simp only[↓eB,seval,go_sem,h1,h2,h2',h3,w0]
       try simp only[A1,A2]
       repeat' first|exact ck|with_reducible apply And.intro|intro _
       all_goals try first|exact hlt|exact rfl|(simp only[Nat.succ_ne_zero,if_true,if_false,Az,jB,jL3]at *;omega)|(rename_i h;first|exact oI h|exact nah h)|(rename_i _ h _ g;exact sL h g)|decide|omega
       simp only[append_assoc,cons_append,nil_append]at g6
       refine⟨i+1+1,hlt,by omega,A4 [] ?_⟩
       simp only[↓eB,seval,go_sem,g6,append_assoc]
      |false=>
       have g6:(y++[40])++jnT (apT ar (i+1+1))=(y++[40])++jnT (apT ar (i+1))++([44,32]++exT ae):=by rw[g5];rfl
       have g7:(exT ae).length≤1000000000:=by simp only[Nat.succ_ne_zero,Az,jB,if_false,length_append]at hj2;omega
       simp only[↓eB,seval,go_sem,h1,h2,h2',h3,w0]
       try simp only[A1,A2]
       repeat' first|exact ck|with_reducible apply And.intro|intro _
       all_goals try first|exact hlt|exact rfl|exact g1|exact g2|(exact g3 rfl)|exact g7|(simp only[Nat.succ_ne_zero,if_true,if_false,Az,jB,jL3]at *;omega)|(rename_i h;first|exact oI h|exact nah h)|(rename_i _ h _ g;exact sL h g)|decide|omega
       simp only[append_assoc,cons_append,nil_append]at g6
       refine⟨i+1+1,hlt,by omega,A4 [] ?_⟩
       simp only[↓eB,seval,go_sem,g6,append_assoc]
  |cons x0 xs=>
   have hT:(((x0::xs)++[32,61,32])++(y++[40])).length+(jnT (ar.map Az)).length+2≤1000000000:=hT
   have hU:xs.length+4+y.length+1≤1000000000:=by
    simp only[jL3]at hT
    omega
   simp only[↓eB,seval,go_sem]
   try simp only[A1,A2]
   repeat' (first|exact ck|with_reducible apply And.intro)
   all_goals try first|(simp only[jL3]at *;omega)|decide|omega
   refine AH (Y:=Nat) (fun z=>z≤ar.length) (fun z=>⟨[(1,true,.one (.p 1 0 0)),(3,true,.one (.v (.string (bs ((((x0::xs)++[32,61,32])++(y++[40]))++jnT (apT ar z)))))),(4,true,.one (.v (.int .i64 (z:Int))))],[(1,.vec 0 (EW 10) [(Sm.mk 8 (x0::xs) y e f c ar th el no).c])]⟩)
    (fun z=>ar.length-z) 0 (Nat.zero_le _) ?_ ?_
   ·refine A4 [] ?_;simp only[↓eB,seval,go_sem,EI,DJ,append_assoc]
   ·rintro i hi
    refine Ab [Dd n (y_rExpr n)] [] _ _ _ ?_
    have hj:((((x0::xs)++[32,61,32])++(y++[40]))++jnT (apT ar i)).length+2≤1000000000:=by
     have:=Sl ar i
     simp only[jL3]at hT ⊢
     omega
    cases hx:ar[i]? with
    |none=>
     have h2:=List.getElem?_eq_none_iff.1 hx
     have h1:=Ao h2
     have h3:=UK h2
     rw[h3]at hj
     simp only[↓eB,seval,go_sem,h1,h3]
     try simp only[A1,A2]
     repeat' first|exact ck|with_reducible apply And.intro|intro _
     all_goals first|(simp only[jL3]at *;omega)|(rename_i h;first|exact oI h|exact nah h)|(rename_i _ h _ g;exact sL h g)|decide|omega|(refine A0 [] ?_;simp only[↓eB,seval,go_sem,bne,Bw,J8,WD,Sn,flatten_cons,flatten_nil,append_assoc])
    |some a=>
     have hlt:i<ar.length:=(List.getElem?_eq_some_iff.1 hx).1
     have h1:=Ah hlt
     have h2:=AX hlt
     have h2':=AM (n:=ar.length) (Nat.le_of_lt hlt) (by omega)
     obtain⟨g1,g2⟩:=hds a (mem_of_getElem? hx)
     have g3:=q4 a (mem_of_getElem? hx)
     have hj2:((((x0::xs)++[32,61,32])++(y++[40]))++jnT (apT ar (i+1))).length+2≤1000000000:=by
      have:=Sl ar (i+1)
      simp only[jL3]at hT ⊢
      omega
     have g5:(((x0::xs)++[32,61,32])++(y++[40]))++jnT (apT ar (i+1))=(((x0::xs)++[32,61,32])++(y++[40]))++jnT (apT ar i)++((if i=0 then [] else [44,32])++Az a):=by rw[Ze hx];simp only[append_assoc]
     rw[g5]at hj2
     obtain⟨ap,an,ae⟩:=a
     have h3:=XL hx
     cases i with
     |zero=>
      have k1:decide ((0:Int)<(ar.length:Int))=true:=h1
      have k2:((0:Int)<(ar.length:Int))=True:=h2
      have k3:IntKind.i64.wrap (0+1)=1:=h2'
      cases ap with
      |true=>
       have g6:(((x0::xs)++[32,61,32])++(y++[40]))++jnT (apT ar 1)=(((x0::xs)++[32,61,32])++(y++[40]))++an:=by rw[g5];simp[EI,DJ,Az]
       simp only[↓eB,seval,go_sem,k1,k2,k3,h3,EI,DJ]
       try simp only[A1,A2]
       repeat' first|exact ck|with_reducible apply And.intro|intro _
       all_goals try first|exact hlt|exact rfl|(simp only[if_true,Az,EI,DJ,nil_append,append_nil,jL3]at *;omega)|(rename_i h;first|exact oI h|exact nah h)|(rename_i _ h _ g;exact sL h g)|decide|omega
       simp only[append_assoc,cons_append,nil_append]at g6
       refine⟨0+1,hlt,by omega,A4 [] ?_⟩
       simp only[↓eB,seval,go_sem,g6,append_assoc]
      |false=>
       have g6:(((x0::xs)++[32,61,32])++(y++[40]))++jnT (apT ar 1)=(((x0::xs)++[32,61,32])++(y++[40]))++exT ae:=by rw[g5];simp[EI,DJ,Az]
       have g7:(exT ae).length≤1000000000:=by simp only[if_true,Az,jB,if_false,length_append]at hj2;omega
       simp only[↓eB,seval,go_sem,k1,k2,k3,h3,EI,DJ]
       try simp only[A1,A2]
       repeat' first|exact ck|with_reducible apply And.intro|intro _
       all_goals try first|exact hlt|exact rfl|exact g1|exact g2|(exact g3 rfl)|exact g7|(simp only[if_true,Az,jB,if_false,EI,DJ,nil_append,append_nil,jL3]at *;omega)|(rename_i h;first|exact oI h|exact nah h)|(rename_i _ h _ g;exact sL h g)|decide|omega
       simp only[append_assoc,cons_append,nil_append]at g6
       refine⟨0+1,hlt,by omega,A4 [] ?_⟩
       simp only[↓eB,seval,go_sem,g6,append_assoc]
     |succ i=>
      have w0:=bu i
      cases ap with
      |true=>
       have g6:(((x0::xs)++[32,61,32])++(y++[40]))++jnT (apT ar (i+1+1))=(((x0::xs)++[32,61,32])++(y++[40]))++jnT (apT ar (i+1))++([44,32]++an):=by rw[g5];rfl
       simp only[↓eB,seval,go_sem,h1,h2,h2',h3,w0]
       try simp only[A1,A2]
       repeat' first|exact ck|with_reducible apply And.intro|intro _
       all_goals try first|exact hlt|exact rfl|(simp only[Nat.succ_ne_zero,if_true,if_false,Az,jB,jL3]at *;omega)|(rename_i h;first|exact oI h|exact nah h)|(rename_i _ h _ g;exact sL h g)|decide|omega
       simp only[append_assoc,cons_append,nil_append]at g6
       refine⟨i+1+1,hlt,by omega,A4 [] ?_⟩
       simp only[↓eB,seval,go_sem,g6,append_assoc]
      |false=>
       have g6:(((x0::xs)++[32,61,32])++(y++[40]))++jnT (apT ar (i+1+1))=(((x0::xs)++[32,61,32])++(y++[40]))++jnT (apT ar (i+1))++([44,32]++exT ae):=by rw[g5];rfl
       have g7:(exT ae).length≤1000000000:=by simp only[Nat.succ_ne_zero,Az,jB,if_false,length_append]at hj2;omega
       simp only[↓eB,seval,go_sem,h1,h2,h2',h3,w0]
       try simp only[A1,A2]
       repeat' first|exact ck|with_reducible apply And.intro|intro _
       all_goals try first|exact hlt|exact rfl|exact g1|exact g2|(exact g3 rfl)|exact g7|(simp only[Nat.succ_ne_zero,if_true,if_false,Az,jB,jL3]at *;omega)|(rename_i h;first|exact oI h|exact nah h)|(rename_i _ h _ g;exact sL h g)|decide|omega
       simp only[append_assoc,cons_append,nil_append]at g6
       refine⟨i+1+1,hlt,by omega,A4 [] ?_⟩
       simp only[↓eB,seval,go_sem,g6,append_assoc]
 ·rw[RY]at hlen
  simp only[flatten_cons,flatten_nil,jL3]at hlen
  simp only[↓eB,seval,go_sem]
  try simp only[A1,A2]
  repeat' first|exact ck|with_reducible apply And.intro|intro _
  all_goals first|exact e1|exact e2|exact e3|exact ne|exact nf|exact nc|(exact r1 (by decide))|(exact r2 rfl)|(exact r3 (by decide))|(simp only[jL3];omega)|(rename_i h;first|exact oI h|exact nah h)|(rename_i _ h _ g;exact sL h g)|decide|omega|(refine A0 [] ?_;simp only[↓eB,seval,go_sem,bne,Bw,RY,flatten_cons,flatten_nil,append_assoc])
 ·rw[FG]at hlen
  simp only[flatten_cons,flatten_nil,jL3]at hlen
  simp only[↓eB,seval,go_sem]
  try simp only[A1,A2]
  repeat' first|exact ck|with_reducible apply And.intro|intro _
  all_goals first|exact e1|exact e2|exact e3|exact ne|exact nf|exact nc|(exact r1 (by decide))|(exact r2 rfl)|(exact r3 (by decide))|(simp only[jL3];omega)|(rename_i h;first|exact oI h|exact nah h)|(rename_i _ h _ g;exact sL h g)|decide|omega|(refine A0 [] ?_;simp only[↓eB,seval,go_sem,bne,Bw,FG,flatten_cons,flatten_nil,append_assoc])
 ·rw[OA]at hlen
  simp only[flatten_cons,flatten_nil,jL3]at hlen
  simp only[↓eB,seval,go_sem]
  try simp only[A1,A2]
  repeat' first|exact ck|with_reducible apply And.intro|intro _
  all_goals first|exact e1|exact e2|exact e3|exact ne|exact nf|exact nc|(exact r1 (by decide))|(exact r2 rfl)|(exact r3 (by decide))|(simp only[jL3];omega)|(rename_i h;first|exact oI h|exact nah h)|(rename_i _ h _ g;exact sL h g)|decide|omega|(refine A0 [] ?_;simp only[↓eB,seval,go_sem,bne,Bw,OA,flatten_cons,flatten_nil,append_assoc])
 ·rw[OB]at hlen
  simp only[flatten_cons,flatten_nil,jL3]at hlen
  simp only[↓eB,seval,go_sem]
  try simp only[A1,A2]
  repeat' first|exact ck|with_reducible apply And.intro|intro _
  all_goals first|exact e1|exact e2|exact e3|exact ne|exact nf|exact nc|(exact r1 (by decide))|(exact r2 rfl)|(exact r3 (by decide))|(simp only[jL3];omega)|(rename_i h;first|exact oI h|exact nah h)|(rename_i _ h _ g;exact sL h g)|decide|omega|(refine A0 [] ?_;simp only[↓eB,seval,go_sem,bne,Bw,OB,flatten_cons,flatten_nil,append_assoc])
end Go.Proofs.YtbiepiggmagfcaaGreatDoor
