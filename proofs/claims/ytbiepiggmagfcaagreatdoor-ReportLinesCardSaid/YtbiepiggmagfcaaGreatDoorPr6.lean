/- The document's text of a function, of the globals. Conditions: each node has its parts, the numbers are of 64 bits, the text is shorter than 10^9 bytes. -/
import Derived.Test.YtbiepiggmagfcaaGreatDoorPr4
import Derived.Test.YtbiepiggmagfcaaGreatDoorPs6
set_option linter.unusedVariables false
set_option linter.unusedSimpArgs false
set_option maxRecDepth 20000
set_option maxHeartbeats 8000000
open List (length_append length_cons length_nil)
namespace Go.Proofs.YtbiepiggmagfcaaGreatDoor
open Go Go.Sy Go.RowKit
theorem B2K {l:List Ln} {i:Nat} {x:Ln} (h:l[i]?=some x) (z:List D):(l.map Ln.r).getD i z=[dS x.t,dI x.n]:=by simp[List.getD,h,Ln.r]
theorem B2C {l:List Ln} {i:Nat} {x:Ln} (h:l[i]?=some x):lnX (l.take (i+1))=lnX (l.take i)++(x.t++[10]):=B2J (fun x:Ln=>x.t++[10]) h
theorem B2D (l:List Ln) (i:Nat):(lnX (l.take i)).length≤(lnX l).length:=B2N (fun x:Ln=>x.t++[10]) l i
abbrev yn (n:Nat) (m:Nat) (f:Fn):Prop:=Cp n m f.body∧ER m f.body∧m≤1000∧f.ps.length≤5000∧f.ls.length≤5000∧(fnT f).length≤1000000000
abbrev A3 (n:Nat) (m:Nat) (f:Fn):SV:=.one (.v (.string (bs (fnT f))))
noncomputable abbrev xh:ArgC ((Fn)×Unit):=(acS (cFn) ac0)
abbrev A7J (n:Nat) (m:Nat):Prop:=AP Tryz.prog 16 xh (fun p:(Fn)×Unit=>yn n m p.1) (fun p:(Fn)×Unit=>A3 n m p.1)
theorem B29 (n:Nat) (m:Nat):∀p:(Fn)×Unit,((fun p:(Fn)×Unit=>A3 n m p.1) p).names=[]:=by intro p;rfl
noncomputable def xl {X:Ctx} {w0:World} (n:Nat) (m:Nat) (h:A7J n m):Sy.Spec Tryz.prog X w0:=Am 16 Tryz.call16 xh (fun p:(Fn)×Unit=>yn n m p.1) (fun p:(Fn)×Unit=>A3 n m p.1) (B29 n m) h
attribute [local go_sem] Fn.c Ga.r Gb.c Ht Jc B2S B2R lnR AO sD1 VD OH B2L XH XZ
theorem B23 (n:Nat) (m:Nat):A7J n m:=by
 rintro ⟨f,_u⟩ w fz xs hc hfz hl hx
 refine A9 Tryz.func16 rfl w fz [(VD n m (y_rLines n m))] [] xh (fun p:(Fn)×Unit=>A3 n m p.1) _ xs hfz hl hx (jN rfl) ?_
 clear hx hl hfz xs
 simp only[Tryz.f16]
 obtain⟨hk,hr,hm,hp,hq,hlen⟩:=hc
 have hn:=Lf (lnF f)
 have hT:fnT f=lnX (lnF f):=rfl
 rw[hT]at hlen
 obtain⟨nm,ps,ls,bd⟩:=f
 simp only[↓eB,seval,go_sem]
 try simp only[A1,A2]
 repeat' (first|exact ck|with_reducible apply And.intro)
 all_goals try first|exact hk|exact hr|exact hm|exact hp|exact hq|exact hlen|decide|omega
 generalize lnF ⟨nm,ps,ls,bd⟩=l at hlen hn hT
 refine AH (Y:=Nat) (fun z=>z≤l.length) (fun z=>⟨[(3,true,.one (.v (.string (bs (lnX (l.take z)))))),(4,true,.one (.d (.sl zLn (l.map Ln.r)))),(5,true,.one (.v (.int .i64 (z:Int))))],[]⟩)
  (fun z=>l.length-z) 0 (Nat.zero_le _) ?_ ?_
 ·refine A4 [] ?_;simp only[↓eB,seval,go_sem]
 ·rintro i hi
  refine Ab [VD n m (y_rLines n m)] [] _ _ _ ?_
  cases hx:l[i]? with
  |none=>
   have h2:=List.getElem?_eq_none_iff.1 hx
   have h1:=Ao h2
   have h3:l.take i=l:=List.take_of_length_le h2
   simp only[↓eB,seval,go_sem,h1,h3]
   try simp only[A1,A2]
   repeat' first|exact ck|with_reducible apply And.intro|intro _
   all_goals first|exact trivial|(rename_i h;first|exact oI h|exact nah h)|(rename_i _ h _ g;exact sL h g)|decide|omega|(refine A0 [] ?_;simp only[↓eB,seval,go_sem,bne,A3,hT])
  |some x=>
   have hlt:i<l.length:=(List.getElem?_eq_some_iff.1 hx).1
   have h1:=Ah hlt
   have h2:=AX hlt
   have h2':=AM (n:=l.length) (Nat.le_of_lt hlt) (by omega)
   have h3:=B2K hx
   have g5:=B2C hx
   have g6:=B2D l (i+1)
   rw[g5,length_append,length_append]at g6
   simp only[↓eB,seval,go_sem,h1,h2,h2',h3]
   try simp only[A1,A2]
   repeat' first|exact ck|with_reducible apply And.intro|intro _
   all_goals try first|exact hlt|exact rfl|(simp only[jL3]at *;omega)|(rename_i h;first|exact oI h|exact nah h)|(rename_i _ h _ g;exact sL h g)|decide|omega
   refine⟨i+1,hlt,by omega,A4 [] ?_⟩
   simp only[↓eB,seval,go_sem,g5,List.append_assoc]
end Go.Proofs.YtbiepiggmagfcaaGreatDoor
namespace Go.Proofs.YtbiepiggmagfcaaGreatDoor
open Go Go.Sy Go.Shelf Go.RowKit
def mkT (A:List Al) (N:List Nt) (x:Ln):List UInt8:=if (decide (0≤x.n)&&!(CP A N x.n).isEmpty)=true then (x.t++[32,35])++CP A N x.n else x.t
def rpW (A:List Al) (N:List Nt) (x:Ln):List UInt8:=mkT A N x++[10]
def rpX (A:List Al) (N:List Nt) (l:List Ln):List UInt8:=l.flatMap (rpW A N)
theorem y9 {l:List Ln} {i:Nat} {t:List UInt8} {n:Int} (h:l[i]?=some ⟨t,n⟩) (z:List D):(l.map Ln.r).getD i z=[dS t,dI n]:=by simp[List.getD,h,Ln.r]
end Go.Proofs.YtbiepiggmagfcaaGreatDoor
namespace Go.Proofs.YtbiepiggmagfcaaGreatDoor
open Go Go.Sy Go.Shelf Go.RowKit
structure Iv where
 s:Bool
 lo:Int
 hi:Int
def Iv.c (x:Iv):List C:=[.v (.bool x.s),.v (.int .i64 x.lo),.v (.int .i64 x.hi)]
theorem A37 (v:SV) (a b:Iv) (h:leV v (.agg a.c)) (h':leV v (.agg b.c)):a=b:=by
 obtain⟨s,x,y⟩:=a;obtain⟨s',x',y'⟩:=b
 cases v with
 |one c=>exact h.elim
 |tup l=>exact h.elim
 |agg l=>
  match l,h,h' with
  |[p,q,r],⟨h1,h2,h3,_⟩,⟨g1,g2,g3,_⟩=>
   have k1:=MG h1 g1
   have k2:=MG h2 g2
   have k3:=MG h3 g3
   simp only[Value.bool.injEq,Value.int.injEq,true_and]at k1 k2 k3
   rw[k1,k2,k3]
noncomputable def cIv:Cod Iv:=IF (fun x=>.agg x.c) A37 (fun x=>rfl)
theorem cI (x:Iv):cIv.e x= .agg x.c:=rfl
theorem WG (s:Bool) (lo hi:Int):cIv.d (.agg [.v (.bool s),.v (.int .i64 lo),.v (.int .i64 hi)])=some ⟨s,lo,hi⟩:=Df (e:=fun x:Iv=>.agg x.c) (a:=⟨s,lo,hi⟩) (ED _)
theorem Xd (a:Iv):(⟨a.s,a.lo,a.hi⟩:Iv)=a:=rfl
theorem xi:Iv.c ⟨true,-9223372036854775808,9223372036854775807⟩=[.v (.bool true),.v (.int .i64 (-9223372036854775808)),.v (.int .i64 9223372036854775807)]:=rfl
def OK:Iv:=⟨false,0,0⟩
def D5:Iv:=⟨true,-9223372036854775808,9223372036854775807⟩
def Ey (a:Iv):Bool:=!a.s||decide (a.hi<a.lo)
def cJ (lo hi:Int):Iv:=if decide (hi<lo)=true then OK else ⟨true,lo,hi⟩
def OL (a b:Iv):Bool:=if Ey a=true then true else !Ey b&&decide (b.lo≤a.lo)&&decide (a.hi≤b.hi)
abbrev wIv (a:Iv):Prop:=w64 a.lo∧w64 a.hi
abbrev T7 (a:Iv):Prop:=True
abbrev I0 (a:Iv):SV:=SV.one (.v (.bool (Ey a)))
attribute [local go_sem] Iv.c WG cI Xd I0
theorem gX:AP Tryz.prog 88 (acS (cIv) ac0) (fun p:(Iv×Unit)=>T7 p.1) (fun p:(Iv×Unit)=>I0 p.1):=by
 rintro ⟨a,_u⟩ w fz xs hc hfz hl hx
 refine A9 Tryz.func88 rfl w fz [] [] (acS (cIv) ac0) (fun p:(Iv×Unit)=>I0 p.1) _ xs hfz hl hx (jN rfl) ?_
 clear hx hl hfz xs
 simp only[Tryz.f88]
 obtain⟨s,lo,hi⟩:=a
 cases s
 ·simp only[↓eB,seval,go_sem]
  try simp only[A1,A2]
  repeat' first|exact ck|with_reducible apply And.intro|intro _
  all_goals first|exact trivial|(rename_i h;first|exact oI h|exact nah h)|(rename_i _ h _ g;exact sL h g)|decide|omega|(refine A0 [] ?_;simp only[↓eB,seval,go_sem,bne,Ey])
 ·simp only[↓eB,seval,go_sem]
  try simp only[A1,A2]
  repeat' first|exact ck|with_reducible apply And.intro|intro _
  all_goals first|exact trivial|(rename_i h;first|exact oI h|exact nah h)|(rename_i _ h _ g;exact sL h g)|decide|omega|(refine A0 [] ?_;simp only[↓eB,seval,go_sem,bne,Ey])
theorem cK:∀p:(Iv×Unit),((fun p:(Iv×Unit)=>I0 p.1) p).names=[]:=by intro p;first|rfl|simp[SV.names,C.names]
noncomputable def Ei {X:Ctx} {w0:World}:Sy.Spec Tryz.prog X w0:=Am 88 Tryz.call88 (acS (cIv) ac0) (fun p:(Iv×Unit)=>T7 p.1) (fun p:(Iv×Unit)=>I0 p.1) cK gX
theorem xj:cIv.d (.agg [.v (.bool true),.v (.int .i64 (-9223372036854775808)),.v (.int .i64 9223372036854775807)])=some D5:=WG _ _ _
abbrev T8:Prop:=True
abbrev GD:SV:=.agg OK.c
theorem gY:AP Tryz.prog 131 ac0 (fun p:Unit=>T8 ) (fun p:Unit=>GD ):=by
 rintro _u w fz xs hc hfz hl hx
 refine A9 Tryz.func131 rfl w fz [] [] ac0 (fun p:Unit=>GD ) _ xs hfz hl hx (jN rfl) ?_
 clear hx hl hfz xs
 simp only[Tryz.f131]
 simp only[↓eB,seval,go_sem]
 try simp only[A1,A2]
 repeat' first|exact ck|with_reducible apply And.intro|intro _
 all_goals first|exact trivial|(rename_i h;first|exact oI h|exact nah h)|(rename_i _ h _ g;exact sL h g)|decide|omega|(refine A0 [] ?_;simp only[↓eB,seval,go_sem,bne,GD,OK])
theorem cL:∀p:Unit,((fun p:Unit=>GD ) p).names=[]:=by intro p;first|rfl|simp[SV.names,C.names]
noncomputable def T9 {X:Ctx} {w0:World}:Sy.Spec Tryz.prog X w0:=Am 131 Tryz.call131 ac0 (fun p:Unit=>T8 ) (fun p:Unit=>GD ) cL gY
abbrev a8 (lo:Int) (hi:Int):Prop:=True
abbrev JC (lo:Int) (hi:Int):SV:=.agg (cJ lo hi).c
attribute[local go_sem] OK T9 GD in
theorem xm:AP Tryz.prog 112 (acS (cInt .i64) (acS (cInt .i64) ac0)) (fun p:(Int×(Int×Unit))=>a8 p.1 p.2.1) (fun p:(Int×(Int×Unit))=>JC p.1 p.2.1):=by
 rintro ⟨lo,hi,_u⟩ w fz xs hc hfz hl hx
 refine A9 Tryz.func112 rfl w fz [T9] [] (acS (cInt .i64) (acS (cInt .i64) ac0)) (fun p:(Int×(Int×Unit))=>JC p.1 p.2.1) _ xs hfz hl hx (jN rfl) ?_
 clear hx hl hfz xs
 simp only[Tryz.f112]
 cases h:decide (hi<lo) with
 |true=>
  simp only[↓eB,seval,go_sem,h]
  try simp only[A1,A2]
  repeat' first|exact ck|with_reducible apply And.intro|intro _
  all_goals first|exact trivial|(rename_i h;first|exact oI h|exact nah h)|(rename_i _ h _ g;exact sL h g)|decide|omega|(refine A0 [] ?_;simp only[↓eB,seval,go_sem,bne,JC,cJ,h])
 |false=>
  simp only[↓eB,seval,go_sem,h]
  try simp only[A1,A2]
  repeat' first|exact ck|with_reducible apply And.intro|intro _
  all_goals first|exact trivial|(rename_i h;first|exact oI h|exact nah h)|(rename_i _ h _ g;exact sL h g)|decide|omega|(refine A0 [] ?_;simp only[↓eB,seval,go_sem,bne,JC,cJ,h])
theorem rK:∀p:(Int×(Int×Unit)),((fun p:(Int×(Int×Unit))=>JC p.1 p.2.1) p).names=[]:=by intro p;first|rfl|simp[SV.names,C.names]
noncomputable def aA {X:Ctx} {w0:World}:Sy.Spec Tryz.prog X w0:=Am 112 Tryz.call112 (acS (cInt .i64) (acS (cInt .i64) ac0)) (fun p:(Int×(Int×Unit))=>a8 p.1 p.2.1) (fun p:(Int×(Int×Unit))=>JC p.1 p.2.1) rK xm
theorem xo:cJ (-9223372036854775808) 9223372036854775807=D5:=rfl
abbrev Xe:Prop:=True
abbrev JD:SV:=.agg D5.c
theorem rL:AP Tryz.prog 90 ac0 (fun p:Unit=>Xe ) (fun p:Unit=>JD ):=by
 rintro _u w fz xs hc hfz hl hx
 refine A9 Tryz.func90 rfl w fz [aA] [] ac0 (fun p:Unit=>JD ) _ xs hfz hl hx (jN rfl) ?_
 clear hx hl hfz xs
 simp only[Tryz.f90]
 simp only[↓eB,seval,go_sem,aA,JC,xo,D5]
 try simp only[A1,A2]
 repeat' first|exact ck|with_reducible apply And.intro|intro _
 all_goals first|exact trivial|(rename_i h;first|exact oI h|exact nah h)|(rename_i _ h _ g;exact sL h g)|decide|omega|(refine A0 [] ?_;simp only[↓eB,seval,go_sem,bne,JD,D5])
theorem ke:∀p:Unit,((fun p:Unit=>JD ) p).names=[]:=by intro p;first|rfl|simp[SV.names,C.names]
noncomputable def Xf {X:Ctx} {w0:World}:Sy.Spec Tryz.prog X w0:=Am 90 Tryz.call90 ac0 (fun p:Unit=>Xe ) (fun p:Unit=>JD ) ke rL
abbrev Xg (a:Iv) (b:Iv):Prop:=True
abbrev Ej (a:Iv) (b:Iv):SV:=SV.one (.v (.bool (OL a b)))
theorem rM:AP Tryz.prog 89 (acS (cIv) (acS (cIv) ac0)) (fun p:(Iv×(Iv×Unit))=>Xg p.1 p.2.1) (fun p:(Iv×(Iv×Unit))=>Ej p.1 p.2.1):=by
 rintro ⟨a,b,_u⟩ w fz xs hc hfz hl hx
 refine A9 Tryz.func89 rfl w fz [Ei] [] (acS (cIv) (acS (cIv) ac0)) (fun p:(Iv×(Iv×Unit))=>Ej p.1 p.2.1) _ xs hfz hl hx (jN rfl) ?_
 clear hx hl hfz xs
 simp only[Tryz.f89]
 cases e1:Ey a with
 |true=>
  obtain⟨s,lo,hi⟩:=a
  obtain⟨s',lo',hi'⟩:=b
  simp only[↓eB,seval,go_sem,Ei,e1]
  try simp only[A1,A2]
  repeat' first|exact ck|with_reducible apply And.intro|intro _
  all_goals first|exact trivial|(rename_i h;first|exact oI h|exact nah h)|(rename_i _ h _ g;exact sL h g)|decide|omega|(refine A0 [] ?_;simp only[↓eB,seval,go_sem,bne,Ej,OL,e1])
 |false=>
  cases e2:Ey b with
  |true=>
   obtain⟨s,lo,hi⟩:=a
   obtain⟨s',lo',hi'⟩:=b
   simp only[↓eB,seval,go_sem,Ei,e1,e2]
   try simp only[A1,A2]
   repeat' first|exact ck|with_reducible apply And.intro|intro _
   all_goals first|exact trivial|(rename_i h;first|exact oI h|exact nah h)|(rename_i _ h _ g;exact sL h g)|decide|omega|(refine A0 [] ?_;simp only[↓eB,seval,go_sem,bne,Ej,OL,e1,e2])
  |false=>
   obtain⟨s,lo,hi⟩:=a
   obtain⟨s',lo',hi'⟩:=b
   cases e3:decide (lo'≤lo) with
   |true=>
    simp only[↓eB,seval,go_sem,Ei,e1,e2,e3]
    try simp only[A1,A2]
    repeat' first|exact ck|with_reducible apply And.intro|intro _
    all_goals first|exact trivial|(rename_i h;first|exact oI h|exact nah h)|(rename_i _ h _ g;exact sL h g)|decide|omega|(refine A0 [] ?_;simp only[↓eB,seval,go_sem,bne,Ej,OL,e1,e2,e3])
   |false=>
    simp only[↓eB,seval,go_sem,Ei,e1,e2,e3]
    try simp only[A1,A2]
    repeat' first|exact ck|with_reducible apply And.intro|intro _
    all_goals first|exact trivial|(rename_i h;first|exact oI h|exact nah h)|(rename_i _ h _ g;exact sL h g)|decide|omega|(refine A0 [] ?_;simp only[↓eB,seval,go_sem,bne,Ej,OL,e1,e2,e3])
theorem kf:∀p:(Iv×(Iv×Unit)),((fun p:(Iv×(Iv×Unit))=>Ej p.1 p.2.1) p).names=[]:=by intro p;first|rfl|simp[SV.names,C.names]
noncomputable def Xh {X:Ctx} {w0:World}:Sy.Spec Tryz.prog X w0:=Am 89 Tryz.call89 (acS (cIv) (acS (cIv) ac0)) (fun p:(Iv×(Iv×Unit))=>Xg p.1 p.2.1) (fun p:(Iv×(Iv×Unit))=>Ej p.1 p.2.1) kf rM
def txI (a:Iv):List UInt8:=if Ey a=true then [110,111,110,101] else if OL D5 a=true then [97,108,108] else ((([91]++itT a.lo)++[44])++itT a.hi)++[93]
abbrev VJ (a:Iv):Prop:=wIv a
abbrev EZ (a:Iv):SV:=SV.one (.v (.string (bs (txI a))))
attribute[local go_sem] xi xj Xh Xf Ei Ej JD in
theorem kg:Cn Tryz.prog 57 AY (acS (cIv) ac0) (fun p:(Iv×Unit)=>VJ p.1) (fun p:(Iv×Unit)=>EZ p.1):=by
 rintro ⟨a,_u⟩ w fz xs hT hc hfz hl hx
 have hG:=Cj Br DA (fz:=fz) hT
 refine A9 Tryz.func57 rfl w fz [Ei,Xf,Xh,(Hr hG)] [] (acS (cIv) ac0) (fun p:(Iv×Unit)=>EZ p.1) _ xs hfz hl hx (jN rfl) ?_
 clear hx hl hfz xs
 simp only[Tryz.f57]
 obtain⟨hw1,hw2⟩:=hc
 have l1:=G9 hw1
 have l2:=G9 hw2
 dsimp only at hw1 hw2 l1 l2
 cases e1:Ey a with
 |true=>
  obtain⟨s,lo,hi⟩:=a
  simp only[↓eB,seval,go_sem,e1]
  try simp only[A1,A2]
  repeat' first|exact ck|with_reducible apply And.intro|intro _
  all_goals first|exact trivial|(rename_i h;first|exact oI h|exact nah h)|(rename_i _ h _ g;exact sL h g)|decide|omega|(refine A0 [] ?_;simp only[↓eB,seval,go_sem,bne,EZ,txI,e1])
 |false=>
  cases e2:OL D5 a with
  |true=>
   obtain⟨s,lo,hi⟩:=a
   simp only[↓eB,seval,go_sem,e1,e2]
   try simp only[A1,A2]
   repeat' first|exact ck|with_reducible apply And.intro|intro _
   all_goals first|exact trivial|(rename_i h;first|exact oI h|exact nah h)|(rename_i _ h _ g;exact sL h g)|decide|omega|(refine A0 [] ?_;simp only[↓eB,seval,go_sem,bne,EZ,txI,e1,e2])
  |false=>
   obtain⟨s,lo,hi⟩:=a
   dsimp only at hw1 hw2 l1 l2
   simp only[↓eB,seval,go_sem,Hr,Hq,e1,e2]
   try simp only[A1,A2]
   repeat' first|exact ck|with_reducible apply And.intro|intro _
   all_goals first|exact hw1|exact hw2|(simp only[jL3];omega)|(rename_i h;first|exact oI h|exact nah h)|(rename_i _ h _ g;exact sL h g)|decide|omega|(refine A0 [] ?_;simp only[↓eB,seval,go_sem,bne,EZ,txI,e1,e2])
theorem gZ:∀p:(Iv×Unit),((fun p:(Iv×Unit)=>EZ p.1) p).names=[]:=by intro p;first|rfl|simp[SV.names,C.names]
noncomputable def Pb {X:Ctx} {w0:World} (hG:BB X w0 AY CX):Sy.Spec Tryz.prog X w0:=FK 57 Tryz.call57 AY (acS (cIv) ac0) (fun p:(Iv×Unit)=>VJ p.1) (fun p:(Iv×Unit)=>EZ p.1) gZ kg hG.stays
end Go.Proofs.YtbiepiggmagfcaaGreatDoor
namespace Go.Proofs.YtbiepiggmagfcaaGreatDoor
open Go Go.Sy Go.Shelf Go.RowKit
structure Md where
 s:List UInt8
 v:Iv
structure Su where
 n:List UInt8
 al:Option (List Al)
 e:Bool
 v:Iv
 md:Option (List Md)
def Md.r (x:Md):List D:=[dS x.s,.v (.bool x.v.s),dI x.v.lo,dI x.v.hi]
def zMd:List D:=[dS [],.v (.bool false),dI 0,dI 0]
def alD:Option (List Al)→D
 |none=>.v (.slice none 0 0)
 |some l=>.sl zAl (l.map Al.r)
def alN:Option (List Al)→Int
 |none=>0
 |some l=>(l.length:Int)
def mdD:Option (List Md)→D
 |none=>.v (.slice none 0 0)
 |some l=>.sl zMd (l.map Md.r)
def Su.r (x:Su):List D:=[dS x.n,alD x.al,.v (.bool x.e),.v (.bool x.v.s),dI x.v.lo,dI x.v.hi,mdD x.md]
def zSu:List D:=[dS [],.v (.slice none 0 0),.v (.bool false),.v (.bool false),dI 0,dI 0,.v (.slice none 0 0)]
theorem Xl:zSu.length=7:=rfl
theorem xq (a b:Md) (h:a.r=b.r):a=b:=by
 obtain⟨s,⟨p,x,y⟩⟩:=a;obtain⟨s',⟨p',x',y'⟩⟩:=b
 simp only[Md.r,dI,dS,List.cons.injEq,D.v.injEq,Value.int.injEq,Value.bool.injEq,Value.string.injEq,true_and,and_true]at h
 obtain⟨h1,h2,h3,h4⟩:=h
 rw[bs_inj h1,h2,h3,h4]
theorem rQ {a b:Option (List Al)} (h:alD a=alD b):a=b:=by
 cases a<;>cases b<;>simp only[alD,D.sl.injEq,true_and,reduceCtorEq]at h
 ·rfl
 ·rw[Bh Xr h]
theorem rR {a b:Option (List Md)} (h:mdD a=mdD b):a=b:=by
 cases a<;>cases b<;>simp only[mdD,D.sl.injEq,true_and,reduceCtorEq]at h
 ·rfl
 ·rw[Bh xq h]
theorem ML (m:Option (List Md)):(oD (mdD m)).stor=true:=by cases m<;>rfl
theorem xr (a b:Su) (h:a.r=b.r):a=b:=by
 obtain⟨n,al,e,⟨p,x,y⟩,md⟩:=a;obtain⟨n',al',e',⟨p',x',y'⟩,md'⟩:=b
 simp only[Su.r,dI,dS,List.cons.injEq,D.v.injEq,D.sl.injEq,Value.int.injEq,Value.bool.injEq,Value.string.injEq,true_and,and_true]at h
 obtain⟨h1,h2,h3,h4,h5,h6,h7⟩:=h
 rw[bs_inj h1,rQ h2,h3,h4,h5,h6,rR h7]
noncomputable def cUs:Cod (List Su):=IF (fun l=>.one (.d (.sl zSu (l.map Su.r)))) (fun v a b h h'=>by
 cases v with
 |one c=>exact Bh xr (Jb h h')
 |agg l=>exact h.elim
 |tup l=>exact h.elim) (fun l=>rfl)
theorem cP (l:List Su):cUs.e l= .one (.d (.sl zSu (l.map Su.r))):=rfl
theorem WH (l:List Su):cUs.d (.one (.d (.sl zSu (l.map Su.r))))=some l:=Df (e:=fun l:List Su=>.one (.d (.sl zSu (l.map Su.r)))) (ED _)
theorem cQ {l:List Su} {i:Nat} {n:List UInt8} {al:Option (List Al)} {e s:Bool} {lo hi:Int} {md:Option (List Md)} (h:l[i]?=some ⟨n,al,e,⟨s,lo,hi⟩,md⟩) (z:List D):(l.map Su.r).getD i z=[dS n,alD al,.v (.bool e),.v (.bool s),dI lo,dI hi,mdD md]:=by simp[List.getD,h,Su.r]
def enW (e:Bool):List UInt8:=if e=true then [101,110,100,115] else [110,101,118,101,114]
def reW (x:Su):List UInt8:=if x.e=true then txI x.v else [110,111,110,101]
def suT (x:Su):List UInt8:=(((((((x.n++[32])++enW x.e)++[32])++reW x)++[32])++itT (alN x.al))++[10])
def tbU (l:List Su):List UInt8:=l.flatMap suT
theorem Xm {l:List Su} {i:Nat} {x:Su} (h:l[i]?=some x):tbU (l.take (i+1))=tbU (l.take i)++suT x:=OT suT h
structure okSu (x:Su):Prop where
 n:x.n.length≤50
 v:wIv x.v
 a:w64 (alN x.al)
theorem US {a:Iv} (h:wIv a):(txI a).length≤60:=by
 have l1:=G9 h.1
 have l2:=G9 h.2
 unfold txI;split
 ·decide
 split
 ·decide
 ·simp only[jL3];omega
theorem UT {x:Su} (h:okSu x):(suT x).length≤200:=by
 have l1:=US h.v
 have l2:=G9 h.a
 have l3:=h.n
 have l4:(enW x.e).length≤5:=by unfold enW;split<;>decide
 have l5:(reW x).length≤60:=by unfold reW;split;exact l1;decide
 unfold suT
 simp only[jL3];omega
theorem UU {l:List Su} (h:∀x∈l,okSu x):(tbU l).length≤200*l.length:=by
 induction l with
 |nil=>exact Nat.zero_le _
 |cons a l ih=>
  have:=ih fun x hx=>h x (List.mem_cons_of_mem _ hx)
  have:=UT (h a (by simp))
  unfold tbU at*
  simp only[List.flatMap_cons,length_append,length_cons,Nat.mul_succ];omega
def ad3:Bool→C
 |true=>.p 3 0 0
 |false=>.v (.pointer none)
def rB3 (u:Bool) (t:List UInt8):List C:=[ad3 u,.ov zB8 (t.map byK)]
abbrev OO (l:List Su):Prop:=l.length≤1000∧∀x∈l,okSu x
abbrev Lq (l:List Su):SV:=.one (.v (.string (bs (tbU l))))
noncomputable abbrev Lr:ArgC ((List Su)×Unit):=(acS (cUs) ac0)
abbrev Xn:Prop:=Cn Tryz.prog 23 AY Lr (fun p:(List Su)×Unit=>OO p.1) (fun p:(List Su)×Unit=>Lq p.1)
attribute [local go_sem] Iv.c ad3 adC Kf Kg MF WG cI WH cP inK Xd rB3 MC Jk Jm Hh Hi Jj Jl MB BU CL UB Pb QU EZ Xl
theorem aD:Xn:=by
 rintro ⟨l,_u⟩ w fz xs hT hc hfz hl hx
 have hG:=Cj Br DA (fz:=fz) hT
 refine A9 Tryz.func23 rfl w fz [(Pb hG),(UB hG),(BU 107 0 (CM _ _) (BC _ _)),(CL 107 0 (Ds _ _) (BC _ _))] [] Lr (fun p:(List Su)×Unit=>Lq p.1) _ xs hfz hl hx (jN rfl) ?_
 clear hx hl hfz xs
 simp only[Tryz.f23]
 obtain⟨h1,h2⟩:=hc
 dsimp only at h1 h2
 simp only[↓eB,seval,go_sem]
 refine AH (Y:=Nat×Bool) (fun z=>z.1≤l.length)
  (fun z=>⟨[(3,true,.one (.p 3 0 0)),(8,true,.one (.d (.sl zSu (l.map Su.r)))),(9,true,.one (.v (.int .i64 (l.length:Int)))),(10,true,.one (.v (.int .i64 (z.1:Int))))],[(3,.vec 0 (tgN 107 2) [rB3 z.2 (tbU (l.take z.1))])]⟩)
  (fun z=>l.length-z.1) (0,false) (Nat.zero_le _) ?_ ?_
 ·refine A4 [.nilc 3 0 1 zB8] ?_;simp only[↓eB,seval,go_sem,tbU]
 ·rintro ⟨z,u⟩ hz
  dsimp only at hz
  refine Ab [Pb hG,UB hG,BU 107 0 (CM _ _) (BC _ _),CL 107 0 (Ds _ _) (BC _ _)] [] _ _ _ ?_
  cases hx:l[z]? with
  |none=>
   have e2:=List.getElem?_eq_none_iff.1 hx
   have e1:=Ao e2
   have e3:l.take z=l:=List.take_of_length_le e2
   have g5:(tbU l).length≤100000000000000:=by have:=UU h2;omega
   cases u<;>simp only[↓eB,seval,go_sem,e1,e3]
   all_goals (
    try simp only[A1,A2]
    repeat' first|exact ck|with_reducible apply And.intro|intro _
    all_goals first|exact g5|(rename_i h;first|exact oI h|exact nah h)|(rename_i _ h _ g;exact sL h g)|decide|omega|(refine A0 [] ?_;simp only[↓eB,seval,go_sem,bne,Lq]))
  |some x=>
   have e2:=(List.getElem?_eq_some_iff.1 hx).1
   have e1:=Ah e2
   have e4:=AX e2
   have e5:=AM (n:=l.length) (Nat.le_of_lt e2) (by omega)
   have ok:=h2 x (List.mem_of_getElem? hx)
   have e6:=Xm hx
   have e8:(tbU (l.take z)).length≤200000:=by
    have:=UU (l:=l.take z) (fun x hx=>h2 x (List.mem_of_mem_take hx))
    rw[List.length_take]at this;omega
   have g7:=UT ok
   obtain⟨o1,o2,o3⟩:=ok
   have t1:=US o2
   have t2:=G9 o3
   obtain⟨n,al,e,⟨s,lo,hi⟩,md⟩:=x
   dsimp only at o1 o2 o3 t1 t2
   have e3:=cQ hx
   rcases al with _|al
   ·simp only[alD,alN]at e3 o3 t2
    cases e
    ·have e9:suT ⟨n,none,false,⟨s,lo,hi⟩,md⟩=(((((((n++[32])++[110,101,118,101,114])++[32])++[110,111,110,101])++[32])++itT 0)++[10]):=rfl
     rw[e9]at e6 g7
     have g9:(tbU (l.take z)).length+((((((((n++[32])++[110,101,118,101,114])++[32])++[110,111,110,101])++[32])++itT 0)++[10])).length≤100000000000000:=by omega
     cases u<;>simp only[↓eB,seval,go_sem,e1,e3]
     all_goals
      try simp only[A1,A2]
      repeat' first|exact ck|with_reducible apply And.intro|intro _
      all_goals try first|exact e4|(exact ML _)|exact FT|exact o2.1|exact o2.2|exact o2|exact o3|exact g9|exact rfl|(simp only[jL3];omega)|(rename_i h;first|exact oI h|exact nah h)|(rename_i _ h _ g;exact sL h g)|decide|omega
      refine⟨(z+1,true),e2,by omega,A4 [] ?_⟩
      simp only[↓eB,seval,go_sem,e5,e6]
    ·have e9:suT ⟨n,none,true,⟨s,lo,hi⟩,md⟩=(((((((n++[32])++[101,110,100,115])++[32])++txI ⟨s,lo,hi⟩)++[32])++itT 0)++[10]):=rfl
     rw[e9]at e6 g7
     have g9:(tbU (l.take z)).length+((((((((n++[32])++[101,110,100,115])++[32])++txI ⟨s,lo,hi⟩)++[32])++itT 0)++[10])).length≤100000000000000:=by omega
     cases u<;>simp only[↓eB,seval,go_sem,e1,e3]
     all_goals
      try simp only[A1,A2]
      repeat' first|exact ck|with_reducible apply And.intro|intro _
      all_goals try first|exact e4|(exact ML _)|exact FT|exact o2.1|exact o2.2|exact o2|exact o3|exact g9|exact rfl|(simp only[jL3];omega)|(rename_i h;first|exact oI h|exact nah h)|(rename_i _ h _ g;exact sL h g)|decide|omega
      refine⟨(z+1,true),e2,by omega,A4 [] ?_⟩
      simp only[↓eB,seval,go_sem,e5,e6]
   ·simp only[alD,alN]at e3 o3 t2
    cases e
    ·have e9:suT ⟨n,(some al),false,⟨s,lo,hi⟩,md⟩=(((((((n++[32])++[110,101,118,101,114])++[32])++[110,111,110,101])++[32])++itT (al.length:Int))++[10]):=rfl
     rw[e9]at e6 g7
     have g9:(tbU (l.take z)).length+((((((((n++[32])++[110,101,118,101,114])++[32])++[110,111,110,101])++[32])++itT (al.length:Int))++[10])).length≤100000000000000:=by omega
     cases u<;>simp only[↓eB,seval,go_sem,e1,e3]
     all_goals
      try simp only[A1,A2]
      repeat' first|exact ck|with_reducible apply And.intro|intro _
      all_goals try first|exact e4|(exact ML _)|exact FT|exact o2.1|exact o2.2|exact o2|exact o3|exact g9|exact rfl|(simp only[jL3];omega)|(rename_i h;first|exact oI h|exact nah h)|(rename_i _ h _ g;exact sL h g)|decide|omega
      refine⟨(z+1,true),e2,by omega,A4 [] ?_⟩
      simp only[↓eB,seval,go_sem,e5,e6]
    ·have e9:suT ⟨n,(some al),true,⟨s,lo,hi⟩,md⟩=(((((((n++[32])++[101,110,100,115])++[32])++txI ⟨s,lo,hi⟩)++[32])++itT (al.length:Int))++[10]):=rfl
     rw[e9]at e6 g7
     have g9:(tbU (l.take z)).length+((((((((n++[32])++[101,110,100,115])++[32])++txI ⟨s,lo,hi⟩)++[32])++itT (al.length:Int))++[10])).length≤100000000000000:=by omega
     cases u<;>simp only[↓eB,seval,go_sem,e1,e3]
     all_goals
      try simp only[A1,A2]
      repeat' first|exact ck|with_reducible apply And.intro|intro _
      all_goals try first|exact e4|(exact ML _)|exact FT|exact o2.1|exact o2.2|exact o2|exact o3|exact g9|exact rfl|(simp only[jL3];omega)|(rename_i h;first|exact oI h|exact nah h)|(rename_i _ h _ g;exact sL h g)|decide|omega
      refine⟨(z+1,true),e2,by omega,A4 [] ?_⟩
      simp only[↓eB,seval,go_sem,e5,e6]
end Go.Proofs.YtbiepiggmagfcaaGreatDoor
namespace Go.Proofs.YtbiepiggmagfcaaGreatDoor
open Go Go.Sy Go.Shelf Go.RowKit
end Go.Proofs.YtbiepiggmagfcaaGreatDoor
