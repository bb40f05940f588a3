/- Intervals and summaries as text. Conditions: the numbers are of 64 bits, names are short; the table of powers of ten is laid. -/
import Derived.Test.YtbiepiggmagfcaaGreatDoorRp8
import Derived.Test.YtbiepiggmagfcaaGreatDoorPs5
set_option linter.unusedVariables false
set_option linter.unusedSimpArgs false
namespace Go.Proofs.YtbiepiggmagfcaaGreatDoor
open Go Go.Sy Go.Shelf Go.RowKit
structure Iv where
 s:Bool
 lo:Int
 hi:Int
def Iv.c (x:Iv):List C:=[.v (.bool x.s),.v (.int .i64 x.lo),.v (.int .i64 x.hi)]
theorem A37 (v:SV) (a b:Iv) (h:leV v (.agg a.c)) (h':leV v (.agg b.c)):a=b:=by
 obtain⟨s,x,y⟩:=a;obtain⟨s',x',y'⟩:=b
 cases v with
 |one c=>exact h.elim
 |tup l=>exact h.elim
 |agg l=>
  match l,h,h' with
  |[p,q,r],⟨h1,h2,h3,_⟩,⟨g1,g2,g3,_⟩=>
   have k1:=MG h1 g1
   have k2:=MG h2 g2
   have k3:=MG h3 g3
   simp only[Value.bool.injEq,Value.int.injEq,true_and]at k1 k2 k3
   rw[k1,k2,k3]
noncomputable def cIv:Cod Iv:=IF (fun x=>.agg x.c) A37 (fun x=>rfl)
theorem cI (x:Iv):cIv.e x= .agg x.c:=rfl
theorem WG (s:Bool) (lo hi:Int):cIv.d (.agg [.v (.bool s),.v (.int .i64 lo),.v (.int .i64 hi)])=some ⟨s,lo,hi⟩:=Df (e:=fun x:Iv=>.agg x.c) (a:=⟨s,lo,hi⟩) (ED _)
theorem Xd (a:Iv):(⟨a.s,a.lo,a.hi⟩:Iv)=a:=rfl
theorem xi:Iv.c ⟨true,-9223372036854775808,9223372036854775807⟩=[.v (.bool true),.v (.int .i64 (-9223372036854775808)),.v (.int .i64 9223372036854775807)]:=rfl
def OK:Iv:=⟨false,0,0⟩
def D5:Iv:=⟨true,-9223372036854775808,9223372036854775807⟩
def Ey (a:Iv):Bool:=!a.s||decide (a.hi<a.lo)
def cJ (lo hi:Int):Iv:=if decide (hi<lo)=true then OK else ⟨true,lo,hi⟩
def OL (a b:Iv):Bool:=if Ey a=true then true else !Ey b&&decide (b.lo≤a.lo)&&decide (a.hi≤b.hi)
abbrev wIv (a:Iv):Prop:=w64 a.lo∧w64 a.hi
abbrev T7 (a:Iv):Prop:=True
abbrev I0 (a:Iv):SV:=SV.one (.v (.bool (Ey a)))
attribute [local go_sem] Iv.c WG cI Xd I0
theorem gX:AP Tryz.prog 88 (acS (cIv) ac0) (fun p:(Iv×Unit)=>T7 p.1) (fun p:(Iv×Unit)=>I0 p.1):=by
 rintro ⟨a,_u⟩ w fz xs hc hfz hl hx
 refine A9 Tryz.func88 rfl w fz [] [] (acS (cIv) ac0) (fun p:(Iv×Unit)=>I0 p.1) _ xs hfz hl hx (jN rfl) ?_
 clear hx hl hfz xs
 simp only[Tryz.f88]
 obtain⟨s,lo,hi⟩:=a
 cases s
 ·simp only[↓eB,seval,go_sem]
  repeat' first|exact ck|with_reducible apply And.intro|intro _
  all_goals first|exact trivial|(refine A0 [] ?_;simp only[↓eB,seval,go_sem,bne,Ey])
 ·simp only[↓eB,seval,go_sem]
  repeat' first|exact ck|with_reducible apply And.intro|intro _
  all_goals first|exact trivial|(refine A0 [] ?_;simp only[↓eB,seval,go_sem,bne,Ey])
theorem cK:∀p:(Iv×Unit),((fun p:(Iv×Unit)=>I0 p.1) p).names=[]:=by intro p;first|rfl|simp[SV.names,C.names]
noncomputable def Ei {X:Ctx} {w0:World}:Sy.Spec Tryz.prog X w0:=Am 88 Tryz.call88 (acS (cIv) ac0) (fun p:(Iv×Unit)=>T7 p.1) (fun p:(Iv×Unit)=>I0 p.1) cK gX
theorem xj:cIv.d (.agg [.v (.bool true),.v (.int .i64 (-9223372036854775808)),.v (.int .i64 9223372036854775807)])=some D5:=WG _ _ _
abbrev T8:Prop:=True
abbrev GD:SV:=.agg OK.c
theorem gY:AP Tryz.prog 131 ac0 (fun p:Unit=>T8 ) (fun p:Unit=>GD ):=by
 rintro _u w fz xs hc hfz hl hx
 refine A9 Tryz.func131 rfl w fz [] [] ac0 (fun p:Unit=>GD ) _ xs hfz hl hx (jN rfl) ?_
 clear hx hl hfz xs
 simp only[Tryz.f131]
 simp only[↓eB,seval,go_sem]
 repeat' first|exact ck|with_reducible apply And.intro|intro _
 all_goals first|exact trivial|(refine A0 [] ?_;simp only[↓eB,seval,go_sem,bne,GD,OK])
theorem cL:∀p:Unit,((fun p:Unit=>GD ) p).names=[]:=by intro p;first|rfl|simp[SV.names,C.names]
noncomputable def T9 {X:Ctx} {w0:World}:Sy.Spec Tryz.prog X w0:=Am 131 Tryz.call131 ac0 (fun p:Unit=>T8 ) (fun p:Unit=>GD ) cL gY
abbrev a8 (lo:Int) (hi:Int):Prop:=True
abbrev JC (lo:Int) (hi:Int):SV:=.agg (cJ lo hi).c
attribute[local go_sem] OK T9 GD in
theorem xm:AP Tryz.prog 112 (acS (cInt .i64) (acS (cInt .i64) ac0)) (fun p:(Int×(Int×Unit))=>a8 p.1 p.2.1) (fun p:(Int×(Int×Unit))=>JC p.1 p.2.1):=by
 rintro ⟨lo,hi,_u⟩ w fz xs hc hfz hl hx
 refine A9 Tryz.func112 rfl w fz [T9] [] (acS (cInt .i64) (acS (cInt .i64) ac0)) (fun p:(Int×(Int×Unit))=>JC p.1 p.2.1) _ xs hfz hl hx (jN rfl) ?_
 clear hx hl hfz xs
 simp only[Tryz.f112]
 cases h:decide (hi<lo) with
 |true=>
  simp only[↓eB,seval,go_sem,h]
  repeat' first|exact ck|with_reducible apply And.intro|intro _
  all_goals first|exact trivial|(refine A0 [] ?_;simp only[↓eB,seval,go_sem,bne,JC,cJ,h])
 |false=>
  simp only[↓eB,seval,go_sem,h]
  repeat' first|exact ck|with_reducible apply And.intro|intro _
  all_goals first|exact trivial|(refine A0 [] ?_;simp only[↓eB,seval,go_sem,bne,JC,cJ,h])
theorem rK:∀p:(Int×(Int×Unit)),((fun p:(Int×(Int×Unit))=>JC p.1 p.2.1) p).names=[]:=by intro p;first|rfl|simp[SV.names,C.names]
noncomputable def aA {X:Ctx} {w0:World}:Sy.Spec Tryz.prog X w0:=Am 112 Tryz.call112 (acS (cInt .i64) (acS (cInt .i64) ac0)) (fun p:(Int×(Int×Unit))=>a8 p.1 p.2.1) (fun p:(Int×(Int×Unit))=>JC p.1 p.2.1) rK xm
theorem xo:cJ (-9223372036854775808) 9223372036854775807=D5:=rfl
abbrev Xe:Prop:=True
abbrev JD:SV:=.agg D5.c
theorem rL:AP Tryz.prog 90 ac0 (fun p:Unit=>Xe ) (fun p:Unit=>JD ):=by
 rintro _u w fz xs hc hfz hl hx
 refine A9 Tryz.func90 rfl w fz [aA] [] ac0 (fun p:Unit=>JD ) _ xs hfz hl hx (jN rfl) ?_
 clear hx hl hfz xs
 simp only[Tryz.f90]
 simp only[↓eB,seval,go_sem,aA,JC,xo,D5]
 repeat' first|exact ck|with_reducible apply And.intro|intro _
 all_goals first|exact trivial|(refine A0 [] ?_;simp only[↓eB,seval,go_sem,bne,JD,D5])
theorem ke:∀p:Unit,((fun p:Unit=>JD ) p).names=[]:=by intro p;first|rfl|simp[SV.names,C.names]
noncomputable def Xf {X:Ctx} {w0:World}:Sy.Spec Tryz.prog X w0:=Am 90 Tryz.call90 ac0 (fun p:Unit=>Xe ) (fun p:Unit=>JD ) ke rL
abbrev Xg (a:Iv) (b:Iv):Prop:=True
abbrev Ej (a:Iv) (b:Iv):SV:=SV.one (.v (.bool (OL a b)))
theorem rM:AP Tryz.prog 89 (acS (cIv) (acS (cIv) ac0)) (fun p:(Iv×(Iv×Unit))=>Xg p.1 p.2.1) (fun p:(Iv×(Iv×Unit))=>Ej p.1 p.2.1):=by
 rintro ⟨a,b,_u⟩ w fz xs hc hfz hl hx
 refine A9 Tryz.func89 rfl w fz [Ei] [] (acS (cIv) (acS (cIv) ac0)) (fun p:(Iv×(Iv×Unit))=>Ej p.1 p.2.1) _ xs hfz hl hx (jN rfl) ?_
 clear hx hl hfz xs
 simp only[Tryz.f89]
 cases e1:Ey a with
 |true=>
  obtain⟨s,lo,hi⟩:=a
  obtain⟨s',lo',hi'⟩:=b
  simp only[↓eB,seval,go_sem,Ei,e1]
  repeat' first|exact ck|with_reducible apply And.intro|intro _
  all_goals first|exact trivial|(refine A0 [] ?_;simp only[↓eB,seval,go_sem,bne,Ej,OL,e1])
 |false=>
  cases e2:Ey b with
  |true=>
   obtain⟨s,lo,hi⟩:=a
   obtain⟨s',lo',hi'⟩:=b
   simp only[↓eB,seval,go_sem,Ei,e1,e2]
   repeat' first|exact ck|with_reducible apply And.intro|intro _
   all_goals first|exact trivial|(refine A0 [] ?_;simp only[↓eB,seval,go_sem,bne,Ej,OL,e1,e2])
  |false=>
   obtain⟨s,lo,hi⟩:=a
   obtain⟨s',lo',hi'⟩:=b
   cases e3:decide (lo'≤lo) with
   |true=>
    simp only[↓eB,seval,go_sem,Ei,e1,e2,e3]
    repeat' first|exact ck|with_reducible apply And.intro|intro _
    all_goals first|exact trivial|(refine A0 [] ?_;simp only[↓eB,seval,go_sem,bne,Ej,OL,e1,e2,e3])
   |false=>
    simp only[↓eB,seval,go_sem,Ei,e1,e2,e3]
    repeat' first|exact ck|with_reducible apply And.intro|intro _
    all_goals first|exact trivial|(refine A0 [] ?_;simp only[↓eB,seval,go_sem,bne,Ej,OL,e1,e2,e3])
theorem kf:∀p:(Iv×(Iv×Unit)),((fun p:(Iv×(Iv×Unit))=>Ej p.1 p.2.1) p).names=[]:=by intro p;first|rfl|simp[SV.names,C.names]
noncomputable def Xh {X:Ctx} {w0:World}:Sy.Spec Tryz.prog X w0:=Am 89 Tryz.call89 (acS (cIv) (acS (cIv) ac0)) (fun p:(Iv×(Iv×Unit))=>Xg p.1 p.2.1) (fun p:(Iv×(Iv×Unit))=>Ej p.1 p.2.1) kf rM
def txI (a:Iv):List UInt8:=if Ey a=true then [110,111,110,101] else if OL D5 a=true then [97,108,108] else ((([91]++itT a.lo)++[44])++itT a.hi)++[93]
abbrev VJ (a:Iv):Prop:=wIv a
abbrev EZ (a:Iv):SV:=SV.one (.v (.string (bs (txI a))))
attribute[local go_sem] xi xj Xh Xf Ei Ej JD in
theorem kg:Cn Tryz.prog 57 AY (acS (cIv) ac0) (fun p:(Iv×Unit)=>VJ p.1) (fun p:(Iv×Unit)=>EZ p.1):=by
 rintro ⟨a,_u⟩ w fz xs hT hc hfz hl hx
 have hG:=Cj Br DA (fz:=fz) hT
 refine A9 Tryz.func57 rfl w fz [Ei,Xf,Xh,(Hr hG)] [] (acS (cIv) ac0) (fun p:(Iv×Unit)=>EZ p.1) _ xs hfz hl hx (jN rfl) ?_
 clear hx hl hfz xs
 simp only[Tryz.f57]
 obtain⟨hw1,hw2⟩:=hc
 have l1:=G9 hw1
 have l2:=G9 hw2
 dsimp only at hw1 hw2 l1 l2
 cases e1:Ey a with
 |true=>
  obtain⟨s,lo,hi⟩:=a
  simp only[↓eB,seval,go_sem,e1]
  repeat' first|exact ck|with_reducible apply And.intro|intro _
  all_goals first|exact trivial|(refine A0 [] ?_;simp only[↓eB,seval,go_sem,bne,EZ,txI,e1])
 |false=>
  cases e2:OL D5 a with
  |true=>
   obtain⟨s,lo,hi⟩:=a
   simp only[↓eB,seval,go_sem,e1,e2]
   repeat' first|exact ck|with_reducible apply And.intro|intro _
   all_goals first|exact trivial|(refine A0 [] ?_;simp only[↓eB,seval,go_sem,bne,EZ,txI,e1,e2])
  |false=>
   obtain⟨s,lo,hi⟩:=a
   dsimp only at hw1 hw2 l1 l2
   simp only[↓eB,seval,go_sem,Hr,Hq,e1,e2]
   repeat' first|exact ck|with_reducible apply And.intro|intro _
   all_goals first|exact hw1|exact hw2|(simp only[jL3];omega)|decide|omega|(refine A0 [] ?_;simp only[↓eB,seval,go_sem,bne,EZ,txI,e1,e2])
theorem gZ:∀p:(Iv×Unit),((fun p:(Iv×Unit)=>EZ p.1) p).names=[]:=by intro p;first|rfl|simp[SV.names,C.names]
noncomputable def Pb {X:Ctx} {w0:World} (hG:BB X w0 AY CX):Sy.Spec Tryz.prog X w0:=FK 57 Tryz.call57 AY (acS (cIv) ac0) (fun p:(Iv×Unit)=>VJ p.1) (fun p:(Iv×Unit)=>EZ p.1) gZ kg hG.stays
def nrm (a:Iv):Iv:=if (!a.s||decide (a.hi<a.lo))=true then OK else a
def eqI (a b:Iv):Bool:=a.s==b.s&&(a.lo==b.lo&&a.hi==b.hi)
abbrev Xi (a:Iv):Prop:=True
abbrev Ek (a:Iv):SV:=.agg (nrm a).c
theorem rN:AP Tryz.prog 92 (acS (cIv) ac0) (fun p:(Iv×Unit)=>Xi p.1) (fun p:(Iv×Unit)=>Ek p.1):=by
 rintro ⟨a,_u⟩ w fz xs hc hfz hl hx
 refine A9 Tryz.func92 rfl w fz [] [] (acS (cIv) ac0) (fun p:(Iv×Unit)=>Ek p.1) _ xs hfz hl hx (jN rfl) ?_
 clear hx hl hfz xs
 simp only[Tryz.f92]
 obtain⟨s,lo,hi⟩:=a
 cases s with
 |false=>
  simp only[↓eB,seval,go_sem]
  repeat' first|exact ck|with_reducible apply And.intro|intro _
  all_goals first|exact trivial|(refine A0 [] ?_;simp only[↓eB,seval,go_sem,bne,Ek,nrm,OK])
 |true=>
  cases h:decide (hi<lo) with
  |true=>
   simp only[↓eB,seval,go_sem,h]
   repeat' first|exact ck|with_reducible apply And.intro|intro _
   all_goals first|exact trivial|(refine A0 [] ?_;simp only[↓eB,seval,go_sem,bne,Ek,nrm,OK,h])
  |false=>
   simp only[↓eB,seval,go_sem,h]
   repeat' first|exact ck|with_reducible apply And.intro|intro _
   all_goals first|exact trivial|(refine A0 [] ?_;simp only[↓eB,seval,go_sem,bne,Ek,nrm,OK,h])
theorem kh:∀p:(Iv×Unit),((fun p:(Iv×Unit)=>Ek p.1) p).names=[]:=by intro p;first|rfl|simp[SV.names,C.names]
noncomputable def OM {X:Ctx} {w0:World}:Sy.Spec Tryz.prog X w0:=Am 92 Tryz.call92 (acS (cIv) ac0) (fun p:(Iv×Unit)=>Xi p.1) (fun p:(Iv×Unit)=>Ek p.1) kh rN
abbrev aB (lo:Int) (hi:Int):Prop:=True
abbrev L5 (lo:Int) (hi:Int):SV:=.agg (nrm ⟨true,lo,hi⟩).c
set_option maxRecDepth 20000 in
theorem xp:AP Tryz.prog 114 (acS (cInt .i64) (acS (cInt .i64) ac0)) (fun p:(Int×(Int×Unit))=>aB p.1 p.2.1) (fun p:(Int×(Int×Unit))=>L5 p.1 p.2.1):=by
 rintro ⟨lo,hi,_u⟩ w fz xs hc hfz hl hx
 refine A9 Tryz.func114 rfl w fz [OM] [] (acS (cInt .i64) (acS (cInt .i64) ac0)) (fun p:(Int×(Int×Unit))=>L5 p.1 p.2.1) _ xs hfz hl hx (jN rfl) ?_
 clear hx hl hfz xs
 simp only[Tryz.f114]
 obtain⟨x,hx⟩:∃x,nrm ⟨true,lo,hi⟩=x:=⟨_,rfl⟩
 obtain⟨s,l,h⟩:=x
 simp only[↓eB,seval,go_sem,OM,Ek,hx]
 repeat' first|exact ck|with_reducible apply And.intro|intro _
 all_goals first|exact trivial|(refine A0 [] ?_;simp only[↓eB,seval,go_sem,bne,L5,hx])
theorem rO:∀p:(Int×(Int×Unit)),((fun p:(Int×(Int×Unit))=>L5 p.1 p.2.1) p).names=[]:=by intro p;first|rfl|simp[SV.names,C.names]
noncomputable def aC {X:Ctx} {w0:World}:Sy.Spec Tryz.prog X w0:=Am 114 Tryz.call114 (acS (cInt .i64) (acS (cInt .i64) ac0)) (fun p:(Int×(Int×Unit))=>aB p.1 p.2.1) (fun p:(Int×(Int×Unit))=>L5 p.1 p.2.1) rO xp
abbrev Xj:Prop:=True
abbrev JE:SV:=.agg D5.c
theorem rP:AP Tryz.prog 93 ac0 (fun p:Unit=>Xj ) (fun p:Unit=>JE ):=by
 rintro _u w fz xs hc hfz hl hx
 refine A9 Tryz.func93 rfl w fz [aC] [] ac0 (fun p:Unit=>JE ) _ xs hfz hl hx (jN rfl) ?_
 clear hx hl hfz xs
 simp only[Tryz.f93]
 have hx:nrm ⟨true,-9223372036854775808,9223372036854775807⟩=D5:=rfl
 simp only[↓eB,seval,go_sem,aC,L5,hx,D5]
 repeat' first|exact ck|with_reducible apply And.intro|intro _
 all_goals first|exact trivial|(refine A0 [] ?_;simp only[↓eB,seval,go_sem,bne,JE,D5])
theorem ki:∀p:Unit,((fun p:Unit=>JE ) p).names=[]:=by intro p;first|rfl|simp[SV.names,C.names]
noncomputable def Xk {X:Ctx} {w0:World}:Sy.Spec Tryz.prog X w0:=Am 93 Tryz.call93 ac0 (fun p:Unit=>Xj ) (fun p:Unit=>JE ) ki rP
def rtI (a:Iv):List UInt8:=if (nrm a).s=false then [110,111,110,101] else if eqI (nrm a) D5=true then [97,108,108] else ((([91]++itT (nrm a).lo)++[44])++itT (nrm a).hi)++[93]
theorem A38 {a:Iv} (h:wIv a):wIv (nrm a):=by
 unfold nrm
 split
 ·exact⟨⟨by decide,by decide⟩,by decide,by decide⟩
 ·exact h
abbrev TA (a:Iv):Prop:=wIv a
abbrev Dw (a:Iv):SV:=SV.one (.v (.string (bs (rtI a))))
attribute[local go_sem] D5 OM Xk Ek JE in
theorem ga:AP Tryz.prog 59 (acS (cIv) ac0) (fun p:(Iv×Unit)=>TA p.1) (fun p:(Iv×Unit)=>Dw p.1):=by
 rintro ⟨a,_u⟩ w fz xs hc hfz hl hx
 refine A9 Tryz.func59 rfl w fz [OM,Xk,OH] [] (acS (cIv) ac0) (fun p:(Iv×Unit)=>Dw p.1) _ xs hfz hl hx (jN rfl) ?_
 clear hx hl hfz xs
 simp only[Tryz.f59]
 have hn:wIv (nrm a):=A38 hc
 obtain⟨hw1,hw2⟩:=hn
 have l1:=G9 hw1
 have l2:=G9 hw2
 obtain⟨x,hx⟩:∃x,nrm a=x:=⟨_,rfl⟩
 rw[hx]at hw1 hw2 l1 l2
 obtain⟨xs,xl,xh⟩:=x
 dsimp only at hw1 hw2 l1 l2
 obtain⟨s,lo,hi⟩:=a
 have hr:rtI ⟨s,lo,hi⟩=if xs=false then [110,111,110,101] else if eqI ⟨xs,xl,xh⟩ D5=true then [97,108,108] else ((([91]++itT xl)++[44])++itT xh)++[93]:=by unfold rtI;rw[hx]
 cases xs with
 |false=>
  simp only[↓eB,seval,go_sem,hx]
  repeat' first|exact ck|with_reducible apply And.intro|intro _
  all_goals first|exact trivial|(refine A0 [] ?_;simp only[↓eB,seval,go_sem,bne,Dw,hr])
 |true=>
  cases e2:(xl==(-9223372036854775808:Int)&&xh==9223372036854775807) with
  |true=>
   have e3:eqI ⟨true,xl,xh⟩ D5=true:=by unfold eqI D5;exact e2
   rw[if_neg (by decide),if_pos e3]at hr
   simp only[↓eB,seval,go_sem,hx,e2]
   repeat' first|exact ck|with_reducible apply And.intro|intro _
   all_goals first|exact trivial|(rename_i h;first|exact oI h|exact nah h)|(rename_i _ h _ g;exact sL h g)|decide|omega|(refine A0 [] ?_;simp only[↓eB,seval,go_sem,bne,Dw,hr])
  |false=>
   have e3:eqI ⟨true,xl,xh⟩ D5=false:=by unfold eqI D5;exact e2
   rw[if_neg (by decide),if_neg (by rw[e3];decide)]at hr
   simp only[↓eB,seval,go_sem,hx,e2,OH,Ss]
   repeat' first|exact ck|with_reducible apply And.intro|intro _
   all_goals first|exact hw1|exact hw2|(simp only[jL3];omega)|decide|omega|(refine A0 [] ?_;simp only[↓eB,seval,go_sem,bne,Dw,hr])
theorem cM:∀p:(Iv×Unit),((fun p:(Iv×Unit)=>Dw p.1) p).names=[]:=by intro p;first|rfl|simp[SV.names,C.names]
noncomputable def ON {X:Ctx} {w0:World}:Sy.Spec Tryz.prog X w0:=Am 59 Tryz.call59 (acS (cIv) ac0) (fun p:(Iv×Unit)=>TA p.1) (fun p:(Iv×Unit)=>Dw p.1) cM ga
theorem A39 {a:Iv} (h:wIv a):rtI a=txI a:=by
 obtain⟨s,lo,hi⟩:=a
 obtain⟨⟨h1,h2⟩,h3,h4⟩:=h
 dsimp only at h1 h2 h3 h4
 unfold rtI txI nrm Ey
 dsimp only
 cases he:(!s||decide (hi<lo)) with
 |true=>rw[if_pos rfl,if_pos (show OK.s=false from rfl),if_pos rfl]
 |false=>
  simp only[jB,if_false]
  have hs:s=true:=by cases s;simp at he;rfl
  subst hs
  rw[if_neg (show ¬(true=false) by decide)]
  have hq:eqI ⟨true,lo,hi⟩ D5=OL D5 ⟨true,lo,hi⟩:=by
   have e1:Ey D5=false:=rfl
   have e2:Ey ⟨true,lo,hi⟩=false:=he
   unfold eqI OL
   rw[e1,e2,if_neg (by decide)]
   have a1:(lo == -9223372036854775808)=decide (lo ≤ -9223372036854775808):=by rw[Bool.eq_iff_iff,beq_iff_eq,decide_eq_true_eq];omega
   have a2:(hi==9223372036854775807)=decide (9223372036854775807≤hi):=by rw[Bool.eq_iff_iff,beq_iff_eq,decide_eq_true_eq];omega
   show (true==true&&(lo == -9223372036854775808&&hi==9223372036854775807))=(!false&&decide (lo ≤ -9223372036854775808)&&decide (9223372036854775807≤hi))
   rw[a1,a2];rfl
  rw[hq]
end Go.Proofs.YtbiepiggmagfcaaGreatDoor
