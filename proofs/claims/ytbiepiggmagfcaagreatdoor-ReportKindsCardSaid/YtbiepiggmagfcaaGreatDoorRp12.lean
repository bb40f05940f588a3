/- Intervals and summaries as text. Conditions: the numbers are of 64 bits, names are short; the table of powers of ten is laid. -/
import Derived.Test.YtbiepiggmagfcaaGreatDoorPs6
set_option linter.unusedVariables false
set_option linter.unusedSimpArgs false
namespace Go.Proofs.YtbiepiggmagfcaaGreatDoor
open Go Go.Sy Go.Shelf Go.RowKit
structure Iv where
 s:Bool
 lo:Int
 hi:Int
def Iv.c (x:Iv):List C:=[.v (.bool x.s),.v (.int .i64 x.lo),.v (.int .i64 x.hi)]
theorem iv_uq (v:SV) (a b:Iv) (h:leV v (.agg a.c)) (h':leV v (.agg b.c)):a=b:=by
 obtain⟨s,x,y⟩:=a;obtain⟨s',x',y'⟩:=b
 cases v with
 |one c=>exact h.elim
 |tup l=>exact h.elim
 |agg l=>
  match l,h,h' with
  |[p,q,r],⟨h1,h2,h3,_⟩,⟨g1,g2,g3,_⟩=>
   have k1:=leC_v h1 g1
   have k2:=leC_v h2 g2
   have k3:=leC_v h3 g3
   simp only[Value.bool.injEq,Value.int.injEq,true_and]at k1 k2 k3
   rw[k1,k2,k3]
noncomputable def cIv:Cod Iv:=codOf (fun x=>.agg x.c) iv_uq (fun x=>rfl)
theorem cIv_e (x:Iv):cIv.e x= .agg x.c:=rfl
theorem cIv_d (s:Bool) (lo hi:Int):cIv.d (.agg [.v (.bool s),.v (.int .i64 lo),.v (.int .i64 hi)])=some ⟨s,lo,hi⟩:=codOf_le (e:=fun x:Iv=>.agg x.c) (a:=⟨s,lo,hi⟩) (leV_refl _)
theorem iv_eta (a:Iv):(⟨a.s,a.lo,a.hi⟩:Iv)=a:=rfl
theorem topI_c:Iv.c ⟨true,-9223372036854775808,9223372036854775807⟩=[.v (.bool true),.v (.int .i64 (-9223372036854775808)),.v (.int .i64 9223372036854775807)]:=rfl
def noIv:Iv:=⟨false,0,0⟩
def topIv:Iv:=⟨true,-9223372036854775808,9223372036854775807⟩
def emptyB (a:Iv):Bool:=!a.s||decide (a.hi<a.lo)
def ofIv (lo hi:Int):Iv:=if decide (hi<lo)=true then noIv else ⟨true,lo,hi⟩
def leqB (a b:Iv):Bool:=if emptyB a=true then true else !emptyB b&&decide (b.lo≤a.lo)&&decide (a.hi≤b.hi)
abbrev wIv (a:Iv):Prop:=w64 a.lo∧w64 a.hi
abbrev yc_ivempty (a:Iv):Prop:=True
abbrev yr_ivempty (a:Iv):SV:=SV.one (.v (.bool (emptyB a)))
attribute [local go_sem] Iv.c cIv_d cIv_e iv_eta
theorem y_ivempty:CallsY Tryz.prog 88 (acS (cIv) ac0) (fun p:(Iv×Unit)=>yc_ivempty p.1) (fun p:(Iv×Unit)=>yr_ivempty p.1):=by
 rintro ⟨a,_u⟩ w fz xs hc hfz hl hx
 refine calls_toL Tryz.func88 rfl w fz [] [] (acS (cIv) ac0) (fun p:(Iv×Unit)=>yr_ivempty p.1) _ xs hfz hl hx (Nat.le_of_ble_eq_true rfl) ?_
 clear hx hl hfz xs
 simp only[Tryz.f88]
 obtain⟨s,lo,hi⟩:=a
 cases s
 ·simp only[↓eB,seval,go_sem]
  try simp only[impB,impN]
  repeat' first|exact ck|with_reducible apply And.intro|intro _
  all_goals first|exact trivial|(rename_i h;first|exact oI h|exact nah h)|(rename_i _ h _ g;exact sL h g)|decide|omega|(refine ret_with [] ?_;simp only[↓eB,seval,go_sem,bne,yr_ivempty,emptyB])
 ·simp only[↓eB,seval,go_sem]
  try simp only[impB,impN]
  repeat' first|exact ck|with_reducible apply And.intro|intro _
  all_goals first|exact trivial|(rename_i h;first|exact oI h|exact nah h)|(rename_i _ h _ g;exact sL h g)|decide|omega|(refine ret_with [] ?_;simp only[↓eB,seval,go_sem,bne,yr_ivempty,emptyB])
theorem yn_ivempty:∀p:(Iv×Unit),((fun p:(Iv×Unit)=>yr_ivempty p.1) p).names=[]:=by intro p;first|rfl|simp[SV.names,C.names]
noncomputable def yp_ivempty {X:Ctx} {w0:World}:Sy.Spec Tryz.prog X w0:=specD 88 Tryz.call88 (acS (cIv) ac0) (fun p:(Iv×Unit)=>yc_ivempty p.1) (fun p:(Iv×Unit)=>yr_ivempty p.1) yn_ivempty y_ivempty
theorem topI_d:cIv.d (.agg [.v (.bool true),.v (.int .i64 (-9223372036854775808)),.v (.int .i64 9223372036854775807)])=some topIv:=cIv_d _ _ _
abbrev yc_ivEmpty:Prop:=True
abbrev yr_ivEmpty:SV:=.agg noIv.c
theorem y_ivEmpty:CallsY Tryz.prog 131 ac0 (fun p:Unit=>yc_ivEmpty ) (fun p:Unit=>yr_ivEmpty ):=by
 rintro _u w fz xs hc hfz hl hx
 refine calls_toL Tryz.func131 rfl w fz [] [] ac0 (fun p:Unit=>yr_ivEmpty ) _ xs hfz hl hx (Nat.le_of_ble_eq_true rfl) ?_
 clear hx hl hfz xs
 simp only[Tryz.f131]
 simp only[↓eB,seval,go_sem]
 try simp only[impB,impN]
 repeat' first|exact ck|with_reducible apply And.intro|intro _
 all_goals first|exact trivial|(rename_i h;first|exact oI h|exact nah h)|(rename_i _ h _ g;exact sL h g)|decide|omega|(refine ret_with [] ?_;simp only[↓eB,seval,go_sem,bne,yr_ivEmpty,noIv])
theorem yn_ivEmpty:∀p:Unit,((fun p:Unit=>yr_ivEmpty ) p).names=[]:=by intro p;first|rfl|simp[SV.names,C.names]
noncomputable def yp_ivEmpty {X:Ctx} {w0:World}:Sy.Spec Tryz.prog X w0:=specD 131 Tryz.call131 ac0 (fun p:Unit=>yc_ivEmpty ) (fun p:Unit=>yr_ivEmpty ) yn_ivEmpty y_ivEmpty
abbrev yc_ivOf (lo:Int) (hi:Int):Prop:=True
abbrev yr_ivOf (lo:Int) (hi:Int):SV:=.agg (ofIv lo hi).c
theorem y_ivOf:CallsY Tryz.prog 112 (acS (cInt .i64) (acS (cInt .i64) ac0)) (fun p:(Int×(Int×Unit))=>yc_ivOf p.1 p.2.1) (fun p:(Int×(Int×Unit))=>yr_ivOf p.1 p.2.1):=by
 rintro ⟨lo,hi,_u⟩ w fz xs hc hfz hl hx
 refine calls_toL Tryz.func112 rfl w fz [yp_ivEmpty] [] (acS (cInt .i64) (acS (cInt .i64) ac0)) (fun p:(Int×(Int×Unit))=>yr_ivOf p.1 p.2.1) _ xs hfz hl hx (Nat.le_of_ble_eq_true rfl) ?_
 clear hx hl hfz xs
 simp only[Tryz.f112]
 cases h:decide (hi<lo) with
 |true=>
  simp only[↓eB,seval,go_sem,yp_ivEmpty,yr_ivEmpty,noIv,h]
  try simp only[impB,impN]
  repeat' first|exact ck|with_reducible apply And.intro|intro _
  all_goals first|exact trivial|(rename_i h;first|exact oI h|exact nah h)|(rename_i _ h _ g;exact sL h g)|decide|omega|(refine ret_with [] ?_;simp only[↓eB,seval,go_sem,bne,yr_ivOf,ofIv,h,noIv])
 |false=>
  simp only[↓eB,seval,go_sem,yp_ivEmpty,yr_ivEmpty,noIv,h]
  try simp only[impB,impN]
  repeat' first|exact ck|with_reducible apply And.intro|intro _
  all_goals first|exact trivial|(rename_i h;first|exact oI h|exact nah h)|(rename_i _ h _ g;exact sL h g)|decide|omega|(refine ret_with [] ?_;simp only[↓eB,seval,go_sem,bne,yr_ivOf,ofIv,h,noIv])
theorem yn_ivOf:∀p:(Int×(Int×Unit)),((fun p:(Int×(Int×Unit))=>yr_ivOf p.1 p.2.1) p).names=[]:=by intro p;first|rfl|simp[SV.names,C.names]
noncomputable def yp_ivOf {X:Ctx} {w0:World}:Sy.Spec Tryz.prog X w0:=specD 112 Tryz.call112 (acS (cInt .i64) (acS (cInt .i64) ac0)) (fun p:(Int×(Int×Unit))=>yc_ivOf p.1 p.2.1) (fun p:(Int×(Int×Unit))=>yr_ivOf p.1 p.2.1) yn_ivOf y_ivOf
theorem of_top:ofIv (-9223372036854775808) 9223372036854775807=topIv:=rfl
abbrev yc_ivTop:Prop:=True
abbrev yr_ivTop:SV:=.agg topIv.c
theorem y_ivTop:CallsY Tryz.prog 90 ac0 (fun p:Unit=>yc_ivTop ) (fun p:Unit=>yr_ivTop ):=by
 rintro _u w fz xs hc hfz hl hx
 refine calls_toL Tryz.func90 rfl w fz [yp_ivOf] [] ac0 (fun p:Unit=>yr_ivTop ) _ xs hfz hl hx (Nat.le_of_ble_eq_true rfl) ?_
 clear hx hl hfz xs
 simp only[Tryz.f90]
 simp only[↓eB,seval,go_sem,yp_ivOf,yr_ivOf,of_top,topIv]
 try simp only[impB,impN]
 repeat' first|exact ck|with_reducible apply And.intro|intro _
 all_goals first|exact trivial|(rename_i h;first|exact oI h|exact nah h)|(rename_i _ h _ g;exact sL h g)|decide|omega|(refine ret_with [] ?_;simp only[↓eB,seval,go_sem,bne,yr_ivTop,topIv])
theorem yn_ivTop:∀p:Unit,((fun p:Unit=>yr_ivTop ) p).names=[]:=by intro p;first|rfl|simp[SV.names,C.names]
noncomputable def yp_ivTop {X:Ctx} {w0:World}:Sy.Spec Tryz.prog X w0:=specD 90 Tryz.call90 ac0 (fun p:Unit=>yc_ivTop ) (fun p:Unit=>yr_ivTop ) yn_ivTop y_ivTop
abbrev yc_ivLeq (a:Iv) (b:Iv):Prop:=True
abbrev yr_ivLeq (a:Iv) (b:Iv):SV:=SV.one (.v (.bool (leqB a b)))
theorem y_ivLeq:CallsY Tryz.prog 89 (acS (cIv) (acS (cIv) ac0)) (fun p:(Iv×(Iv×Unit))=>yc_ivLeq p.1 p.2.1) (fun p:(Iv×(Iv×Unit))=>yr_ivLeq p.1 p.2.1):=by
 rintro ⟨a,b,_u⟩ w fz xs hc hfz hl hx
 refine calls_toL Tryz.func89 rfl w fz [yp_ivempty] [] (acS (cIv) (acS (cIv) ac0)) (fun p:(Iv×(Iv×Unit))=>yr_ivLeq p.1 p.2.1) _ xs hfz hl hx (Nat.le_of_ble_eq_true rfl) ?_
 clear hx hl hfz xs
 simp only[Tryz.f89]
 cases e1:emptyB a with
 |true=>
  obtain⟨s,lo,hi⟩:=a
  obtain⟨s',lo',hi'⟩:=b
  simp only[↓eB,seval,go_sem,yp_ivempty,yr_ivempty,e1]
  try simp only[impB,impN]
  repeat' first|exact ck|with_reducible apply And.intro|intro _
  all_goals first|exact trivial|(rename_i h;first|exact oI h|exact nah h)|(rename_i _ h _ g;exact sL h g)|decide|omega|(refine ret_with [] ?_;simp only[↓eB,seval,go_sem,bne,yr_ivLeq,leqB,e1])
 |false=>
  cases e2:emptyB b with
  |true=>
   obtain⟨s,lo,hi⟩:=a
   obtain⟨s',lo',hi'⟩:=b
   simp only[↓eB,seval,go_sem,yp_ivempty,yr_ivempty,e1,e2]
   try simp only[impB,impN]
   repeat' first|exact ck|with_reducible apply And.intro|intro _
   all_goals first|exact trivial|(rename_i h;first|exact oI h|exact nah h)|(rename_i _ h _ g;exact sL h g)|decide|omega|(refine ret_with [] ?_;simp only[↓eB,seval,go_sem,bne,yr_ivLeq,leqB,e1,e2])
  |false=>
   obtain⟨s,lo,hi⟩:=a
   obtain⟨s',lo',hi'⟩:=b
   cases e3:decide (lo'≤lo) with
   |true=>
    simp only[↓eB,seval,go_sem,yp_ivempty,yr_ivempty,e1,e2,e3]
    try simp only[impB,impN]
    repeat' first|exact ck|with_reducible apply And.intro|intro _
    all_goals first|exact trivial|(rename_i h;first|exact oI h|exact nah h)|(rename_i _ h _ g;exact sL h g)|decide|omega|(refine ret_with [] ?_;simp only[↓eB,seval,go_sem,bne,yr_ivLeq,leqB,e1,e2,e3])
   |false=>
    simp only[↓eB,seval,go_sem,yp_ivempty,yr_ivempty,e1,e2,e3]
    try simp only[impB,impN]
    repeat' first|exact ck|with_reducible apply And.intro|intro _
    all_goals first|exact trivial|(rename_i h;first|exact oI h|exact nah h)|(rename_i _ h _ g;exact sL h g)|decide|omega|(refine ret_with [] ?_;simp only[↓eB,seval,go_sem,bne,yr_ivLeq,leqB,e1,e2,e3])
theorem yn_ivLeq:∀p:(Iv×(Iv×Unit)),((fun p:(Iv×(Iv×Unit))=>yr_ivLeq p.1 p.2.1) p).names=[]:=by intro p;first|rfl|simp[SV.names,C.names]
noncomputable def yp_ivLeq {X:Ctx} {w0:World}:Sy.Spec Tryz.prog X w0:=specD 89 Tryz.call89 (acS (cIv) (acS (cIv) ac0)) (fun p:(Iv×(Iv×Unit))=>yc_ivLeq p.1 p.2.1) (fun p:(Iv×(Iv×Unit))=>yr_ivLeq p.1 p.2.1) yn_ivLeq y_ivLeq
def txI (a:Iv):List UInt8:=if emptyB a=true then [110,111,110,101] else if leqB topIv a=true then [97,108,108] else ((([91]++itT a.lo)++[44])++itT a.hi)++[93]
abbrev yc_ivText (a:Iv):Prop:=wIv a
abbrev yr_ivText (a:Iv):SV:=SV.one (.v (.string (bs (txI a))))
theorem y_ivText:CallsG Tryz.prog 57 powT (acS (cIv) ac0) (fun p:(Iv×Unit)=>yc_ivText p.1) (fun p:(Iv×Unit)=>yr_ivText p.1):=by
 rintro ⟨a,_u⟩ w fz xs hT hc hfz hl hx
 have hG:=staysN_clX powT_keptB powT_size (fz:=fz) hT
 refine calls_toL Tryz.func57 rfl w fz [yp_ivempty,yp_ivTop,yp_ivLeq,(yp_FormatInt hG)] [] (acS (cIv) ac0) (fun p:(Iv×Unit)=>yr_ivText p.1) _ xs hfz hl hx (Nat.le_of_ble_eq_true rfl) ?_
 clear hx hl hfz xs
 simp only[Tryz.f57]
 obtain⟨hw1,hw2⟩:=hc
 have l1:=itT_len hw1
 have l2:=itT_len hw2
 dsimp only at hw1 hw2 l1 l2
 cases e1:emptyB a with
 |true=>
  obtain⟨s,lo,hi⟩:=a
  simp only[↓eB,seval,go_sem,yp_ivempty,yr_ivempty,e1]
  try simp only[impB,impN]
  repeat' first|exact ck|with_reducible apply And.intro|intro _
  all_goals first|exact trivial|(rename_i h;first|exact oI h|exact nah h)|(rename_i _ h _ g;exact sL h g)|decide|omega|(refine ret_with [] ?_;simp only[↓eB,seval,go_sem,bne,yr_ivText,txI,e1])
 |false=>
  cases e2:leqB topIv a with
  |true=>
   obtain⟨s,lo,hi⟩:=a
   simp only[↓eB,seval,go_sem,yp_ivempty,yr_ivempty,yp_ivTop,yr_ivTop,topI_c,topI_d,yp_ivLeq,yr_ivLeq,e1,e2]
   try simp only[impB,impN]
   repeat' first|exact ck|with_reducible apply And.intro|intro _
   all_goals first|exact trivial|(rename_i h;first|exact oI h|exact nah h)|(rename_i _ h _ g;exact sL h g)|decide|omega|(refine ret_with [] ?_;simp only[↓eB,seval,go_sem,bne,yr_ivText,txI,e1,e2])
  |false=>
   obtain⟨s,lo,hi⟩:=a
   dsimp only at hw1 hw2 l1 l2
   simp only[↓eB,seval,go_sem,yp_ivempty,yr_ivempty,yp_ivTop,yr_ivTop,topI_c,topI_d,yp_ivLeq,yr_ivLeq,yp_FormatInt,yr_FormatInt,e1,e2]
   try simp only[impB,impN]
   repeat' first|exact ck|with_reducible apply And.intro|intro _
   all_goals first|exact hw1|exact hw2|(simp only[List.length_append,List.length_cons,List.length_nil];omega)|(rename_i h;first|exact oI h|exact nah h)|(rename_i _ h _ g;exact sL h g)|decide|omega|(refine ret_with [] ?_;simp only[↓eB,seval,go_sem,bne,yr_ivText,txI,e1,e2])
theorem yn_ivText:∀p:(Iv×Unit),((fun p:(Iv×Unit)=>yr_ivText p.1) p).names=[]:=by intro p;first|rfl|simp[SV.names,C.names]
noncomputable def yp_ivText {X:Ctx} {w0:World} (hG:StaysN X w0 powT powB):Sy.Spec Tryz.prog X w0:=specG 57 Tryz.call57 powT (acS (cIv) ac0) (fun p:(Iv×Unit)=>yc_ivText p.1) (fun p:(Iv×Unit)=>yr_ivText p.1) yn_ivText y_ivText hG.stays
end Go.Proofs.YtbiepiggmagfcaaGreatDoor
namespace Go.Proofs.YtbiepiggmagfcaaGreatDoor
open Go Go.Sy Go.Shelf Go.RowKit
structure Md where
 s:List UInt8
 v:Iv
structure Su where
 n:List UInt8
 al:Option (List Al)
 e:Bool
 v:Iv
 md:Option (List Md)
def Md.r (x:Md):List D:=[dS x.s,.v (.bool x.v.s),dI x.v.lo,dI x.v.hi]
def zMd:List D:=[dS [],.v (.bool false),dI 0,dI 0]
def alD:Option (List Al)→D
 |none=>.v (.slice none 0 0)
 |some l=>.sl zAl (l.map Al.r)
def alN:Option (List Al)→Int
 |none=>0
 |some l=>(l.length:Int)
def mdD:Option (List Md)→D
 |none=>.v (.slice none 0 0)
 |some l=>.sl zMd (l.map Md.r)
def Su.r (x:Su):List D:=[dS x.n,alD x.al,.v (.bool x.e),.v (.bool x.v.s),dI x.v.lo,dI x.v.hi,mdD x.md]
def zSu:List D:=[dS [],.v (.slice none 0 0),.v (.bool false),.v (.bool false),dI 0,dI 0,.v (.slice none 0 0)]
theorem zSu_ln:zSu.length=7:=rfl
theorem md_inj (a b:Md) (h:a.r=b.r):a=b:=by
 obtain⟨s,⟨p,x,y⟩⟩:=a;obtain⟨s',⟨p',x',y'⟩⟩:=b
 simp only[Md.r,dI,dS,List.cons.injEq,D.v.injEq,Value.int.injEq,Value.bool.injEq,Value.string.injEq,true_and,and_true]at h
 obtain⟨h1,h2,h3,h4⟩:=h
 rw[bs_inj h1,h2,h3,h4]
theorem alD_inj {a b:Option (List Al)} (h:alD a=alD b):a=b:=by
 cases a<;>cases b<;>simp only[alD,D.sl.injEq,true_and,reduceCtorEq]at h
 ·rfl
 ·rw[map_inj al_inj h]
theorem mdD_inj {a b:Option (List Md)} (h:mdD a=mdD b):a=b:=by
 cases a<;>cases b<;>simp only[mdD,D.sl.injEq,true_and,reduceCtorEq]at h
 ·rfl
 ·rw[map_inj md_inj h]
theorem md_st (m:Option (List Md)):(oD (mdD m)).stor=true:=by cases m<;>rfl
theorem su_inj (a b:Su) (h:a.r=b.r):a=b:=by
 obtain⟨n,al,e,⟨p,x,y⟩,md⟩:=a;obtain⟨n',al',e',⟨p',x',y'⟩,md'⟩:=b
 simp only[Su.r,dI,dS,List.cons.injEq,D.v.injEq,D.sl.injEq,Value.int.injEq,Value.bool.injEq,Value.string.injEq,true_and,and_true]at h
 obtain⟨h1,h2,h3,h4,h5,h6,h7⟩:=h
 rw[bs_inj h1,alD_inj h2,h3,h4,h5,h6,mdD_inj h7]
noncomputable def cUs:Cod (List Su):=codOf (fun l=>.one (.d (.sl zSu (l.map Su.r)))) (fun v a b h h'=>by
 cases v with
 |one c=>exact map_inj su_inj (leC_d h h')
 |agg l=>exact h.elim
 |tup l=>exact h.elim) (fun l=>rfl)
theorem cUs_e (l:List Su):cUs.e l= .one (.d (.sl zSu (l.map Su.r))):=rfl
theorem cUs_d (l:List Su):cUs.d (.one (.d (.sl zSu (l.map Su.r))))=some l:=codOf_le (e:=fun l:List Su=>.one (.d (.sl zSu (l.map Su.r)))) (leV_refl _)
theorem su_at {l:List Su} {i:Nat} {n:List UInt8} {al:Option (List Al)} {e s:Bool} {lo hi:Int} {md:Option (List Md)} (h:l[i]?=some ⟨n,al,e,⟨s,lo,hi⟩,md⟩) (z:List D):(l.map Su.r).getD i z=[dS n,alD al,.v (.bool e),.v (.bool s),dI lo,dI hi,mdD md]:=by simp[List.getD,h,Su.r]
def enW (e:Bool):List UInt8:=if e=true then [101,110,100,115] else [110,101,118,101,114]
def reW (x:Su):List UInt8:=if x.e=true then txI x.v else [110,111,110,101]
def suT (x:Su):List UInt8:=(((((((x.n++[32])++enW x.e)++[32])++reW x)++[32])++itT (alN x.al))++[10])
def tbU (l:List Su):List UInt8:=l.flatMap suT
theorem tbU_take {l:List Su} {i:Nat} {x:Su} (h:l[i]?=some x):tbU (l.take (i+1))=tbU (l.take i)++suT x:=flm_take suT h
structure okSu (x:Su):Prop where
 n:x.n.length≤50
 v:wIv x.v
 a:w64 (alN x.al)
theorem txI_len {a:Iv} (h:wIv a):(txI a).length≤60:=by
 have l1:=itT_len h.1
 have l2:=itT_len h.2
 unfold txI;split
 ·decide
 split
 ·decide
 ·simp only[List.length_append,List.length_cons,List.length_nil];omega
theorem suT_len {x:Su} (h:okSu x):(suT x).length≤200:=by
 have l1:=txI_len h.v
 have l2:=itT_len h.a
 have l3:=h.n
 have l4:(enW x.e).length≤5:=by unfold enW;split<;>decide
 have l5:(reW x).length≤60:=by unfold reW;split;exact l1;decide
 unfold suT
 simp only[List.length_append,List.length_cons,List.length_nil];omega
theorem tbU_len {l:List Su} (h:∀x∈l,okSu x):(tbU l).length≤200*l.length:=by
 induction l with
 |nil=>exact Nat.zero_le _
 |cons a l ih=>
  have:=ih fun x hx=>h x (List.mem_cons_of_mem _ hx)
  have:=suT_len (h a (by simp))
  unfold tbU at*
  simp only[List.flatMap_cons,List.length_append,List.length_cons,Nat.mul_succ];omega
def ad3:Bool→C
 |true=>.p 3 0 0
 |false=>.v (.pointer none)
def rB3 (u:Bool) (t:List UInt8):List C:=[ad3 u,.ov zB8 (t.map byK)]
abbrev yc_Table (l:List Su):Prop:=l.length≤1000∧∀x∈l,okSu x
abbrev yr_Table (l:List Su):SV:=.one (.v (.string (bs (tbU l))))
noncomputable abbrev ya_Table:ArgC ((List Su)×Unit):=(acS (cUs) ac0)
abbrev yq_Table:Prop:=CallsG Tryz.prog 23 powT ya_Table (fun p:(List Su)×Unit=>yc_Table p.1) (fun p:(List Su)×Unit=>yr_Table p.1)
attribute [local go_sem] Iv.c adC amB_a amB_m bd_c1 cIv_d cIv_e cUs_d cUs_e inK iv_eta rBd_e rBd_f0 rBd_f1 rBd_n0 rBd_n1 rBd_u0 rBd_u1 rBd_z zSu_ln
set_option maxRecDepth 20000 in set_option maxHeartbeats 8000000 in
theorem y_Table:yq_Table:=by
 rintro ⟨l,_u⟩ w fz xs hT hc hfz hl hx
 have hG:=staysN_clX powT_keptB powT_size (fz:=fz) hT
 refine calls_toL Tryz.func23 rfl w fz [(yp_ivText hG),(yp_Itoa hG),(yg_WriteString 107 0 (y_WriteString _ _) (stays0 _ _)),(yg_bString 107 0 (y_bString _ _) (stays0 _ _))] [] ya_Table (fun p:(List Su)×Unit=>yr_Table p.1) _ xs hfz hl hx (Nat.le_of_ble_eq_true rfl) ?_
 clear hx hl hfz xs
 simp only[Tryz.f23]
 obtain⟨h1,h2⟩:=hc
 dsimp only at h1 h2
 simp only[↓eB,seval,go_sem]
 refine loop_ok (Y:=Nat×Bool) (fun z=>z.1≤l.length)
  (fun z=>⟨[(3,true,.one (.p 3 0 0)),(8,true,.one (.d (.sl zSu (l.map Su.r)))),(9,true,.one (.v (.int .i64 (l.length:Int)))),(10,true,.one (.v (.int .i64 (z.1:Int))))],[(3,.vec 0 (tgN 107 2) [rB3 z.2 (tbU (l.take z.1))])]⟩)
  (fun z=>l.length-z.1) (0,false) (Nat.zero_le _) ?_ ?_
 ·refine to_with [.nilc 3 0 1 zB8] ?_;simp only[↓eB,seval,go_sem,rB3,ad3,tbU]
 ·rintro ⟨z,u⟩ hz
  dsimp only at hz
  refine vc_ok [yp_ivText hG,yp_Itoa hG,yg_WriteString 107 0 (y_WriteString _ _) (stays0 _ _),yg_bString 107 0 (y_bString _ _) (stays0 _ _)] [] _ _ _ ?_
  cases hx:l[z]? with
  |none=>
   have e2:=List.getElem?_eq_none_iff.1 hx
   have e1:=natI_ge e2
   have e3:l.take z=l:=List.take_of_length_le e2
   have g5:(tbU l).length≤100000000000000:=by have:=tbU_len h2;omega
   cases u<;>simp only[↓eB,seval,go_sem,yp_ivText,yp_Itoa,yg_WriteString,yg_bString,rB3,ad3,e1,e3]
   all_goals (
         try simp only[impB,impN]
         repeat' first|exact ck|with_reducible apply And.intro|intro _
         all_goals first|exact g5|(rename_i h;first|exact oI h|exact nah h)|(rename_i _ h _ g;exact sL h g)|decide|omega|(refine ret_with [] ?_;simp only[↓eB,seval,go_sem,bne,yr_Table]))
  |some x=>
   have e2:=(List.getElem?_eq_some_iff.1 hx).1
   have e1:=natI_lt e2
   have e4:=natI_ltp e2
   have e5:=natI_succ (n:=l.length) (Nat.le_of_lt e2) (by omega)
   have ok:=h2 x (List.mem_of_getElem? hx)
   have e6:=tbU_take hx
   have e8:(tbU (l.take z)).length≤200000:=by
    have:=tbU_len (l:=l.take z) (fun x hx=>h2 x (List.mem_of_mem_take hx))
    rw[List.length_take]at this;omega
   have g7:=suT_len ok
   obtain⟨o1,o2,o3⟩:=ok
   have t1:=txI_len o2
   have t2:=itT_len o3
   obtain⟨n,al,e,⟨s,lo,hi⟩,md⟩:=x
   dsimp only at o1 o2 o3 t1 t2
   have e3:=su_at hx
   rcases al with _|al
   ·simp only[alD,alN]at e3 o3 t2
    cases e
    ·have e9:suT ⟨n,none,false,⟨s,lo,hi⟩,md⟩=(((((((n++[32])++[110,101,118,101,114])++[32])++[110,111,110,101])++[32])++itT 0)++[10]):=rfl
     rw[e9]at e6 g7
     have g9:(tbU (l.take z)).length+((((((((n++[32])++[110,101,118,101,114])++[32])++[110,111,110,101])++[32])++itT 0)++[10])).length≤100000000000000:=by omega
     cases u<;>simp only[↓eB,seval,go_sem,yp_ivText,yr_ivText,yp_Itoa,yr_Itoa,yg_WriteString,yg_bString,rB3,ad3,e1,e3]
     all_goals
      try simp only[impB,impN]
      repeat' first|exact ck|with_reducible apply And.intro|intro _
      all_goals try first|exact e4|(exact md_st _)|exact lieB_B|exact o2.1|exact o2.2|exact o2|exact o3|exact g9|exact rfl|(simp only[List.length_append,List.length_cons,List.length_nil];omega)|(rename_i h;first|exact oI h|exact nah h)|(rename_i _ h _ g;exact sL h g)|decide|omega
      refine⟨(z+1,true),e2,by omega,to_with [] ?_⟩
      simp only[↓eB,seval,go_sem,rB3,ad3,e5,e6]
    ·have e9:suT ⟨n,none,true,⟨s,lo,hi⟩,md⟩=(((((((n++[32])++[101,110,100,115])++[32])++txI ⟨s,lo,hi⟩)++[32])++itT 0)++[10]):=rfl
     rw[e9]at e6 g7
     have g9:(tbU (l.take z)).length+((((((((n++[32])++[101,110,100,115])++[32])++txI ⟨s,lo,hi⟩)++[32])++itT 0)++[10])).length≤100000000000000:=by omega
     cases u<;>simp only[↓eB,seval,go_sem,yp_ivText,yr_ivText,yp_Itoa,yr_Itoa,yg_WriteString,yg_bString,rB3,ad3,e1,e3]
     all_goals
      try simp only[impB,impN]
      repeat' first|exact ck|with_reducible apply And.intro|intro _
      all_goals try first|exact e4|(exact md_st _)|exact lieB_B|exact o2.1|exact o2.2|exact o2|exact o3|exact g9|exact rfl|(simp only[List.length_append,List.length_cons,List.length_nil];omega)|(rename_i h;first|exact oI h|exact nah h)|(rename_i _ h _ g;exact sL h g)|decide|omega
      refine⟨(z+1,true),e2,by omega,to_with [] ?_⟩
      simp only[↓eB,seval,go_sem,rB3,ad3,e5,e6]
   ·simp only[alD,alN]at e3 o3 t2
    cases e
    ·have e9:suT ⟨n,(some al),false,⟨s,lo,hi⟩,md⟩=(((((((n++[32])++[110,101,118,101,114])++[32])++[110,111,110,101])++[32])++itT (al.length:Int))++[10]):=rfl
     rw[e9]at e6 g7
     have g9:(tbU (l.take z)).length+((((((((n++[32])++[110,101,118,101,114])++[32])++[110,111,110,101])++[32])++itT (al.length:Int))++[10])).length≤100000000000000:=by omega
     cases u<;>simp only[↓eB,seval,go_sem,yp_ivText,yr_ivText,yp_Itoa,yr_Itoa,yg_WriteString,yg_bString,rB3,ad3,e1,e3]
     all_goals
      try simp only[impB,impN]
      repeat' first|exact ck|with_reducible apply And.intro|intro _
      all_goals try first|exact e4|(exact md_st _)|exact lieB_B|exact o2.1|exact o2.2|exact o2|exact o3|exact g9|exact rfl|(simp only[List.length_append,List.length_cons,List.length_nil];omega)|(rename_i h;first|exact oI h|exact nah h)|(rename_i _ h _ g;exact sL h g)|decide|omega
      refine⟨(z+1,true),e2,by omega,to_with [] ?_⟩
      simp only[↓eB,seval,go_sem,rB3,ad3,e5,e6]
    ·have e9:suT ⟨n,(some al),true,⟨s,lo,hi⟩,md⟩=(((((((n++[32])++[101,110,100,115])++[32])++txI ⟨s,lo,hi⟩)++[32])++itT (al.length:Int))++[10]):=rfl
     rw[e9]at e6 g7
     have g9:(tbU (l.take z)).length+((((((((n++[32])++[101,110,100,115])++[32])++txI ⟨s,lo,hi⟩)++[32])++itT (al.length:Int))++[10])).length≤100000000000000:=by omega
     cases u<;>simp only[↓eB,seval,go_sem,yp_ivText,yr_ivText,yp_Itoa,yr_Itoa,yg_WriteString,yg_bString,rB3,ad3,e1,e3]
     all_goals
      try simp only[impB,impN]
      repeat' first|exact ck|with_reducible apply And.intro|intro _
      all_goals try first|exact e4|(exact md_st _)|exact lieB_B|exact o2.1|exact o2.2|exact o2|exact o3|exact g9|exact rfl|(simp only[List.length_append,List.length_cons,List.length_nil];omega)|(rename_i h;first|exact oI h|exact nah h)|(rename_i _ h _ g;exact sL h g)|decide|omega
      refine⟨(z+1,true),e2,by omega,to_with [] ?_⟩
      simp only[↓eB,seval,go_sem,rB3,ad3,e5,e6]
end Go.Proofs.YtbiepiggmagfcaaGreatDoor
namespace Go.Proofs.YtbiepiggmagfcaaGreatDoor
open Go Go.Sy Go.Shelf Go.RowKit
end Go.Proofs.YtbiepiggmagfcaaGreatDoor
