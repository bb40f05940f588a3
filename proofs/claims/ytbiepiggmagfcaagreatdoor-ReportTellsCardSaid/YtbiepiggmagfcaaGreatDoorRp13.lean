/- Tables of summaries. Conditions: names are short, numbers of 64 bits; the table of powers of ten is laid. -/
import Derived.Test.YtbiepiggmagfcaaGreatDoorRp12
set_option linter.unusedVariables false
set_option linter.unusedSimpArgs false
set_option maxRecDepth 20000
set_option maxHeartbeats 8000000
open List (length_append length_cons length_nil append_assoc)
namespace Go.Proofs.YtbiepiggmagfcaaGreatDoor
open Go Go.Sy Go.Shelf Go.RowKit
structure Md where
 s:List UInt8
 v:Iv
structure Su where
 n:List UInt8
 al:Option (List Al)
 e:Bool
 v:Iv
 md:Option (List Md)
def Md.r (x:Md):List D:=[dS x.s,.v (.bool x.v.s),dI x.v.lo,dI x.v.hi]
def zMd:List D:=[dS [],.v (.bool false),dI 0,dI 0]
def alD:Option (List Al)→D
 |none=>.v (.slice none 0 0)
 |some l=>.sl zAl (l.map Al.r)
def alN:Option (List Al)→Int
 |none=>0
 |some l=>(l.length:Int)
def mdD:Option (List Md)→D
 |none=>.v (.slice none 0 0)
 |some l=>.sl zMd (l.map Md.r)
def Su.r (x:Su):List D:=[dS x.n,alD x.al,.v (.bool x.e),.v (.bool x.v.s),dI x.v.lo,dI x.v.hi,mdD x.md]
def zSu:List D:=[dS [],.v (.slice none 0 0),.v (.bool false),.v (.bool false),dI 0,dI 0,.v (.slice none 0 0)]
theorem Xl:zSu.length=7:=rfl
theorem xq (a b:Md) (h:a.r=b.r):a=b:=by
 obtain⟨s,⟨p,x,y⟩⟩:=a;obtain⟨s',⟨p',x',y'⟩⟩:=b
 simp only[Md.r,dI,dS,List.cons.injEq,D.v.injEq,Value.int.injEq,Value.bool.injEq,Value.string.injEq,true_and,and_true]at h
 obtain⟨h1,h2,h3,h4⟩:=h
 rw[bs_inj h1,h2,h3,h4]
theorem rQ {a b:Option (List Al)} (h:alD a=alD b):a=b:=by
 cases a<;>cases b<;>simp only[alD,D.sl.injEq,true_and,reduceCtorEq]at h
 ·rfl
 ·rw[Bh Xr h]
theorem rR {a b:Option (List Md)} (h:mdD a=mdD b):a=b:=by
 cases a<;>cases b<;>simp only[mdD,D.sl.injEq,true_and,reduceCtorEq]at h
 ·rfl
 ·rw[Bh xq h]
theorem ML (m:Option (List Md)):(oD (mdD m)).stor=true:=by cases m<;>rfl
theorem xr (a b:Su) (h:a.r=b.r):a=b:=by
 obtain⟨n,al,e,⟨p,x,y⟩,md⟩:=a;obtain⟨n',al',e',⟨p',x',y'⟩,md'⟩:=b
 simp only[Su.r,dI,dS,List.cons.injEq,D.v.injEq,D.sl.injEq,Value.int.injEq,Value.bool.injEq,Value.string.injEq,true_and,and_true]at h
 obtain⟨h1,h2,h3,h4,h5,h6,h7⟩:=h
 rw[bs_inj h1,rQ h2,h3,h4,h5,h6,rR h7]
noncomputable def cUs:Cod (List Su):=IF (fun l=>.one (.d (.sl zSu (l.map Su.r)))) (fun v a b h h'=>by
 cases v with
 |one c=>exact Bh xr (Jb h h')
 |agg l=>exact h.elim
 |tup l=>exact h.elim) (fun l=>rfl)
theorem cP (l:List Su):cUs.e l= .one (.d (.sl zSu (l.map Su.r))):=rfl
theorem WH (l:List Su):cUs.d (.one (.d (.sl zSu (l.map Su.r))))=some l:=Df (e:=fun l:List Su=>.one (.d (.sl zSu (l.map Su.r)))) (ED _)
theorem cQ {l:List Su} {i:Nat} {n:List UInt8} {al:Option (List Al)} {e s:Bool} {lo hi:Int} {md:Option (List Md)} (h:l[i]?=some ⟨n,al,e,⟨s,lo,hi⟩,md⟩) (z:List D):(l.map Su.r).getD i z=[dS n,alD al,.v (.bool e),.v (.bool s),dI lo,dI hi,mdD md]:=by simp[List.getD,h,Su.r]
def enW (e:Bool):List UInt8:=if e=true then [101,110,100,115] else [110,101,118,101,114]
def reW (x:Su):List UInt8:=if x.e=true then txI x.v else [110,111,110,101]
def suT (x:Su):List UInt8:=(((((((x.n++[32])++enW x.e)++[32])++reW x)++[32])++itT (alN x.al))++[10])
def tbU (l:List Su):List UInt8:=l.flatMap suT
theorem Xm {l:List Su} {i:Nat} {x:Su} (h:l[i]?=some x):tbU (l.take (i+1))=tbU (l.take i)++suT x:=OT suT h
structure okSu (x:Su):Prop where
 n:x.n.length≤50
 v:wIv x.v
 a:w64 (alN x.al)
theorem US {a:Iv} (h:wIv a):(txI a).length≤60:=by
 have l1:=G9 h.1
 have l2:=G9 h.2
 unfold txI;split
 ·decide
 split
 ·decide
 ·simp only[jL3];omega
theorem UT {x:Su} (h:okSu x):(suT x).length≤200:=by
 have l1:=US h.v
 have l2:=G9 h.a
 have l3:=h.n
 have l4:(enW x.e).length≤5:=by unfold enW;split<;>decide
 have l5:(reW x).length≤60:=by unfold reW;split;exact l1;decide
 unfold suT
 simp only[jL3];omega
theorem UU {l:List Su} (h:∀x∈l,okSu x):(tbU l).length≤200*l.length:=by
 induction l with
 |nil=>exact Nat.zero_le _
 |cons a l ih=>
  have:=ih fun x hx=>h x (List.mem_cons_of_mem _ hx)
  have:=UT (h a (by simp))
  unfold tbU at*
  simp only[List.flatMap_cons,length_append,length_cons,Nat.mul_succ];omega
def ad3:Bool→C
 |true=>.p 3 0 0
 |false=>.v (.pointer none)
def rB3 (u:Bool) (t:List UInt8):List C:=[ad3 u,.ov zB8 (t.map byK)]
abbrev OO (l:List Su):Prop:=l.length≤1000∧∀x∈l,okSu x
abbrev Lq (l:List Su):SV:=.one (.v (.string (bs (tbU l))))
noncomputable abbrev Lr:ArgC ((List Su)×Unit):=(acS (cUs) ac0)
abbrev Xn:Prop:=Cn Tryz.prog 23 AY Lr (fun p:(List Su)×Unit=>OO p.1) (fun p:(List Su)×Unit=>Lq p.1)
theorem kj:∀p:(List Su)×Unit,((fun p:(List Su)×Unit=>Lq p.1) p).names=[]:=by intro p;rfl
noncomputable def Xo {X:Ctx} {w0:World} (h:Xn) (hG:BB X w0 AY CX):Sy.Spec Tryz.prog X w0:=FK 23 Tryz.call23 AY Lr (fun p:(List Su)×Unit=>OO p.1) (fun p:(List Su)×Unit=>Lq p.1) (kj) h hG.stays
attribute [local go_sem] Iv.c ad3 adC Kf Kg MF WG cI WH cP inK Xd rB3 MC Jk Jm Hh Hi Jj Jl MB BU CL UB Pb QU EZ Xl
theorem aD:Xn:=by
 rintro ⟨l,_u⟩ w fz xs hT hc hfz hl hx
 have hG:=Cj Br DA (fz:=fz) hT
 refine A9 Tryz.func23 rfl w fz [(Pb hG),(UB hG),(BU 107 0 (CM _ _) (BC _ _)),(CL 107 0 (Ds _ _) (BC _ _))] [] Lr (fun p:(List Su)×Unit=>Lq p.1) _ xs hfz hl hx (jN rfl) ?_
 clear hx hl hfz xs
 simp only[Tryz.f23]
 obtain⟨h1,h2⟩:=hc
 dsimp only at h1 h2
 simp only[↓eB,seval,go_sem]
 refine AH (Y:=Nat×Bool) (fun z=>z.1≤l.length)
  (fun z=>⟨[(3,true,.one (.p 3 0 0)),(8,true,.one (.d (.sl zSu (l.map Su.r)))),(9,true,.one (.v (.int .i64 (l.length:Int)))),(10,true,.one (.v (.int .i64 (z.1:Int))))],[(3,.vec 0 (tgN 107 2) [rB3 z.2 (tbU (l.take z.1))])]⟩)
  (fun z=>l.length-z.1) (0,false) (Nat.zero_le _) ?_ ?_
 ·refine A4 [.nilc 3 0 1 zB8] ?_;simp only[↓eB,seval,go_sem,tbU]
 ·rintro ⟨z,u⟩ hz
  dsimp only at hz
  refine Ab [Pb hG,UB hG,BU 107 0 (CM _ _) (BC _ _),CL 107 0 (Ds _ _) (BC _ _)] [] _ _ _ ?_
  cases hx:l[z]? with
  |none=>
   have e2:=List.getElem?_eq_none_iff.1 hx
   have e1:=Ao e2
   have e3:l.take z=l:=List.take_of_length_le e2
   have g5:(tbU l).length≤100000000000000:=by have:=UU h2;omega
   cases u<;>simp only[↓eB,seval,go_sem,e1,e3]
   all_goals (
    try simp only[A1,A2]
    repeat' first|exact ck|with_reducible apply And.intro|intro _
    all_goals first|exact g5|(rename_i h;first|exact oI h|exact nah h)|(rename_i _ h _ g;exact sL h g)|decide|omega|(refine A0 [] ?_;simp only[↓eB,seval,go_sem,bne,Lq]))
  |some x=>
   have e2:=(List.getElem?_eq_some_iff.1 hx).1
   have e1:=Ah e2
   have e4:=AX e2
   have e5:=AM (n:=l.length) (Nat.le_of_lt e2) (by omega)
   have ok:=h2 x (List.mem_of_getElem? hx)
   have e6:=Xm hx
   have e8:(tbU (l.take z)).length≤200000:=by
    have:=UU (l:=l.take z) (fun x hx=>h2 x (List.mem_of_mem_take hx))
    rw[List.length_take]at this;omega
   have g7:=UT ok
   obtain⟨o1,o2,o3⟩:=ok
   have t1:=US o2
   have t2:=G9 o3
   obtain⟨n,al,e,⟨s,lo,hi⟩,md⟩:=x
   dsimp only at o1 o2 o3 t1 t2
   have e3:=cQ hx
   rcases al with _|al
   ·simp only[alD,alN]at e3 o3 t2
    cases e
    ·have e9:suT ⟨n,none,false,⟨s,lo,hi⟩,md⟩=(((((((n++[32])++[110,101,118,101,114])++[32])++[110,111,110,101])++[32])++itT 0)++[10]):=rfl
     rw[e9]at e6 g7
     have g9:(tbU (l.take z)).length+((((((((n++[32])++[110,101,118,101,114])++[32])++[110,111,110,101])++[32])++itT 0)++[10])).length≤100000000000000:=by omega
     cases u<;>simp only[↓eB,seval,go_sem,e1,e3]
     all_goals
      try simp only[A1,A2]
      repeat' first|exact ck|with_reducible apply And.intro|intro _
      all_goals try first|exact e4|(exact ML _)|exact FT|exact o2.1|exact o2.2|exact o2|exact o3|exact g9|exact rfl|(simp only[jL3];omega)|(rename_i h;first|exact oI h|exact nah h)|(rename_i _ h _ g;exact sL h g)|decide|omega
      refine⟨(z+1,true),e2,by omega,A4 [] ?_⟩
      simp only[↓eB,seval,go_sem,e5,e6]
    ·have e9:suT ⟨n,none,true,⟨s,lo,hi⟩,md⟩=(((((((n++[32])++[101,110,100,115])++[32])++txI ⟨s,lo,hi⟩)++[32])++itT 0)++[10]):=rfl
     rw[e9]at e6 g7
     have g9:(tbU (l.take z)).length+((((((((n++[32])++[101,110,100,115])++[32])++txI ⟨s,lo,hi⟩)++[32])++itT 0)++[10])).length≤100000000000000:=by omega
     cases u<;>simp only[↓eB,seval,go_sem,e1,e3]
     all_goals
      try simp only[A1,A2]
      repeat' first|exact ck|with_reducible apply And.intro|intro _
      all_goals try first|exact e4|(exact ML _)|exact FT|exact o2.1|exact o2.2|exact o2|exact o3|exact g9|exact rfl|(simp only[jL3];omega)|(rename_i h;first|exact oI h|exact nah h)|(rename_i _ h _ g;exact sL h g)|decide|omega
      refine⟨(z+1,true),e2,by omega,A4 [] ?_⟩
      simp only[↓eB,seval,go_sem,e5,e6]
   ·simp only[alD,alN]at e3 o3 t2
    cases e
    ·have e9:suT ⟨n,(some al),false,⟨s,lo,hi⟩,md⟩=(((((((n++[32])++[110,101,118,101,114])++[32])++[110,111,110,101])++[32])++itT (al.length:Int))++[10]):=rfl
     rw[e9]at e6 g7
     have g9:(tbU (l.take z)).length+((((((((n++[32])++[110,101,118,101,114])++[32])++[110,111,110,101])++[32])++itT (al.length:Int))++[10])).length≤100000000000000:=by omega
     cases u<;>simp only[↓eB,seval,go_sem,e1,e3]
     all_goals
      try simp only[A1,A2]
      repeat' first|exact ck|with_reducible apply And.intro|intro _
      all_goals try first|exact e4|(exact ML _)|exact FT|exact o2.1|exact o2.2|exact o2|exact o3|exact g9|exact rfl|(simp only[jL3];omega)|(rename_i h;first|exact oI h|exact nah h)|(rename_i _ h _ g;exact sL h g)|decide|omega
      refine⟨(z+1,true),e2,by omega,A4 [] ?_⟩
      simp only[↓eB,seval,go_sem,e5,e6]
    ·have e9:suT ⟨n,(some al),true,⟨s,lo,hi⟩,md⟩=(((((((n++[32])++[101,110,100,115])++[32])++txI ⟨s,lo,hi⟩)++[32])++itT (al.length:Int))++[10]):=rfl
     rw[e9]at e6 g7
     have g9:(tbU (l.take z)).length+((((((((n++[32])++[101,110,100,115])++[32])++txI ⟨s,lo,hi⟩)++[32])++itT (al.length:Int))++[10])).length≤100000000000000:=by omega
     cases u<;>simp only[↓eB,seval,go_sem,e1,e3]
     all_goals
      try simp only[A1,A2]
      repeat' first|exact ck|with_reducible apply And.intro|intro _
      all_goals try first|exact e4|(exact ML _)|exact FT|exact o2.1|exact o2.2|exact o2|exact o3|exact g9|exact rfl|(simp only[jL3];omega)|(rename_i h;first|exact oI h|exact nah h)|(rename_i _ h _ g;exact sL h g)|decide|omega
      refine⟨(z+1,true),e2,by omega,A4 [] ?_⟩
      simp only[↓eB,seval,go_sem,e5,e6]
noncomputable def Re {X:Ctx} {w0:World} (hG:BB X w0 AY CX):Sy.Spec Tryz.prog X w0:=Xo aD hG
end Go.Proofs.YtbiepiggmagfcaaGreatDoor
namespace Go.Proofs.YtbiepiggmagfcaaGreatDoor
open Go Go.Sy Go.Shelf Go.RowKit
abbrev Pc (l:List Su):Prop:=l.length≤1000∧∀x∈l,okSu x
abbrev Fj (l:List Su):SV:=.one (.v (.string (bs (tbU l))))
noncomputable abbrev MM:ArgC ((List Su)×Unit):=(acS (cUs) ac0)
abbrev VK:Prop:=AP Tryz.prog 24 MM (fun p:(List Su)×Unit=>Pc p.1) (fun p:(List Su)×Unit=>Fj p.1)
theorem VL:∀p:(List Su)×Unit,((fun p:(List Su)×Unit=>Fj p.1) p).names=[]:=by intro p;rfl
noncomputable def Pd {X:Ctx} {w0:World} (h:VK):Sy.Spec Tryz.prog X w0:=Am 24 Tryz.call24 MM (fun p:(List Su)×Unit=>Pc p.1) (fun p:(List Su)×Unit=>Fj p.1) (VL) h
attribute [local go_sem] Iv.c WG cI WH cP Xd OH ON Ss Dw Xl
theorem Rf:VK:=by
 rintro ⟨l,_u⟩ w fz xs hc hfz hl hx
 refine A9 Tryz.func24 rfl w fz [ON,OH] [] MM (fun p:(List Su)×Unit=>Fj p.1) _ xs hfz hl hx (jN rfl) ?_
 clear hx hl hfz xs
 simp only[Tryz.f24]
 obtain⟨h1,h2⟩:=hc
 dsimp only at h1 h2
 simp only[↓eB,seval,go_sem]
 refine AH (Y:=Nat) (fun z=>z≤l.length)
  (fun z=>⟨[(0,true,.one (.d (.sl zSu (l.map Su.r)))),(3,true,.one (.v (.string (bs (tbU (l.take z)))))),(4,true,.one (.v (.int .i64 (z:Int))))],[]⟩)
  (fun z=>l.length-z) 0 (Nat.zero_le _) ?_ ?_
 ·refine A4 [] ?_;simp only[↓eB,seval,go_sem,tbU]
 ·rintro z hz
  refine Ab [ON,OH] [] _ _ _ ?_
  cases hx:l[z]? with
  |none=>
   have e2:=List.getElem?_eq_none_iff.1 hx
   have e1:=Ao e2
   have e3:l.take z=l:=List.take_of_length_le e2
   simp only[↓eB,seval,go_sem,e1,e3]
   try simp only[A1,A2]
   repeat' first|exact ck|with_reducible apply And.intro|intro _
   all_goals first|exact trivial|(rename_i h;first|exact oI h|exact nah h)|(rename_i _ h _ g;exact sL h g)|decide|omega|(refine A0 [] ?_;simp only[↓eB,seval,go_sem,bne,Fj])
  |some x=>
   have e2:=(List.getElem?_eq_some_iff.1 hx).1
   have e1:=Ah e2
   have e4:=AX e2
   have e5:=AM (n:=l.length) (Nat.le_of_lt e2) (by omega)
   have ok:=h2 x (List.mem_of_getElem? hx)
   have e6:=Xm hx
   have e8:(tbU (l.take z)).length≤200000:=by
    have:=UU (l:=l.take z) (fun x hx=>h2 x (List.mem_of_mem_take hx))
    rw[List.length_take]at this;omega
   have g7:=UT ok
   obtain⟨o1,o2,o3⟩:=ok
   have t1:=US o2
   have t2:=G9 o3
   have t3:=A39 o2
   obtain⟨n,al,e,⟨s,lo,hi⟩,md⟩:=x
   dsimp only at o1 o2 o3 t1 t2 t3
   have e3:=cQ hx
   rcases al with _|al
   ·simp only[alD,alN]at e3 o3 t2
    have w1:IntKind.i64.wrap 0=0:=by decide
    cases e
    ·have e9:suT ⟨n,none,false,⟨s,lo,hi⟩,md⟩=(((((((n++[32])++[110,101,118,101,114])++[32])++[110,111,110,101])++[32])++itT 0)++[10]):=rfl
     rw[e9]at e6 g7
     simp only[↓eB,seval,go_sem,e1,e3,t3,w1]
     try simp only[A1,A2]
     repeat' first|exact ck|with_reducible apply And.intro|intro _
     all_goals try first|exact e4|(exact ML _)|exact o2.1|exact o2.2|exact o2|exact o3|exact rfl|(simp only[jL3];omega)|(rename_i h;first|exact oI h|exact nah h)|(rename_i _ h _ g;exact sL h g)|decide|omega
     refine⟨z+1,e2,by omega,A4 [] ?_⟩
     simp only[↓eB,seval,go_sem,e5,e6,append_assoc]
    ·have e9:suT ⟨n,none,true,⟨s,lo,hi⟩,md⟩=(((((((n++[32])++[101,110,100,115])++[32])++txI ⟨s,lo,hi⟩)++[32])++itT 0)++[10]):=rfl
     rw[e9]at e6 g7
     simp only[↓eB,seval,go_sem,e1,e3,t3,w1]
     try simp only[A1,A2]
     repeat' first|exact ck|with_reducible apply And.intro|intro _
     all_goals try first|exact e4|(exact ML _)|exact o2.1|exact o2.2|exact o2|exact o3|exact rfl|(simp only[jL3];omega)|(rename_i h;first|exact oI h|exact nah h)|(rename_i _ h _ g;exact sL h g)|decide|omega
     refine⟨z+1,e2,by omega,A4 [] ?_⟩
     simp only[↓eB,seval,go_sem,e5,e6,append_assoc]
   ·simp only[alD,alN]at e3 o3 t2
    have w1:IntKind.i64.wrap (al.length:Int)=(al.length:Int):=by obtain⟨q1,q2⟩:=o3;rw[wrap_i64 (by omega) (by omega)]
    cases e
    ·have e9:suT ⟨n,(some al),false,⟨s,lo,hi⟩,md⟩=(((((((n++[32])++[110,101,118,101,114])++[32])++[110,111,110,101])++[32])++itT (al.length:Int))++[10]):=rfl
     rw[e9]at e6 g7
     simp only[↓eB,seval,go_sem,e1,e3,t3,w1]
     try simp only[A1,A2]
     repeat' first|exact ck|with_reducible apply And.intro|intro _
     all_goals try first|exact e4|(exact ML _)|exact o2.1|exact o2.2|exact o2|exact o3|exact rfl|(simp only[jL3];omega)|(rename_i h;first|exact oI h|exact nah h)|(rename_i _ h _ g;exact sL h g)|decide|omega
     refine⟨z+1,e2,by omega,A4 [] ?_⟩
     simp only[↓eB,seval,go_sem,e5,e6,append_assoc]
    ·have e9:suT ⟨n,(some al),true,⟨s,lo,hi⟩,md⟩=(((((((n++[32])++[101,110,100,115])++[32])++txI ⟨s,lo,hi⟩)++[32])++itT (al.length:Int))++[10]):=rfl
     rw[e9]at e6 g7
     simp only[↓eB,seval,go_sem,e1,e3,t3,w1]
     try simp only[A1,A2]
     repeat' first|exact ck|with_reducible apply And.intro|intro _
     all_goals try first|exact e4|(exact ML _)|exact o2.1|exact o2.2|exact o2|exact o3|exact rfl|(simp only[jL3];omega)|(rename_i h;first|exact oI h|exact nah h)|(rename_i _ h _ g;exact sL h g)|decide|omega
     refine⟨z+1,e2,by omega,A4 [] ?_⟩
     simp only[↓eB,seval,go_sem,e5,e6,append_assoc]
noncomputable def gb {X:Ctx} {w0:World}:Sy.Spec Tryz.prog X w0:=Am 24 Tryz.call24 MM (fun p:(List Su)×Unit=>Pc p.1) (fun p:(List Su)×Unit=>Fj p.1) VL Rf
end Go.Proofs.YtbiepiggmagfcaaGreatDoor
