/- Statements of a function: names by kind. No conditions but those in each statement. -/
import Derived.Test.YtbiepiggmagfcaaGreatDoorRs1
import Derived.Test.YtbiepiggmagfcaaGreatDoorPa9
import Derived.Test.YtbiepiggmagfcaaGreatDoorMk5
set_option linter.unusedVariables false
set_option linter.unusedSimpArgs false
set_option maxRecDepth 20000
set_option maxHeartbeats 8000000
namespace Go.Proofs.YtbiepiggmagfcaaGreatDoor
open Go Go.Sy Go.RowKit
def Sm.wi:Sm→List Sm→List Sm→Sm
 | .mk k x y e g cd ar _ _ no,th,el=>.mk k x y e g cd ar th el no
def rsW (h:List Sm→List Sm×Int) (f:Fn):List Sm→List Sm→List Sm×Int
 |out,[]=>(out,-1)
 |out,s::r=>
  if (rsS f s).2=true then
   if 0≤(h (rsS f s).1.th).2 then ([],(h (rsS f s).1.th).2)
   else if 0≤(h (rsS f s).1.el).2 then ([],(h (rsS f s).1.el).2)
   else rsW h f (out++[(rsS f s).1.wi (h (rsS f s).1.th).1 (h (rsS f s).1.el).1]) r
  else ([],s.no)
def rsN (f:Fn):Nat→List Sm→List Sm×Int
 |0=>fun _=>([],-1)
 |m+1=>rsW (rsN f m) f []
theorem Xy (f:Fn) (s:Sm):((rsS f s).1.th=s.th∨(rsS f s).1.th=[])∧((rsS f s).1.el=s.el∨(rsS f s).1.el=[]):=by
 obtain⟨k,x,y,e,g,cd,ar,th,el,no⟩:=s
 simp only[rsS]
 repeat' split
 all_goals simp[Sm.th,Sm.el]
theorem yF {l:List Sm} {i:Nat} {x:Sm} (h:l[i]?=some x) (z:List D):(l.map Sm.r).getD i z=x.r:=by simp[List.getD,h]
abbrev VT (n:Nat) (m:Nat) (f:Fn) (l:List Sm):Prop:=okF f∧okB n m l
abbrev Ea (n:Nat) (m:Nat) (f:Fn) (l:List Sm):SV:=.tup [.inl (.d (.sl zSm ((rsN f m l).1.map Sm.r))),.inl (.v (.int .i64 (rsN f m l).2))]
noncomputable abbrev Pl:ArgC ((Fn)×(List Sm)×Unit):=(acS (cFn) (acS (cSs) ac0))
abbrev MQ (n:Nat) (m:Nat):Prop:=AP Tryz.prog 100 Pl (fun p:(Fn)×(List Sm)×Unit=>VT n m p.1 p.2.1) (fun p:(Fn)×(List Sm)×Unit=>Ea n m p.1 p.2.1)
theorem iE (n:Nat) (m:Nat):∀p:(Fn)×(List Sm)×Unit,((fun p:(Fn)×(List Sm)×Unit=>Ea n m p.1 p.2.1) p).names=[]:=by intro p;rfl
noncomputable def Fq {X:Ctx} {w0:World} (n:Nat) (m:Nat) (h:MQ n m):Sy.Spec Tryz.prog X w0:=Am 100 Tryz.call100 Pl (fun p:(Fn)×(List Sm)×Unit=>VT n m p.1 p.2.1) (fun p:(Fn)×(List Sm)×Unit=>Ea n m p.1 p.2.1) (iE n m) h
attribute [local go_sem] Fn.c Sm.ar Sm.c Sm.cd Sm.e Sm.el Sm.f Sm.k Sm.no Sm.th Sm.x Sm.y fM Ht Jc QY QX KW KV fl4 GU Dm Dl bG Ev Rl Fq zSc
theorem iF (n:Nat) (m:Nat) (hu:MQ n m):MQ n (m+1):=by
 rintro ⟨f,l,_u⟩ w fz xs hc hfz hl hx
 refine A9 Tryz.func100 rfl w fz [(Rl n (y_rstmt n)),(Fq n m hu)] [] Pl (fun p:(Fn)×(List Sm)×Unit=>Ea n (m+1) p.1 p.2.1) _ xs hfz hl hx (jN rfl) ?_
 clear hx hl hfz xs
 simp only[Tryz.f100]
 obtain⟨hc1,hc2⟩:=hc
 dsimp only at hc1 hc2
 obtain⟨hc2,hc3⟩:=hc2
 simp only[↓eB,seval,go_sem]
 have sp:∀s∈l,okB n m (rsS f s).1.th∧okB n m (rsS f s).1.el:=fun s hs=>by
  obtain⟨_,h1,h2⟩:=hc3 s hs
  have h3:=Xy f s
  refine⟨?_,?_⟩
  ·rcases h3.1 with h|h<;>rw[h]
   ·exact h1
   ·exact QZ h1
  ·rcases h3.2 with h|h<;>rw[h]
   ·exact h2
   ·exact QZ h2
 refine AH (Y:=Nat×List Sm) (fun z=>z.1≤l.length∧z.2.length=z.1∧rsW (rsN f m) f z.2 (l.drop z.1)=rsN f (m+1) l)
  (fun z=>⟨[(1,true,.one (.d (.sl zSm (l.map Sm.r)))),(2,true,.one (.p 2 0 0)),(6,true,.one (.s 1000)),(7,true,.one (.v (.int .i64 (z.1:Int))))],[(2,.vec 0 fl4 [f.c]),(1000,.vec 0 zSc (z.2.map Sm.c))]⟩)
  (fun z=>l.length-z.1) (0,[]) ⟨Nat.zero_le _,rfl,rfl⟩ ?_ ?_
 ·refine A4 [.nil 6 1000 zSc] ?_;simp only[↓eB,seval,go_sem]
 ·rintro ⟨i,out⟩ ⟨g1,g2,g3⟩
  refine Ab [Rl n (y_rstmt n),Fq n m hu] [] _ _ _ ?_
  dsimp only at g1 g2 g3
  cases hx:l[i]? with
  |none=>
   have hi2:l.length≤i:=List.getElem?_eq_none_iff.1 hx
   have h1:=Ao hi2
   rw[List.drop_eq_nil_of_le hi2]at g3
   have hr:rsN f (m+1) l=(out,-1):=g3.symm
   simp only[↓eB,seval,go_sem,h1]
   refine A0 [.fz 1000] ?_;simp only[↓eB,seval,go_sem,bne,Ea,hr,zSm,EH.ds,EH.fz]
  |some x=>
   obtain⟨ka,xa,ya,ea,fa,ca,aa,ta,la,na⟩:=x
   have hlt:i<l.length:=(List.getElem?_eq_some_iff.1 hx).1
   have hxm:Sm.mk ka xa ya ea fa ca aa ta la na∈l:=List.mem_of_getElem? hx
   have h1:=Ah hlt
   have h2:=AX hlt
   have h3:=yF hx
   have h4:=AM g1 (by omega)
   obtain⟨q1,q2,q3⟩:=hc3 _ hxm
   obtain⟨q4,q5⟩:=sp _ hxm
   rw[JL hx]at g3
   simp only[rsW]at g3
   obtain⟨⟨⟨k,x1,y1,e1,e2,cd,ar,th,el,no⟩,b⟩,hs⟩:∃a,rsS f (.mk ka xa ya ea fa ca aa ta la na)=a:=⟨_,rfl⟩
   rw[hs]at g3 q4 q5
   dsimp only[Sm.th,Sm.el,Sm.wi,Sm.no]at g3 q4 q5
   cases b with
   |false=>
    rw[if_neg (by decide)]at g3
    simp only[↓eB,seval,go_sem,h1,h2,h3,hs]
    try simp only[A1,A2]
    repeat' first|exact ck|with_reducible apply And.intro|intro _
    all_goals first|exact hc1|exact hlt|exact q1|(rename_i h;first|exact oI h|exact nah h)|(rename_i _ h _ g;exact sL h g)|decide|omega|(refine A0 [] ?_;simp only[↓eB,seval,go_sem,bne,Ea,← g3])
   |true=>
    rw[if_pos rfl]at g3
    cases t1:decide (0≤(rsN f m th).2) with
    |true=>
     simp only[of_decide_eq_true t1,if_true]at g3
     simp only[↓eB,seval,go_sem,h1,h2,h3,hs,t1]
     try simp only[A1,A2]
     repeat' first|exact ck|with_reducible apply And.intro|intro _
     all_goals first|exact hc1|exact hlt|exact q1|exact q4|(rename_i h;first|exact oI h|exact nah h)|(rename_i _ h _ g;exact sL h g)|decide|omega|(refine A0 [] ?_;simp only[↓eB,seval,go_sem,bne,Ea,← g3])
    |false=>
     simp only[of_decide_eq_false t1,if_false]at g3
     cases t2:decide (0≤(rsN f m el).2) with
     |true=>
      simp only[of_decide_eq_true t2,if_true]at g3
      simp only[↓eB,seval,go_sem,h1,h2,h3,hs,t1,t2]
      try simp only[A1,A2]
      repeat' first|exact ck|with_reducible apply And.intro|intro _
      all_goals first|exact hc1|exact hlt|exact q1|exact q4|exact q5|(rename_i h;first|exact oI h|exact nah h)|(rename_i _ h _ g;exact sL h g)|decide|omega|(refine A0 [] ?_;simp only[↓eB,seval,go_sem,bne,Ea,← g3])
     |false=>
      simp only[of_decide_eq_false t2,if_false]at g3
      simp only[↓eB,seval,go_sem,h1,h2,h3,h4,hs,t1,t2,EH.fn]
      try simp only[A1,A2]
      repeat' first|exact ck|with_reducible apply And.intro|intro _
      all_goals try first|exact hc1|exact hlt|exact q1|exact q4|exact q5|(rename_i h;first|exact oI h|exact nah h)|(rename_i _ h _ g;exact sL h g)|decide|omega
      refine⟨(i+1,out++[.mk k x1 y1 e1 e2 cd ar (rsN f m th).1 (rsN f m el).1 no]),⟨hlt,by simp[g2],g3⟩,by simp only;omega,
       BP (t:=⟨[(1,true,.one (.d (.sl zSm (l.map Sm.r)))),(2,true,.one (.p 2 0 0)),(6,true,.one (.s 62)),(7,true,.one (.v (.int .i64 ((i+1:Nat):Int))))],[(2,.vec 0 fl4 [f.c]),(62,.vec 0 zSc ((out++[Sm.mk k x1 y1 e1 e2 cd ar (rsN f m th).1 (rsN f m el).1 no]).map Sm.c))]⟩) (A4 [] ?_) (A4 [.mv 62 1000] ?_)⟩
      ·simp only[↓eB,seval,go_sem,EH.fn,List.flatMap_append,List.map_append]
      ·simp only[↓eB,seval,go_sem,EH.fn,EH.mv]
end Go.Proofs.YtbiepiggmagfcaaGreatDoor
namespace Go.Proofs.YtbiepiggmagfcaaGreatDoor
open Go Go.Sy Go.RowKit
theorem y_rstmts (n:Nat):∀m:Nat,MQ n m
 |0=>by
  rintro ⟨f,e,_u⟩ w fz xs hc hfz hl hx
  exact hc.2.elim
 |m+1=>iF n m (y_rstmts n m)
def M1:List Vr→List Vr→Bool
 |_,[]=>false
 |d,v::r=>d.any (fun u=>u.s==v.s)||M1 (d++[v]) r
def KH:List UInt8:=[103,108,111,98,97,108,115]
def zFc:List C:=[.v (.string (bs [])),.v (.slice none 0 0),.v (.slice none 0 0),.v (.slice none 0 0)]
theorem A3J:zT zFc=none:=rfl
attribute [go_sem] A3J
def Eo (f:Fn) (s:List UInt8) (m:Nat):Fn×Int×Int:=
 if (f.name != s||f.name==KH)=true then (fn0,-1,62)
 else if M1 [] (f.ps++f.ls)=true then (fn0,-1,60)
 else if 0≤(rsN f m f.body).2 then (fn0,(rsN f m f.body).2,61)
 else (⟨f.name,f.ps,f.ls,(rsN f m f.body).1⟩,0,0)
abbrev TU (n:Nat) (m:Nat) (f:Fn) (s:List UInt8):Prop:=okF f∧okB n m f.body
abbrev DR (n:Nat) (m:Nat) (f:Fn) (s:List UInt8):SV:=.tup [.inr (Eo f s m).1.c,.inl (.v (.int .i64 (Eo f s m).2.1)),.inl (.v (.int .i64 (Eo f s m).2.2))]
noncomputable abbrev Ob:ArgC ((Fn)×(List UInt8)×Unit):=(acS (cFn) (acS (cStr) ac0))
abbrev TV (n:Nat) (m:Nat):Prop:=AP Tryz.prog 79 Ob (fun p:(Fn)×(List UInt8)×Unit=>TU n m p.1 p.2.1) (fun p:(Fn)×(List UInt8)×Unit=>DR n m p.1 p.2.1)
theorem cw (n:Nat) (m:Nat):∀p:(Fn)×(List UInt8)×Unit,((fun p:(Fn)×(List UInt8)×Unit=>DR n m p.1 p.2.1) p).names=[]:=by intro p;rfl
noncomputable def KZ {X:Ctx} {w0:World} (n:Nat) (m:Nat) (h:TV n m):Sy.Spec Tryz.prog X w0:=Am 79 Tryz.call79 Ob (fun p:(Fn)×(List UInt8)×Unit=>TU n m p.1 p.2.1) (fun p:(Fn)×(List UInt8)×Unit=>DR n m p.1 p.2.1) (cw n m) h
attribute [local go_sem] Fn.c Ht Jc KW KV fl4 GU Dm Dl Ev fL Fq zFc zVc
theorem Pm (n:Nat) (m:Nat):TV n m:=by
 rintro ⟨f,s,_u⟩ w fz xs hc hfz hl hx
 refine A9 Tryz.func79 rfl w fz [(Fq n m (y_rstmts n m))] [] Ob (fun p:(Fn)×(List UInt8)×Unit=>DR n m p.1 p.2.1) _ xs hfz hl hx (jN rfl) ?_
 clear hx hl hfz xs
 simp only[Tryz.f79]
 obtain⟨⟨hc1,hc2⟩,hc3⟩:=hc
 have hok:okF f:=⟨hc1,hc2⟩
 dsimp only at hc1 hc2 hc3
 cases n0:(f.name==s) with
 |false=>
  have n0':(f.name != s)=true:=by simp[bne,n0]
  have hr:Eo f s m=(fn0,-1,62):=by simp[Eo,n0']
  simp only[↓eB,seval,go_sem,n0,n0']
  try simp only[A1,A2]
  repeat' first|exact ck|with_reducible apply And.intro|intro _
  all_goals first|exact hok|(rename_i h;first|exact oI h|exact nah h)|(rename_i _ h _ g;exact sL h g)|decide|omega|(refine A0 [] ?_;simp only[↓eB,seval,go_sem,bne,DR,hr])
 |true=>
 have n0':(f.name != s)=false:=by simp[bne,n0]
 cases n1:(f.name==KH) with
 |true=>
  have hr:Eo f s m=(fn0,-1,62):=by simp[Eo,n1]
  simp only[KH]at n1
  simp only[↓eB,seval,go_sem,n0,n0',n1]
  try simp only[A1,A2]
  repeat' first|exact ck|with_reducible apply And.intro|intro _
  all_goals first|exact hok|(rename_i h;first|exact oI h|exact nah h)|(rename_i _ h _ g;exact sL h g)|decide|omega|(refine A0 [] ?_;simp only[↓eB,seval,go_sem,bne,DR,hr])
 |false=>
 have hr0:Eo f s m=if M1 [] (f.ps++f.ls)=true then (fn0,-1,60)
  else if 0≤(rsN f m f.body).2 then (fn0,(rsN f m f.body).2,61)
  else (⟨f.name,f.ps,f.ls,(rsN f m f.body).1⟩,0,0):=by simp[Eo,n1,n0']
 simp only[KH]at n1
 simp only[↓eB,seval,go_sem,n0,n0',n1]
 refine⟨⟨fun q h=>(by cases h;rfl),BR.stor,by omega,by omega⟩,⟨fun q h=>(by cases h;rfl),BR.stor,by omega,by omega⟩,M8 (by kernel_rfl),?_⟩
 have hsm:(f.ps++f.ls).length≤4294967295:=by simp only[List.length_append];omega
 refine AH (Y:=Nat) (fun i=>i≤(f.ps++f.ls).length∧M1 ((f.ps++f.ls).take i) ((f.ps++f.ls).drop i)=M1 [] (f.ps++f.ls))
  (fun i=>⟨[(2,true,.one (.p 2 0 0)),(4,true,.one (.p 4 0 0)),(7,true,.one (.s 1000)),(8,true,.one (.v (.int .i64 (i:Int))))],
   [(2,.vec 0 fl4 [f.c]),(4,.vec 0 fl4 [zFc]),(1000,.vec 0 zVc ((f.ps++f.ls).map Vr.c))]⟩)
  (fun i=>(f.ps++f.ls).length-i) 0 ⟨Nat.zero_le _,rfl⟩ ?_ ?_
 ·refine A4 [.mv 27 1000] ?_;simp only[↓eB,seval,go_sem,BR.mv,BR.fn,List.map_append,List.flatMap_append]
 ·rintro i ⟨hi,hJ⟩
  refine Ab [Fq n m (y_rstmts n m)] [] _ _ _ ?_
  generalize hL:f.ps++f.ls=L at hi hJ hsm hr0 ⊢
  cases hx:L[i]? with
  |none=>
   have hi2:L.length≤i:=List.getElem?_eq_none_iff.1 hx
   have h1:=Ao hi2
   rw[List.drop_eq_nil_of_le hi2]at hJ
   have hd:M1 [] L=false:=hJ.symm
   rw[hd,if_neg (by decide)]at hr0
   cases t1:decide (0≤(rsN f m f.body).2) with
   |true=>
    simp only[of_decide_eq_true t1,if_true]at hr0
    simp only[↓eB,seval,go_sem,h1,t1]
    try simp only[A1,A2]
    repeat' first|exact ck|with_reducible apply And.intro|intro _
    all_goals first|exact hok|exact hc3|(rename_i h;first|exact oI h|exact nah h)|(rename_i _ h _ g;exact sL h g)|decide|omega|(refine A0 [] ?_;simp only[↓eB,seval,go_sem,bne,DR,hr0])
   |false=>
    simp only[of_decide_eq_false t1,if_false]at hr0
    simp only[↓eB,seval,go_sem,h1,t1]
    try simp only[A1,A2]
    repeat' first|exact ck|with_reducible apply And.intro|intro _
    all_goals first|exact hok|exact hc3|(rename_i h;first|exact oI h|exact nah h)|(rename_i _ h _ g;exact sL h g)|decide|omega|(refine A0 [] ?_;simp only[↓eB,seval,go_sem,bne,DR,hr0])
  |some x=>
   have hlt:i<L.length:=(List.getElem?_eq_some_iff.1 hx).1
   have h1:=Ah hlt
   have h2:=AX hlt
   have h3:=bg hx
   have h4:=AM (Nat.le_of_lt hlt) (Nat.le_succ_of_le hsm)
   rw[JL hx]at hJ
   simp only[M1]at hJ
   have htk:L.take i++[x]=L.take (i+1):=by rw[List.take_add_one,hx];rfl
   rw[htk]at hJ
   simp only[↓eB,seval,go_sem,h1]
   refine AH (Y:=Nat) (fun j=>j≤i∧(((L.take i).drop j).any (fun u=>u.s==x.s)||M1 (L.take (i+1)) (L.drop (i+1)))=M1 [] L)
    (fun j=>⟨[(2,true,.one (.p 2 0 0)),(4,true,.one (.p 4 0 0)),(7,true,.one (.s 1000)),(8,true,.one (.v (.int .i64 (i:Int)))),(9,true,.one (.v (.int .i64 (j:Int))))],
     [(2,.vec 0 fl4 [f.c]),(4,.vec 0 fl4 [zFc]),(1000,.vec 0 zVc (L.map Vr.c))]⟩)
    (fun j=>i-j) 0 ⟨Nat.zero_le _,hJ⟩ ?_ ?_
   ·refine A4 [] ?_;simp only[↓eB,seval,go_sem,BR.fn]
   ·rintro j ⟨hj,hK⟩
    refine Ab [Fq n m (y_rstmts n m)] [] _ _ _ ?_
    rcases Nat.lt_or_ge j i with hji|hji
    ·have hjL:j<L.length:=Nat.lt_trans hji hlt
     have h5:=Ah hji
     have h6:=AX hjL
     have hy:L[j]?=some L[j]:=List.getElem?_eq_getElem hjL
     have h7:=bg hy
     have h8:=AM (Nat.le_of_lt hjL) (Nat.le_succ_of_le hsm)
     have hd:(L.take i).drop j=L[j]::(L.take i).drop (j+1):=by
      have h9:(L.take i)[j]?=some L[j]:=by rw[List.getElem?_take];simp[hji]
      exact JL h9
     rw[hd,List.any_cons]at hK
     generalize L[j]=y at hy h7 hK
     cases he:(y.s==x.s) with
     |true=>
      rw[he]at hK
      simp only[Bool.true_or]at hK
      rw[← hK,if_pos rfl]at hr0
      simp only[↓eB,seval,go_sem,h5,h2,h6,h3,h7,he,Vr.c]
      try simp only[A1,A2]
      repeat' first|exact ck|with_reducible apply And.intro|intro _
      all_goals first|exact hok|exact hlt|exact hjL|(rename_i h;first|exact oI h|exact nah h)|(rename_i _ h _ g;exact sL h g)|decide|omega|(refine A0 [] ?_;simp only[↓eB,seval,go_sem,bne,DR,hr0])
     |false=>
      rw[he]at hK
      simp only[Bool.false_or]at hK
      simp only[↓eB,seval,go_sem,h5,h2,h6,h3,h7,h8,he,Vr.c]
      try simp only[A1,A2]
      repeat' first|exact ck|with_reducible apply And.intro|intro _
      all_goals try first|exact hlt|exact hjL|(rename_i h;first|exact oI h|exact nah h)|(rename_i _ h _ g;exact sL h g)|decide|omega
      refine⟨j+1,⟨hji,hK⟩,by omega,A4 [] ?_⟩
      simp only[↓eB,seval,go_sem,BR.fn]
    ·have hji':j=i:=Nat.le_antisymm hj hji
     have h5:=Ao hji
     rw[hji',List.drop_eq_nil_of_le (by rw[List.length_take];exact Nat.min_le_left _ _)]at hK
     simp only[List.any_nil,Bool.false_or]at hK
     simp only[↓eB,seval,go_sem,h5,h4]
     refine⟨i+1,⟨hlt,hK⟩,by omega,A4 [] ?_⟩
     simp only[↓eB,seval,go_sem,BR.fn]
end Go.Proofs.YtbiepiggmagfcaaGreatDoor
namespace Go.Proofs.YtbiepiggmagfcaaGreatDoor
open Go Go.Sy Go.RowKit
structure Un where
 s:List UInt8
 t:List UInt8
def Un.c (u:Un):List C:=[.v (.string (bs u.s)),.v (.string (bs u.t))]
abbrev zUc:List C:=[.v (.string (bs [])),.v (.string (bs []))]
theorem iG (u:Un):∀c∈u.c,c.names=[]:=by
 intro c hc
 simp only[Un.c,List.mem_cons,List.not_mem_nil,or_false]at hc
 rcases hc with rfl|rfl<;>rfl
noncomputable def mUn:RowM Un:=KB zUc Un.c iG
theorem cx:mUn.z=zUc:=rfl
theorem cy:mUn.e=Un.c:=rfl
theorem rz (a b:Un) (h:a.c=b.c):a=b:=by
 obtain⟨s,t⟩:=a
 obtain⟨s',t'⟩:=b
 simp only[Un.c,List.cons.injEq,C.v.injEq,Value.string.injEq,and_true]at h
 rw[bs_inj h.1,bs_inj h.2]
theorem yG (l:List Un):∀q,some q∈[some ((zUc,l.map Un.c):MV)]→∀r∈q.2,∀c∈r,c.names=[]:=by
 intro q hq r hr c hc
 simp only[List.mem_singleton,jS]at hq
 subst hq
 obtain⟨u,_,rfl⟩:=List.mem_map.1 hr
 exact iG u c hc
def fl3:List C:=[.v (.bool false),.v (.bool false),.v (.bool false)]
def pgC (l:List Fn):List C:=[.v (.slice none 0 0),.v (.slice none 0 0),.d (.sl zFn (l.map Fn.r))]
theorem sA (f:Fn):Bt [f.c]:=by
 intro r h c hc
 simp only[List.mem_singleton]at h
 subst h
 simp only[Fn.c,List.mem_cons,List.not_mem_nil,or_false]at hc
 rcases hc with rfl|rfl|rfl|rfl<;>rfl
def pgF (u:Un) (m:Nat):List Fn:=
 if ((funF u.t).2.2 != 0)=true then []
 else if ((Eo (funF u.t).1 u.s m).2.2 != 0)=true then []
 else [(Eo (funF u.t).1 u.s m).1]
abbrev ID (n:Nat) (m:Nat) (l:List Un):Prop:=∃u:Un,l=[u]∧(u.s==KH)=false∧Dr u.t∧okF (funF u.t).1∧okB n m (funF u.t).1.body
abbrev IE (n:Nat) (m:Nat) (l:List Un):SV:=.agg (pgC (pgF (l.headD ⟨[],[]⟩) m))
abbrev Ep (n:Nat) (m:Nat) (l:List Un):List (Option MV):=[some (zUc,l.map Un.c)]
noncomputable abbrev Er:ArgM ((List Un)×Unit):=(amS (mUn) am0)
abbrev TW (n:Nat) (m:Nat):Prop:=BD Tryz.prog 44 ((Er).args 0) (Er).mem (fun p:(List Un)×Unit=>ID n m p.1) (fun p:(List Un)×Unit=>IE n m p.1) (fun p:(List Un)×Unit=>Ep n m p.1)
theorem cz (n:Nat) (m:Nat):∀p,(fun p:(List Un)×Unit=>ID n m p.1) p→BA ((Er).mem p).length ((fun p:(List Un)×Unit=>Ep n m p.1) p)=true:=by intro p _;rfl
theorem dA (n:Nat) (m:Nat):∀p,(fun p:(List Un)×Unit=>ID n m p.1) p→AQ ((fun p:(List Un)×Unit=>Ep n m p.1) p).length ((fun p:(List Un)×Unit=>IE n m p.1) p)=true:=by intro p _;first|rfl|exact AK _ _|exact AL _ _|(simp[AQ,Bn,AK,AL];done)
theorem dB (n:Nat) (m:Nat):∀p,(fun p:(List Un)×Unit=>ID n m p.1) p→∀q,some q∈(fun p:(List Un)×Unit=>Ep n m p.1) p→∀r∈q.2,∀c∈r,c.names=[]:=by intro p _;exact yG _
noncomputable def Ka {X:Ctx} {w0:World} (n:Nat) (m:Nat) (h:TW n m):Sy.Spec Tryz.prog X w0:=Be 44 Tryz.call44 (Er) (fun p:(List Un)×Unit=>ID n m p.1) (fun p:(List Un)×Unit=>IE n m p.1) (fun p:(List Un)×Unit=>Ep n m p.1) (cz n m) (dA n m) (dB n m) h
attribute [local go_sem] Fn.c Un.c Ht Jc fl3 fl4 GU cy cx Dm Dl pgC Ev KZ QR zFc zFn
theorem y_Program (n:Nat) (m:Nat):TW n m:=by
 rintro ⟨l,_u⟩ w M I lab fz xs hc hA hl hx
 refine AJ Tryz.func44 rfl _ w M I lab fz [QR,(KZ n m (Pm n m))] [] _ _ _ xs hA hl hx (fun v hv k hk=>by have:=(Er).an 0 ⟨l,_u⟩ v hv k hk;omega) (jN rfl) (jN rfl) ?_
 clear hx hl hA xs
 simp only[Tryz.f44]
 obtain⟨u,rfl,hg,hs,h1,h2⟩:=hc
 simp only[KH]at hg
 have h0:([u]:List Un).headD ⟨[],[]⟩=u:=rfl
 simp only[↓eB,seval,go_sem]
 refine AH (Y:=Nat×List Fn) (fun z=>(z.1=0∧z.2=[])∨(z.1=1∧z.2=pgF u m))
  (fun z=>⟨[(0,true,.one (.s 0)),(2,true,.one (.p 2 0 0)),(3,true,.one (.p 3 0 0)),(4,true,.one (.v (.int .i64 (z.1:Int))))],
   [(0,.vec 0 zUc [u.c]),(2,.vec 0 fl3 [[.v (.slice none 0 0),.v (.slice none 0 0),.v (.slice none 0 0)]]),(3,.vec 0 fl3 [pgC z.2])]⟩)
  (fun z=>1-z.1) (0,[]) (.inl ⟨rfl,rfl⟩) ?_ ?_
 ·refine A4 [.nilr 3 0 2 1000 zFc,.fz 1000] ?_;simp only[↓eB,seval,go_sem]
 ·rintro ⟨i,fs⟩ hJ
  refine Ab [QR,KZ n m (Pm n m)] [] _ _ _ ?_
  dsimp only at hJ
  rcases hJ with⟨rfl,rfl⟩|⟨rfl,rfl⟩
  ·obtain⟨⟨F,a1,r1⟩,hF⟩:∃x,funF u.t=x:=⟨_,rfl⟩
   obtain⟨⟨G,a2,r2⟩,hR⟩:∃x,Eo F u.s m=x:=⟨_,rfl⟩
   rw[hF]at h1 h2
   dsimp only at h1 h2
   cases e1:(r1==0) with
   |false=>
    have e1':(r1 != 0)=true:=by simp[bne,e1]
    have hp:pgF u m=[]:=by unfold pgF;rw[hF];exact if_pos e1'
    simp only[↓eB,seval,go_sem,hg,hF,e1,e1']
    try simp only[A1,A2]
    repeat' first|exact ck|with_reducible apply And.intro|intro _
    all_goals try first|exact hs|(rename_i h;first|exact oI h|exact nah h)|(rename_i _ h _ g;exact sL h g)|decide|omega
    refine⟨(1,[]),.inr ⟨rfl,hp.symm⟩,by decide,A4 [] ?_⟩
    simp only[↓eB,seval,go_sem]
   |true=>
    have e1':(r1 != 0)=false:=by simp[bne,e1]
    cases e2:(r2==0) with
    |false=>
     have e2':(r2 != 0)=true:=by simp[bne,e2]
     have hp:pgF u m=[]:=by unfold pgF;rw[hF];simp only[e1',hR,e2',jB,if_false,if_true]
     simp only[↓eB,seval,go_sem,hg,hF,hR,e1,e1',e2,e2']
     try simp only[A1,A2]
     repeat' first|exact ck|with_reducible apply And.intro|intro _
     all_goals try first|exact hs|exact h1|exact h2|(rename_i h;first|exact oI h|exact nah h)|(rename_i _ h _ g;exact sL h g)|decide|omega
     refine⟨(1,[]),.inr ⟨rfl,hp.symm⟩,by decide,A4 [] ?_⟩
     simp only[↓eB,seval,go_sem]
    |true=>
     have e2':(r2 != 0)=false:=by simp[bne,e2]
     have hp:pgF u m=[G]:=by unfold pgF;rw[hF];simp only[e1',hR,e2',jB,if_false]
     simp only[↓eB,seval,go_sem,hg,hF,hR,e1,e1',e2,e2']
     refine⟨hs,⟨h1,h2⟩,M8 (by kernel_rfl),?_⟩
     refine AH (Y:=Unit) (fun _=>True)
      (fun _=>⟨[(0,true,.one (.s 0)),(2,true,.one (.p 2 0 0)),(3,true,.one (.p 3 0 0)),(4,true,.one (.v (.int .i64 0))),(8,true,.one (.p 8 0 0)),(11,true,.one (.v (.int .i64 0)))],
       [(0,.vec 0 zUc [u.c]),(2,.vec 0 fl3 [[.v (.slice none 0 0),.v (.slice none 0 0),.v (.slice none 0 0)]]),(3,.vec 0 fl3 [pgC []]),(8,.vec 0 fl4 [G.c])]⟩)
      (fun _=>0) () trivial ?_ ?_
     ·refine A4 [] ?_;simp only[↓eB,seval,go_sem]
     ·rintro ⟨⟩ _
      refine Ab [QR,KZ n m (Pm n m)] [] _ _ _ ?_
      simp only[↓eB,seval,go_sem,List.getD_nil]
      refine⟨M8 (by kernel_rfl),⟨fun q h=>(by cases h;rfl),fun r h=>(by cases h)⟩,⟨fun q h=>(by cases h;rfl),sA G⟩,M8 (by kernel_rfl),(1,[G]),.inr ⟨rfl,hp.symm⟩,Nat.lt_succ_self 0,
       BP (t:=⟨[(0,true,.one (.s 0)),(2,true,.one (.p 2 0 0)),(3,true,.one (.p 3 0 0)),(4,true,.one (.v (.int .i64 1)))],
        [(0,.vec 0 zUc [u.c]),(2,.vec 0 fl3 [[.v (.slice none 0 0),.v (.slice none 0 0),.v (.slice none 0 0)]]),(3,.vec 0 fl3 [[.v (.slice none 0 0),.v (.slice none 0 0),.s 99]]),(99,.vec 0 zFc [G.c])]⟩) (A4 [] ?_) (A4 [.fz 99] ?_)⟩
      ·simp only[↓eB,seval,go_sem,Fn.r]
      ·simp only[↓eB,seval,go_sem,Fn.r]
  ·simp only[↓eB,seval,go_sem]
   refine A0 [] ?_;simp only[↓eB,seval,go_sem,bne,IE,Ep,h0]
end Go.Proofs.YtbiepiggmagfcaaGreatDoor
namespace Go.Proofs.YtbiepiggmagfcaaGreatDoor
open Go Go.Sy Go.RowKit
theorem ni (s t:List UInt8):mUn.d [.v (.string (bs s)),.v (.string (bs t))]=some ⟨s,t⟩:=Fs rz ⟨s,t⟩
def fnF (s:Int) (b:List Int) (m:Nat):Fn:=(pgF ⟨nmS s,txT s b⟩ m).headD fn0
theorem yH (s:Int):(nmS s==KH)=false:=by
 have h:(nmS s).length≤1:=N2 s
 cases e:(nmS s==KH) with
 |false=>rfl
 |true=>rw[eq_of_beq e]at h;exact absurd h (by decide)
theorem sB (s:Int) (b:List Int):(txT s b).length≤2000000:=by
 have hv:nxV 6 (m0 b)<6:=Int.tmod_lt_of_pos _ (by decide)
 have h1:=Wd (f:=stT 2 s) (fun q=>N4 2 s q) (1+nxV 6 (m0 b)).toNat (txH s) (nxM (m0 b))
 have h2:=bn6 (c:=stL 2) (1+nxV 6 (m0 b)).toNat (by omega)
 have h3:=SO 2 (by decide)
 have h4:=U3 s
 have h5:=Bp (nxM (txB s b).2)
 have h6:(txB s b).1.length≤60+6*200000:=by unfold txB;omega
 unfold txT
 split<;>simp only[jL3]<;>omega
theorem sD (u:Un) (m:Nat):pgF u m=[]∨∃g,pgF u m=[g]:=by
 unfold pgF
 split
 ·exact .inl rfl
 split
 ·exact .inl rfl
 ·exact .inr ⟨_,rfl⟩
abbrev A3K (n:Nat) (m:Nat) (s:Int) (b:List Int):Prop:=0≤s∧okY b∧okF (funF (txT s b)).1∧okB n m (funF (txT s b)).1.body
abbrev WM (n:Nat) (m:Nat) (s:Int) (b:List Int):SV:=.agg (fnF s b m).c
noncomputable abbrev nj:ArgC ((Int)×(List Int)×Unit):=(acS (cInt .i64) (acS (cBy) ac0))
abbrev A3L (n:Nat) (m:Nat):Prop:=AP Tryz.prog 14 nj (fun p:(Int)×(List Int)×Unit=>A3K n m p.1 p.2.1) (fun p:(Int)×(List Int)×Unit=>WM n m p.1 p.2.1)
attribute [local go_sem] Fn.c Fn.r Un.c bR bQ GU ni cy cx Dm Dl pgC Ev Ka QM ZG zBy zFn
theorem A89 (n:Nat) (m:Nat):A3L n m:=by
 rintro ⟨s,b,_u⟩ w fz xs hc hfz hl hx
 refine A9 Tryz.func14 rfl w fz [QM,ZG,(Ka n m (y_Program n m))] [] nj (fun p:(Int)×(List Int)×Unit=>WM n m p.1 p.2.1) _ xs hfz hl hx (jN rfl) ?_
 clear hx hl hfz xs
 simp only[Tryz.f14]
 obtain⟨g0,g1,g2,g3⟩:=hc
 dsimp only at g0 g1 g2 g3
 have hs:Dr (txT s b):=Nat.le_trans (sB s b) (by decide)
 have hc1:∃u:Un,[(⟨nmS s,txT s b⟩:Un)]=[u]∧(u.s==KH)=false∧Dr u.t∧okF (funF u.t).1∧okB n m (funF u.t).1.body:=⟨_,rfl,yH s,hs,g2,g3⟩
 have h0:([⟨nmS s,txT s b⟩]:List Un).headD ⟨[],[]⟩=⟨nmS s,txT s b⟩:=rfl
 rcases sD ⟨nmS s,txT s b⟩ m with hp|⟨G,hp⟩
 ·have hr:fnF s b m=fn0:=by unfold fnF;rw[hp];rfl
  simp only[↓eB,seval,go_sem,h0,hp]
  try simp only[A1,A2]
  repeat' first|exact ck|with_reducible apply And.intro|intro _
  all_goals first|exact g0|exact g1|exact hc1|(rename_i h;first|exact oI h|exact nah h)|(rename_i _ h _ g;exact sL h g)|decide|omega|(refine A0 [] ?_;simp only[↓eB,seval,go_sem,bne,WM,hr])
 ·have hr:fnF s b m=G:=by unfold fnF;rw[hp];rfl
  simp only[↓eB,seval,go_sem,h0,hp]
  try simp only[A1,A2]
  repeat' first|exact ck|with_reducible apply And.intro|intro _
  all_goals first|exact g0|exact g1|exact hc1|(rename_i h;first|exact oI h|exact nah h)|(rename_i _ h _ g;exact sL h g)|decide|omega|(refine A0 [] ?_;simp only[↓eB,seval,go_sem,bne,WM,hr])
end Go.Proofs.YtbiepiggmagfcaaGreatDoor
