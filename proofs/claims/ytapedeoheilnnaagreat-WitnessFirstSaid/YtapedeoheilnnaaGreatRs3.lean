/- Statements of a function: names by kind. No conditions but those in each statement. -/
import Derived.Test.YtapedeoheilnnaaGreatRs1
import Derived.Test.YtapedeoheilnnaaGreatPa9
import Derived.Test.YtapedeoheilnnaaGreatMi0
import Derived.Test.YtapedeoheilnnaaGreatPa7
set_option linter.all false
set_option maxRecDepth 20000
set_option maxHeartbeats 8000000
open List (length_map map_append)
namespace Go.Proofs.YtapedeoheilnnaaGreat
open Go Go.Sy Go.RowKit
theorem s7{P:Prop}(h:P:=by
 repeat refine AX ?_
 refine A1 [] ?_;simp only[seval,go_sem,bne,IW,hr0,A8,A9,DI,DJ,Gr,AM,A4,A5,AF]):P:=h
theorem AAa{P:Prop}(h:P:=by
 repeat refine AX ?_
 refine A1 [] ?_;simp only[seval,go_sem,bne,Kw,<- g3]):P:=h
def Sm.wi:Sm->List Sm->List Sm->Sm
 | .mk k x y e g cd ar _ _ no,th,el=>.mk k x y e g cd ar th el no
def rsW(h:List Sm->List Sm×Int)(f:Fn):List Sm->List Sm->List Sm×Int
 |out,[]=>(out,-1)
 |out,s::r=>
  if (rsS f s).2=true then
   if 0<=(h (rsS f s).1.th).2 then ([],(h (rsS f s).1.th).2)
   else if 0<=(h (rsS f s).1.el).2 then ([],(h (rsS f s).1.el).2)
   else rsW h f (out++[(rsS f s).1.wi (h (rsS f s).1.th).1 (h (rsS f s).1.el).1]) r
  else ([],s.no)
def rsN(f:Fn):Nat->List Sm->List Sm×Int
 |0=>λ_=>([],-1)
 |m+1=>rsW (rsN f m) f []
theorem W4(f:Fn)(s:Sm):((rsS f s).1.th=s.th∨(rsS f s).1.th=[])/\((rsS f s).1.el=s.el∨(rsS f s).1.el=[]):=by
 obtain⟨k,x,y,e,g,cd,ar,th,el,no⟩:=s
 simp only[rsS]
 repeat' split
 all_goals simp[Sm.th,Sm.el]
theorem A01{l:List Sm}{i:Nat}{x:Sm}(h:l[i]?=some x)(z:List D):(l.map Sm.r).getD i z=x.r:=by simp[List.getD,h]
abbrev kL(n:Nat)(m:Nat)(f:Fn)(l:List Sm):Prop:=okF f/\okB n m l
abbrev Kw(n:Nat)(m:Nat)(f:Fn)(l:List Sm):SV:=.tup [.inl (.d (.sl zSm ((rsN f m l).1.map Sm.r))),.inl (.v (.int .i64 (rsN f m l).2))]
noncomputable abbrev SU:ArgC ((Fn)×(List Sm)×Unit):=(acS (cFn) (acS (cSs) ac0))
abbrev P7(n:Nat)(m:Nat):Prop:=Ca Tryz.prog 67 SU (λp:(Fn)×(List Sm)×Unit=>kL n m p.1 p.2.1) (λp:(Fn)×(List Sm)×Unit=>Kw n m p.1 p.2.1)
noncomputable def Da{X:Ctx}{w0:World}(n:Nat)(m:Nat)(h:P7 n m):Sy.Spec Tryz.prog X w0:=Dq 67 Tryz.call67 SU _ _ KF3 h
section
attribute [local go_sem] Fn.c
theorem kM(n:Nat)(m:Nat)(hu:P7 n m):P7 n (m+1):=by
 rintro ⟨f,l,_u⟩ w fz xs hc hfz hl hx
 refine Bg Tryz.func67 rfl w fz [(Ja n (y_rstmt n)),(Da n m hu)] [] SU (λp:(Fn)×(List Sm)×Unit=>Kw n (m+1) p.1 p.2.1) _ xs hfz hl hx (jN rfl) ?_
 clear hx hl hfz xs
 simp only[Tryz.f67]
 obtain⟨hc1,hc2⟩:=hc
 dsimp only at hc1 hc2
 obtain⟨hc2,hc3⟩:=hc2
 simp only[seval,go_sem,Ja,Da,A8,A9,CJ,CK,DI,DJ,Sm.c,Sm.k,Sm.x,Sm.y,Sm.e,Sm.f,Sm.cd,Sm.ar,Sm.th,Sm.el,Sm.no,Fx,AM,A4,A5,AF,CE]
 have sp:∀s∈l,okB n m (rsS f s).1.th/\okB n m (rsS f s).1.el:=λs hs=>by
  obtain⟨_,h1,h2⟩:=hc3 s hs
  have h3:=W4 f s
  refine⟨?_,?_⟩
  .rcases h3.1 with h|h<;>rw[h]
   .exact h1
   exact Sz h1
  rcases h3.2 with h|h<;>rw[h]
  .exact h2
  exact Sz h2
 refine AC (Y:=Nat×List Sm) (λz=>z.1<=l.length/\z.2.length=z.1/\rsW (rsN f m) f z.2 (l.drop z.1)=rsN f (m+1) l)
  (λz=>⟨[(1,true,.one (.d (.sl zSm (l.map Sm.r)))),(2,true,.one (.p 2 0 0)),(6,true,.one (.s 1000)),(7,true,.one (.v (.int .i64 (z.1:Int))))],[(2,.vec 0 fl4 [f.c]),(1000,.vec 0 zSc (z.2.map Sm.c))]⟩)
  (λz=>l.length-z.1) (0,[]) ⟨Nat.zero_le _,rfl,rfl⟩ ?_ ?_
 .refine A2 [.nil 6 1000 zSc] ?_;simp only[seval,go_sem,zSc,fl4]
 rintro ⟨i,out⟩ ⟨g1,g2,g3⟩
 refine AP [Ja n (y_rstmt n),Da n m hu] [] _ _ _ ?_
 dsimp only at g1 g2 g3
 cases hx:l[i]? with
 |none=>
  have hi2:l.length<=i:=List.getElem?_eq_none_iff.1 hx
  have h1:=Ai hi2
  rw[List.drop_eq_nil_of_le hi2]at g3
  have hr:rsN f (m+1) l=(out,-1):=g3.symm
  simp only[seval,go_sem,Ja,Da,A8,A9,CJ,CK,DI,DJ,Sm.c,Sm.k,Sm.x,Sm.y,Sm.e,Sm.f,Sm.cd,Sm.ar,Sm.th,Sm.el,Sm.no,Fx,AM,A4,A5,AF,CE,h1,fl4,zSc]
  refine A1 [.fz 1000] ?_;simp only[seval,go_sem,bne,Kw,hr,zSm,zSc,Hk.ds,Hk.fz]
 |some x=>
 obtain⟨ka,xa,ya,ea,fa,ca,aa,ta,la,na⟩:=x
 have hlt:i<l.length:=(List.getElem?_eq_some_iff.1 hx).1
 have hxm:Sm.mk ka xa ya ea fa ca aa ta la na∈l:=List.mem_of_getElem? hx
 have h1:=Ah hlt
 have h2:=GU hlt
 have h3:=A01 hx
 have h4:=FH g1 (by omega)
 obtain⟨q1,q2,q3⟩:=hc3 _ hxm
 obtain⟨q4,q5⟩:=sp _ hxm
 rw[BF hx]at g3
 simp only[rsW]at g3
 obtain⟨⟨⟨k,x1,y1,e1,e2,cd,ar,th,el,no⟩,b⟩,hs⟩:∃a,rsS f (.mk ka xa ya ea fa ca aa ta la na)=a:=⟨_,rfl⟩
 rw[hs]at g3 q4 q5
 dsimp only[Sm.th,Sm.el,Sm.wi,Sm.no]at g3 q4 q5
 cases b with
 |false=>
  rw[if_neg (by decide)]at g3
  simp only[seval,go_sem,Ja,Da,A8,A9,CJ,CK,DI,DJ,Sm.c,Sm.k,Sm.x,Sm.y,Sm.e,Sm.f,Sm.cd,Sm.ar,Sm.th,Sm.el,Sm.no,Fx,AM,A4,A5,AF,CE,h1,h2,h3,hs,fl4,zSc]
  exact AAa
 |true=>
 rw[if_pos rfl]at g3
 cases t1:decide (0<=(rsN f m th).2) with
 |true=>
  simp only[of_decide_eq_true t1,if_true]at g3
  simp only[seval,go_sem,Ja,Da,A8,A9,CJ,CK,DI,DJ,Sm.c,Sm.k,Sm.x,Sm.y,Sm.e,Sm.f,Sm.cd,Sm.ar,Sm.th,Sm.el,Sm.no,Fx,AM,A4,A5,AF,CE,h1,h2,h3,hs,t1,fl4,zSc]
  exact AAa
 |false=>
 simp only[of_decide_eq_false t1,if_false]at g3
 cases t2:decide (0<=(rsN f m el).2) with
 |true=>
  simp only[of_decide_eq_true t2,if_true]at g3
  simp only[seval,go_sem,Ja,Da,A8,A9,CJ,CK,DI,DJ,Sm.c,Sm.k,Sm.x,Sm.y,Sm.e,Sm.f,Sm.cd,Sm.ar,Sm.th,Sm.el,Sm.no,Fx,AM,A4,A5,AF,CE,h1,h2,h3,hs,t1,t2,fl4,zSc]
  exact AAa
 |false=>
 simp only[of_decide_eq_false t2,if_false]at g3
 simp only[seval,go_sem,Ja,Da,A8,A9,CJ,CK,DI,DJ,Sm.c,Sm.k,Sm.x,Sm.y,Sm.e,Sm.f,Sm.cd,Sm.ar,Sm.th,Sm.el,Sm.no,Fx,AM,A4,A5,AF,CE,h1,h2,h3,h4,hs,t1,t2,fl4,zSc,Hk.fn]
 repeat refine AX ?_
 refine⟨(i+1,out++[.mk k x1 y1 e1 e2 cd ar (rsN f m th).1 (rsN f m el).1 no]),⟨hlt,by simp[g2],g3⟩,by simp only;omega,
  BU (t:=⟨[(1,true,.one (.d (.sl zSm (l.map Sm.r)))),(2,true,.one (.p 2 0 0)),(6,true,.one (.s 62)),(7,true,.one (.v (.int .i64 ((i+1:Nat):Int))))],[(2,.vec 0 fl4 [f.c]),(62,.vec 0 zSc ((out++[Sm.mk k x1 y1 e1 e2 cd ar (rsN f m th).1 (rsN f m el).1 no]).map Sm.c))]⟩) (A2 [] ?_) (A2 [.mv 62 1000] ?_)⟩
 .simp only[seval,go_sem,zSc,fl4,Hk.fn,List.flatMap_append,map_append,Sm.c,Sm.k,Sm.x,Sm.y,Sm.e,Sm.f,Sm.cd,Sm.ar,Sm.th,Sm.el,Sm.no]
 simp only[seval,go_sem,zSc,fl4,Hk.fn,Hk.mv]
end
open Go Go.Sy Go.RowKit
theorem y_rstmts(n:Nat):∀m:Nat,P7 n m
 |0=>by
  rintro ⟨f,e,_u⟩ w fz xs hc hfz hl hx
  exact hc.2.elim
 |m+1=>kM n m (y_rstmts n m)
def OM:List Vr->List Vr->Bool
 |_,[]=>false
 |d,v::r=>d.any (λu=>u.s==v.s)||OM (d++[v]) r
def gloB:List UInt8:=[103,108,111,98,97,108,115]
def zFc:List C:=[.v (.string (bs [])),.v (.slice none 0 0),.v (.slice none 0 0),.v (.slice none 0 0)]
theorem A4a:zT zFc=none:=rfl
attribute [go_sem] A4a
def IV(f:Fn)(s:List UInt8)(m:Nat):Fn×Int×Int:=
 if (f.name != s||f.name==gloB)=true then (fn0,-1,62)
 else if OM [] (f.ps++f.ls)=true then (fn0,-1,60)
 else if 0<=(rsN f m f.body).2 then (fn0,(rsN f m f.body).2,61)
 else (⟨f.name,f.ps,f.ls,(rsN f m f.body).1⟩,0,0)
abbrev gI(n:Nat)(m:Nat)(f:Fn)(s:List UInt8):Prop:=okF f/\okB n m f.body
abbrev IW(n:Nat)(m:Nat)(f:Fn)(s:List UInt8):SV:=.tup [.inr (IV f s m).1.c,.inl (.v (.int .i64 (IV f s m).2.1)),.inl (.v (.int .i64 (IV f s m).2.2))]
noncomputable abbrev RI:ArgC ((Fn)×(List UInt8)×Unit):=(acS (cFn) (acS (cStr) ac0))
abbrev W5(n:Nat)(m:Nat):Prop:=Ca Tryz.prog 43 RI (λp:(Fn)×(List UInt8)×Unit=>gI n m p.1 p.2.1) (λp:(Fn)×(List UInt8)×Unit=>IW n m p.1 p.2.1)
noncomputable def Ej{X:Ctx}{w0:World}(n:Nat)(m:Nat)(h:W5 n m):Sy.Spec Tryz.prog X w0:=Dq 43 Tryz.call43 RI _ _ KF3 h
section
attribute [local go_sem] Fn.c
theorem P8(n:Nat)(m:Nat):W5 n m:=by
 rintro ⟨f,s,_u⟩ w fz xs hc hfz hl hx
 refine Bg Tryz.func43 rfl w fz [(Da n m (y_rstmts n m))] [] RI (λp:(Fn)×(List UInt8)×Unit=>IW n m p.1 p.2.1) _ xs hfz hl hx (jN rfl) ?_
 clear hx hl hfz xs
 simp only[Tryz.f43]
 obtain⟨⟨hc1,hc2⟩,hc3⟩:=hc
 have hok:okF f:=⟨hc1,hc2⟩
 dsimp only at hc1 hc2 hc3
 cases n0:(f.name==s) with
 |false=>
  have n0':(f.name != s)=true:=by simp[bne,n0]
  have hr:IV f s m=(fn0,-1,62):=by simp[IV,n0']
  simp only[seval,go_sem,Da,A8,A9,DI,DJ,Gr,AM,A4,A5,AF,n0,n0']
  repeat refine AX ?_
  refine A1 [] ?_;simp only[seval,go_sem,bne,IW,hr,A8,A9,DI,DJ,Gr,AM,A4,A5,AF]
 |true=>
 have n0':(f.name != s)=false:=by simp[bne,n0]
 cases n1:(f.name==gloB) with
 |true=>
  have hr:IV f s m=(fn0,-1,62):=by simp[IV,n1]
  simp only[gloB]at n1
  simp only[seval,go_sem,Da,A8,A9,DI,DJ,Gr,AM,A4,A5,AF,n0,n0',n1]
  repeat refine AX ?_
  refine A1 [] ?_;simp only[seval,go_sem,bne,IW,hr,A8,A9,DI,DJ,Gr,AM,A4,A5,AF]
 |false=>
 have hr0:IV f s m=if OM [] (f.ps++f.ls)=true then (fn0,-1,60)
  else if 0<=(rsN f m f.body).2 then (fn0,(rsN f m f.body).2,61)
  else (⟨f.name,f.ps,f.ls,(rsN f m f.body).1⟩,0,0):=by simp[IV,n1,n0']
 simp only[gloB]at n1
 simp only[seval,go_sem,Da,A8,A9,DI,DJ,Gr,AM,A4,A5,AF,n0,n0',n1]
 refine⟨⟨λq h=>(by cases h;rfl),Dd.stor,by omega,by omega⟩,⟨λq h=>(by cases h;rfl),Dd.stor,by omega,by omega⟩,Bn (by kernel_rfl),?_⟩
 have hsm:(f.ps++f.ls).length<=4294967295:=by simp only[List.length_append];omega
 refine AC (Y:=Nat) (λi=>i<=(f.ps++f.ls).length/\OM ((f.ps++f.ls).take i) ((f.ps++f.ls).drop i)=OM [] (f.ps++f.ls))
  (λi=>⟨[(2,true,.one (.p 2 0 0)),(4,true,.one (.p 4 0 0)),(7,true,.one (.s 1000)),(8,true,.one (.v (.int .i64 (i:Int))))],
   [(2,.vec 0 fl4 [f.c]),(4,.vec 0 fl4 [zFc]),(1000,.vec 0 zVc ((f.ps++f.ls).map Vr.c))]⟩)
  (λi=>(f.ps++f.ls).length-i) 0 ⟨Nat.zero_le _,rfl⟩ ?_ ?_
 .refine A2 [.mv 27 1000] ?_;simp only[seval,go_sem,fl4,zFc,Dd.mv,Dd.fn,zVc,map_append,List.flatMap_append]
 rintro i ⟨hi,hJ⟩
 refine AP [Da n m (y_rstmts n m)] [] _ _ _ ?_
 generalize hL:f.ps++f.ls=L at hi hJ hsm hr0 ⊢
 cases hx:L[i]? with
 |none=>
  have hi2:L.length<=i:=List.getElem?_eq_none_iff.1 hx
  have h1:=Ai hi2
  rw[List.drop_eq_nil_of_le hi2]at hJ
  have hd:OM [] L=false:=hJ.symm
  rw[hd,if_neg (by decide)]at hr0
  cases t1:decide (0<=(rsN f m f.body).2) with
  |true=>
   simp only[of_decide_eq_true t1,if_true]at hr0
   simp only[seval,go_sem,Da,A8,A9,DI,DJ,Gr,AM,A4,A5,AF,h1,t1,fl4,zFc,zVc]
   exact s7
  |false=>
  simp only[of_decide_eq_false t1,if_false]at hr0
  simp only[seval,go_sem,Da,A8,A9,DI,DJ,Gr,AM,A4,A5,AF,h1,t1,fl4,zFc,zVc]
  exact s7
 |some x=>
 have hlt:i<L.length:=(List.getElem?_eq_some_iff.1 hx).1
 have h1:=Ah hlt
 have h2:=GU hlt
 have h3:=fG hx
 have h4:=FH (Nat.le_of_lt hlt) (Nat.le_succ_of_le hsm)
 rw[BF hx]at hJ
 simp only[OM]at hJ
 have htk:L.take i++[x]=L.take (i+1):=by rw[List.take_add_one,hx];rfl
 rw[htk]at hJ
 simp only[seval,go_sem,Da,A8,A9,DI,DJ,Gr,AM,A4,A5,AF,h1,fl4,zFc,zVc]
 refine AC (Y:=Nat) (λj=>j<=i/\(((L.take i).drop j).any (λu=>u.s==x.s)||OM (L.take (i+1)) (L.drop (i+1)))=OM [] L)
  (λj=>⟨[(2,true,.one (.p 2 0 0)),(4,true,.one (.p 4 0 0)),(7,true,.one (.s 1000)),(8,true,.one (.v (.int .i64 (i:Int)))),(9,true,.one (.v (.int .i64 (j:Int))))],
   [(2,.vec 0 fl4 [f.c]),(4,.vec 0 fl4 [zFc]),(1000,.vec 0 zVc (L.map Vr.c))]⟩)
  (λj=>i-j) 0 ⟨Nat.zero_le _,hJ⟩ ?_ ?_
 .refine A2 [] ?_;simp only[seval,go_sem,fl4,zFc,Dd.fn,zVc]
 rintro j ⟨hj,hK⟩
 refine AP [Da n m (y_rstmts n m)] [] _ _ _ ?_
 rcases Nat.lt_or_ge j i with hji|hji
 .have hjL:j<L.length:=Nat.lt_trans hji hlt
  have h5:=Ah hji
  have h6:=GU hjL
  have hy:L[j]?=some L[j]:=List.getElem?_eq_getElem hjL
  have h7:=fG hy
  have h8:=FH (Nat.le_of_lt hjL) (Nat.le_succ_of_le hsm)
  have hd:(L.take i).drop j=L[j]::(L.take i).drop (j+1):=by
   have h9:(L.take i)[j]?=some L[j]:=by rw[List.getElem?_take];simp[hji]
   exact BF h9
  rw[hd,List.any_cons]at hK
  generalize L[j]=y at hy h7 hK
  cases he:(y.s==x.s) with
  |true=>
   rw[he]at hK
   simp only[Bool.true_or]at hK
   rw[<- hK,if_pos rfl]at hr0
   simp only[seval,go_sem,Da,A8,A9,DI,DJ,Gr,AM,A4,A5,AF,h5,h2,h6,h3,h7,he,fl4,zFc,zVc,Vr.c]
   exact s7
  |false=>
  rw[he]at hK
  simp only[Bool.false_or]at hK
  simp only[seval,go_sem,Da,A8,A9,DI,DJ,Gr,AM,A4,A5,AF,h5,h2,h6,h3,h7,h8,he,fl4,zFc,zVc,Vr.c]
  repeat refine AX ?_
  refine⟨j+1,⟨hji,hK⟩,by omega,A2 [] ?_⟩
  simp only[seval,go_sem,fl4,zFc,Dd.fn,zVc]
 have hji':j=i:=Nat.le_antisymm hj hji
 have h5:=Ai hji
 rw[hji',List.drop_eq_nil_of_le (by rw[List.length_take];exact Nat.min_le_left _ _)]at hK
 simp only[List.any_nil,Bool.false_or]at hK
 simp only[seval,go_sem,Da,A8,A9,DI,DJ,Gr,AM,A4,A5,AF,h5,h4,fl4,zFc,zVc]
 refine⟨i+1,⟨hlt,hK⟩,by omega,A2 [] ?_⟩
 simp only[seval,go_sem,fl4,zFc,Dd.fn,zVc]
end
open Go Go.Sy Go.RowKit
structure Un where
 s:List UInt8
 t:List UInt8
def Un.c(u:Un):List C:=[.v (.string (bs u.s)),.v (.string (bs u.t))]
abbrev zUc:List C:=[.v (.string (bs [])),.v (.string (bs []))]
theorem jG(u:Un):∀c∈u.c,c.names=[]:=by
 intro c hc
 simp only[Un.c,List.mem_cons,List.not_mem_nil,or_false]at hc
 rcases hc with rfl|rfl<;>rfl
noncomputable def mUn:RowM Un:=MP zUc Un.c jG
theorem LF:mUn.z=zUc:=rfl
theorem LG:mUn.e=Un.c:=rfl
theorem dO(a b:Un)(h:a.c=b.c):a=b:=by
 obtain⟨s,t⟩:=a
 obtain⟨s',t'⟩:=b
 simp only[Un.c,List.cons.injEq,C.v.injEq,Value.string.injEq,and_true]at h
 rw[bs_inj h.1,bs_inj h.2]
theorem yr(l:List Un):∀q,some q∈[some ((zUc,l.map Un.c):MV)]->∀r∈q.2,∀c∈r,c.names=[]:=by
 intro q hq r hr c hc
 simp only[List.mem_singleton,jS]at hq
 subst hq
 obtain⟨u,_,rfl⟩:=List.mem_map.1 hr
 exact jG u c hc
def fl3:List C:=[.v (.bool false),.v (.bool false),.v (.bool false)]
def rxG:Nat->Nat->List UInt8->List Tok->List Tok×Int×Int
 |0,_,_,out=>(out,0,0)
 |_+1,_,[],out=>(out,0,0)
 |f+1,i,c::r,out=>
  if blB (c.toNat:Int)=true then rxG f (i+1) r out
  else if ((c.toNat:Int)==35)=true then rxG f (i+Dr nlB (c::r)) ((c::r).drop (Dr nlB (c::r))) out
  else if M3 (c.toNat:Int)=true then (if decide (32<((Dr idB (c::r):Nat):Int))=true then ([],(i:Int),53) else rxG f (i+Dr idB (c::r)) ((c::r).drop (Dr idB (c::r))) (out++[⟨0,(c::r).take (Dr idB (c::r)),(i:Int)⟩]))
  else if F9 (c.toNat:Int)=true then
   (
    if Y8 (c::r)=true then ([],(i:Int),53)
    else if (decide (0<((c::r).drop (Dr F9 (c::r))).length)&&M3 ((((c::r).drop (Dr F9 (c::r))).getD 0 0).toNat:Int)||((c.toNat:Int)==48&&decide (1<((Dr F9 (c::r):Nat):Int))))=true then ([],(i:Int),50)
    else rxG f (i+Dr F9 (c::r)) ((c::r).drop (Dr F9 (c::r))) (out++[⟨1,(c::r).take (Dr F9 (c::r)),(i:Int)⟩]))
  else if (decide (2<=(c::r).length)&&((c::r).take 2==[61,61]||(c::r).take 2==[33,61]||(c::r).take 2==[60,61]||(c::r).take 2==[62,61]||(c::r).take 2==[38,38]||(c::r).take 2==[124,124]))=true then rxG f (i+2) ((c::r).drop 2) (out++[⟨2,(c::r).take 2,(i:Int)⟩])
  else if Oh WQ (c.toNat:Int)=true then rxG f (i+1) r (out++[⟨2,(c::r).take 1,(i:Int)⟩])
  else ([],(i:Int),50)
def kt(t:Tok):Int×List UInt8:=(t.k,t.t)
def Lx(p:List UInt8)(n:Nat)(ts:List (Int×List UInt8)):Prop:=
 ∀(f i:Nat) (r:List UInt8) (out:List Tok),∃o2,o2.map kt=ts/\rxG (f+n) i (p++r) out=rxG f (i+p.length) r (out++o2)
theorem Lx.app{p q:List UInt8}{n m:Nat}{ts us:List (Int×List UInt8)}(h:Lx p n ts)(k:Lx q m us):Lx (p++q) (n+m) (ts++us):=by
 intro f i r out
 obtain⟨o1,a1,a2⟩:=h (f+m) i (q++r) out
 obtain⟨o2,b1,b2⟩:=k f (i+p.length) r (out++o1)
 refine⟨o1++o2,by rw[map_append,a1,b1],?_⟩
 rw[List.append_assoc,show f+(n+m)=f+m+n by omega,a2,b2,List.length_append,Nat.add_assoc,List.append_assoc]
theorem Lx.nil:Lx [] 0 []:=λf i r out=>⟨[],rfl,by simp⟩
abbrev Kt:=Int×List UInt8
structure Sfx(p:Pr)(ts:List Kt):Prop where
 ok:okP p
 e:p.e=0
 t:(p.l.drop p.i.toNat).map kt=ts
section
variable {p:Pr}{k:Int}{t:List UInt8}{ts:List Kt}
theorem Sfx.lt(h:Sfx p ((k,t)::ts)):p.i<(p.l.length:Int):=by
 have:=congrArg List.length h.t
 simp only[length_map,List.length_drop,List.length_cons]at this
 have:=h.ok.1
 omega
theorem Sfx.hd(h:Sfx p ((k,t)::ts)):(tk p).k=k/\(tk p).t=t:=by
 have hlt:=h.lt
 have h0:=h.ok.1
 have hi:p.i.toNat<p.l.length:=by omega
 have e:=h.t
 rw[List.drop_eq_getElem_cons hi,List.map_cons]at e
 have e1:=(List.cons.inj e).1
 have e2:tk p=p.l[p.i.toNat]:=by simp[tk,List.getD,hi]
 rw[e2]
 exact⟨congrArg Prod.fst e1,congrArg Prod.snd e1⟩
theorem Sfx.adv(h:Sfx p ((k,t)::ts)):Sfx (adv p) ts:=by
 have hlt:=h.lt
 have h0:=h.ok.1
 have hi:p.i.toNat<p.l.length:=by omega
 refine⟨(Ey h.ok hlt h.e).ok,h.e,?_⟩
 have e:=h.t
 rw[List.drop_eq_getElem_cons hi,List.map_cons]at e
 have ei:(Go.Proofs.YtapedeoheilnnaaGreat.adv p).i.toNat=p.i.toNat+1:=by rw[J9 h.ok hlt];omega
 show (p.l.drop (Go.Proofs.YtapedeoheilnnaaGreat.adv p).i.toNat).map kt=ts
 rw[ei]
 exact(List.cons.inj e).2
theorem Sfx.isT(h:Sfx p ((k,t)::ts))(u:List UInt8):isT u p=(k != 1&&t==u):=by
 obtain⟨h1,h2⟩:=h.hd
 have h3:=h.lt
 have h4:=h.e
 unfold Go.Proofs.YtapedeoheilnnaaGreat.isT
 rw[h1,h2,h4]
 simp[h3]
theorem Sfx.nameB(h:Sfx p ((k,t)::ts)):nameB p=(k==0&&!KN t):=by
 obtain⟨h1,h2⟩:=h.hd
 have h3:=h.lt
 have h4:=h.e
 unfold Go.Proofs.YtapedeoheilnnaaGreat.nameB
 rw[h1,h2,h4]
 simp[h3]
theorem Sfx.outB(h:Sfx p ((k,t)::ts)):outB p=false:=by
 have h3:=h.lt
 unfold Go.Proofs.YtapedeoheilnnaaGreat.outB
 rw[h.e]
 simp;omega
theorem Sfx.wan(h:Sfx p ((k,t)::ts))(hk:(k != 1)=true):Bd t p=Go.Proofs.YtapedeoheilnnaaGreat.adv p:=by
 unfold Bd
 rw[if_pos (by rw[h.isT,hk];simp)]
theorem Sfx.nam(h:Sfx p ((0,t)::ts))(hw:KN t=false):CI p=Go.Proofs.YtapedeoheilnnaaGreat.adv p:=by
 unfold CI
 rw[if_pos (by rw[h.nameB,hw];rfl)]
theorem Sfx.nil(h:Sfx p []):p.i=(p.l.length:Int):=by
 have:=congrArg List.length h.t
 simp only[length_map,List.length_drop,List.length_nil]at this
 have:=h.ok.1
 have:=h.ok.2.1
 omega
theorem Sfx.len(h:Sfx p ts):(ts.length:Int)=(p.l.length:Int)-p.i:=by
 have:=congrArg List.length h.t
 simp only[length_map,List.length_drop]at this
 have:=h.ok.1
 have:=h.ok.2.1
 omega
end
end Go.Proofs.YtapedeoheilnnaaGreat
