/- Statements of a function: names by kind. No conditions but those in each statement. -/
import Derived.Test.YtjnnmindcbgjhabRs2
set_option linter.unusedVariables false
set_option linter.unusedSimpArgs false
namespace Go.Proofs.Ytjnnmindcbgjhab
open Go Go.Sy Go.RowKit
def Sm.wi:Sm→List Sm→List Sm→Sm
 | .mk k x y e g cd ar _ _ no,th,el=>.mk k x y e g cd ar th el no
def rsW (h:List Sm→List Sm×Int) (f:Fn):List Sm→List Sm→List Sm×Int
 |out,[]=>(out,-1)
 |out,s::r=>
  if (rsS f s).2=true then
   if 0≤(h (rsS f s).1.th).2 then ([],(h (rsS f s).1.th).2)
   else if 0≤(h (rsS f s).1.el).2 then ([],(h (rsS f s).1.el).2)
   else rsW h f (out++[(rsS f s).1.wi (h (rsS f s).1.th).1 (h (rsS f s).1.el).1]) r
  else ([],s.no)
def rsN (f:Fn):Nat→List Sm→List Sm×Int
 |0=>fun _=>([],-1)
 |m+1=>rsW (rsN f m) f []
theorem rsS_th (f:Fn) (s:Sm):((rsS f s).1.th=s.th∨(rsS f s).1.th=[])∧((rsS f s).1.el=s.el∨(rsS f s).1.el=[]):=by
 obtain⟨k,x,y,e,g,cd,ar,th,el,no⟩:=s
 simp only[rsS]
 repeat' split
 all_goals simp[Sm.th,Sm.el]
theorem smr_at {l:List Sm} {i:Nat} {x:Sm} (h:l[i]?=some x) (z:List D):(l.map Sm.r).getD i z=x.r:=by simp[List.getD,h]
abbrev yc_rstmts (n:Nat) (m:Nat) (f:Fn) (l:List Sm):Prop:=okF f∧okB n m l
abbrev yr_rstmts (n:Nat) (m:Nat) (f:Fn) (l:List Sm):SV:=.tup [.inl (.d (.sl zSm ((rsN f m l).1.map Sm.r))),.inl (.v (.int .i64 (rsN f m l).2))]
noncomputable abbrev ya_rstmts:ArgC ((Fn)×(List Sm)×Unit):=(acS (cFn) (acS (cSs) ac0))
abbrev yq_rstmts (n:Nat) (m:Nat):Prop:=CallsY Try.prog 28 ya_rstmts (fun p:(Fn)×(List Sm)×Unit=>yc_rstmts n m p.1 p.2.1) (fun p:(Fn)×(List Sm)×Unit=>yr_rstmts n m p.1 p.2.1)
theorem yn_rstmts (n:Nat) (m:Nat):∀p:(Fn)×(List Sm)×Unit,((fun p:(Fn)×(List Sm)×Unit=>yr_rstmts n m p.1 p.2.1) p).names=[]:=by intro p;rfl
noncomputable def yg_rstmts {X:Ctx} {w0:World} (n:Nat) (m:Nat) (h:yq_rstmts n m):Sy.Spec Try.prog X w0:=specD 28 Try.call28 ya_rstmts (fun p:(Fn)×(List Sm)×Unit=>yc_rstmts n m p.1 p.2.1) (fun p:(Fn)×(List Sm)×Unit=>yr_rstmts n m p.1 p.2.1) (yn_rstmts n m) h
attribute [local go_sem] Fn.c
set_option maxRecDepth 20000 in set_option maxHeartbeats 8000000 in
theorem y_rstmtsS (n:Nat) (m:Nat) (hu:yq_rstmts n m):yq_rstmts n (m+1):=by
 rintro ⟨f,l,_u⟩ w fz xs hc hfz hl hx
 refine calls_toL Try.func28 rfl w fz [(yg_rstmt n (y_rstmt n)),(yg_rstmts n m hu)] [] ya_rstmts (fun p:(Fn)×(List Sm)×Unit=>yr_rstmts n (m+1) p.1 p.2.1) _ xs hfz hl hx (Nat.le_of_ble_eq_true rfl) ?_
 clear hx hl hfz xs
 simp only[Try.f28]
 obtain⟨hc1,hc2⟩:=hc
 dsimp only at hc1 hc2
 obtain⟨hc2,hc3⟩:=hc2
 simp only[↓eB,seval,go_sem,yg_rstmt,yg_rstmts,cFn_e,cFn_d,cSm_e,cSm_d,cSs_e,cSs_d,Sm.c,Sm.k,Sm.x,Sm.y,Sm.e,Sm.f,Sm.cd,Sm.ar,Sm.th,Sm.el,Sm.no,sm_r,fn_eta,pairO_n,pairN_o,spFn_n,ar_map]
 have sp:∀s∈l,okB n m (rsS f s).1.th∧okB n m (rsS f s).1.el:=fun s hs=>by
  obtain⟨_,h1,h2⟩:=hc3 s hs
  have h3:=rsS_th f s
  refine⟨?_,?_⟩
  ·rcases h3.1 with h|h<;>rw[h]
   ·exact h1
   ·exact okB_nil h1
  ·rcases h3.2 with h|h<;>rw[h]
   ·exact h2
   ·exact okB_nil h2
 refine loop_ok (Y:=Nat×List Sm) (fun z=>z.1≤l.length∧z.2.length=z.1∧rsW (rsN f m) f z.2 (l.drop z.1)=rsN f (m+1) l)
  (fun z=>⟨[(1,true,.one (.d (.sl zSm (l.map Sm.r)))),(2,true,.one (.p 2 0 0)),(6,true,.one (.s 1000)),(7,true,.one (.v (.int .i64 (z.1:Int))))],[(2,.vec 0 fl4 [f.c]),(1000,.vec 0 zSc (z.2.map Sm.c))]⟩)
  (fun z=>l.length-z.1) (0,[]) ⟨Nat.zero_le _,rfl,rfl⟩ ?_ ?_
 ·refine to_with [.nil 6 1000 zSc] ?_;simp only[↓eB,seval,go_sem,zSc,fl4]
 ·rintro ⟨i,out⟩ ⟨g1,g2,g3⟩
  refine vc_ok [yg_rstmt n (y_rstmt n),yg_rstmts n m hu] [] _ _ _ ?_
  dsimp only at g1 g2 g3
  cases hx:l[i]? with
  |none=>
   have hi2:l.length≤i:=List.getElem?_eq_none_iff.1 hx
   have h1:=natI_ge hi2
   rw[List.drop_eq_nil_of_le hi2]at g3
   have hr:rsN f (m+1) l=(out,-1):=g3.symm
   simp only[↓eB,seval,go_sem,yg_rstmt,yg_rstmts,cFn_e,cFn_d,cSm_e,cSm_d,cSs_e,cSs_d,Sm.c,Sm.k,Sm.x,Sm.y,Sm.e,Sm.f,Sm.cd,Sm.ar,Sm.th,Sm.el,Sm.no,sm_r,fn_eta,pairO_n,pairN_o,spFn_n,ar_map,h1,fl4,zSc]
   refine ret_with [.fz 1000] ?_;simp only[↓eB,seval,go_sem,bne,yr_rstmts,hr,zSm,zSc,rowsS.ds,rowsS.fz]
  |some x=>
   obtain⟨ka,xa,ya,ea,fa,ca,aa,ta,la,na⟩:=x
   have hlt:i<l.length:=(List.getElem?_eq_some_iff.1 hx).1
   have hxm:Sm.mk ka xa ya ea fa ca aa ta la na∈l:=List.mem_of_getElem? hx
   have h1:=natI_lt hlt
   have h2:=natI_ltp hlt
   have h3:=smr_at hx
   have h4:=natI_succ g1 (by omega)
   obtain⟨q1,q2,q3⟩:=hc3 _ hxm
   obtain⟨q4,q5⟩:=sp _ hxm
   rw[drop_get hx]at g3
   simp only[rsW]at g3
   obtain⟨⟨⟨k,x1,y1,e1,e2,cd,ar,th,el,no⟩,b⟩,hs⟩:∃a,rsS f (.mk ka xa ya ea fa ca aa ta la na)=a:=⟨_,rfl⟩
   rw[hs]at g3 q4 q5
   dsimp only[Sm.th,Sm.el,Sm.wi,Sm.no]at g3 q4 q5
   cases b with
   |false=>
    rw[if_neg (by decide)]at g3
    simp only[↓eB,seval,go_sem,yg_rstmt,yg_rstmts,cFn_e,cFn_d,cSm_e,cSm_d,cSs_e,cSs_d,Sm.c,Sm.k,Sm.x,Sm.y,Sm.e,Sm.f,Sm.cd,Sm.ar,Sm.th,Sm.el,Sm.no,sm_r,fn_eta,pairO_n,pairN_o,spFn_n,ar_map,h1,h2,h3,hs,fl4,zSc]
    try simp only[impB,impN]
    repeat' first|exact ck|with_reducible apply And.intro|intro _
    all_goals first|exact hc1|exact hlt|exact q1|(rename_i h;first|exact oI h|exact nah h)|(rename_i _ h _ g;exact sL h g)|decide|omega|(refine ret_with [] ?_;simp only[↓eB,seval,go_sem,bne,yr_rstmts,← g3])
   |true=>
    rw[if_pos rfl]at g3
    cases t1:decide (0≤(rsN f m th).2) with
    |true=>
     simp only[of_decide_eq_true t1,if_true]at g3
     simp only[↓eB,seval,go_sem,yg_rstmt,yg_rstmts,cFn_e,cFn_d,cSm_e,cSm_d,cSs_e,cSs_d,Sm.c,Sm.k,Sm.x,Sm.y,Sm.e,Sm.f,Sm.cd,Sm.ar,Sm.th,Sm.el,Sm.no,sm_r,fn_eta,pairO_n,pairN_o,spFn_n,ar_map,h1,h2,h3,hs,t1,fl4,zSc]
     try simp only[impB,impN]
     repeat' first|exact ck|with_reducible apply And.intro|intro _
     all_goals first|exact hc1|exact hlt|exact q1|exact q4|(rename_i h;first|exact oI h|exact nah h)|(rename_i _ h _ g;exact sL h g)|decide|omega|(refine ret_with [] ?_;simp only[↓eB,seval,go_sem,bne,yr_rstmts,← g3])
    |false=>
     simp only[of_decide_eq_false t1,if_false]at g3
     cases t2:decide (0≤(rsN f m el).2) with
     |true=>
      simp only[of_decide_eq_true t2,if_true]at g3
      simp only[↓eB,seval,go_sem,yg_rstmt,yg_rstmts,cFn_e,cFn_d,cSm_e,cSm_d,cSs_e,cSs_d,Sm.c,Sm.k,Sm.x,Sm.y,Sm.e,Sm.f,Sm.cd,Sm.ar,Sm.th,Sm.el,Sm.no,sm_r,fn_eta,pairO_n,pairN_o,spFn_n,ar_map,h1,h2,h3,hs,t1,t2,fl4,zSc]
      try simp only[impB,impN]
      repeat' first|exact ck|with_reducible apply And.intro|intro _
      all_goals first|exact hc1|exact hlt|exact q1|exact q4|exact q5|(rename_i h;first|exact oI h|exact nah h)|(rename_i _ h _ g;exact sL h g)|decide|omega|(refine ret_with [] ?_;simp only[↓eB,seval,go_sem,bne,yr_rstmts,← g3])
     |false=>
      simp only[of_decide_eq_false t2,if_false]at g3
      simp only[↓eB,seval,go_sem,yg_rstmt,yg_rstmts,cFn_e,cFn_d,cSm_e,cSm_d,cSs_e,cSs_d,Sm.c,Sm.k,Sm.x,Sm.y,Sm.e,Sm.f,Sm.cd,Sm.ar,Sm.th,Sm.el,Sm.no,sm_r,fn_eta,pairO_n,pairN_o,spFn_n,ar_map,h1,h2,h3,h4,hs,t1,t2,fl4,zSc,rowsS.fn]
      try simp only[impB,impN]
      repeat' first|exact ck|with_reducible apply And.intro|intro _
      all_goals try first|exact hc1|exact hlt|exact q1|exact q4|exact q5|(rename_i h;first|exact oI h|exact nah h)|(rename_i _ h _ g;exact sL h g)|decide|omega
      refine⟨(i+1,out++[.mk k x1 y1 e1 e2 cd ar (rsN f m th).1 (rsN f m el).1 no]),⟨hlt,by simp[g2],g3⟩,by simp only;omega,
       to_trans (t:=⟨[(1,true,.one (.d (.sl zSm (l.map Sm.r)))),(2,true,.one (.p 2 0 0)),(6,true,.one (.s 62)),(7,true,.one (.v (.int .i64 ((i+1:Nat):Int))))],[(2,.vec 0 fl4 [f.c]),(62,.vec 0 zSc ((out++[Sm.mk k x1 y1 e1 e2 cd ar (rsN f m th).1 (rsN f m el).1 no]).map Sm.c))]⟩) (to_with [] ?_) (to_with [.mv 62 1000] ?_)⟩
      ·simp only[↓eB,seval,go_sem,zSc,fl4,rowsS.fn,List.flatMap_append,List.map_append,Sm.c,Sm.k,Sm.x,Sm.y,Sm.e,Sm.f,Sm.cd,Sm.ar,Sm.th,Sm.el,Sm.no]
      ·simp only[↓eB,seval,go_sem,zSc,fl4,rowsS.fn,rowsS.mv]
end Go.Proofs.Ytjnnmindcbgjhab
namespace Go.Proofs.Ytjnnmindcbgjhab
open Go Go.Sy Go.RowKit
theorem y_rstmts (n:Nat):∀m:Nat,yq_rstmts n m
 |0=>by
  rintro ⟨f,e,_u⟩ w fz xs hc hfz hl hx
  exact hc.2.elim
 |m+1=>y_rstmtsS n m (y_rstmts n m)
def dupR:List Vr→List Vr→Bool
 |_,[]=>false
 |d,v::r=>d.any (fun u=>u.s==v.s)||dupR (d++[v]) r
def gloB:List UInt8:=[103,108,111,98,97,108,115]
def zFc:List C:=[.v (.string (bs [])),.v (.slice none 0 0),.v (.slice none 0 0),.v (.slice none 0 0)]
theorem zFc_t:zT zFc=none:=rfl
attribute [go_sem] zFc_t
def resF (f:Fn) (s:List UInt8) (m:Nat):Fn×Int×Int:=
 if (f.name != s||f.name==gloB)=true then (fn0,-1,62)
 else if dupR [] (f.ps++f.ls)=true then (fn0,-1,60)
 else if 0≤(rsN f m f.body).2 then (fn0,(rsN f m f.body).2,61)
 else (⟨f.name,f.ps,f.ls,(rsN f m f.body).1⟩,0,0)
abbrev yc_resolve (n:Nat) (m:Nat) (f:Fn) (s:List UInt8):Prop:=okF f∧okB n m f.body
abbrev yr_resolve (n:Nat) (m:Nat) (f:Fn) (s:List UInt8):SV:=.tup [.inr (resF f s m).1.c,.inl (.v (.int .i64 (resF f s m).2.1)),.inl (.v (.int .i64 (resF f s m).2.2))]
noncomputable abbrev ya_resolve:ArgC ((Fn)×(List UInt8)×Unit):=(acS (cFn) (acS (cStr) ac0))
abbrev yq_resolve (n:Nat) (m:Nat):Prop:=CallsY Try.prog 11 ya_resolve (fun p:(Fn)×(List UInt8)×Unit=>yc_resolve n m p.1 p.2.1) (fun p:(Fn)×(List UInt8)×Unit=>yr_resolve n m p.1 p.2.1)
theorem yn_resolve (n:Nat) (m:Nat):∀p:(Fn)×(List UInt8)×Unit,((fun p:(Fn)×(List UInt8)×Unit=>yr_resolve n m p.1 p.2.1) p).names=[]:=by intro p;rfl
noncomputable def yg_resolve {X:Ctx} {w0:World} (n:Nat) (m:Nat) (h:yq_resolve n m):Sy.Spec Try.prog X w0:=specD 11 Try.call11 ya_resolve (fun p:(Fn)×(List UInt8)×Unit=>yc_resolve n m p.1 p.2.1) (fun p:(Fn)×(List UInt8)×Unit=>yr_resolve n m p.1 p.2.1) (yn_resolve n m) h
attribute [local go_sem] Fn.c
set_option maxRecDepth 20000 in set_option maxHeartbeats 8000000 in
theorem y_resolve (n:Nat) (m:Nat):yq_resolve n m:=by
 rintro ⟨f,s,_u⟩ w fz xs hc hfz hl hx
 refine calls_toL Try.func11 rfl w fz [(yg_rstmts n m (y_rstmts n m))] [] ya_resolve (fun p:(Fn)×(List UInt8)×Unit=>yr_resolve n m p.1 p.2.1) _ xs hfz hl hx (Nat.le_of_ble_eq_true rfl) ?_
 clear hx hl hfz xs
 simp only[Try.f11]
 obtain⟨⟨hc1,hc2⟩,hc3⟩:=hc
 have hok:okF f:=⟨hc1,hc2⟩
 dsimp only at hc1 hc2 hc3
 cases n0:(f.name==s) with
 |false=>
  have n0':(f.name != s)=true:=by simp[bne,n0]
  have hr:resF f s m=(fn0,-1,62):=by simp[resF,n0']
  simp only[↓eB,seval,go_sem,yg_rstmts,cFn_e,cFn_d,cSs_e,cSs_d,vr_map,fn_eta,pairO_n,pairN_o,spFn_n,n0,n0']
  try simp only[impB,impN]
  repeat' first|exact ck|with_reducible apply And.intro|intro _
  all_goals first|exact hok|(rename_i h;first|exact oI h|exact nah h)|(rename_i _ h _ g;exact sL h g)|decide|omega|(refine ret_with [] ?_;simp only[↓eB,seval,go_sem,bne,yr_resolve,hr,cFn_e,cFn_d,cSs_e,cSs_d,vr_map,fn_eta,pairO_n,pairN_o,spFn_n])
 |true=>
 have n0':(f.name != s)=false:=by simp[bne,n0]
 cases n1:(f.name==gloB) with
 |true=>
  have hr:resF f s m=(fn0,-1,62):=by simp[resF,n1]
  simp only[gloB]at n1
  simp only[↓eB,seval,go_sem,yg_rstmts,cFn_e,cFn_d,cSs_e,cSs_d,vr_map,fn_eta,pairO_n,pairN_o,spFn_n,n0,n0',n1]
  try simp only[impB,impN]
  repeat' first|exact ck|with_reducible apply And.intro|intro _
  all_goals first|exact hok|(rename_i h;first|exact oI h|exact nah h)|(rename_i _ h _ g;exact sL h g)|decide|omega|(refine ret_with [] ?_;simp only[↓eB,seval,go_sem,bne,yr_resolve,hr,cFn_e,cFn_d,cSs_e,cSs_d,vr_map,fn_eta,pairO_n,pairN_o,spFn_n])
 |false=>
 have hr0:resF f s m=if dupR [] (f.ps++f.ls)=true then (fn0,-1,60)
  else if 0≤(rsN f m f.body).2 then (fn0,(rsN f m f.body).2,61)
  else (⟨f.name,f.ps,f.ls,(rsN f m f.body).1⟩,0,0):=by simp[resF,n1,n0']
 simp only[gloB]at n1
 simp only[↓eB,seval,go_sem,yg_rstmts,cFn_e,cFn_d,cSs_e,cSs_d,vr_map,fn_eta,pairO_n,pairN_o,spFn_n,n0,n0',n1]
 refine⟨⟨fun q h=>(by cases h;rfl),rowsV.stor,by omega,by omega⟩,⟨fun q h=>(by cases h;rfl),rowsV.stor,by omega,by omega⟩,chk_ok (by kernel_rfl),?_⟩
 have hsm:(f.ps++f.ls).length≤4294967295:=by simp only[List.length_append];omega
 refine loop_ok (Y:=Nat) (fun i=>i≤(f.ps++f.ls).length∧dupR ((f.ps++f.ls).take i) ((f.ps++f.ls).drop i)=dupR [] (f.ps++f.ls))
  (fun i=>⟨[(2,true,.one (.p 2 0 0)),(4,true,.one (.p 4 0 0)),(7,true,.one (.s 1000)),(8,true,.one (.v (.int .i64 (i:Int))))],
   [(2,.vec 0 fl4 [f.c]),(4,.vec 0 fl4 [zFc]),(1000,.vec 0 zVc ((f.ps++f.ls).map Vr.c))]⟩)
  (fun i=>(f.ps++f.ls).length-i) 0 ⟨Nat.zero_le _,rfl⟩ ?_ ?_
 ·refine to_with [.mv 27 1000] ?_;simp only[↓eB,seval,go_sem,fl4,zFc,rowsV.mv,rowsV.fn,zVc,List.map_append,List.flatMap_append]
 ·rintro i ⟨hi,hJ⟩
  refine vc_ok [yg_rstmts n m (y_rstmts n m)] [] _ _ _ ?_
  generalize hL:f.ps++f.ls=L at hi hJ hsm hr0 ⊢
  cases hx:L[i]? with
  |none=>
   have hi2:L.length≤i:=List.getElem?_eq_none_iff.1 hx
   have h1:=natI_ge hi2
   rw[List.drop_eq_nil_of_le hi2]at hJ
   have hd:dupR [] L=false:=hJ.symm
   rw[hd,if_neg (by decide)]at hr0
   cases t1:decide (0≤(rsN f m f.body).2) with
   |true=>
    simp only[of_decide_eq_true t1,if_true]at hr0
    simp only[↓eB,seval,go_sem,yg_rstmts,cFn_e,cFn_d,cSs_e,cSs_d,vr_map,fn_eta,pairO_n,pairN_o,spFn_n,h1,t1,fl4,zFc,zVc]
    try simp only[impB,impN]
    repeat' first|exact ck|with_reducible apply And.intro|intro _
    all_goals first|exact hok|exact hc3|(rename_i h;first|exact oI h|exact nah h)|(rename_i _ h _ g;exact sL h g)|decide|omega|(refine ret_with [] ?_;simp only[↓eB,seval,go_sem,bne,yr_resolve,hr0,cFn_e,cFn_d,cSs_e,cSs_d,vr_map,fn_eta,pairO_n,pairN_o,spFn_n])
   |false=>
    simp only[of_decide_eq_false t1,if_false]at hr0
    simp only[↓eB,seval,go_sem,yg_rstmts,cFn_e,cFn_d,cSs_e,cSs_d,vr_map,fn_eta,pairO_n,pairN_o,spFn_n,h1,t1,fl4,zFc,zVc]
    try simp only[impB,impN]
    repeat' first|exact ck|with_reducible apply And.intro|intro _
    all_goals first|exact hok|exact hc3|(rename_i h;first|exact oI h|exact nah h)|(rename_i _ h _ g;exact sL h g)|decide|omega|(refine ret_with [] ?_;simp only[↓eB,seval,go_sem,bne,yr_resolve,hr0,cFn_e,cFn_d,cSs_e,cSs_d,vr_map,fn_eta,pairO_n,pairN_o,spFn_n])
  |some x=>
   have hlt:i<L.length:=(List.getElem?_eq_some_iff.1 hx).1
   have h1:=natI_lt hlt
   have h2:=natI_ltp hlt
   have h3:=vr_at hx
   have h4:=natI_succ (Nat.le_of_lt hlt) (Nat.le_succ_of_le hsm)
   rw[drop_get hx]at hJ
   simp only[dupR]at hJ
   have htk:L.take i++[x]=L.take (i+1):=by rw[List.take_add_one,hx];rfl
   rw[htk]at hJ
   simp only[↓eB,seval,go_sem,yg_rstmts,cFn_e,cFn_d,cSs_e,cSs_d,vr_map,fn_eta,pairO_n,pairN_o,spFn_n,h1,fl4,zFc,zVc]
   refine loop_ok (Y:=Nat) (fun j=>j≤i∧(((L.take i).drop j).any (fun u=>u.s==x.s)||dupR (L.take (i+1)) (L.drop (i+1)))=dupR [] L)
    (fun j=>⟨[(2,true,.one (.p 2 0 0)),(4,true,.one (.p 4 0 0)),(7,true,.one (.s 1000)),(8,true,.one (.v (.int .i64 (i:Int)))),(9,true,.one (.v (.int .i64 (j:Int))))],
     [(2,.vec 0 fl4 [f.c]),(4,.vec 0 fl4 [zFc]),(1000,.vec 0 zVc (L.map Vr.c))]⟩)
    (fun j=>i-j) 0 ⟨Nat.zero_le _,hJ⟩ ?_ ?_
   ·refine to_with [] ?_;simp only[↓eB,seval,go_sem,fl4,zFc,rowsV.fn,zVc]
   ·rintro j ⟨hj,hK⟩
    refine vc_ok [yg_rstmts n m (y_rstmts n m)] [] _ _ _ ?_
    rcases Nat.lt_or_ge j i with hji|hji
    ·have hjL:j<L.length:=Nat.lt_trans hji hlt
     have h5:=natI_lt hji
     have h6:=natI_ltp hjL
     have hy:L[j]?=some L[j]:=List.getElem?_eq_getElem hjL
     have h7:=vr_at hy
     have h8:=natI_succ (Nat.le_of_lt hjL) (Nat.le_succ_of_le hsm)
     have hd:(L.take i).drop j=L[j]::(L.take i).drop (j+1):=by
      have h9:(L.take i)[j]?=some L[j]:=by rw[List.getElem?_take];simp[hji]
      exact drop_get h9
     rw[hd,List.any_cons]at hK
     generalize L[j]=y at hy h7 hK
     cases he:(y.s==x.s) with
     |true=>
      rw[he]at hK
      simp only[Bool.true_or]at hK
      rw[← hK,if_pos rfl]at hr0
      simp only[↓eB,seval,go_sem,yg_rstmts,cFn_e,cFn_d,cSs_e,cSs_d,vr_map,fn_eta,pairO_n,pairN_o,spFn_n,h5,h2,h6,h3,h7,he,fl4,zFc,zVc,Vr.c]
      try simp only[impB,impN]
      repeat' first|exact ck|with_reducible apply And.intro|intro _
      all_goals first|exact hok|exact hlt|exact hjL|(rename_i h;first|exact oI h|exact nah h)|(rename_i _ h _ g;exact sL h g)|decide|omega|(refine ret_with [] ?_;simp only[↓eB,seval,go_sem,bne,yr_resolve,hr0,cFn_e,cFn_d,cSs_e,cSs_d,vr_map,fn_eta,pairO_n,pairN_o,spFn_n])
     |false=>
      rw[he]at hK
      simp only[Bool.false_or]at hK
      simp only[↓eB,seval,go_sem,yg_rstmts,cFn_e,cFn_d,cSs_e,cSs_d,vr_map,fn_eta,pairO_n,pairN_o,spFn_n,h5,h2,h6,h3,h7,h8,he,fl4,zFc,zVc,Vr.c]
      try simp only[impB,impN]
      repeat' first|exact ck|with_reducible apply And.intro|intro _
      all_goals try first|exact hlt|exact hjL|(rename_i h;first|exact oI h|exact nah h)|(rename_i _ h _ g;exact sL h g)|decide|omega
      refine⟨j+1,⟨hji,hK⟩,by omega,to_with [] ?_⟩
      simp only[↓eB,seval,go_sem,fl4,zFc,rowsV.fn,zVc]
    ·have hji':j=i:=Nat.le_antisymm hj hji
     have h5:=natI_ge hji
     rw[hji',List.drop_eq_nil_of_le (by rw[List.length_take];exact Nat.min_le_left _ _)]at hK
     simp only[List.any_nil,Bool.false_or]at hK
     simp only[↓eB,seval,go_sem,yg_rstmts,cFn_e,cFn_d,cSs_e,cSs_d,vr_map,fn_eta,pairO_n,pairN_o,spFn_n,h5,h4,fl4,zFc,zVc]
     refine⟨i+1,⟨hlt,hK⟩,by omega,to_with [] ?_⟩
     simp only[↓eB,seval,go_sem,fl4,zFc,rowsV.fn,zVc]
end Go.Proofs.Ytjnnmindcbgjhab
