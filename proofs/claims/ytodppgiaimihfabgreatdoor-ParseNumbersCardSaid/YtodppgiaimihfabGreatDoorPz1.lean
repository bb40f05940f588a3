/- The chapter's example, parsed. No conditions but those in each statement. -/
import Derived.Test.YtodppgiaimihfabGreatDoorPq15
import Derived.Test.YtodppgiaimihfabGreatDoorAt
import Derived.Test.YtodppgiaimihfabGreatDoorFe0
set_option linter.unusedVariables false
set_option linter.unusedSimpArgs false
namespace Go.Proofs.YtodppgiaimihfabGreatDoor
open Go Go.Sy Go.RowKit
theorem yn_qFunc:∀p:List UInt8×Unit,(yr_qFunc p.1).names=[]:=by intro p;first|rfl|simp[SV.names,C.names]
noncomputable def yp_qFunc {X:Ctx} {w0:World}:Sy.Spec Tryz.prog X w0:=specD 7 Tryz.call7 (acS cStr ac0) (fun p:List UInt8×Unit=>smallB p.1) (fun p=>yr_qFunc p.1) yn_qFunc y_qFunc
theorem yn_qGlobals:∀p:List UInt8×Unit,(yr_qGlobals p.1).names=[]:=by intro p;first|rfl|simp[SV.names,C.names]
noncomputable def yp_qGlobals {X:Ctx} {w0:World}:Sy.Spec Tryz.prog X w0:=specD 14 Tryz.call14 (acS cStr ac0) (fun p:List UInt8×Unit=>smallB p.1) (fun p=>yr_qGlobals p.1) yn_qGlobals y_qGlobals
def zE1:Ex:=.mk 2 0 [] (.mk 1 0 [120] .nil .nil) (.mk 0 1 [] .nil .nil)
theorem zf1:funF [102,110,32,102,40,120,41,32,123,32,114,101,116,117,114,110,32,120,32,43,32,49,59,32,125]=(⟨[102],[⟨[120],false⟩],[],[.mk 9 [] [] zE1 .nil .nil [] [] [] 0]⟩,0,0):=by kernel_rfl
theorem zf2:(funF [102,110,32,102,40,120,41,32,123,32,114,101,116,117,114,110,32,59,32,125]).2.1=17:=by kernel_rfl
theorem zf2':(funF [102,110,32,102,40,120,41,32,123,32,114,101,116,117,114,110,32,59,32,125]).2.2=51:=by kernel_rfl
theorem zg3:gloQ [99,101,108,108,32,99,59,32,97,114,114,97,121,32,97,91,51,93,59]=(⟨[[99]],[⟨[97],3⟩]⟩,0,0):=by kernel_rfl
abbrev yc_known7:Prop:=True
abbrev yr_known7:SV:=.one (.v (.bool true))
set_option maxRecDepth 20000 in set_option maxHeartbeats 4000000 in
theorem y_known7:CallsY Tryz.prog 6 ac0 (fun p:Unit=>yc_known7 ) (fun p:Unit=>yr_known7 ):=by
 rintro _u w fz xs hc hfz hl hx
 refine calls_toL Tryz.func6 rfl w fz [yp_qFunc,yp_qGlobals] [] ac0 (fun p:Unit=>yr_known7 ) _ xs hfz hl hx (Nat.le_of_ble_eq_true rfl) ?_
 clear hx hl hfz xs
 simp only[Tryz.f6]
 have s1:smallB [102,110,32,102,40,120,41,32,123,32,114,101,116,117,114,110,32,120,32,43,32,49,59,32,125]:=by unfold smallB;decide
 have s2:smallB [102,110,32,102,40,120,41,32,123,32,114,101,116,117,114,110,32,59,32,125]:=by unfold smallB;decide
 have s3:smallB [99,101,108,108,32,99,59,32,97,114,114,97,121,32,97,91,51,93,59]:=by unfold smallB;decide
 simp only[↓eB,seval,go_sem,yp_qFunc,yp_qGlobals,ex_mk,ex_nil,Ex.isNil,Fn.c,Gl.d,Gy.r,cSd,zSqD,zGyD,Sm.r,zf1,zf2,zf2',zg3,zE1]
 try simp only[impB,impN]
 repeat' first|exact ck|with_reducible apply And.intro|intro _
 all_goals first|exact s1|exact s2|exact s3|(rename_i h;first|exact oI h|exact nah h)|(rename_i _ h _ g;exact sL h g)|decide|omega|(refine ret_with [] ?_;simp only[↓eB,seval,go_sem,bne,yr_known7])
theorem yn_known7:∀p:Unit,((fun p:Unit=>yr_known7 ) p).names=[]:=by intro p;first|rfl|simp[SV.names,C.names]
noncomputable def yp_known7 {X:Ctx} {w0:World}:Sy.Spec Tryz.prog X w0:=specD 6 Tryz.call6 ac0 (fun p:Unit=>yc_known7 ) (fun p:Unit=>yr_known7 ) yn_known7 y_known7
end Go.Proofs.YtodppgiaimihfabGreatDoor
namespace Go.Proofs.YtodppgiaimihfabGreatDoor
open Go Go.Sy Go.RowKit
theorem rg_split:∀(A B:List Int) (a:Int),A++B=rg a (a+((A++B).length:Int))→A=rg a (a+(A.length:Int))∧B=rg (a+(A.length:Int)) (a+(A.length:Int)+(B.length:Int))
 |[],B,a,h=>by
  refine⟨by simp[rg_nil],?_⟩
  simpa using h
 |x::A,B,a,h=>by
  have e:a+(((x::A)++B).length:Int)=(a+1)+((A++B).length:Int):=by simp only[List.cons_append,List.length_cons];omega
  rw[e,rg_cons (by omega)]at h
  obtain⟨rfl,h⟩:=List.cons.inj h
  obtain⟨h1,h2⟩:=rg_split A B (x+1) h
  have e2:x+((x::A).length:Int)=x+1+(A.length:Int):=by simp only[List.length_cons];omega
  rw[e2]
  refine⟨?_,h2⟩
  rw[rg_cons (by omega),← h1]
mutual
def ndT:Sm→Nat
 | .mk _ _ _ _ _ _ _ th el _=>max (ndL th) (ndL el)+1
def ndL:List Sm→Nat
 |[]=>0
 |s::l=>max (ndT s) (ndL l)
end
theorem ndL_mem:∀{l:List Sm} {s:Sm},s∈l→ndT s≤ndL l
 |x::l,s,h=>by
  simp only[ndL]
  rcases List.mem_cons.1 h with rfl|h
  ·omega
  ·have:=ndL_mem h;omega
theorem alB_len:∀l:List Sm,l.length≤(alB l).length
 |[]=>Nat.zero_le _
 |s::l=>by
  have:=alB_len l
  obtain⟨k,x,y,e,g,cd,ar,th,el,no⟩:=s
  simp only[alB,alS,List.length_append,List.length_cons];omega
abbrev okNu (l:List Sm) (n:Int):Prop:=alB l=rg n (n+((alB l).length:Int))∧0≤n∧n+((alB l).length:Int)≤100000
theorem drop_sm {l:List Sm} {i:Nat} {x:Sm} (h:l[i]?=some x):l.drop i=x::l.drop (i+1):=by
 obtain⟨h1,h2⟩:=List.getElem?_eq_some_iff.1 h
 rw[List.drop_eq_getElem_cons h1,h2]
abbrev yc_numbers (m:Nat) (l:List Sm) (n:Int):Prop:=ndL l<m∧okNu l n
abbrev yr_numbers (m:Nat) (l:List Sm) (n:Int):SV:=.one (.v (.int .i64 (n+((alB l).length:Int))))
noncomputable abbrev ya_numbers:ArgC ((List Sm)×(Int)×Unit):=(acS (cSs) (acS (cInt .i64) ac0))
abbrev yq_numbers (m:Nat):Prop:=CallsY Tryz.prog 10 ya_numbers (fun p:(List Sm)×(Int)×Unit=>yc_numbers m p.1 p.2.1) (fun p:(List Sm)×(Int)×Unit=>yr_numbers m p.1 p.2.1)
theorem yn_numbers (m:Nat):∀p:(List Sm)×(Int)×Unit,((fun p:(List Sm)×(Int)×Unit=>yr_numbers m p.1 p.2.1) p).names=[]:=by intro p;first|rfl|exact ex_names _|exact cd_names _
noncomputable def yg_numbers {X:Ctx} {w0:World} (m:Nat) (h:yq_numbers m):Sy.Spec Tryz.prog X w0:=specD 10 Tryz.call10 ya_numbers (fun p:(List Sm)×(Int)×Unit=>yc_numbers m p.1 p.2.1) (fun p:(List Sm)×(Int)×Unit=>yr_numbers m p.1 p.2.1) (yn_numbers m) h
attribute [local go_sem] Sm.ar Sm.c Sm.cd Sm.e Sm.el Sm.f Sm.k Sm.no Sm.th Sm.x Sm.y cSm_d cSm_e cSs_d cSs_e pairN_o pairO_n sm_r spFn_n
set_option maxRecDepth 20000 in set_option maxHeartbeats 8000000 in
theorem y_numbersS (m:Nat) (hE:yq_numbers m):yq_numbers (m+1):=by
 rintro ⟨l,n,_u⟩ w fz xs hc hfz hl hx
 refine calls_toL Tryz.func10 rfl w fz [(yg_numbers m hE)] [] ya_numbers (fun p:(List Sm)×(Int)×Unit=>yr_numbers (m+1) p.1 p.2.1) _ xs hfz hl hx (Nat.le_of_ble_eq_true rfl) ?_
 clear hx hl hfz xs
 simp only[Tryz.f10]
 obtain⟨hd,hn,h0,h1⟩:=hc
 dsimp only at hd hn h0 h1
 have hll:=alB_len l
 obtain⟨R,hR⟩:∃R,n+((alB l).length:Int)=R:=⟨_,rfl⟩
 rw[hR]at hn h1
 simp only[↓eB,seval,go_sem,bne_self_eq_false,yg_numbers]
 try simp only[impB,impN]
 repeat' (first|exact ck|with_reducible apply And.intro)
 all_goals try first|exact hll|decide|omega
 refine loop_ok (Y:=Nat×Int) (fun y=>y.1≤l.length∧alB (l.drop y.1)=rg y.2 (y.2+((alB (l.drop y.1)).length:Int))∧y.2+((alB (l.drop y.1)).length:Int)=R∧0≤y.2)
  (fun y=>⟨[(0,true,.one (.d (.sl zSm (l.map Sm.r)))),(1,true,.one (.v (.int .i64 y.2))),(5,true,.one (.v (.int .i64 (y.1:Int))))],[]⟩)
  (fun y=>l.length-y.1) (0,n) ⟨Nat.zero_le _,by rw[List.drop_zero,hR];exact hn,by rw[List.drop_zero];exact hR,h0⟩ ?_ ?_
 ·refine to_with [] ?_;simp only[↓eB,seval,go_sem,bne_self_eq_false]
 ·rintro ⟨i,c⟩ ⟨hi,hA,hS,hc0⟩
  refine vc_ok [yg_numbers m hE] [] _ _ _ ?_
  dsimp only at hi hA hS hc0
  cases hx:l[i]? with
  |none=>
   have b0:=List.getElem?_eq_none_iff.1 hx
   have b1:=natI_ge b0
   have e:c=R:=by
    rw[List.drop_eq_nil_of_le b0]at hS
    simpa [alB] using hS
   simp only[↓eB,seval,go_sem,bne_self_eq_false,yg_numbers,b1]
   try simp only[impB,impN]
   repeat' first|exact ck|with_reducible apply And.intro|intro _
   all_goals first|exact trivial|(rename_i h;first|exact oI h|exact nah h)|(rename_i _ h _ g;exact sL h g)|decide|omega|(refine ret_with [] ?_;simp only[↓eB,seval,go_sem,bne,yr_numbers,hR,e])
  |some s=>
   have hil:i<l.length:=(List.getElem?_eq_some_iff.1 hx).1
   have b1:=natI_lt hil
   have b2:=natI_ltp hil
   have b3:=smr_ac hx
   have b4:=natI_succ (n:=l.length) hi (by omega)
   have hm:=ndL_mem (List.mem_of_getElem? hx)
   rw[drop_sm hx]at hA hS
   obtain⟨k,x,y,e,g,cd,ar,th,el,no⟩:=s
   simp only[ndT]at hm
   have eA:alB ((.mk k x y e g cd ar th el no:Sm)::l.drop (i+1))=[no]++(alB th++(alB el++alB (l.drop (i+1)))):=by simp[alB,alS]
   rw[eA]at hA hS
   obtain⟨a1,a2⟩:=rg_split _ _ _ hA
   have a1:[no]=rg c (c+1):=a1
   rw[rg_cons (by omega),rg_nil]at a1
   obtain rfl:no=c:=(List.cons.inj a1).1
   have a2:alB th++(alB el++alB (l.drop (i+1)))=rg (no+1) (no+1+((alB th++(alB el++alB (l.drop (i+1)))).length:Int)):=a2
   obtain⟨a3,a4⟩:=rg_split _ _ _ a2
   obtain⟨a5,a6⟩:=rg_split _ _ _ a4
   simp only[List.length_append,List.length_cons,List.length_nil]at hS
   have q1:yc_numbers m th (no+1):=⟨by omega,a3,by omega,by omega⟩
   have q2:yc_numbers m el (no+1+((alB th).length:Int)):=⟨by omega,a5,by omega,by omega⟩
   have w1:IntKind.i64.wrap (no+1)=no+1:=wrap_i64 (by omega) (by omega)
   simp only[↓eB,seval,go_sem,bne_self_eq_false,yg_numbers,b1,b2,b3,b4,w1,zSm_ln]
   try simp only[impB,impN]
   repeat' (first|exact ck|with_reducible apply And.intro)
   all_goals try first|exact hil|exact q1|exact q2|decide|omega
   refine⟨(i+1,no+1+((alB th).length:Int)+((alB el).length:Int)),⟨hil,a6,by dsimp only;omega,by dsimp only;omega⟩,by dsimp only;omega,to_with [] ?_⟩
   simp only[↓eB,seval,go_sem,bne_self_eq_false]
theorem y_numbers:∀m:Nat,yq_numbers m
 |0=>by
  rintro ⟨l,n,_u⟩ w fz xs hc hfz hl hx
  exact absurd hc.1 (Nat.not_lt_zero _)
 |m+1=>y_numbersS m (y_numbers m)
end Go.Proofs.YtodppgiaimihfabGreatDoor
