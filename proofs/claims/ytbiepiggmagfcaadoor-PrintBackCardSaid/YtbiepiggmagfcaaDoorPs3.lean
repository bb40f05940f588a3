/- print: a call's line. Conditions: the numbers are of 64 bits, the text is shorter than 10^9 bytes; the table of powers of ten is laid. -/
import Derived.Test.YtbiepiggmagfcaaDoorMc4
set_option linter.unusedVariables false
set_option linter.unusedSimpArgs false
namespace Go.Proofs.YtbiepiggmagfcaaDoor
open Go Go.Sy Go.RowKit
theorem zSs_ds:toDs zSs=some zSD:=rfl
theorem pzAr_ln:zAr.length=3:=rfl
theorem tgT_0:tgtT []=[]:=rfl
theorem tgT_c (a:UInt8) (l:List UInt8):tgtT (a::l)=(a::l)++[32,61,32]:=rfl
theorem arD_at {l:List Ar} {i:Nat} {x:Ar} (h:l[i]?=some x) (z:List D):(l.map Ar.r).getD i z=x.r:=by simp[List.getD,h]
theorem lens_mem:∀{l:List (List UInt8)} {s:List UInt8},s∈l→s.length≤Lib.lens l
 |a::l,s,h=>by
  rcases List.mem_cons.1 h with rfl|h
  ·simp only[Lib.lens,List.map_cons,List.sum_cons];omega
  ·have:=lens_mem h;simp only[Lib.lens,List.map_cons,List.sum_cons]at this ⊢;omega
theorem jn_mem {l:List (List UInt8)} {s:List UInt8} (h:s∈l):s.length≤(jnT l).length:=by
 cases l with
 |nil=>cases h
 |cons a l=>
  have:=lens_mem h
  unfold jnT
  rw[Lib.join_length];omega
def apT (l:List Ar) (i:Nat):List (List UInt8):=(l.take i).map argX
theorem apT_0 (l:List Ar):apT l 0=[]:=rfl
theorem apT_s {l:List Ar} {i:Nat} {x:Ar} (h:l[i]?=some x):apT l i++[argX x]=apT l (i+1):=by
 unfold apT;rw[List.take_add_one,h];simp
theorem apT_all {l:List Ar} {i:Nat} (h:l.length≤i):apT l i=l.map argX:=by unfold apT;rw[List.take_of_length_le h]
theorem apT_len {l:List Ar} {i:Nat} (h:i≤l.length):(apT l i).length=i:=by unfold apT;rw[List.length_map,List.length_take];omega
abbrev yc_call (n:Nat) (b:Bd) (s:Sm):Prop:=b.r.length=1∧0≤dep b∧dep b≤1000000∧(∀a∈s.ar,a.e.dp<n∧okN a.e)∧s.ar.length≤5000∧b.t.length+(lineT (dep b).toNat [tgtT s.x,s.y,[40],jnT (s.ar.map argX),[41,59]]).length≤1000000000
abbrev yr_call (n:Nat) (b:Bd) (s:Sm):SV:=.tup []
abbrev ym_call (n:Nat) (b:Bd) (s:Sm):List (Option MV):=[some (tgN 87 3,[({ b with u:=true,t:=b.t++lineT (dep b).toNat [tgtT s.x,s.y,[40],jnT (s.ar.map argX),[41,59]] }:Bd).c])]
noncomputable abbrev ya_call (n:Nat):ArgN ((Bd)×(Sm)×Unit):=(amB (rBd 87 1) (amD (cSm) am0))
abbrev yq_call (n:Nat):Prop:=CallsN Tryd.prog 87 powT powB (ya_call n).args (ya_call n).mem (fun p:(Bd)×(Sm)×Unit=>yc_call n p.1 p.2.1) (fun p:(Bd)×(Sm)×Unit=>yr_call n p.1 p.2.1) (fun p:(Bd)×(Sm)×Unit=>ym_call n p.1 p.2.1)
theorem yl_call (n:Nat):∀p,(fun p:(Bd)×(Sm)×Unit=>yc_call n p.1 p.2.1) p→lenM ((ya_call n).mem p).length ((fun p:(Bd)×(Sm)×Unit=>ym_call n p.1 p.2.1) p)=true:=by intro p _;rfl
theorem yo_call (n:Nat):∀p,(fun p:(Bd)×(Sm)×Unit=>yc_call n p.1 p.2.1) p→outV ((fun p:(Bd)×(Sm)×Unit=>ym_call n p.1 p.2.1) p).length ((fun p:(Bd)×(Sm)×Unit=>yr_call n p.1 p.2.1) p)=true:=by intro p _;rfl
theorem yn_call (n:Nat):∀p,(fun p:(Bd)×(Sm)×Unit=>yc_call n p.1 p.2.1) p→∀(i:Nat) q,((fun p:(Bd)×(Sm)×Unit=>ym_call n p.1 p.2.1) p)[i]?=some (some q)→∀r∈q.2,∀c∈r,cOK i c:=by intro p _;exact bd_cOK1 _ _
noncomputable def yg_call {X:Ctx} {w0:World} (n:Nat) (h:yq_call n) (hG:StaysN X w0 powT powB):Sy.Spec Tryd.prog X w0:=specN 87 Tryd.call87 powT powB (ya_call n) (fun p:(Bd)×(Sm)×Unit=>yc_call n p.1 p.2.1) (fun p:(Bd)×(Sm)×Unit=>yr_call n p.1 p.2.1) (fun p:(Bd)×(Sm)×Unit=>ym_call n p.1 p.2.1) (yl_call n) (yo_call n) (yn_call n) h hG
attribute [local go_sem] Ar.c Ar.r Sm.ar Sm.c Sm.cd Sm.e Sm.el Sm.f Sm.k Sm.no Sm.th Sm.x Sm.y amB_a amB_m ar_at bd_c1 cEx_d cEx_dp cEx_e cEx_n cSm_d cSm_e decL_ss inK pzAr_ln rBd_e rBd_z rSs_d rSs_e rSs_z sR1 zSD_ln zSs_ds
set_option maxRecDepth 20000 in set_option maxHeartbeats 4000000 in
theorem y_call (n:Nat):yq_call n:=by
 rintro ⟨b,s,_u⟩ w M I lab fz xs hT hBk hc hA hl hx
 have hG:=staysN_mX powT_keptB hT hBk (fz:=fz) (I:=I) (n:=1)
 refine calls_toN 1 Tryd.func87 rfl ((ya_call n).mem ⟨b,s,_u⟩) rfl w M I lab fz [(yg_Expr n (y_Expr n) hG),yp_Join,(yp_line (stays0 _ _))] [] ((ya_call n).args ⟨b,s,_u⟩) ((fun p:(Bd)×(Sm)×Unit=>ym_call n p.1 p.2.1) ⟨b,s,_u⟩) ((fun p:(Bd)×(Sm)×Unit=>yr_call n p.1 p.2.1) ⟨b,s,_u⟩) xs hA hl hx (fun v hv k hk=>(ya_call n).an ⟨b,s,_u⟩ v hv k hk) (Nat.le_of_ble_eq_true rfl) (Nat.le_of_ble_eq_true rfl) ?_
 clear hx hl hA xs
 simp only[Tryd.f87]
 obtain⟨hm,hd0,hd1,ha,hal,hlen⟩:=hc
 obtain⟨u,t,r⟩:=b
 obtain⟨k,x,y,e,f,c,ar,th,el,no⟩:=s
 dsimp only[Sm.ar,Sm.x,Sm.y]at hm hd0 hd1 ha hal hlen ⊢
 obtain⟨d,rfl⟩:∃d:Int,r=[d]:=List.length_eq_one_iff.1 hm
 rw[dep_mk]at hd0 hd1 hlen
 simp only[↓eB,seval,go_sem,rowsS1.ds]
 refine loop_ok (Y:=Nat) (fun z=>z≤ar.length)
  (fun z=>⟨[(0,true,.one (.p 0 0 0)),(3,true,.one (.p 3 0 0)),(4,true,.one (.s 1000)),(9,true,.one (.d (.sl zAr (ar.map Ar.r)))),(10,true,.one (.v (.int .i64 (ar.length:Int)))),(11,true,.one (.v (.int .i64 (z:Int))))],[(0,.vec 0 (tgN 87 3) [[adC u,.ov zB8 (t.map byK),.v (.int .i64 d)]]),(3,.vec 0 (anyN 10) [(Sm.mk k x y e f c ar th el no).c]),(1000,.vec 0 zSs ((apT ar z).map sR1))]⟩)
  (fun z=>ar.length-z) 0 (Nat.zero_le _) ?_ ?_
 ·cases u
  all_goals (refine to_with [.nil 4 1000 zSs] ?_;simp only[↓eB,seval,go_sem,rBd_u0,rBd_u1,rBd_n0,rBd_n1,rBd_f0,rBd_f1,adC,rowsS1.ds,apT_0])
 ·rintro i hi
  refine vc_ok [yg_Expr n (y_Expr n) hG,yp_Join,yp_line (stays0 _ _)] [] _ _ _ ?_
  cases hx:ar[i]? with
  |none=>
   have h2:=List.getElem?_eq_none_iff.1 hx
   have h1:=natI_ge h2
   have h3:=apT_all h2
   have l1:(ar.map argX).length≤1000000:=by rw[List.length_map];omega
   have l3:t.length+d.toNat+[tgtT x,y,[40],jnT (ar.map argX),[41,59]].flatten.length+1≤100000000000000:=by
    simp only[lineT,List.length_append,List.length_replicate,List.length_cons,List.length_nil]at hlen;omega
   have l4:(jnT (ar.map argX)).length≤1000000000:=by
    simp only[lineT,List.length_append,List.length_replicate,List.length_cons,List.length_nil,List.flatten_cons]at hlen;omega
   have l5:(tgtT x).length≤1000000000:=by
    simp only[lineT,List.length_append,List.length_replicate,List.length_cons,List.length_nil,List.flatten_cons]at hlen;omega
   cases x with
   |nil=>
    cases u<;>simp only[↓eB,seval,go_sem,rBd_u0,rBd_u1,rBd_n0,rBd_n1,rBd_f0,rBd_f1,adC,rowsS1.ds,yg_Expr,yp_Join,yp_line,yg_line,yr_Join,h1,h3]
    all_goals
     try simp only[impB,impN]
     repeat' first|exact ck|with_reducible apply And.intro|intro _
     all_goals first|exact l1|exact l4|exact hd0|exact hd1|exact l3|(exact Nat.le_of_ble_eq_true rfl)|(rename_i h;first|exact oI h|exact nah h)|(rename_i _ h _ g;exact sL h g)|decide|omega|(refine ret_with [] ?_;simp only[↓eB,seval,go_sem,bne,yr_call,ym_call,tgT_0,tgT_c,dep_mk,rBd_u0,rBd_u1,rBd_n0,rBd_n1,rBd_f0,rBd_f1,adC])
   |cons x0 xs=>
    have l6:xs.length+4≤1000000000:=by rw[tgT_c]at l5;simpa using l5
    cases u<;>simp only[↓eB,seval,go_sem,rBd_u0,rBd_u1,rBd_n0,rBd_n1,rBd_f0,rBd_f1,adC,rowsS1.ds,yg_Expr,yp_Join,yp_line,yg_line,yr_Join,h1,h3]
    all_goals
     try simp only[impB,impN]
     repeat' first|exact ck|with_reducible apply And.intro|intro _
     all_goals first|exact l1|exact l4|exact hd0|exact hd1|exact l3|(exact Nat.le_of_ble_eq_true rfl)|(rename_i h;first|exact oI h|exact nah h)|(rename_i _ h _ g;exact sL h g)|decide|omega|(refine ret_with [] ?_;simp only[↓eB,seval,go_sem,bne,yr_call,ym_call,tgT_0,tgT_c,dep_mk,rBd_u0,rBd_u1,rBd_n0,rBd_n1,rBd_f0,rBd_f1,adC])
  |some a=>
   have hlt:i<ar.length:=(List.getElem?_eq_some_iff.1 hx).1
   have h1:=natI_lt hlt
   have h2:=natI_ltp hlt
   have h2':=natI_succ (n:=ar.length) (Nat.le_of_lt hlt) (by omega)
   have h3:=arD_at hx
   obtain⟨g1,g2⟩:=ha a (List.mem_of_getElem? hx)
   have g4:=apT_len (Nat.le_of_lt hlt)
   have g5:=apT_s hx
   obtain⟨ap,an,ae⟩:=a
   have g6:∀r:List UInt8,((apT ar i).map sR1++[sR1 r]).length≤5001:=by intro r;simp[g4];omega
   cases ap with
   |true=>
    have g7:(apT ar i).map sR1++[sR1 an]=(apT ar (i+1)).map sR1:=by rw[← g5,List.map_append];rfl
    simp only[↓eB,seval,go_sem,rowsS1.ds,yg_Expr,yp_Join,yp_line,yg_line,yr_Join,h1,h2,h2',h3]
    try simp only[impB,impN]
    repeat' first|exact ck|with_reducible apply And.intro|intro _
    all_goals try first|exact hlt|exact rfl|(rename_i h;first|exact oI h|exact nah h)|(rename_i _ h _ g;exact sL h g)|decide|omega
    refine⟨i+1,hlt,by omega,to_trans (t:=⟨[(0,true,.one (.p 0 0 0)),(3,true,.one (.p 3 0 0)),(4,true,.one (.s 21)),(9,true,.one (.d (.sl zAr (ar.map Ar.r)))),(10,true,.one (.v (.int .i64 (ar.length:Int)))),(11,true,.one (.v (.int .i64 ((i+1:Nat):Int))))],[(0,.vec 0 (tgN 87 3) [[adC u,.ov zB8 (t.map byK),.v (.int .i64 d)]]),(3,.vec 0 (anyN 10) [(Sm.mk k x y e f c ar th el no).c]),(21,.vec 0 zSs ((apT ar (i+1)).map sR1))]⟩) (to_with [] ?_) (to_with [.mv 21 1000] ?_)⟩
    ·rw[← g7]
     cases u<;>simp only[↓eB,seval,go_sem,rowsS1.fn,s_names,List.map_append,List.flatMap_append,rBd_u0,rBd_u1,rBd_n0,rBd_n1,rBd_f0,rBd_f1,adC,rowsS1.ds]
    ·cases u<;>simp only[↓eB,seval,go_sem,rowsS1.fn,s_names,List.map_append,List.flatMap_append,rBd_u0,rBd_u1,rBd_n0,rBd_n1,rBd_f0,rBd_f1,adC,rowsS1.ds,rowsS1.mv]
   |false=>
    have g8:(exT ae).length≤1000000000:=by
     have q1:exT ae∈ar.map argX:=List.mem_map.2 ⟨_,List.mem_of_getElem? hx,rfl⟩
     have q2:=jn_mem q1
     simp only[lineT,List.length_append,List.length_replicate,List.length_cons,List.length_nil,List.flatten_cons]at hlen;omega
    have g7:(apT ar i).map sR1++[sR1 (exT ae)]=(apT ar (i+1)).map sR1:=by rw[← g5,List.map_append];rfl
    simp only[↓eB,seval,go_sem,rowsS1.ds,yg_Expr,yp_Join,yp_line,yg_line,yr_Join,h1,h2,h2',h3]
    try simp only[impB,impN]
    repeat' first|exact ck|with_reducible apply And.intro|intro _
    all_goals try first|exact hlt|exact rfl|exact g1|exact g2|exact g8|(rename_i h;first|exact oI h|exact nah h)|(rename_i _ h _ g;exact sL h g)|decide|omega
    refine⟨i+1,hlt,by omega,to_trans (t:=⟨[(0,true,.one (.p 0 0 0)),(3,true,.one (.p 3 0 0)),(4,true,.one (.s 27)),(9,true,.one (.d (.sl zAr (ar.map Ar.r)))),(10,true,.one (.v (.int .i64 (ar.length:Int)))),(11,true,.one (.v (.int .i64 ((i+1:Nat):Int))))],[(0,.vec 0 (tgN 87 3) [[adC u,.ov zB8 (t.map byK),.v (.int .i64 d)]]),(3,.vec 0 (anyN 10) [(Sm.mk k x y e f c ar th el no).c]),(27,.vec 0 zSs ((apT ar (i+1)).map sR1))]⟩) (to_with [] ?_) (to_with [.mv 27 1000] ?_)⟩
    ·rw[← g7]
     cases u<;>simp only[↓eB,seval,go_sem,rowsS1.fn,s_names,List.map_append,List.flatMap_append,rBd_u0,rBd_u1,rBd_n0,rBd_n1,rBd_f0,rBd_f1,adC,rowsS1.ds]
    ·cases u<;>simp only[↓eB,seval,go_sem,rowsS1.fn,s_names,List.map_append,List.flatMap_append,rBd_u0,rBd_u1,rBd_n0,rBd_n1,rBd_f0,rBd_f1,adC,rowsS1.ds,rowsS1.mv]
end Go.Proofs.YtbiepiggmagfcaaDoor
