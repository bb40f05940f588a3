/- print: a function. Conditions: the statements are of known kinds, the numbers are of 64 bits, the text is shorter than 10^9 bytes; the table of powers of ten is laid. -/
import Derived.Test.YtbiepiggmagfcaaGreatDoorPs4
set_option linter.unusedVariables false
set_option linter.unusedSimpArgs false
namespace Go.Proofs.YtbiepiggmagfcaaGreatDoor
open Go Go.Sy Go.RowKit
theorem pzVr_ln:zVr.length=2:=rfl
theorem vrD_at {l:List Vr} {i:Nat} {s:List UInt8} {p:Bool} (h:l[i]?=some ⟨s,p⟩) (z:List D):(l.map Vr.r).getD i z=[dS s,.v (.bool p)]:=by simp[List.getD,h,Vr.r]
def vpT (l:List Vr) (i:Nat):List (List UInt8):=(l.take i).map vrT
theorem vpT_0 (l:List Vr):vpT l 0=[]:=rfl
theorem vpT_s {l:List Vr} {i:Nat} {x:Vr} (h:l[i]?=some x):vpT l i++[vrT x]=vpT l (i+1):=by
 unfold vpT;rw[List.take_add_one,h];simp
theorem vpT_all {l:List Vr} {i:Nat} (h:l.length≤i):vpT l i=l.map vrT:=by unfold vpT;rw[List.take_of_length_le h]
theorem vpT_len {l:List Vr} {i:Nat} (h:i≤l.length):(vpT l i).length=i:=by unfold vpT;rw[List.length_map,List.length_take];omega
def lcL (l:List Vr):List Ln:=l.map fun v=>⟨locT v,-1⟩
theorem lcL_take {l:List Vr} {i:Nat} {v:Vr} (h:l[i]?=some v):lnX (lcL (l.take (i+1)))=lnX (lcL (l.take i))++lineT 1 [(if v.p=true then [112,116,114,32] else [118,97,114,32]),v.s,[59]]:=by
 rw[List.take_add_one,h,lcL,List.map_append,lnX_app]
 simp[lcL,lnX,lineT,locT]
theorem lcL_app (l m:List Vr):lcL (l++m)=lcL l++lcL m:=by simp[lcL]
theorem lcL_len (l:List Vr) (i:Nat):(lnX (lcL (l.take i))).length≤(lnX (lcL l)).length:=by
 have h1:lcL l=lcL (l.take i)++lcL (l.drop i):=by rw[← lcL_app,List.take_append_drop]
 rw[h1,lnX_len_app];omega
def fnH (f:Fn):List (List UInt8):=[[102,110,32],f.name,[40],jnT (f.ps.map vrT),[41,32,123]]
theorem fnT_eq (f:Fn):fnT f=lineT 0 (fnH f)++(lnX (lcL f.ls)++(lnX (lnB 1 f.body)++lineT 0 [[125]])):=by
 simp only[fnT,lnF,lnX_cons,lnX_app,fnH,lcL,lnX_nil,lineT];simp
abbrev yc_pFunc (n:Nat) (m:Nat) (f:Fn):Prop:=okPr n m f.body∧m≤1000∧f.ps.length≤5000∧f.ls.length≤5000∧(fnT f).length≤1000000000
abbrev yr_pFunc (n:Nat) (m:Nat) (f:Fn):SV:=.one (.v (.string (bs (fnT f))))
noncomputable abbrev ya_pFunc:ArgC ((Fn)×Unit):=(acS (cFn) ac0)
abbrev yq_pFunc (n:Nat) (m:Nat):Prop:=CallsG Tryz.prog 15 powT ya_pFunc (fun p:(Fn)×Unit=>yc_pFunc n m p.1) (fun p:(Fn)×Unit=>yr_pFunc n m p.1)
theorem yn_pFunc (n:Nat) (m:Nat):∀p:(Fn)×Unit,((fun p:(Fn)×Unit=>yr_pFunc n m p.1) p).names=[]:=by intro p;rfl
noncomputable def yg_pFunc {X:Ctx} {w0:World} (n:Nat) (m:Nat) (h:yq_pFunc n m) (hG:StaysN X w0 powT powB):Sy.Spec Tryz.prog X w0:=specG 15 Tryz.call15 powT ya_pFunc (fun p:(Fn)×Unit=>yc_pFunc n m p.1) (fun p:(Fn)×Unit=>yr_pFunc n m p.1) (yn_pFunc n m) h hG.stays
attribute [local go_sem] Fn.c Vr.r amB_a amB_m bd_c1 cFn_d cFn_e cSs_d cSs_e decL_ss inK pzVr_ln rBd_e rBd_z rSs_d rSs_e rSs_z sR1 zSD_ln zSs_ds
set_option maxRecDepth 20000 in set_option maxHeartbeats 8000000 in
theorem y_pFunc (n:Nat) (m:Nat):yq_pFunc n m:=by
 rintro ⟨f,_u⟩ w fz xs hT hc hfz hl hx
 have hG:=staysN_clX powT_keptB powT_size (fz:=fz) hT
 refine calls_toL Tryz.func15 rfl w fz [yp_Join,(yp_line (stays0 _ _)),(yg_pstmts n m (y_pstmts n m) hG),(yg_bString 111 1 (y_bString _ _) (stays0 _ _))] [] ya_pFunc (fun p:(Fn)×Unit=>yr_pFunc n m p.1) _ xs hfz hl hx (Nat.le_of_ble_eq_true rfl) ?_
 clear hx hl hfz xs
 simp only[Tryz.f15]
 obtain⟨hk,hm,hp,hq,hlen⟩:=hc
 rw[fnT_eq]at hlen
 obtain⟨nm,ps,ls,bd⟩:=f
 dsimp only at hk hp hq hlen
 have hlj:(jnT (ps.map vrT)).length≤1000000000:=by
  simp only[fnH,List.length_append,lT_len,List.flatten_cons]at hlen;omega
 have hl0:(lineT 0 [[102,110,32],nm,[40],jnT (ps.map vrT),[41,32,123]]).length+(lnX (lcL ls)).length+(lnX (lnB 1 bd)).length+2≤1000000000:=by
  simp only[fnH,List.length_append]at hlen
  have:=lT_len 0 [[125]]
  simp only[List.flatten_cons,List.flatten_nil,List.length_append,List.length_cons,List.length_nil]at this
  omega
 simp only[↓eB,seval,go_sem,rowsS1.ds]
 refine loop_ok (Y:=Nat) (fun z=>z≤ps.length)
  (fun z=>⟨[(1,true,.one (.p 1 0 0)),(3,true,.one (.p 3 0 0)),(4,true,.one (.s 1000)),(10,true,.one (.d (.sl zVr (ps.map Vr.r)))),(11,true,.one (.v (.int .i64 (ps.length:Int)))),(12,true,.one (.v (.int .i64 (z:Int))))],[(1,.vec 0 (anyN 4) [(Fn.mk nm ps ls bd).c]),(3,.vec 0 (tgN 111 3) [[.v (.pointer none),.ov zB8 [],.v (.int .i64 0)]]),(1000,.vec 0 zSs ((vpT ps z).map sR1))]⟩)
  (fun z=>ps.length-z) 0 (Nat.zero_le _) ?_ ?_
 ·refine to_with [.nil 4 1000 zSs,.nilc 3 0 1 zB8] ?_;simp only[↓eB,seval,go_sem,rBd_u0,rBd_u1,rBd_n0,rBd_n1,rBd_f0,rBd_f1,adC,rowsS1.ds,vpT_0]
 ·rintro i hi
  refine vc_ok [yp_Join,yp_line (stays0 _ _),yg_pstmts n m (y_pstmts n m) hG,yg_bString 111 1 (y_bString _ _) (stays0 _ _)] [] _ _ _ ?_
  cases hx:ps[i]? with
  |none=>
   have h2:=List.getElem?_eq_none_iff.1 hx
   have h1:=natI_ge h2
   have h3:=vpT_all h2
   have l1:(ps.map vrT).length≤1000000:=by rw[List.length_map];omega
   have l2:([]:List UInt8).length+(0:Int).toNat+[[102,110,32],nm,[40],jnT (ps.map vrT),[41,32,123]].flatten.length+1≤100000000000000:=by
    have:=lT_len 0 [[102,110,32],nm,[40],jnT (ps.map vrT),[41,32,123]]
    show 0+0+_+1≤_
    omega
   have w1:IntKind.i64.wrap (0+1)=1:=by rw[wrap_i64 (by omega) (by omega)];rfl
   simp only[↓eB,seval,go_sem,rBd_u0,rBd_u1,rBd_n0,rBd_n1,rBd_f0,rBd_f1,adC,rowsS1.ds,yp_Join,yr_Join,yp_line,yg_line,yg_pstmts,yg_bString,h1,h3,w1,dep_mk]
   try simp only[impB,impN]
   repeat' (first|exact ck|with_reducible apply And.intro)
   all_goals try first|exact l1|exact l2|exact hlj|exact rfl|(exact Nat.le_of_ble_eq_true rfl)|(exact Int.le_refl _)|(show (0:Int)≤1000000;decide)|decide|omega
   refine loop_ok (Y:=Nat) (fun z=>z≤ls.length) (fun z=>⟨[(1,true,.one (.p 1 0 0)),(3,true,.one (.p 3 0 0)),(44,true,.one (.d (.sl zVr (ls.map Vr.r)))),(45,true,.one (.v (.int .i64 (ls.length:Int)))),(46,true,.one (.v (.int .i64 (z:Int))))],[(1,.vec 0 (anyN 4) [(Fn.mk nm ps ls bd).c]),(3,.vec 0 (tgN 111 3) [[.p 3 0 0,.ov zB8 ((lineT 0 [[102,110,32],nm,[40],jnT (ps.map vrT),[41,32,123]]++lnX (lcL (ls.take z))).map byK),.v (.int .i64 1)]])]⟩)
    (fun z=>ls.length-z) 0 (Nat.zero_le _) ?_ ?_
   ·refine to_with [] ?_;simp only[↓eB,seval,go_sem,rBd_u0,rBd_u1,rBd_n0,rBd_n1,rBd_f0,rBd_f1,adC,rowsS1.ds,lcL,lnX_nil]
   ·rintro i hi
    refine vc_ok [yp_Join,yp_line (stays0 _ _),yg_pstmts n m (y_pstmts n m) hG,yg_bString 111 1 (y_bString _ _) (stays0 _ _)] [] _ _ _ ?_
    cases hx:ls[i]? with
    |none=>
     have h2:=List.getElem?_eq_none_iff.1 hx
     have h1:=natI_ge h2
     have h3:ls.take i=ls:=List.take_of_length_le h2
     have w2:IntKind.i64.wrap (1-1)=0:=by rw[wrap_i64 (by omega) (by omega)];rfl
     have g1:(1:Int)+(m:Int)≤1000000:=by omega
     have g2:(lineT 0 [[102,110,32],nm,[40],jnT (ps.map vrT),[41,32,123]]++lnX (lcL ls)).length+(lnX (lnB (1:Int).toNat bd)).length≤1000000000:=by
      rw[List.length_append];show _+(lnX (lnB 1 bd)).length≤_;omega
     have g4:(lineT 0 [[102,110,32],nm,[40],jnT (ps.map vrT),[41,32,123]]++lnX (lcL ls)++lnX (lnB 1 bd)).length+(0:Int).toNat+[[125]].flatten.length+1≤100000000000000:=by
      rw[List.length_append,List.length_append];show _+0+1+1≤_;omega
     have g7:(lineT 0 [[102,110,32],nm,[40],jnT (ps.map vrT),[41,32,123]]++lnX (lcL ls)++lnX (lnB 1 bd)++lineT 0 [[125]]).length≤100000000000000:=by
      rw[List.length_append,List.length_append,List.length_append,lT_len 0 [[125]]];show _+(0+1+1)≤_;omega
     simp only[↓eB,seval,go_sem,rBd_u0,rBd_u1,rBd_n0,rBd_n1,rBd_f0,rBd_f1,adC,rowsS1.ds,yp_Join,yr_Join,yp_line,yg_line,yg_pstmts,yg_bString,h1,h3,w2,dep_mk]
     try simp only[impB,impN]
     repeat' first|exact ck|with_reducible apply And.intro|intro _
     all_goals first|exact hk|exact g1|exact g2|exact g4|exact g7|exact rfl|(exact Nat.le_of_ble_eq_true rfl)|(show (0:Int)≤1;decide)|(show (0:Int)≤0;decide)|(show (0:Int)≤1000000;decide)|(rename_i h;first|exact oI h|exact nah h)|(rename_i _ h _ g;exact sL h g)|decide|omega|(refine ret_with [] ?_;simp only[↓eB,seval,go_sem,bne,yr_pFunc,fnT_eq,fnH,List.append_assoc,rBd_u0,rBd_u1,rBd_n0,rBd_n1,rBd_f0,rBd_f1,adC])
    |some v=>
     have hlt:i<ls.length:=(List.getElem?_eq_some_iff.1 hx).1
     have h1:=natI_lt hlt
     have h2:=natI_ltp hlt
     have h2':=natI_succ (n:=ls.length) (Nat.le_of_lt hlt) (by omega)
     obtain⟨vs,vp⟩:=v
     have h3:=vrD_at hx
     cases vp with
     |true=>
      have g5:=lcL_take hx
      simp only[if_true,if_false,Bool.false_eq_true]at g5
      have g6:=lT_len 1 [[112,116,114,32],vs,[59]]
      have g9:(lineT 0 [[102,110,32],nm,[40],jnT (ps.map vrT),[41,32,123]]++lnX (lcL (ls.take i))).length+(1:Int).toNat+[[112,116,114,32],vs,[59]].flatten.length+1≤100000000000000:=by
       have q1:=lcL_len ls (i+1)
       rw[g5]at q1
       simp only[List.length_append,g6]at q1 ⊢
       show _+1+_+1≤_
       omega
      simp only[↓eB,seval,go_sem,rBd_u0,rBd_u1,rBd_n0,rBd_n1,rBd_f0,rBd_f1,adC,rowsS1.ds,yp_Join,yr_Join,yp_line,yg_line,yg_pstmts,yg_bString,h1,h2,h2',h3]
      try simp only[impB,impN]
      repeat' first|exact ck|with_reducible apply And.intro|intro _
      all_goals try first|exact hlt|exact rfl|exact g9|(exact Nat.le_of_ble_eq_true rfl)|(show (0:Int)≤1;decide)|(show (1:Int)≤1000000;decide)|(rename_i h;first|exact oI h|exact nah h)|(rename_i _ h _ g;exact sL h g)|decide|omega
      refine⟨i+1,hlt,by omega,to_with [] ?_⟩
      simp only[↓eB,seval,go_sem,rowsS1.fn,s_names,List.map_append,List.flatMap_append,rBd_u0,rBd_u1,rBd_n0,rBd_n1,rBd_f0,rBd_f1,adC,rowsS1.ds,dep_mk,g5,List.append_assoc]
     |false=>
      have g5:=lcL_take hx
      simp only[if_true,if_false,Bool.false_eq_true]at g5
      have g6:=lT_len 1 [[118,97,114,32],vs,[59]]
      have g9:(lineT 0 [[102,110,32],nm,[40],jnT (ps.map vrT),[41,32,123]]++lnX (lcL (ls.take i))).length+(1:Int).toNat+[[118,97,114,32],vs,[59]].flatten.length+1≤100000000000000:=by
       have q1:=lcL_len ls (i+1)
       rw[g5]at q1
       simp only[List.length_append,g6]at q1 ⊢
       show _+1+_+1≤_
       omega
      simp only[↓eB,seval,go_sem,rBd_u0,rBd_u1,rBd_n0,rBd_n1,rBd_f0,rBd_f1,adC,rowsS1.ds,yp_Join,yr_Join,yp_line,yg_line,yg_pstmts,yg_bString,h1,h2,h2',h3]
      try simp only[impB,impN]
      repeat' first|exact ck|with_reducible apply And.intro|intro _
      all_goals try first|exact hlt|exact rfl|exact g9|(exact Nat.le_of_ble_eq_true rfl)|(show (0:Int)≤1;decide)|(show (1:Int)≤1000000;decide)|(rename_i h;first|exact oI h|exact nah h)|(rename_i _ h _ g;exact sL h g)|decide|omega
      refine⟨i+1,hlt,by omega,to_with [] ?_⟩
      simp only[↓eB,seval,go_sem,rowsS1.fn,s_names,List.map_append,List.flatMap_append,rBd_u0,rBd_u1,rBd_n0,rBd_n1,rBd_f0,rBd_f1,adC,rowsS1.ds,dep_mk,g5,List.append_assoc]
  |some a=>
   have hlt:i<ps.length:=(List.getElem?_eq_some_iff.1 hx).1
   have h1:=natI_lt hlt
   have h2:=natI_ltp hlt
   have h2':=natI_succ (n:=ps.length) (Nat.le_of_lt hlt) (by omega)
   have g4:=vpT_len (Nat.le_of_lt hlt)
   have g5:=vpT_s hx
   have g6:∀r:List UInt8,((vpT ps i).map sR1++[sR1 r]).length≤5001:=by intro r;simp[g4];omega
   have g8:a.s.length+1≤1000000001:=by
    have q1:vrT a∈ps.map vrT:=List.mem_map.2 ⟨_,List.mem_of_getElem? hx,rfl⟩
    have q2:=jn_mem q1
    have q3:a.s.length≤(vrT a).length:=by unfold vrT;split<;>simp
    omega
   obtain⟨vs,vp⟩:=a
   dsimp only at g8
   have h3:=vrD_at hx
   cases vp with
   |true=>
    have g7:(vpT ps i).map sR1++[sR1 ([42]++vs)]=(vpT ps (i+1)).map sR1:=by rw[← g5,List.map_append];rfl
    simp only[↓eB,seval,go_sem,rowsS1.ds,yp_Join,yr_Join,yp_line,yg_line,yg_pstmts,yg_bString,h1,h2,h2',h3]
    try simp only[impB,impN]
    repeat' first|exact ck|with_reducible apply And.intro|intro _
    all_goals try first|exact hlt|exact rfl|exact g8|(rename_i h;first|exact oI h|exact nah h)|(rename_i _ h _ g;exact sL h g)|decide|omega
    refine⟨i+1,hlt,by omega,to_trans (t:=⟨[(1,true,.one (.p 1 0 0)),(3,true,.one (.p 3 0 0)),(4,true,.one (.s 23)),(10,true,.one (.d (.sl zVr (ps.map Vr.r)))),(11,true,.one (.v (.int .i64 (ps.length:Int)))),(12,true,.one (.v (.int .i64 ((i+1:Nat):Int))))],[(1,.vec 0 (anyN 4) [(Fn.mk nm ps ls bd).c]),(3,.vec 0 (tgN 111 3) [[.v (.pointer none),.ov zB8 [],.v (.int .i64 0)]]),(23,.vec 0 zSs ((vpT ps (i+1)).map sR1))]⟩) (to_with [] ?_) (to_with [.mv 23 1000] ?_)⟩
    ·rw[← g7]
     simp only[↓eB,seval,go_sem,rowsS1.fn,s_names,List.map_append,List.flatMap_append,rBd_u0,rBd_u1,rBd_n0,rBd_n1,rBd_f0,rBd_f1,adC,rowsS1.ds]
    ·simp only[↓eB,seval,go_sem,rowsS1.fn,s_names,List.map_append,List.flatMap_append,rBd_u0,rBd_u1,rBd_n0,rBd_n1,rBd_f0,rBd_f1,adC,rowsS1.ds,rowsS1.mv]
   |false=>
    have g7:(vpT ps i).map sR1++[sR1 (vs)]=(vpT ps (i+1)).map sR1:=by rw[← g5,List.map_append];rfl
    simp only[↓eB,seval,go_sem,rowsS1.ds,yp_Join,yr_Join,yp_line,yg_line,yg_pstmts,yg_bString,h1,h2,h2',h3]
    try simp only[impB,impN]
    repeat' first|exact ck|with_reducible apply And.intro|intro _
    all_goals try first|exact hlt|exact rfl|exact g8|(rename_i h;first|exact oI h|exact nah h)|(rename_i _ h _ g;exact sL h g)|decide|omega
    refine⟨i+1,hlt,by omega,to_trans (t:=⟨[(1,true,.one (.p 1 0 0)),(3,true,.one (.p 3 0 0)),(4,true,.one (.s 28)),(10,true,.one (.d (.sl zVr (ps.map Vr.r)))),(11,true,.one (.v (.int .i64 (ps.length:Int)))),(12,true,.one (.v (.int .i64 ((i+1:Nat):Int))))],[(1,.vec 0 (anyN 4) [(Fn.mk nm ps ls bd).c]),(3,.vec 0 (tgN 111 3) [[.v (.pointer none),.ov zB8 [],.v (.int .i64 0)]]),(28,.vec 0 zSs ((vpT ps (i+1)).map sR1))]⟩) (to_with [] ?_) (to_with [.mv 28 1000] ?_)⟩
    ·rw[← g7]
     simp only[↓eB,seval,go_sem,rowsS1.fn,s_names,List.map_append,List.flatMap_append,rBd_u0,rBd_u1,rBd_n0,rBd_n1,rBd_f0,rBd_f1,adC,rowsS1.ds]
    ·simp only[↓eB,seval,go_sem,rowsS1.fn,s_names,List.map_append,List.flatMap_append,rBd_u0,rBd_u1,rBd_n0,rBd_n1,rBd_f0,rBd_f1,adC,rowsS1.ds,rowsS1.mv]
end Go.Proofs.YtbiepiggmagfcaaGreatDoor
