/- print: a function. Conditions: the statements are of known kinds, the numbers are of 64 bits, the text is shorter than 10^9 bytes; the table of powers of ten is laid. -/
import Derived.Test.YtbiepiggmagfcaaGreatDoorPs4
set_option linter.unusedVariables false
set_option linter.unusedSimpArgs false
namespace Go.Proofs.YtbiepiggmagfcaaGreatDoor
open Go Go.Sy Go.RowKit
theorem pzVr_ln:zVr.length=2:=rfl
theorem vrD_at {l:List Vr} {i:Nat} {s:List UInt8} {p:Bool} (h:l[i]?=some ⟨s,p⟩) (z:List D):(l.map Vr.r).getD i z=[dS s,.v (.bool p)]:=by simp[List.getD,h,Vr.r]
def vpT (l:List Vr) (i:Nat):List (List UInt8):=(l.take i).map vrT
theorem vpT_0 (l:List Vr):vpT l 0=[]:=rfl
theorem vpT_s {l:List Vr} {i:Nat} {x:Vr} (h:l[i]?=some x):vpT l i++[vrT x]=vpT l (i+1):=by
 unfold vpT;rw[List.take_add_one,h];simp
theorem vpT_all {l:List Vr} {i:Nat} (h:l.length≤i):vpT l i=l.map vrT:=by unfold vpT;rw[List.take_of_length_le h]
theorem vpT_len {l:List Vr} {i:Nat} (h:i≤l.length):(vpT l i).length=i:=by unfold vpT;rw[List.length_map,List.length_take];omega
def lcL (l:List Vr):List Ln:=l.map fun v=>⟨locT v,-1⟩
theorem lcL_take {l:List Vr} {i:Nat} {v:Vr} (h:l[i]?=some v):lnX (lcL (l.take (i+1)))=lnX (lcL (l.take i))++lineT 1 [(if v.p=true then [112,116,114,32] else [118,97,114,32]),v.s,[59]]:=by
 rw[List.take_add_one,h,lcL,List.map_append,lnX_app]
 simp[lcL,lnX,lineT,locT]
theorem lcL_app (l m:List Vr):lcL (l++m)=lcL l++lcL m:=by simp[lcL]
theorem lcL_len (l:List Vr) (i:Nat):(lnX (lcL (l.take i))).length≤(lnX (lcL l)).length:=by
 have h1:lcL l=lcL (l.take i)++lcL (l.drop i):=by rw[← lcL_app,List.take_append_drop]
 rw[h1,lnX_len_app];omega
def fnH (f:Fn):List (List UInt8):=[[102,110,32],f.name,[40],jnT (f.ps.map vrT),[41,32,123]]
theorem fnT_eq (f:Fn):fnT f=lineT 0 (fnH f)++(lnX (lcL f.ls)++(lnX (lnB 1 f.body)++lineT 0 [[125]])):=by
 simp only[fnT,lnF,lnX_cons,lnX_app,fnH,lcL,lnX_nil,lineT];simp
abbrev yc_pFunc (n:Nat) (m:Nat) (f:Fn):Prop:=okPr n m f.body∧m≤1000∧f.ps.length≤5000∧f.ls.length≤5000∧(fnT f).length≤1000000000
abbrev yr_pFunc (n:Nat) (m:Nat) (f:Fn):SV:=.one (.v (.string (bs (fnT f))))
noncomputable abbrev ya_pFunc:ArgC ((Fn)×Unit):=(acS (cFn) ac0)
abbrev yq_pFunc (n:Nat) (m:Nat):Prop:=CallsG Tryz.prog 15 powT ya_pFunc (fun p:(Fn)×Unit=>yc_pFunc n m p.1) (fun p:(Fn)×Unit=>yr_pFunc n m p.1)
theorem yn_pFunc (n:Nat) (m:Nat):∀p:(Fn)×Unit,((fun p:(Fn)×Unit=>yr_pFunc n m p.1) p).names=[]:=by intro p;rfl
noncomputable def yg_pFunc {X:Ctx} {w0:World} (n:Nat) (m:Nat) (h:yq_pFunc n m) (hG:StaysN X w0 powT powB):Sy.Spec Tryz.prog X w0:=specG 15 Tryz.call15 powT ya_pFunc (fun p:(Fn)×Unit=>yc_pFunc n m p.1) (fun p:(Fn)×Unit=>yr_pFunc n m p.1) (yn_pFunc n m) h hG.stays
attribute [local go_sem] Fn.c Vr.r adC amB_a amB_m bd_c1 cFn_d cFn_e cSs_d cSs_e decL_ss inK pzVr_ln rBd_e rBd_f0 rBd_f1 rBd_n0 rBd_n1 rBd_u0 rBd_u1 rBd_z rSs_d rSs_e rSs_z sR1 zSD_ln zSs_ds
set_option maxRecDepth 20000 in set_option maxHeartbeats 8000000 in
theorem y_pFunc (n:Nat) (m:Nat):yq_pFunc n m:=by
 rintro ⟨f,_u⟩ w fz xs hT hc hfz hl hx
 have hG:=staysN_clX powT_keptB powT_size (fz:=fz) hT
 refine calls_toL Tryz.func15 rfl w fz [yp_Join,(yp_line (stays0 _ _)),(yg_pstmts n m (y_pstmts n m) hG),(yg_bString 111 1 (y_bString _ _) (stays0 _ _))] [] ya_pFunc (fun p:(Fn)×Unit=>yr_pFunc n m p.1) _ xs hfz hl hx (Nat.le_of_ble_eq_true rfl) ?_
 clear hx hl hfz xs
 simp only[Tryz.f15]
 obtain⟨hk,hm,hp,hq,hlen⟩:=hc
 rw[fnT_eq]at hlen
 obtain⟨nm,ps,ls,bd⟩:=f
 dsimp only at hk hp hq hlen
 have hlj:(jnT (ps.map vrT)).length≤1000000000:=by
  simp only[fnH,List.length_append,lT_len,List.flatten_cons]at hlen;omega
 have hl0:(lineT 0 [[102,110,32],nm,[40],jnT (ps.map vrT),[41,32,123]]).length+(lnX (lcL ls)).length+(lnX (lnB 1 bd)).length+2≤1000000000:=by
  simp only[fnH,List.length_append]at hlen
  have:=lT_len 0 [[125]]
  simp only[List.flatten_cons,List.flatten_nil,List.length_append,List.length_cons,List.length_nil]at this
  omega
 simp only[↓eB,seval,go_sem,rowsS1.ds]
 refine loop_ok (Y:=Nat) (fun z=>z≤ps.length)
  (fun z=>⟨[(1,true,.one (.p 1 0 0)),(3,true,.one (.p 3 0 0)),(4,true,.one (.s 1000)),(10,true,.one (.d (.sl zVr (ps.map Vr.r)))),(11,true,.one (.v (.int .i64 (ps.length:Int)))),(12,true,.one (.v (.int .i64 (z:Int))))],[(1,.vec 0 (anyN 4) [(Fn.mk nm ps ls bd).c]),(3,.vec 0 (tgN 111 3) [[.v (.pointer none),.ov zB8 [],.v (.int .i64 0)]]),(1000,.vec 0 zSs ((vpT ps z).map sR1))]⟩)
  (fun z=>ps.length-z) 0 (Nat.zero_le _) ?_ ?_
 ·refine to_with [.nil 4 1000 zSs,.nilc 3 0 1 zB8] ?_;simp only[↓eB,seval,go_sem,rowsS1.ds,vpT_0]
 ·rintro i hi
  refine vc_ok [yp_Join,yp_line (stays0 _ _),yg_pstmts n m (y_pstmts n m) hG,yg_bString 111 1 (y_bString _ _) (stays0 _ _)] [] _ _ _ ?_
  cases hx:ps[i]? with
  |none=>
   have h2:=List.getElem?_eq_none_iff.1 hx
   have h1:=natI_ge h2
   have h3:=vpT_all h2
   have l1:(ps.map vrT).length≤1000000:=by rw[List.length_map];omega
   have l2:([]:List UInt8).length+(0:Int).toNat+[[102,110,32],nm,[40],jnT (ps.map vrT),[41,32,123]].flatten.length+1≤100000000000000:=by
    have:=lT_len 0 [[102,110,32],nm,[40],jnT (ps.map vrT),[41,32,123]]
    show 0+0+_+1≤_
    omega
   have w1:IntKind.i64.wrap (0+1)=1:=by rw[wrap_i64 (by omega) (by omega)];rfl
   simp only[↓eB,seval,go_sem,rowsS1.ds,yp_Join,yr_Join,yp_line,yg_line,yg_pstmts,yg_bString,h1,h3,w1,dep_mk]
   try simp only[impB,impN]
   repeat' (first|exact ck|with_reducible apply And.intro)
   all_goals try first|exact l1|exact l2|exact hlj|exact rfl|(exact Nat.le_of_ble_eq_true rfl)|(exact Int.le_refl _)|(show (0:Int)≤1000000;decide)|decide|omega
   refine loop_ok (Y:=Nat) (fun z=>z≤ls.length) (fun z=>⟨[(1,true,.one (.p 1 0 0)),(3,true,.one (.p 3 0 0)),(44,true,.one (.d (.sl zVr (ls.map Vr.r)))),(45,true,.one (.v (.int .i64 (ls.length:Int)))),(46,true,.one (.v (.int .i64 (z:Int))))],[(1,.vec 0 (anyN 4) [(Fn.mk nm ps ls bd).c]),(3,.vec 0 (tgN 111 3) [[.p 3 0 0,.ov zB8 ((lineT 0 [[102,110,32],nm,[40],jnT (ps.map vrT),[41,32,123]]++lnX (lcL (ls.take z))).map byK),.v (.int .i64 1)]])]⟩)
    (fun z=>ls.length-z) 0 (Nat.zero_le _) ?_ ?_
   ·refine to_with [] ?_;simp only[↓eB,seval,go_sem,rowsS1.ds,lcL,lnX_nil]
   ·rintro i hi
    refine vc_ok [yp_Join,yp_line (stays0 _ _),yg_pstmts n m (y_pstmts n m) hG,yg_bString 111 1 (y_bString _ _) (stays0 _ _)] [] _ _ _ ?_
    cases hx:ls[i]? with
    |none=>
     have h2:=List.getElem?_eq_none_iff.1 hx
     have h1:=natI_ge h2
     have h3:ls.take i=ls:=List.take_of_length_le h2
     have w2:IntKind.i64.wrap (1-1)=0:=by rw[wrap_i64 (by omega) (by omega)];rfl
     have g1:(1:Int)+(m:Int)≤1000000:=by omega
     have g2:(lineT 0 [[102,110,32],nm,[40],jnT (ps.map vrT),[41,32,123]]++lnX (lcL ls)).length+(lnX (lnB (1:Int).toNat bd)).length≤1000000000:=by
      rw[List.length_append];show _+(lnX (lnB 1 bd)).length≤_;omega
     have g4:(lineT 0 [[102,110,32],nm,[40],jnT (ps.map vrT),[41,32,123]]++lnX (lcL ls)++lnX (lnB 1 bd)).length+(0:Int).toNat+[[125]].flatten.length+1≤100000000000000:=by
      rw[List.length_append,List.length_append];show _+0+1+1≤_;omega
     have g7:(lineT 0 [[102,110,32],nm,[40],jnT (ps.map vrT),[41,32,123]]++lnX (lcL ls)++lnX (lnB 1 bd)++lineT 0 [[125]]).length≤100000000000000:=by
      rw[List.length_append,List.length_append,List.length_append,lT_len 0 [[125]]];show _+(0+1+1)≤_;omega
     simp only[↓eB,seval,go_sem,rowsS1.ds,yp_Join,yr_Join,yp_line,yg_line,yg_pstmts,yg_bString,h1,h3,w2,dep_mk]
     try simp only[impB,impN]
     repeat' first|exact ck|with_reducible apply And.intro|intro _
     all_goals first|exact hk|exact g1|exact g2|exact g4|exact g7|exact rfl|(exact Nat.le_of_ble_eq_true rfl)|(show (0:Int)≤1;decide)|(show (0:Int)≤0;decide)|(show (0:Int)≤1000000;decide)|(rename_i h;first|exact oI h|exact nah h)|(rename_i _ h _ g;exact sL h g)|decide|omega|(refine ret_with [] ?_;simp only[↓eB,seval,go_sem,bne,yr_pFunc,fnT_eq,fnH,List.append_assoc])
    |some v=>
     have hlt:i<ls.length:=(List.getElem?_eq_some_iff.1 hx).1
     have h1:=natI_lt hlt
     have h2:=natI_ltp hlt
     have h2':=natI_succ (n:=ls.length) (Nat.le_of_lt hlt) (by omega)
     obtain⟨vs,vp⟩:=v
     have h3:=vrD_at hx
     cases vp with
     |true=>
      have g5:=lcL_take hx
      simp only[if_true,if_false,Bool.false_eq_true]at g5
      have g6:=lT_len 1 [[112,116,114,32],vs,[59]]
      have g9:(lineT 0 [[102,110,32],nm,[40],jnT (ps.map vrT),[41,32,123]]++lnX (lcL (ls.take i))).length+(1:Int).toNat+[[112,116,114,32],vs,[59]].flatten.length+1≤100000000000000:=by
       have q1:=lcL_len ls (i+1)
       rw[g5]at q1
       simp only[List.length_append,g6]at q1 ⊢
       show _+1+_+1≤_
       omega
      simp only[↓eB,seval,go_sem,rowsS1.ds,yp_Join,yr_Join,yp_line,yg_line,yg_pstmts,yg_bString,h1,h2,h2',h3]
      try simp only[impB,impN]
      repeat' first|exact ck|with_reducible apply And.intro|intro _
      all_goals try first|exact hlt|exact rfl|exact g9|(exact Nat.le_of_ble_eq_true rfl)|(show (0:Int)≤1;decide)|(show (1:Int)≤1000000;decide)|(rename_i h;first|exact oI h|exact nah h)|(rename_i _ h _ g;exact sL h g)|decide|omega
      refine⟨i+1,hlt,by omega,to_with [] ?_⟩
      simp only[↓eB,seval,go_sem,rowsS1.fn,s_names,List.map_append,List.flatMap_append,rowsS1.ds,dep_mk,g5,List.append_assoc]
     |false=>
      have g5:=lcL_take hx
      simp only[if_true,if_false,Bool.false_eq_true]at g5
      have g6:=lT_len 1 [[118,97,114,32],vs,[59]]
      have g9:(lineT 0 [[102,110,32],nm,[40],jnT (ps.map vrT),[41,32,123]]++lnX (lcL (ls.take i))).length+(1:Int).toNat+[[118,97,114,32],vs,[59]].flatten.length+1≤100000000000000:=by
       have q1:=lcL_len ls (i+1)
       rw[g5]at q1
       simp only[List.length_append,g6]at q1 ⊢
       show _+1+_+1≤_
       omega
      simp only[↓eB,seval,go_sem,rowsS1.ds,yp_Join,yr_Join,yp_line,yg_line,yg_pstmts,yg_bString,h1,h2,h2',h3]
      try simp only[impB,impN]
      repeat' first|exact ck|with_reducible apply And.intro|intro _
      all_goals try first|exact hlt|exact rfl|exact g9|(exact Nat.le_of_ble_eq_true rfl)|(show (0:Int)≤1;decide)|(show (1:Int)≤1000000;decide)|(rename_i h;first|exact oI h|exact nah h)|(rename_i _ h _ g;exact sL h g)|decide|omega
      refine⟨i+1,hlt,by omega,to_with [] ?_⟩
      simp only[↓eB,seval,go_sem,rowsS1.fn,s_names,List.map_append,List.flatMap_append,rowsS1.ds,dep_mk,g5,List.append_assoc]
  |some a=>
   have hlt:i<ps.length:=(List.getElem?_eq_some_iff.1 hx).1
   have h1:=natI_lt hlt
   have h2:=natI_ltp hlt
   have h2':=natI_succ (n:=ps.length) (Nat.le_of_lt hlt) (by omega)
   have g4:=vpT_len (Nat.le_of_lt hlt)
   have g5:=vpT_s hx
   have g6:∀r:List UInt8,((vpT ps i).map sR1++[sR1 r]).length≤5001:=by intro r;simp[g4];omega
   have g8:a.s.length+1≤1000000001:=by
    have q1:vrT a∈ps.map vrT:=List.mem_map.2 ⟨_,List.mem_of_getElem? hx,rfl⟩
    have q2:=jn_mem q1
    have q3:a.s.length≤(vrT a).length:=by unfold vrT;split<;>simp
    omega
   obtain⟨vs,vp⟩:=a
   dsimp only at g8
   have h3:=vrD_at hx
   cases vp with
   |true=>
    have g7:(vpT ps i).map sR1++[sR1 ([42]++vs)]=(vpT ps (i+1)).map sR1:=by rw[← g5,List.map_append];rfl
    simp only[↓eB,seval,go_sem,rowsS1.ds,yp_Join,yr_Join,yp_line,yg_line,yg_pstmts,yg_bString,h1,h2,h2',h3]
    try simp only[impB,impN]
    repeat' first|exact ck|with_reducible apply And.intro|intro _
    all_goals try first|exact hlt|exact rfl|exact g8|(rename_i h;first|exact oI h|exact nah h)|(rename_i _ h _ g;exact sL h g)|decide|omega
    refine⟨i+1,hlt,by omega,to_trans (t:=⟨[(1,true,.one (.p 1 0 0)),(3,true,.one (.p 3 0 0)),(4,true,.one (.s 23)),(10,true,.one (.d (.sl zVr (ps.map Vr.r)))),(11,true,.one (.v (.int .i64 (ps.length:Int)))),(12,true,.one (.v (.int .i64 ((i+1:Nat):Int))))],[(1,.vec 0 (anyN 4) [(Fn.mk nm ps ls bd).c]),(3,.vec 0 (tgN 111 3) [[.v (.pointer none),.ov zB8 [],.v (.int .i64 0)]]),(23,.vec 0 zSs ((vpT ps (i+1)).map sR1))]⟩) (to_with [] ?_) (to_with [.mv 23 1000] ?_)⟩
    ·rw[← g7]
     simp only[↓eB,seval,go_sem,rowsS1.fn,s_names,List.map_append,List.flatMap_append,rowsS1.ds]
    ·simp only[↓eB,seval,go_sem,rowsS1.fn,s_names,List.map_append,List.flatMap_append,rowsS1.ds,rowsS1.mv]
   |false=>
    have g7:(vpT ps i).map sR1++[sR1 (vs)]=(vpT ps (i+1)).map sR1:=by rw[← g5,List.map_append];rfl
    simp only[↓eB,seval,go_sem,rowsS1.ds,yp_Join,yr_Join,yp_line,yg_line,yg_pstmts,yg_bString,h1,h2,h2',h3]
    try simp only[impB,impN]
    repeat' first|exact ck|with_reducible apply And.intro|intro _
    all_goals try first|exact hlt|exact rfl|exact g8|(rename_i h;first|exact oI h|exact nah h)|(rename_i _ h _ g;exact sL h g)|decide|omega
    refine⟨i+1,hlt,by omega,to_trans (t:=⟨[(1,true,.one (.p 1 0 0)),(3,true,.one (.p 3 0 0)),(4,true,.one (.s 28)),(10,true,.one (.d (.sl zVr (ps.map Vr.r)))),(11,true,.one (.v (.int .i64 (ps.length:Int)))),(12,true,.one (.v (.int .i64 ((i+1:Nat):Int))))],[(1,.vec 0 (anyN 4) [(Fn.mk nm ps ls bd).c]),(3,.vec 0 (tgN 111 3) [[.v (.pointer none),.ov zB8 [],.v (.int .i64 0)]]),(28,.vec 0 zSs ((vpT ps (i+1)).map sR1))]⟩) (to_with [] ?_) (to_with [.mv 28 1000] ?_)⟩
    ·rw[← g7]
     simp only[↓eB,seval,go_sem,rowsS1.fn,s_names,List.map_append,List.flatMap_append,rowsS1.ds]
    ·simp only[↓eB,seval,go_sem,rowsS1.fn,s_names,List.map_append,List.flatMap_append,rowsS1.ds,rowsS1.mv]
end Go.Proofs.YtbiepiggmagfcaaGreatDoor
namespace Go.Proofs.YtbiepiggmagfcaaGreatDoor
open Go Go.Sy Go.RowKit
structure Ga where
 s:List UInt8
 n:Int
structure Gb where
 cs:List (List UInt8)
 as':List Ga
def Ga.r (a:Ga):List D:=[dS a.s,dI a.n]
def zGa:List D:=[dS [],dI 0]
theorem zGa_ln:zGa.length=2:=rfl
def Gb.c (g:Gb):List C:=[.d (.sl zSD (g.cs.map sD1)),.d (.sl zGa (g.as'.map Ga.r))]
theorem ga_inj (a b:Ga) (h:a.r=b.r):a=b:=by
 obtain⟨s,n⟩:=a
 obtain⟨s',n'⟩:=b
 simp only[Ga.r,List.cons.injEq,D.v.injEq,Value.int.injEq,Value.string.injEq,and_true,true_and]at h
 rw[bs_inj h.1,h.2]
theorem gb_uq (v:SV) (a b:Gb) (h:leV v (.agg a.c)) (h':leV v (.agg b.c)):a=b:=by
 cases v with
 |one c=>exact h.elim
 |tup l=>exact h.elim
 |agg l=>
  obtain⟨cs,as'⟩:=a
  obtain⟨cs2,as2⟩:=b
  match l,h,h' with
  |[c0,c1],⟨h0,h1,_⟩,⟨g0,g1,_⟩=>
   have k1:=map_inj sD1_inj (leC_d h0 g0)
   have k2:=map_inj ga_inj (leC_d h1 g1)
   simp only at k1 k2
   subst k1;subst k2;rfl
noncomputable def cGb:Cod Gb:=codOf (fun g=>.agg g.c) gb_uq (fun g=>rfl)
theorem cGb_e (g:Gb):cGb.e g= .agg g.c:=rfl
theorem cGb_d (cs:List (List UInt8)) (as':List Ga):cGb.d (.agg [.d (.sl zSD (cs.map sD1)),.d (.sl zGa (as'.map Ga.r))])=some ⟨cs,as'⟩:=codOf_le (e:=fun g:Gb=>.agg g.c) (a:=⟨cs,as'⟩) (leV_refl _)
theorem sD_at {l:List (List UInt8)} {i:Nat} {x:List UInt8} (h:l[i]?=some x) (z:List D):(l.map sD1).getD i z=[dS x]:=by simp[List.getD,h,sD1]
theorem gaD_at {l:List Ga} {i:Nat} {s:List UInt8} {n:Int} (h:l[i]?=some ⟨s,n⟩) (z:List D):(l.map Ga.r).getD i z=[dS s,dI n]:=by simp[List.getD,h,Ga.r]
def ceP (c:List UInt8):List (List UInt8):=[[99,101,108,108,32],c,[59]]
def arP (a:Ga):List (List UInt8):=[[97,114,114,97,121,32],a.s,[91],itT a.n,[93,59]]
def ceT (l:List (List UInt8)):List UInt8:=l.flatMap fun c=>lineT 0 (ceP c)
def arT (l:List Ga):List UInt8:=l.flatMap fun a=>lineT 0 (arP a)
def glT (g:Gb):List UInt8:=ceT g.cs++arT g.as'
theorem fm_take {A:Type} (f:A→List UInt8) {l:List A} {i:Nat} {x:A} (h:l[i]?=some x):(l.take (i+1)).flatMap f=(l.take i).flatMap f++f x:=by
 rw[List.take_add_one,h,List.flatMap_append];simp
theorem fm_len {A:Type} (f:A→List UInt8) (l:List A) (i:Nat):((l.take i).flatMap f).length≤(l.flatMap f).length:=by
 have h1:l.flatMap f=(l.take i).flatMap f++(l.drop i).flatMap f:=by rw[← List.flatMap_append,List.take_append_drop]
 rw[h1,List.length_append];omega
abbrev yc_pGlobals (g:Gb):Prop:=(∀a∈g.as',w64 a.n)∧g.cs.length≤5000∧g.as'.length≤5000∧(glT g).length≤1000000000
abbrev yr_pGlobals (g:Gb):SV:=SV.one (.v (.string (bs (glT g))))
attribute [local go_sem] Ga.r Gb.c amB_a amB_m bd_c1 cGb_d cGb_e decL_ss inK rBd_e rBd_z rSs_d rSs_e rSs_z sD1 sR1 zGa_ln zSD_ln
set_option maxRecDepth 20000 in set_option maxHeartbeats 8000000 in
theorem y_pGlobals:CallsG Tryz.prog 17 powT (acS (cGb) ac0) (fun p:(Gb×Unit)=>yc_pGlobals p.1) (fun p:(Gb×Unit)=>yr_pGlobals p.1):=by
 rintro ⟨g,_u⟩ w fz xs hT hc hfz hl hx
 have hG:=staysN_clX powT_keptB powT_size (fz:=fz) hT
 refine calls_toL Tryz.func17 rfl w fz [(yp_Itoa hG),(yp_line (stays0 _ _)),(yg_bString 111 1 (y_bString _ _) (stays0 _ _))] [] (acS (cGb) ac0) (fun p:(Gb×Unit)=>yr_pGlobals p.1) _ xs hfz hl hx (Nat.le_of_ble_eq_true rfl) ?_
 clear hx hl hfz xs
 simp only[Tryz.f17]
 obtain⟨hw,hp,hq,hlen⟩:=hc
 obtain⟨cs,as'⟩:=g
 dsimp only at hw hp hq hlen
 have hlen:(ceT cs).length+(arT as').length≤1000000000:=by simpa [glT] using hlen
 simp only[↓eB,seval,go_sem]
 refine loop_ok (Y:=Nat×Bool) (fun z=>z.1≤cs.length)
  (fun z=>⟨[(1,true,.one (.p 1 0 0)),(3,true,.one (.p 3 0 0)),(9,true,.one (.d (.sl zSD (cs.map sD1)))),(10,true,.one (.v (.int .i64 (cs.length:Int)))),(11,true,.one (.v (.int .i64 (z.1:Int))))],[(1,.vec 0 (anyN 2) [(Gb.mk cs as').c]),(3,.vec 0 (tgN 111 3) [[sC 3 (adC z.2),.ov zB8 ((ceT (cs.take z.1)).map byK),.v (.int .i64 0)]])]⟩)
  (fun z=>cs.length-z.1) (0,false) (Nat.zero_le _) ?_ ?_
 ·refine to_with [.nilc 3 0 1 zB8] ?_;simp only[↓eB,seval,go_sem,rBd_u0,rBd_u1,rBd_n0,rBd_n1,rBd_f0,rBd_f1,adC,ceT]
 ·rintro ⟨i,u⟩ hi
  dsimp only at hi
  refine vc_ok [yp_Itoa hG,yp_line (stays0 _ _),yg_bString 111 1 (y_bString _ _) (stays0 _ _)] [] _ _ _ ?_
  cases hx:cs[i]? with
  |none=>
   have h2:=List.getElem?_eq_none_iff.1 hx
   have h1:=natI_ge h2
   have h3:cs.take i=cs:=List.take_of_length_le h2
   simp only[↓eB,seval,go_sem,yp_line,yg_line,yg_bString,yp_Itoa,h1,h3]
   refine loop_ok (Y:=Nat×Bool) (fun z=>z.1≤as'.length)
    (fun z=>⟨[(3,true,.one (.p 3 0 0)),(21,true,.one (.d (.sl zGa (as'.map Ga.r)))),(22,true,.one (.v (.int .i64 (as'.length:Int)))),(23,true,.one (.v (.int .i64 (z.1:Int))))],[(3,.vec 0 (tgN 111 3) [[sC 3 (adC z.2),.ov zB8 ((ceT cs++arT (as'.take z.1)).map byK),.v (.int .i64 0)]])]⟩)
    (fun z=>as'.length-z.1) (0,u) (Nat.zero_le _) ?_ ?_
   ·cases u<;>(refine to_with [] ?_;simp only[↓eB,seval,go_sem,rBd_u0,rBd_u1,rBd_n0,rBd_n1,rBd_f0,rBd_f1,adC,arT])
   ·rintro ⟨i,u⟩ hi
    dsimp only at hi
    refine vc_ok [yp_Itoa hG,yp_line (stays0 _ _),yg_bString 111 1 (y_bString _ _) (stays0 _ _)] [] _ _ _ ?_
    cases hx:as'[i]? with
    |none=>
     have h2:=List.getElem?_eq_none_iff.1 hx
     have h1:=natI_ge h2
     have h3:as'.take i=as':=List.take_of_length_le h2
     have g1:(ceT cs++arT as').length≤100000000000000:=by rw[List.length_append];omega
     cases u<;>simp only[↓eB,seval,go_sem,rBd_u0,rBd_u1,rBd_n0,rBd_n1,rBd_f0,rBd_f1,adC,yp_line,yg_line,yg_bString,yp_Itoa,h1,h3]
     all_goals
      try simp only[impB,impN]
      repeat' first|exact ck|with_reducible apply And.intro|intro _
      all_goals first|exact g1|(rename_i h;first|exact oI h|exact nah h)|(rename_i _ h _ g;exact sL h g)|decide|omega|(refine ret_with [] ?_;simp only[↓eB,seval,go_sem,bne,yr_pGlobals,glT,rBd_u0,rBd_u1,rBd_n0,rBd_n1,rBd_f0,rBd_f1,adC])
    |some a=>
     have hlt:i<as'.length:=(List.getElem?_eq_some_iff.1 hx).1
     have h1:=natI_lt hlt
     have h2:=natI_ltp hlt
     have h2':=natI_succ (n:=as'.length) (Nat.le_of_lt hlt) (by omega)
     have g5:arT (as'.take (i+1))=arT (as'.take i)++lineT 0 (arP a):=fm_take _ hx
     have g8:=hw a (List.mem_of_getElem? hx)
     have g9:(ceT cs++arT (as'.take i)).length+(0:Int).toNat+(arP a).flatten.length+1≤100000000000000:=by
      have q1:(arT (as'.take (i+1))).length≤(arT as').length:=fm_len _ _ _
      rw[g5,List.length_append,lT_len]at q1
      rw[List.length_append];show _+0+_+1≤_
      omega
     obtain⟨vs,vn⟩:=a
     simp only[arP]at g5 g9
     have h3:=gaD_at hx
     cases u<;>simp only[↓eB,seval,go_sem,rBd_u0,rBd_u1,rBd_n0,rBd_n1,rBd_f0,rBd_f1,adC,yp_line,yg_line,yg_bString,yp_Itoa,h1,h2,h2',h3]
     all_goals
      try simp only[impB,impN]
      repeat' first|exact ck|with_reducible apply And.intro|intro _
      all_goals try first|exact hlt|exact rfl|exact g8.1|exact g8.2|exact g9|(exact Nat.le_of_ble_eq_true rfl)|(show (0:Int)≤0;decide)|(show (0:Int)≤1000000;decide)|(rename_i h;first|exact oI h|exact nah h)|(rename_i _ h _ g;exact sL h g)|decide|omega
      refine⟨(i+1,true),hlt,by dsimp only;omega,to_with [] ?_⟩
      simp only[↓eB,seval,go_sem,rowsS1.fn,s_names,List.map_append,List.flatMap_append,rBd_u0,rBd_u1,rBd_n0,rBd_n1,rBd_f0,rBd_f1,adC,dep_mk,g5,List.append_assoc]
  |some a=>
   have hlt:i<cs.length:=(List.getElem?_eq_some_iff.1 hx).1
   have h1:=natI_lt hlt
   have h2:=natI_ltp hlt
   have h2':=natI_succ (n:=cs.length) (Nat.le_of_lt hlt) (by omega)
   have g5:ceT (cs.take (i+1))=ceT (cs.take i)++lineT 0 (ceP a):=fm_take _ hx
   have g9:(ceT (cs.take i)).length+(0:Int).toNat+(ceP a).flatten.length+1≤100000000000000:=by
    have q1:(ceT (cs.take (i+1))).length≤(ceT cs).length:=fm_len _ _ _
    rw[g5,List.length_append,lT_len]at q1
    show _+0+_+1≤_
    omega
   simp only[ceP]at g5 g9
   have h3:=sD_at hx
   cases u<;>simp only[↓eB,seval,go_sem,rBd_u0,rBd_u1,rBd_n0,rBd_n1,rBd_f0,rBd_f1,adC,yp_line,yg_line,yg_bString,yp_Itoa,h1,h2,h2',h3]
   all_goals
    try simp only[impB,impN]
    repeat' first|exact ck|with_reducible apply And.intro|intro _
    all_goals try first|exact hlt|exact rfl|exact g9|(exact Nat.le_of_ble_eq_true rfl)|(show (0:Int)≤0;decide)|(show (0:Int)≤1000000;decide)|(rename_i h;first|exact oI h|exact nah h)|(rename_i _ h _ g;exact sL h g)|decide|omega
    refine⟨(i+1,true),hlt,by dsimp only;omega,to_with [] ?_⟩
    simp only[↓eB,seval,go_sem,rowsS1.fn,s_names,List.map_append,List.flatMap_append,rBd_u0,rBd_u1,rBd_n0,rBd_n1,rBd_f0,rBd_f1,adC,dep_mk,g5]
theorem yn_pGlobals:∀p:(Gb×Unit),((fun p:(Gb×Unit)=>yr_pGlobals p.1) p).names=[]:=by intro p;first|rfl|simp[SV.names,C.names]
noncomputable def yp_pGlobals {X:Ctx} {w0:World} (hG:StaysN X w0 powT powB):Sy.Spec Tryz.prog X w0:=specG 17 Tryz.call17 powT (acS (cGb) ac0) (fun p:(Gb×Unit)=>yc_pGlobals p.1) (fun p:(Gb×Unit)=>yr_pGlobals p.1) yn_pGlobals y_pGlobals hG.stays
end Go.Proofs.YtbiepiggmagfcaaGreatDoor
