/- Functions that are the same are found to be so. No conditions but those in each statement. -/
import Derived.Test.YtbiepiggmagfcaaDoorCm1
import Derived.Test.YtbiepiggmagfcaaDoorPs5
set_option linter.unusedVariables false
set_option linter.unusedSimpArgs false
namespace Go.Proofs.YtbiepiggmagfcaaDoor
open Go Go.Sy Go.RowKit
noncomputable def cVs:Cod (List Vr):=codOf (fun l=>.one (.d (.sl zVr (l.map Vr.r)))) (fun v a b h h'=>by
 cases v with
 |one c=>exact map_inj vr_inj (leC_d h h')
 |agg l=>exact h.elim
 |tup l=>exact h.elim) (fun l=>rfl)
theorem cVs_e (l:List Vr):cVs.e l= .one (.d (.sl zVr (l.map Vr.r))):=rfl
theorem cVs_d (l:List Vr):cVs.d (.one (.d (.sl zVr (l.map Vr.r))))=some l:=codOf_le (e:=fun l:List Vr=>.one (.d (.sl zVr (l.map Vr.r)))) (leV_refl _)
abbrev yc_eqV (a:List Vr) (b:List Vr):Prop:=a=b∧a.length≤1000000
abbrev yr_eqV (a:List Vr) (b:List Vr):SV:=.one (.v (.bool true))
noncomputable abbrev ya_eqV:ArgC ((List Vr)×(List Vr)×Unit):=(acS (cVs) (acS (cVs) ac0))
abbrev yq_eqV:Prop:=CallsY Tryd.prog 50 ya_eqV (fun p:(List Vr)×(List Vr)×Unit=>yc_eqV p.1 p.2.1) (fun p:(List Vr)×(List Vr)×Unit=>yr_eqV p.1 p.2.1)
theorem yn_eqV:∀p:(List Vr)×(List Vr)×Unit,((fun p:(List Vr)×(List Vr)×Unit=>yr_eqV p.1 p.2.1) p).names=[]:=by intro p;first|rfl|exact ex_names _|exact cd_names _
noncomputable def yg_eqV {X:Ctx} {w0:World} (h:yq_eqV):Sy.Spec Tryd.prog X w0:=specD 50 Tryd.call50 ya_eqV (fun p:(List Vr)×(List Vr)×Unit=>yc_eqV p.1 p.2.1) (fun p:(List Vr)×(List Vr)×Unit=>yr_eqV p.1 p.2.1) (yn_eqV) h
attribute [local go_sem] cFn_d cFn_e cSs_d cSs_e cVs_d cVs_e pairN_o pairO_n pzVr_ln spFn_n
set_option maxRecDepth 20000 in set_option maxHeartbeats 8000000 in
theorem y_eqV:yq_eqV:=by
 rintro ⟨a,b,_u⟩ w fz xs hc hfz hl hx
 refine calls_toL Tryd.func50 rfl w fz [] [] ya_eqV (fun p:(List Vr)×(List Vr)×Unit=>yr_eqV p.1 p.2.1) _ xs hfz hl hx (Nat.le_of_ble_eq_true rfl) ?_
 clear hx hl hfz xs
 simp only[Tryd.f50]
 obtain⟨hc1,hc2⟩:=hc
 dsimp only at hc1 hc2
 subst hc1
 simp only[↓eB,seval,go_sem,bne_self_eq_false]
 refine loop_ok (Y:=Nat) (fun i=>i≤a.length)
  (fun i=>⟨[(0,true,.one (.d (.sl zVr (a.map Vr.r)))),(1,true,.one (.d (.sl zVr (a.map Vr.r)))),(5,true,.one (.v (.int .i64 (i:Int))))],[]⟩)
  (fun i=>a.length-i) 0 (Nat.zero_le _) ?_ ?_
 ·refine to_with [] ?_;simp only[↓eB,seval,go_sem]
 ·intro i hi
  refine vc_ok [] [] _ _ _ ?_
  cases hx:a[i]? with
  |none=>
   have b1:=natI_ge (List.getElem?_eq_none_iff.1 hx)
   simp only[↓eB,seval,go_sem,bne_self_eq_false,b1]
   try simp only[impB,impN]
   repeat' first|exact ck|with_reducible apply And.intro|intro _
   all_goals first|exact trivial|(rename_i h;first|exact oI h|exact nah h)|(rename_i _ h _ g;exact sL h g)|decide|omega|(refine ret_with [] ?_;simp only[↓eB,seval,go_sem,bne,yr_eqV])
  |some s=>
   have hil:i<a.length:=(List.getElem?_eq_some_iff.1 hx).1
   have b1:=natI_lt hil
   have b2:=natI_ltp hil
   obtain⟨s,p⟩:=s
   have b3:=vrD_at hx
   have b4:=natI_succ (n:=a.length) hi (by omega)
   simp only[↓eB,seval,go_sem,bne_self_eq_false,b1,b2,b3,b4,beq_self_eq_true]
   try simp only[impB,impN]
   repeat' first|exact ck|with_reducible apply And.intro|intro _
   all_goals try first|exact hil|exact rfl|(rename_i h;first|exact oI h|exact nah h)|(rename_i _ h _ g;exact sL h g)|decide|omega
   refine⟨i+1,hil,by omega,to_with [] ?_⟩
   simp only[↓eB,seval,go_sem]
abbrev yc_eqF (n:Nat) (m:Nat) (a:Fn) (b:Fn):Prop:=a=b∧okB n m a.body∧a.ps.length≤1000000∧a.ls.length≤1000000
abbrev yr_eqF (n:Nat) (m:Nat) (a:Fn) (b:Fn):SV:=.one (.v (.bool true))
noncomputable abbrev ya_eqF:ArgC ((Fn)×(Fn)×Unit):=(acS (cFn) (acS (cFn) ac0))
abbrev yq_eqF (n:Nat) (m:Nat):Prop:=CallsY Tryd.prog 16 ya_eqF (fun p:(Fn)×(Fn)×Unit=>yc_eqF n m p.1 p.2.1) (fun p:(Fn)×(Fn)×Unit=>yr_eqF n m p.1 p.2.1)
theorem yn_eqF (n:Nat) (m:Nat):∀p:(Fn)×(Fn)×Unit,((fun p:(Fn)×(Fn)×Unit=>yr_eqF n m p.1 p.2.1) p).names=[]:=by intro p;first|rfl|exact ex_names _|exact cd_names _
noncomputable def yg_eqF {X:Ctx} {w0:World} (n:Nat) (m:Nat) (h:yq_eqF n m):Sy.Spec Tryd.prog X w0:=specD 16 Tryd.call16 ya_eqF (fun p:(Fn)×(Fn)×Unit=>yc_eqF n m p.1 p.2.1) (fun p:(Fn)×(Fn)×Unit=>yr_eqF n m p.1 p.2.1) (yn_eqF n m) h
set_option maxRecDepth 20000 in set_option maxHeartbeats 8000000 in
theorem y_eqF (n:Nat) (m:Nat):yq_eqF n m:=by
 rintro ⟨a,b,_u⟩ w fz xs hc hfz hl hx
 refine calls_toL Tryd.func16 rfl w fz [(yg_eqV y_eqV),(yg_eqB n m (y_eqB n m))] [] ya_eqF (fun p:(Fn)×(Fn)×Unit=>yr_eqF n m p.1 p.2.1) _ xs hfz hl hx (Nat.le_of_ble_eq_true rfl) ?_
 clear hx hl hfz xs
 simp only[Tryd.f16]
 obtain⟨hc1,hc2,hc3,hc4⟩:=hc
 dsimp only at hc1 hc2 hc3 hc4
 subst hc1
 obtain⟨nm,ps,ls,bd⟩:=a
 simp only[↓eB,seval,go_sem,bne_self_eq_false,yg_eqV,yg_eqB,Fn.c,beq_self_eq_true]
 try simp only[impB,impN]
 repeat' first|exact ck|with_reducible apply And.intro|intro _
 all_goals first|exact hc2|exact hc3|exact hc4|exact rfl|(rename_i h;first|exact oI h|exact nah h)|(rename_i _ h _ g;exact sL h g)|decide|omega|(refine ret_with [] ?_;simp only[↓eB,seval,go_sem,bne,yr_eqF])
end Go.Proofs.YtbiepiggmagfcaaDoor
namespace Go.Proofs.YtbiepiggmagfcaaDoor
open Go Go.Sy Go.RowKit
structure Ga where
 s:List UInt8
 n:Int
structure Gb where
 cs:List (List UInt8)
 as':List Ga
def Ga.r (a:Ga):List D:=[dS a.s,dI a.n]
def zGa:List D:=[dS [],dI 0]
theorem zGa_ln:zGa.length=2:=rfl
def Gb.c (g:Gb):List C:=[.d (.sl zSD (g.cs.map sD1)),.d (.sl zGa (g.as'.map Ga.r))]
theorem ga_inj (a b:Ga) (h:a.r=b.r):a=b:=by
 obtain⟨s,n⟩:=a
 obtain⟨s',n'⟩:=b
 simp only[Ga.r,List.cons.injEq,D.v.injEq,Value.int.injEq,Value.string.injEq,and_true,true_and]at h
 rw[bs_inj h.1,h.2]
theorem gb_uq (v:SV) (a b:Gb) (h:leV v (.agg a.c)) (h':leV v (.agg b.c)):a=b:=by
 cases v with
 |one c=>exact h.elim
 |tup l=>exact h.elim
 |agg l=>
  obtain⟨cs,as'⟩:=a
  obtain⟨cs2,as2⟩:=b
  match l,h,h' with
  |[c0,c1],⟨h0,h1,_⟩,⟨g0,g1,_⟩=>
   have k1:=map_inj sD1_inj (leC_d h0 g0)
   have k2:=map_inj ga_inj (leC_d h1 g1)
   simp only at k1 k2
   subst k1;subst k2;rfl
noncomputable def cGb:Cod Gb:=codOf (fun g=>.agg g.c) gb_uq (fun g=>rfl)
theorem cGb_e (g:Gb):cGb.e g= .agg g.c:=rfl
theorem cGb_d (cs:List (List UInt8)) (as':List Ga):cGb.d (.agg [.d (.sl zSD (cs.map sD1)),.d (.sl zGa (as'.map Ga.r))])=some ⟨cs,as'⟩:=codOf_le (e:=fun g:Gb=>.agg g.c) (a:=⟨cs,as'⟩) (leV_refl _)
theorem sD_at {l:List (List UInt8)} {i:Nat} {x:List UInt8} (h:l[i]?=some x) (z:List D):(l.map sD1).getD i z=[dS x]:=by simp[List.getD,h,sD1]
theorem gaD_at {l:List Ga} {i:Nat} {s:List UInt8} {n:Int} (h:l[i]?=some ⟨s,n⟩) (z:List D):(l.map Ga.r).getD i z=[dS s,dI n]:=by simp[List.getD,h,Ga.r]
def ceP (c:List UInt8):List (List UInt8):=[[99,101,108,108,32],c,[59]]
def arP (a:Ga):List (List UInt8):=[[97,114,114,97,121,32],a.s,[91],itT a.n,[93,59]]
def ceT (l:List (List UInt8)):List UInt8:=l.flatMap fun c=>lineT 0 (ceP c)
def arT (l:List Ga):List UInt8:=l.flatMap fun a=>lineT 0 (arP a)
def glT (g:Gb):List UInt8:=ceT g.cs++arT g.as'
theorem fm_take {A:Type} (f:A→List UInt8) {l:List A} {i:Nat} {x:A} (h:l[i]?=some x):(l.take (i+1)).flatMap f=(l.take i).flatMap f++f x:=by
 rw[List.take_add_one,h,List.flatMap_append];simp
theorem fm_len {A:Type} (f:A→List UInt8) (l:List A) (i:Nat):((l.take i).flatMap f).length≤(l.flatMap f).length:=by
 have h1:l.flatMap f=(l.take i).flatMap f++(l.drop i).flatMap f:=by rw[← List.flatMap_append,List.take_append_drop]
 rw[h1,List.length_append];omega
abbrev yc_pGlobals (g:Gb):Prop:=(∀a∈g.as',w64 a.n)∧g.cs.length≤5000∧g.as'.length≤5000∧(glT g).length≤1000000000
abbrev yr_pGlobals (g:Gb):SV:=SV.one (.v (.string (bs (glT g))))
attribute [local go_sem] Ga.r Gb.c amB_a amB_m bd_c1 cGb_d cGb_e decL_ss inK rBd_e rBd_z rSs_d rSs_e rSs_z sD1 sR1 zGa_ln zSD_ln
set_option maxRecDepth 20000 in set_option maxHeartbeats 8000000 in
theorem y_pGlobals:CallsG Tryd.prog 23 powT (acS (cGb) ac0) (fun p:(Gb×Unit)=>yc_pGlobals p.1) (fun p:(Gb×Unit)=>yr_pGlobals p.1):=by
 rintro ⟨g,_u⟩ w fz xs hT hc hfz hl hx
 have hG:=staysN_clX powT_keptB powT_size (fz:=fz) hT
 refine calls_toL Tryd.func23 rfl w fz [(yp_Itoa hG),(yp_line (stays0 _ _)),(yg_bString 87 1 (y_bString _ _) (stays0 _ _))] [] (acS (cGb) ac0) (fun p:(Gb×Unit)=>yr_pGlobals p.1) _ xs hfz hl hx (Nat.le_of_ble_eq_true rfl) ?_
 clear hx hl hfz xs
 simp only[Tryd.f23]
 obtain⟨hw,hp,hq,hlen⟩:=hc
 obtain⟨cs,as'⟩:=g
 dsimp only at hw hp hq hlen
 have hlen:(ceT cs).length+(arT as').length≤1000000000:=by simpa [glT] using hlen
 simp only[↓eB,seval,go_sem]
 refine loop_ok (Y:=Nat×Bool) (fun z=>z.1≤cs.length)
  (fun z=>⟨[(1,true,.one (.p 1 0 0)),(3,true,.one (.p 3 0 0)),(9,true,.one (.d (.sl zSD (cs.map sD1)))),(10,true,.one (.v (.int .i64 (cs.length:Int)))),(11,true,.one (.v (.int .i64 (z.1:Int))))],[(1,.vec 0 (anyN 2) [(Gb.mk cs as').c]),(3,.vec 0 (tgN 87 3) [[sC 3 (adC z.2),.ov zB8 ((ceT (cs.take z.1)).map byK),.v (.int .i64 0)]])]⟩)
  (fun z=>cs.length-z.1) (0,false) (Nat.zero_le _) ?_ ?_
 ·refine to_with [.nilc 3 0 1 zB8] ?_;simp only[↓eB,seval,go_sem,rBd_u0,rBd_u1,rBd_n0,rBd_n1,rBd_f0,rBd_f1,adC,ceT]
 ·rintro ⟨i,u⟩ hi
  dsimp only at hi
  refine vc_ok [yp_Itoa hG,yp_line (stays0 _ _),yg_bString 87 1 (y_bString _ _) (stays0 _ _)] [] _ _ _ ?_
  cases hx:cs[i]? with
  |none=>
   have h2:=List.getElem?_eq_none_iff.1 hx
   have h1:=natI_ge h2
   have h3:cs.take i=cs:=List.take_of_length_le h2
   simp only[↓eB,seval,go_sem,yp_line,yg_line,yg_bString,yp_Itoa,h1,h3]
   refine loop_ok (Y:=Nat×Bool) (fun z=>z.1≤as'.length)
    (fun z=>⟨[(3,true,.one (.p 3 0 0)),(21,true,.one (.d (.sl zGa (as'.map Ga.r)))),(22,true,.one (.v (.int .i64 (as'.length:Int)))),(23,true,.one (.v (.int .i64 (z.1:Int))))],[(3,.vec 0 (tgN 87 3) [[sC 3 (adC z.2),.ov zB8 ((ceT cs++arT (as'.take z.1)).map byK),.v (.int .i64 0)]])]⟩)
    (fun z=>as'.length-z.1) (0,u) (Nat.zero_le _) ?_ ?_
   ·cases u<;>(refine to_with [] ?_;simp only[↓eB,seval,go_sem,rBd_u0,rBd_u1,rBd_n0,rBd_n1,rBd_f0,rBd_f1,adC,arT])
   ·rintro ⟨i,u⟩ hi
    dsimp only at hi
    refine vc_ok [yp_Itoa hG,yp_line (stays0 _ _),yg_bString 87 1 (y_bString _ _) (stays0 _ _)] [] _ _ _ ?_
    cases hx:as'[i]? with
    |none=>
     have h2:=List.getElem?_eq_none_iff.1 hx
     have h1:=natI_ge h2
     have h3:as'.take i=as':=List.take_of_length_le h2
     have g1:(ceT cs++arT as').length≤100000000000000:=by rw[List.length_append];omega
     cases u<;>simp only[↓eB,seval,go_sem,rBd_u0,rBd_u1,rBd_n0,rBd_n1,rBd_f0,rBd_f1,adC,yp_line,yg_line,yg_bString,yp_Itoa,h1,h3]
     all_goals
      try simp only[impB,impN]
      repeat' first|exact ck|with_reducible apply And.intro|intro _
      all_goals first|exact g1|(rename_i h;first|exact oI h|exact nah h)|(rename_i _ h _ g;exact sL h g)|decide|omega|(refine ret_with [] ?_;simp only[↓eB,seval,go_sem,bne,yr_pGlobals,glT,rBd_u0,rBd_u1,rBd_n0,rBd_n1,rBd_f0,rBd_f1,adC])
    |some a=>
     have hlt:i<as'.length:=(List.getElem?_eq_some_iff.1 hx).1
     have h1:=natI_lt hlt
     have h2:=natI_ltp hlt
     have h2':=natI_succ (n:=as'.length) (Nat.le_of_lt hlt) (by omega)
     have g5:arT (as'.take (i+1))=arT (as'.take i)++lineT 0 (arP a):=fm_take _ hx
     have g8:=hw a (List.mem_of_getElem? hx)
     have g9:(ceT cs++arT (as'.take i)).length+(0:Int).toNat+(arP a).flatten.length+1≤100000000000000:=by
      have q1:(arT (as'.take (i+1))).length≤(arT as').length:=fm_len _ _ _
      rw[g5,List.length_append,lT_len]at q1
      rw[List.length_append];show _+0+_+1≤_
      omega
     obtain⟨vs,vn⟩:=a
     simp only[arP]at g5 g9
     have h3:=gaD_at hx
     cases u<;>simp only[↓eB,seval,go_sem,rBd_u0,rBd_u1,rBd_n0,rBd_n1,rBd_f0,rBd_f1,adC,yp_line,yg_line,yg_bString,yp_Itoa,h1,h2,h2',h3]
     all_goals
      try simp only[impB,impN]
      repeat' first|exact ck|with_reducible apply And.intro|intro _
      all_goals try first|exact hlt|exact rfl|exact g8.1|exact g8.2|exact g9|(exact Nat.le_of_ble_eq_true rfl)|(show (0:Int)≤0;decide)|(show (0:Int)≤1000000;decide)|(rename_i h;first|exact oI h|exact nah h)|(rename_i _ h _ g;exact sL h g)|decide|omega
      refine⟨(i+1,true),hlt,by dsimp only;omega,to_with [] ?_⟩
      simp only[↓eB,seval,go_sem,rowsS1.fn,s_names,List.map_append,List.flatMap_append,rBd_u0,rBd_u1,rBd_n0,rBd_n1,rBd_f0,rBd_f1,adC,dep_mk,g5,List.append_assoc]
  |some a=>
   have hlt:i<cs.length:=(List.getElem?_eq_some_iff.1 hx).1
   have h1:=natI_lt hlt
   have h2:=natI_ltp hlt
   have h2':=natI_succ (n:=cs.length) (Nat.le_of_lt hlt) (by omega)
   have g5:ceT (cs.take (i+1))=ceT (cs.take i)++lineT 0 (ceP a):=fm_take _ hx
   have g9:(ceT (cs.take i)).length+(0:Int).toNat+(ceP a).flatten.length+1≤100000000000000:=by
    have q1:(ceT (cs.take (i+1))).length≤(ceT cs).length:=fm_len _ _ _
    rw[g5,List.length_append,lT_len]at q1
    show _+0+_+1≤_
    omega
   simp only[ceP]at g5 g9
   have h3:=sD_at hx
   cases u<;>simp only[↓eB,seval,go_sem,rBd_u0,rBd_u1,rBd_n0,rBd_n1,rBd_f0,rBd_f1,adC,yp_line,yg_line,yg_bString,yp_Itoa,h1,h2,h2',h3]
   all_goals
    try simp only[impB,impN]
    repeat' first|exact ck|with_reducible apply And.intro|intro _
    all_goals try first|exact hlt|exact rfl|exact g9|(exact Nat.le_of_ble_eq_true rfl)|(show (0:Int)≤0;decide)|(show (0:Int)≤1000000;decide)|(rename_i h;first|exact oI h|exact nah h)|(rename_i _ h _ g;exact sL h g)|decide|omega
    refine⟨(i+1,true),hlt,by dsimp only;omega,to_with [] ?_⟩
    simp only[↓eB,seval,go_sem,rowsS1.fn,s_names,List.map_append,List.flatMap_append,rBd_u0,rBd_u1,rBd_n0,rBd_n1,rBd_f0,rBd_f1,adC,dep_mk,g5]
end Go.Proofs.YtbiepiggmagfcaaDoor
