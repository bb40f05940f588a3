/- The document's line of a statement. Conditions: each node has its parts, the numbers are of 64 bits, the text is shorter than 10^9 bytes. -/
import Derived.Test.YtbiepiggmagfcaaGreatDoorPr2
import Derived.Test.YtbiepiggmagfcaaGreatDoorPs4
set_option linter.unusedVariables false
set_option linter.unusedSimpArgs false
namespace Go.Proofs.YtbiepiggmagfcaaGreatDoor
open Go Go.Sy Go.RowKit
structure RgS (s:Sm):Prop where
 e:s.k=0∨s.k=5∨s.k=6∨s.k=7∨s.k=9→rgE s.e
 f:s.k=7→rgE s.f
 c:s.k=10∨s.k=11∨s.k=12→rgC s.cd
 a:s.k=8→∀a∈s.ar,a.p=false→rgE a.e
theorem tbs_s (i:Nat):tbs i++[9]=tbs (i+1):=by simp[tbs,List.replicate_succ']
theorem tbs_len (i:Nat):(tbs i).length=i:=by simp[tbs]
theorem tbs_0:tbs 0=[]:=rfl
abbrev yc_rtabs (n:Int):Prop:=0≤n∧n≤1000000
abbrev yr_rtabs (n:Int):SV:=SV.one (.v (.string (bs (tbs n.toNat))))
attribute [local go_sem] Ar.r Sm.ar Sm.c Sm.cd Sm.e Sm.el Sm.f Sm.k Sm.no Sm.th Sm.x Sm.y cCd_d cCd_dp cCd_e cCd_n cEx_d cEx_dp cEx_e cEx_n cSm_d cSm_e pzAr_ln
theorem y_rtabs:CallsY Tryz.prog 84 (acS (cInt .i64) ac0) (fun p:(Int×Unit)=>yc_rtabs p.1) (fun p:(Int×Unit)=>yr_rtabs p.1):=by
 rintro ⟨n,_u⟩ w fz xs hc hfz hl hx
 refine calls_toL Tryz.func84 rfl w fz [] [] (acS (cInt .i64) ac0) (fun p:(Int×Unit)=>yr_rtabs p.1) _ xs hfz hl hx (Nat.le_of_ble_eq_true rfl) ?_
 clear hx hl hfz xs
 simp only[Tryz.f84]
 obtain⟨h0,h1⟩:=hc
 obtain⟨m,rfl⟩:∃m:Nat,n=(m:Int):=⟨n.toNat,by omega⟩
 simp only[↓eB,seval,go_sem]
 refine loop_ok (Y:=Nat) (fun y=>y≤m)
  (fun y=>⟨[(0,true,.one (.v (.int .i64 (m:Int)))),(3,true,.one (.v (.string (bs (tbs y))))),(4,true,.one (.v (.int .i64 (y:Int))))],[]⟩)
  (fun y=>m-y) 0 (Nat.zero_le _) ?_ ?_
 ·refine to_with [] ?_;simp only[↓eB,seval,go_sem,tbs_0]
 ·rintro i hi
  refine vc_ok [] [] _ _ _ ?_
  by_cases hlt:i<m
  ·have h1:=natI_lt hlt
   have h2:=natI_succ (n:=m) (Nat.le_of_lt hlt) (by omega)
   have h3:=tbs_s i
   have h4:=tbs_len i
   simp only[↓eB,seval,go_sem,h1,h2,h3]
   try simp only[impB,impN]
   repeat' first|exact ck|with_reducible apply And.intro|intro _
   all_goals try first|(rw[h4];omega)|exact rfl|(rename_i h;first|exact oI h|exact nah h)|(rename_i _ h _ g;exact sL h g)|decide|omega
   refine⟨i+1,hlt,by omega,to_with [] ?_⟩
   simp only[↓eB,seval,go_sem]
  ·obtain rfl:i=m:=by omega
   have h1:=natI_ge (Nat.le_refl i)
   simp only[↓eB,seval,go_sem,h1]
   try simp only[impB,impN]
   repeat' first|exact ck|with_reducible apply And.intro|intro _
   all_goals first|exact trivial|(rename_i h;first|exact oI h|exact nah h)|(rename_i _ h _ g;exact sL h g)|decide|omega|(refine ret_with [] ?_;simp only[↓eB,seval,go_sem,bne,yr_rtabs])
theorem yn_rtabs:∀p:(Int×Unit),((fun p:(Int×Unit)=>yr_rtabs p.1) p).names=[]:=by intro p;first|rfl|simp[SV.names,C.names]
noncomputable def yp_rtabs {X:Ctx} {w0:World}:Sy.Spec Tryz.prog X w0:=specD 84 Tryz.call84 (acS (cInt .i64) ac0) (fun p:(Int×Unit)=>yc_rtabs p.1) (fun p:(Int×Unit)=>yr_rtabs p.1) yn_rtabs y_rtabs
theorem jn_1 (x:List UInt8):jnT [x]=x:=Lib.join_one x _
theorem jn_snoc {l:List (List UInt8)} (h:l≠[]) (x:List UInt8):jnT (l++[x])=jnT l++([44,32]++x):=by
 cases l with
 |nil=>exact absurd rfl h
 |cons a r=>
  unfold jnT
  rw[List.cons_append,Lib.join_cons,Lib.join_cons,Lib.joinTail,Lib.joinTail]
  simp
theorem jn_len_le {l:List (List UInt8)} (i:Nat):(jnT (l.take i)).length≤(jnT l).length:=by
 cases l with
 |nil=>simp
 |cons a r=>
  cases i with
  |zero=>simp[jnT,Lib.join_nil]
  |succ i=>
   unfold jnT
   rw[List.take_succ_cons,Lib.join_cons,Lib.join_cons,List.length_append,List.length_append]
   have:=Lib.joinTail_take_le [44,32] r i
   omega
theorem jn_0:jnT []=[]:=rfl
theorem ap_len (l:List Ar) (i:Nat):(jnT (apT l i)).length≤(jnT (l.map argX)).length:=by
 unfold apT;rw[List.map_take];exact jn_len_le i
theorem ap_snoc {l:List Ar} {i:Nat} {x:Ar} (h:l[i]?=some x):jnT (apT l (i+1))=jnT (apT l i)++((if i=0 then [] else [44,32])++argX x):=by
 rw[← apT_s h]
 cases i with
 |zero=>rw[apT_0,List.nil_append,jn_1,jn_0];rfl
 |succ i=>
  rw[jn_snoc]
  ·rfl
  ·intro h0
   have:=apT_len (l:=l) (i:=i+1) (by have:=(List.getElem?_eq_some_iff.1 h).1;omega)
   rw[h0]at this;cases this
theorem wt_ne (i:Nat):decide ((0:Int)<((i+1:Nat):Int))=true:=by simp only[decide_eq_true_eq];omega
abbrev yc_rHead (n:Nat) (s:Sm):Prop:=PrS n s∧RgS s∧(hdL s).flatten.length≤1000000000
abbrev yr_rHead (n:Nat) (s:Sm):SV:=.one (.v (.string (bs (hdL s).flatten)))
noncomputable abbrev ya_rHead:ArgC ((Sm)×Unit):=(acS (cSm) ac0)
abbrev yq_rHead (n:Nat):Prop:=CallsY Tryz.prog 85 ya_rHead (fun p:(Sm)×Unit=>yc_rHead n p.1) (fun p:(Sm)×Unit=>yr_rHead n p.1)
theorem yn_rHead (n:Nat):∀p:(Sm)×Unit,((fun p:(Sm)×Unit=>yr_rHead n p.1) p).names=[]:=by intro p;rfl
noncomputable def yg_rHead {X:Ctx} {w0:World} (n:Nat) (h:yq_rHead n):Sy.Spec Tryz.prog X w0:=specD 85 Tryz.call85 ya_rHead (fun p:(Sm)×Unit=>yc_rHead n p.1) (fun p:(Sm)×Unit=>yr_rHead n p.1) (yn_rHead n) h
set_option maxRecDepth 20000 in set_option maxHeartbeats 16000000 in
theorem y_rHead (n:Nat):yq_rHead n:=by
 rintro ⟨s,_u⟩ w fz xs hc hfz hl hx
 refine calls_toL Tryz.func85 rfl w fz [(yg_rExpr n (y_rExpr n)),(yg_rCond n (y_rCond n))] [] ya_rHead (fun p:(Sm)×Unit=>yr_rHead n p.1) _ xs hfz hl hx (Nat.le_of_ble_eq_true rfl) ?_
 clear hx hl hfz xs
 simp only[Tryz.f85]
 obtain⟨hk,hr,hlen⟩:=hc
 dsimp only at hk hr hlen
 have hds:=hk.dp
 obtain⟨hok,k0,k1,ne,nf,nc,na⟩:=hk
 have e1:=hok.e
 have e2:=hok.f
 have e3:=hok.c
 have e5:=hok.l
 obtain⟨r1,r2,r3,r4⟩:=hr
 obtain⟨k,x,y,e,f,c,ar,th,el,no⟩:=s
 dsimp only[Sm.k,Sm.e,Sm.f,Sm.cd,Sm.ar]at k0 k1 ne nf nc na e1 e2 e3 e5 hds r1 r2 r3 r4
 rcases kd13 k0 k1 with rfl|rfl|rfl|rfl|rfl|rfl|rfl|rfl|rfl|rfl|rfl|rfl|rfl
 ·rw[hdk0]at hlen
  simp only[List.flatten_cons,List.flatten_nil,List.length_append,List.length_cons,List.length_nil]at hlen
  simp only[↓eB,seval,go_sem,yg_rExpr,yg_rCond]
  try simp only[impB,impN]
  repeat' first|exact ck|with_reducible apply And.intro|intro _
  all_goals first|exact e1|exact e2|exact e3|exact ne|exact nf|exact nc|(exact r1 (by decide))|(exact r2 rfl)|(exact r3 (by decide))|(simp only[List.length_append,List.length_cons,List.length_nil];omega)|(rename_i h;first|exact oI h|exact nah h)|(rename_i _ h _ g;exact sL h g)|decide|omega|(refine ret_with [] ?_;simp only[↓eB,seval,go_sem,bne,yr_rHead,hdk0,List.flatten_cons,List.flatten_nil,List.append_assoc])
 ·rw[hdk1]at hlen
  simp only[List.flatten_cons,List.flatten_nil,List.length_append,List.length_cons,List.length_nil]at hlen
  simp only[↓eB,seval,go_sem,yg_rExpr,yg_rCond]
  try simp only[impB,impN]
  repeat' first|exact ck|with_reducible apply And.intro|intro _
  all_goals first|exact e1|exact e2|exact e3|exact ne|exact nf|exact nc|(exact r1 (by decide))|(exact r2 rfl)|(exact r3 (by decide))|(simp only[List.length_append,List.length_cons,List.length_nil];omega)|(rename_i h;first|exact oI h|exact nah h)|(rename_i _ h _ g;exact sL h g)|decide|omega|(refine ret_with [] ?_;simp only[↓eB,seval,go_sem,bne,yr_rHead,hdk1,List.flatten_cons,List.flatten_nil,List.append_assoc])
 ·rw[hdk2]at hlen
  simp only[List.flatten_cons,List.flatten_nil,List.length_append,List.length_cons,List.length_nil]at hlen
  simp only[↓eB,seval,go_sem,yg_rExpr,yg_rCond]
  try simp only[impB,impN]
  repeat' first|exact ck|with_reducible apply And.intro|intro _
  all_goals first|exact e1|exact e2|exact e3|exact ne|exact nf|exact nc|(exact r1 (by decide))|(exact r2 rfl)|(exact r3 (by decide))|(simp only[List.length_append,List.length_cons,List.length_nil];omega)|(rename_i h;first|exact oI h|exact nah h)|(rename_i _ h _ g;exact sL h g)|decide|omega|(refine ret_with [] ?_;simp only[↓eB,seval,go_sem,bne,yr_rHead,hdk2,List.flatten_cons,List.flatten_nil,List.append_assoc])
 ·rw[hdk3]at hlen
  simp only[List.flatten_cons,List.flatten_nil,List.length_append,List.length_cons,List.length_nil]at hlen
  simp only[↓eB,seval,go_sem,yg_rExpr,yg_rCond]
  try simp only[impB,impN]
  repeat' first|exact ck|with_reducible apply And.intro|intro _
  all_goals first|exact e1|exact e2|exact e3|exact ne|exact nf|exact nc|(exact r1 (by decide))|(exact r2 rfl)|(exact r3 (by decide))|(simp only[List.length_append,List.length_cons,List.length_nil];omega)|(rename_i h;first|exact oI h|exact nah h)|(rename_i _ h _ g;exact sL h g)|decide|omega|(refine ret_with [] ?_;simp only[↓eB,seval,go_sem,bne,yr_rHead,hdk3,List.flatten_cons,List.flatten_nil,List.append_assoc])
 ·rw[hdk4]at hlen
  simp only[List.flatten_cons,List.flatten_nil,List.length_append,List.length_cons,List.length_nil]at hlen
  simp only[↓eB,seval,go_sem,yg_rExpr,yg_rCond]
  try simp only[impB,impN]
  repeat' first|exact ck|with_reducible apply And.intro|intro _
  all_goals first|exact e1|exact e2|exact e3|exact ne|exact nf|exact nc|(exact r1 (by decide))|(exact r2 rfl)|(exact r3 (by decide))|(simp only[List.length_append,List.length_cons,List.length_nil];omega)|(rename_i h;first|exact oI h|exact nah h)|(rename_i _ h _ g;exact sL h g)|decide|omega|(refine ret_with [] ?_;simp only[↓eB,seval,go_sem,bne,yr_rHead,hdk4,List.flatten_cons,List.flatten_nil,List.append_assoc])
 ·rw[hdk5]at hlen
  simp only[List.flatten_cons,List.flatten_nil,List.length_append,List.length_cons,List.length_nil]at hlen
  simp only[↓eB,seval,go_sem,yg_rExpr,yg_rCond]
  try simp only[impB,impN]
  repeat' first|exact ck|with_reducible apply And.intro|intro _
  all_goals first|exact e1|exact e2|exact e3|exact ne|exact nf|exact nc|(exact r1 (by decide))|(exact r2 rfl)|(exact r3 (by decide))|(simp only[List.length_append,List.length_cons,List.length_nil];omega)|(rename_i h;first|exact oI h|exact nah h)|(rename_i _ h _ g;exact sL h g)|decide|omega|(refine ret_with [] ?_;simp only[↓eB,seval,go_sem,bne,yr_rHead,hdk5,List.flatten_cons,List.flatten_nil,List.append_assoc])
 ·rw[hdk6]at hlen
  simp only[List.flatten_cons,List.flatten_nil,List.length_append,List.length_cons,List.length_nil]at hlen
  simp only[↓eB,seval,go_sem,yg_rExpr,yg_rCond]
  try simp only[impB,impN]
  repeat' first|exact ck|with_reducible apply And.intro|intro _
  all_goals first|exact e1|exact e2|exact e3|exact ne|exact nf|exact nc|(exact r1 (by decide))|(exact r2 rfl)|(exact r3 (by decide))|(simp only[List.length_append,List.length_cons,List.length_nil];omega)|(rename_i h;first|exact oI h|exact nah h)|(rename_i _ h _ g;exact sL h g)|decide|omega|(refine ret_with [] ?_;simp only[↓eB,seval,go_sem,bne,yr_rHead,hdk6,List.flatten_cons,List.flatten_nil,List.append_assoc])
 ·rw[hdk7]at hlen
  simp only[List.flatten_cons,List.flatten_nil,List.length_append,List.length_cons,List.length_nil]at hlen
  simp only[↓eB,seval,go_sem,yg_rExpr,yg_rCond]
  try simp only[impB,impN]
  repeat' first|exact ck|with_reducible apply And.intro|intro _
  all_goals first|exact e1|exact e2|exact e3|exact ne|exact nf|exact nc|(exact r1 (by decide))|(exact r2 rfl)|(exact r3 (by decide))|(simp only[List.length_append,List.length_cons,List.length_nil];omega)|(rename_i h;first|exact oI h|exact nah h)|(rename_i _ h _ g;exact sL h g)|decide|omega|(refine ret_with [] ?_;simp only[↓eB,seval,go_sem,bne,yr_rHead,hdk7,List.flatten_cons,List.flatten_nil,List.append_assoc])
 ·have q4:=r4 rfl
  clear r1 r2 r3 r4
  rw[hdk8]at hlen
  simp only[List.flatten_cons,List.flatten_nil,List.length_append,List.length_cons,List.length_nil]at hlen
  have hT:(tgtT x++(y++[40])).length+(jnT (ar.map argX)).length+2≤1000000000:=by
   simp only[List.flatten_cons,List.flatten_nil,List.length_append,List.length_cons,List.length_nil];omega
  cases x with
  |nil=>
   have hT:(y++[40]).length+(jnT (ar.map argX)).length+2≤1000000000:=hT
   have hU:y.length≤1000000000:=by simp only[List.length_append]at hT;omega
   simp only[↓eB,seval,go_sem]
   try simp only[impB,impN]
   repeat' (first|exact ck|with_reducible apply And.intro)
   all_goals try first|exact hU|decide|omega
   refine loop_ok (Y:=Nat) (fun z=>z≤ar.length) (fun z=>⟨[(1,true,.one (.p 1 0 0)),(3,true,.one (.v (.string (bs ((y++[40])++jnT (apT ar z)))))),(4,true,.one (.v (.int .i64 (z:Int))))],[(1,.vec 0 (anyN 10) [(Sm.mk 8 [] y e f c ar th el no).c])]⟩)
    (fun z=>ar.length-z) 0 (Nat.zero_le _) ?_ ?_
   ·refine to_with [] ?_;simp only[↓eB,seval,go_sem,apT_0,jn_0,List.append_assoc]
   ·rintro i hi
    refine vc_ok [yg_rExpr n (y_rExpr n)] [] _ _ _ ?_
    have hj:((y++[40])++jnT (apT ar i)).length+2≤1000000000:=by
     have:=ap_len ar i
     simp only[List.length_append,List.length_cons,List.length_nil]at hT ⊢
     omega
    cases hx:ar[i]? with
    |none=>
     have h2:=List.getElem?_eq_none_iff.1 hx
     have h1:=natI_ge h2
     have h3:=apT_all h2
     rw[h3]at hj
     simp only[↓eB,seval,go_sem,yg_rExpr,yg_rCond,h1,h3]
     try simp only[impB,impN]
     repeat' first|exact ck|with_reducible apply And.intro|intro _
     all_goals first|(simp only[List.length_append,List.length_cons,List.length_nil]at *;omega)|(rename_i h;first|exact oI h|exact nah h)|(rename_i _ h _ g;exact sL h g)|decide|omega|(refine ret_with [] ?_;simp only[↓eB,seval,go_sem,bne,yr_rHead,hdk8,tgT_0,tgT_c,List.flatten_cons,List.flatten_nil,List.append_assoc])
    |some a=>
     have hlt:i<ar.length:=(List.getElem?_eq_some_iff.1 hx).1
     have h1:=natI_lt hlt
     have h2:=natI_ltp hlt
     have h2':=natI_succ (n:=ar.length) (Nat.le_of_lt hlt) (by omega)
     obtain⟨g1,g2⟩:=hds a (List.mem_of_getElem? hx)
     have g3:=q4 a (List.mem_of_getElem? hx)
     have hj2:((y++[40])++jnT (apT ar (i+1))).length+2≤1000000000:=by
      have:=ap_len ar (i+1)
      simp only[List.length_append,List.length_cons,List.length_nil]at hT ⊢
      omega
     have g5:(y++[40])++jnT (apT ar (i+1))=(y++[40])++jnT (apT ar i)++((if i=0 then [] else [44,32])++argX a):=by rw[ap_snoc hx];simp only[List.append_assoc]
     rw[g5]at hj2
     obtain⟨ap,an,ae⟩:=a
     have h3:=arD_at hx
     cases i with
     |zero=>
      have k1:decide ((0:Int)<(ar.length:Int))=true:=h1
      have k2:((0:Int)<(ar.length:Int))=True:=h2
      have k3:IntKind.i64.wrap (0+1)=1:=h2'
      cases ap with
      |true=>
       have g6:(y++[40])++jnT (apT ar 1)=(y++[40])++an:=by rw[g5];simp[apT_0,jn_0,argX]
       simp only[↓eB,seval,go_sem,yg_rExpr,yg_rCond,k1,k2,k3,h3,apT_0,jn_0]
       try simp only[impB,impN]
       repeat' first|exact ck|with_reducible apply And.intro|intro _
       all_goals try first|exact hlt|exact rfl|(simp only[if_true,argX,apT_0,jn_0,List.nil_append,List.append_nil,List.length_append,List.length_cons,List.length_nil]at *;omega)|(rename_i h;first|exact oI h|exact nah h)|(rename_i _ h _ g;exact sL h g)|decide|omega
       simp only[List.append_assoc,List.cons_append,List.nil_append]at g6
       refine⟨0+1,hlt,by omega,to_with [] ?_⟩
       simp only[↓eB,seval,go_sem,g6,List.append_assoc]
      |false=>
       have g6:(y++[40])++jnT (apT ar 1)=(y++[40])++exT ae:=by rw[g5];simp[apT_0,jn_0,argX]
       have g7:(exT ae).length≤1000000000:=by simp only[if_true,argX,Bool.false_eq_true,if_false,List.length_append]at hj2;omega
       simp only[↓eB,seval,go_sem,yg_rExpr,yg_rCond,k1,k2,k3,h3,apT_0,jn_0]
       try simp only[impB,impN]
       repeat' first|exact ck|with_reducible apply And.intro|intro _
       all_goals try first|exact hlt|exact rfl|exact g1|exact g2|(exact g3 rfl)|exact g7|(simp only[if_true,argX,Bool.false_eq_true,if_false,apT_0,jn_0,List.nil_append,List.append_nil,List.length_append,List.length_cons,List.length_nil]at *;omega)|(rename_i h;first|exact oI h|exact nah h)|(rename_i _ h _ g;exact sL h g)|decide|omega
       simp only[List.append_assoc,List.cons_append,List.nil_append]at g6
       refine⟨0+1,hlt,by omega,to_with [] ?_⟩
       simp only[↓eB,seval,go_sem,g6,List.append_assoc]
     |succ i=>
      have w0:=wt_ne i
      cases ap with
      |true=>
       have g6:(y++[40])++jnT (apT ar (i+1+1))=(y++[40])++jnT (apT ar (i+1))++([44,32]++an):=by rw[g5];rfl
       simp only[↓eB,seval,go_sem,yg_rExpr,yg_rCond,h1,h2,h2',h3,w0]
       try simp only[impB,impN]
       repeat' first|exact ck|with_reducible apply And.intro|intro _
       all_goals try first|exact hlt|exact rfl|(simp only[Nat.succ_ne_zero,if_true,if_false,argX,Bool.false_eq_true,List.length_append,List.length_cons,List.length_nil]at *;omega)|(rename_i h;first|exact oI h|exact nah h)|(rename_i _ h _ g;exact sL h g)|decide|omega
       simp only[List.append_assoc,List.cons_append,List.nil_append]at g6
       refine⟨i+1+1,hlt,by omega,to_with [] ?_⟩
       simp only[↓eB,seval,go_sem,g6,List.append_assoc]
      |false=>
       have g6:(y++[40])++jnT (apT ar (i+1+1))=(y++[40])++jnT (apT ar (i+1))++([44,32]++exT ae):=by rw[g5];rfl
       have g7:(exT ae).length≤1000000000:=by simp only[Nat.succ_ne_zero,argX,Bool.false_eq_true,if_false,List.length_append]at hj2;omega
       simp only[↓eB,seval,go_sem,yg_rExpr,yg_rCond,h1,h2,h2',h3,w0]
       try simp only[impB,impN]
       repeat' first|exact ck|with_reducible apply And.intro|intro _
       all_goals try first|exact hlt|exact rfl|exact g1|exact g2|(exact g3 rfl)|exact g7|(simp only[Nat.succ_ne_zero,if_true,if_false,argX,Bool.false_eq_true,List.length_append,List.length_cons,List.length_nil]at *;omega)|(rename_i h;first|exact oI h|exact nah h)|(rename_i _ h _ g;exact sL h g)|decide|omega
       simp only[List.append_assoc,List.cons_append,List.nil_append]at g6
       refine⟨i+1+1,hlt,by omega,to_with [] ?_⟩
       simp only[↓eB,seval,go_sem,g6,List.append_assoc]
  |cons x0 xs=>
   have hT:(((x0::xs)++[32,61,32])++(y++[40])).length+(jnT (ar.map argX)).length+2≤1000000000:=hT
   have hU:xs.length+4+y.length+1≤1000000000:=by
    simp only[List.length_append,List.length_cons,List.length_nil]at hT
    omega
   simp only[↓eB,seval,go_sem]
   try simp only[impB,impN]
   repeat' (first|exact ck|with_reducible apply And.intro)
   all_goals try first|(simp only[List.length_append,List.length_cons,List.length_nil]at *;omega)|decide|omega
   refine loop_ok (Y:=Nat) (fun z=>z≤ar.length) (fun z=>⟨[(1,true,.one (.p 1 0 0)),(3,true,.one (.v (.string (bs ((((x0::xs)++[32,61,32])++(y++[40]))++jnT (apT ar z)))))),(4,true,.one (.v (.int .i64 (z:Int))))],[(1,.vec 0 (anyN 10) [(Sm.mk 8 (x0::xs) y e f c ar th el no).c])]⟩)
    (fun z=>ar.length-z) 0 (Nat.zero_le _) ?_ ?_
   ·refine to_with [] ?_;simp only[↓eB,seval,go_sem,apT_0,jn_0,List.append_assoc]
   ·rintro i hi
    refine vc_ok [yg_rExpr n (y_rExpr n)] [] _ _ _ ?_
    have hj:((((x0::xs)++[32,61,32])++(y++[40]))++jnT (apT ar i)).length+2≤1000000000:=by
     have:=ap_len ar i
     simp only[List.length_append,List.length_cons,List.length_nil]at hT ⊢
     omega
    cases hx:ar[i]? with
    |none=>
     have h2:=List.getElem?_eq_none_iff.1 hx
     have h1:=natI_ge h2
     have h3:=apT_all h2
     rw[h3]at hj
     simp only[↓eB,seval,go_sem,yg_rExpr,yg_rCond,h1,h3]
     try simp only[impB,impN]
     repeat' first|exact ck|with_reducible apply And.intro|intro _
     all_goals first|(simp only[List.length_append,List.length_cons,List.length_nil]at *;omega)|(rename_i h;first|exact oI h|exact nah h)|(rename_i _ h _ g;exact sL h g)|decide|omega|(refine ret_with [] ?_;simp only[↓eB,seval,go_sem,bne,yr_rHead,hdk8,tgT_0,tgT_c,List.flatten_cons,List.flatten_nil,List.append_assoc])
    |some a=>
     have hlt:i<ar.length:=(List.getElem?_eq_some_iff.1 hx).1
     have h1:=natI_lt hlt
     have h2:=natI_ltp hlt
     have h2':=natI_succ (n:=ar.length) (Nat.le_of_lt hlt) (by omega)
     obtain⟨g1,g2⟩:=hds a (List.mem_of_getElem? hx)
     have g3:=q4 a (List.mem_of_getElem? hx)
     have hj2:((((x0::xs)++[32,61,32])++(y++[40]))++jnT (apT ar (i+1))).length+2≤1000000000:=by
      have:=ap_len ar (i+1)
      simp only[List.length_append,List.length_cons,List.length_nil]at hT ⊢
      omega
     have g5:(((x0::xs)++[32,61,32])++(y++[40]))++jnT (apT ar (i+1))=(((x0::xs)++[32,61,32])++(y++[40]))++jnT (apT ar i)++((if i=0 then [] else [44,32])++argX a):=by rw[ap_snoc hx];simp only[List.append_assoc]
     rw[g5]at hj2
     obtain⟨ap,an,ae⟩:=a
     have h3:=arD_at hx
     cases i with
     |zero=>
      have k1:decide ((0:Int)<(ar.length:Int))=true:=h1
      have k2:((0:Int)<(ar.length:Int))=True:=h2
      have k3:IntKind.i64.wrap (0+1)=1:=h2'
      cases ap with
      |true=>
       have g6:(((x0::xs)++[32,61,32])++(y++[40]))++jnT (apT ar 1)=(((x0::xs)++[32,61,32])++(y++[40]))++an:=by rw[g5];simp[apT_0,jn_0,argX]
       simp only[↓eB,seval,go_sem,yg_rExpr,yg_rCond,k1,k2,k3,h3,apT_0,jn_0]
       try simp only[impB,impN]
       repeat' first|exact ck|with_reducible apply And.intro|intro _
       all_goals try first|exact hlt|exact rfl|(simp only[if_true,argX,apT_0,jn_0,List.nil_append,List.append_nil,List.length_append,List.length_cons,List.length_nil]at *;omega)|(rename_i h;first|exact oI h|exact nah h)|(rename_i _ h _ g;exact sL h g)|decide|omega
       simp only[List.append_assoc,List.cons_append,List.nil_append]at g6
       refine⟨0+1,hlt,by omega,to_with [] ?_⟩
       simp only[↓eB,seval,go_sem,g6,List.append_assoc]
      |false=>
       have g6:(((x0::xs)++[32,61,32])++(y++[40]))++jnT (apT ar 1)=(((x0::xs)++[32,61,32])++(y++[40]))++exT ae:=by rw[g5];simp[apT_0,jn_0,argX]
       have g7:(exT ae).length≤1000000000:=by simp only[if_true,argX,Bool.false_eq_true,if_false,List.length_append]at hj2;omega
       simp only[↓eB,seval,go_sem,yg_rExpr,yg_rCond,k1,k2,k3,h3,apT_0,jn_0]
       try simp only[impB,impN]
       repeat' first|exact ck|with_reducible apply And.intro|intro _
       all_goals try first|exact hlt|exact rfl|exact g1|exact g2|(exact g3 rfl)|exact g7|(simp only[if_true,argX,Bool.false_eq_true,if_false,apT_0,jn_0,List.nil_append,List.append_nil,List.length_append,List.length_cons,List.length_nil]at *;omega)|(rename_i h;first|exact oI h|exact nah h)|(rename_i _ h _ g;exact sL h g)|decide|omega
       simp only[List.append_assoc,List.cons_append,List.nil_append]at g6
       refine⟨0+1,hlt,by omega,to_with [] ?_⟩
       simp only[↓eB,seval,go_sem,g6,List.append_assoc]
     |succ i=>
      have w0:=wt_ne i
      cases ap with
      |true=>
       have g6:(((x0::xs)++[32,61,32])++(y++[40]))++jnT (apT ar (i+1+1))=(((x0::xs)++[32,61,32])++(y++[40]))++jnT (apT ar (i+1))++([44,32]++an):=by rw[g5];rfl
       simp only[↓eB,seval,go_sem,yg_rExpr,yg_rCond,h1,h2,h2',h3,w0]
       try simp only[impB,impN]
       repeat' first|exact ck|with_reducible apply And.intro|intro _
       all_goals try first|exact hlt|exact rfl|(simp only[Nat.succ_ne_zero,if_true,if_false,argX,Bool.false_eq_true,List.length_append,List.length_cons,List.length_nil]at *;omega)|(rename_i h;first|exact oI h|exact nah h)|(rename_i _ h _ g;exact sL h g)|decide|omega
       simp only[List.append_assoc,List.cons_append,List.nil_append]at g6
       refine⟨i+1+1,hlt,by omega,to_with [] ?_⟩
       simp only[↓eB,seval,go_sem,g6,List.append_assoc]
      |false=>
       have g6:(((x0::xs)++[32,61,32])++(y++[40]))++jnT (apT ar (i+1+1))=(((x0::xs)++[32,61,32])++(y++[40]))++jnT (apT ar (i+1))++([44,32]++exT ae):=by rw[g5];rfl
       have g7:(exT ae).length≤1000000000:=by simp only[Nat.succ_ne_zero,argX,Bool.false_eq_true,if_false,List.length_append]at hj2;omega
       simp only[↓eB,seval,go_sem,yg_rExpr,yg_rCond,h1,h2,h2',h3,w0]
       try simp only[impB,impN]
       repeat' first|exact ck|with_reducible apply And.intro|intro _
       all_goals try first|exact hlt|exact rfl|exact g1|exact g2|(exact g3 rfl)|exact g7|(simp only[Nat.succ_ne_zero,if_true,if_false,argX,Bool.false_eq_true,List.length_append,List.length_cons,List.length_nil]at *;omega)|(rename_i h;first|exact oI h|exact nah h)|(rename_i _ h _ g;exact sL h g)|decide|omega
       simp only[List.append_assoc,List.cons_append,List.nil_append]at g6
       refine⟨i+1+1,hlt,by omega,to_with [] ?_⟩
       simp only[↓eB,seval,go_sem,g6,List.append_assoc]
 ·rw[hdk9]at hlen
  simp only[List.flatten_cons,List.flatten_nil,List.length_append,List.length_cons,List.length_nil]at hlen
  simp only[↓eB,seval,go_sem,yg_rExpr,yg_rCond]
  try simp only[impB,impN]
  repeat' first|exact ck|with_reducible apply And.intro|intro _
  all_goals first|exact e1|exact e2|exact e3|exact ne|exact nf|exact nc|(exact r1 (by decide))|(exact r2 rfl)|(exact r3 (by decide))|(simp only[List.length_append,List.length_cons,List.length_nil];omega)|(rename_i h;first|exact oI h|exact nah h)|(rename_i _ h _ g;exact sL h g)|decide|omega|(refine ret_with [] ?_;simp only[↓eB,seval,go_sem,bne,yr_rHead,hdk9,List.flatten_cons,List.flatten_nil,List.append_assoc])
 ·rw[hdk10]at hlen
  simp only[List.flatten_cons,List.flatten_nil,List.length_append,List.length_cons,List.length_nil]at hlen
  simp only[↓eB,seval,go_sem,yg_rExpr,yg_rCond]
  try simp only[impB,impN]
  repeat' first|exact ck|with_reducible apply And.intro|intro _
  all_goals first|exact e1|exact e2|exact e3|exact ne|exact nf|exact nc|(exact r1 (by decide))|(exact r2 rfl)|(exact r3 (by decide))|(simp only[List.length_append,List.length_cons,List.length_nil];omega)|(rename_i h;first|exact oI h|exact nah h)|(rename_i _ h _ g;exact sL h g)|decide|omega|(refine ret_with [] ?_;simp only[↓eB,seval,go_sem,bne,yr_rHead,hdk10,List.flatten_cons,List.flatten_nil,List.append_assoc])
 ·rw[hdk11]at hlen
  simp only[List.flatten_cons,List.flatten_nil,List.length_append,List.length_cons,List.length_nil]at hlen
  simp only[↓eB,seval,go_sem,yg_rExpr,yg_rCond]
  try simp only[impB,impN]
  repeat' first|exact ck|with_reducible apply And.intro|intro _
  all_goals first|exact e1|exact e2|exact e3|exact ne|exact nf|exact nc|(exact r1 (by decide))|(exact r2 rfl)|(exact r3 (by decide))|(simp only[List.length_append,List.length_cons,List.length_nil];omega)|(rename_i h;first|exact oI h|exact nah h)|(rename_i _ h _ g;exact sL h g)|decide|omega|(refine ret_with [] ?_;simp only[↓eB,seval,go_sem,bne,yr_rHead,hdk11,List.flatten_cons,List.flatten_nil,List.append_assoc])
 ·rw[hdk12]at hlen
  simp only[List.flatten_cons,List.flatten_nil,List.length_append,List.length_cons,List.length_nil]at hlen
  simp only[↓eB,seval,go_sem,yg_rExpr,yg_rCond]
  try simp only[impB,impN]
  repeat' first|exact ck|with_reducible apply And.intro|intro _
  all_goals first|exact e1|exact e2|exact e3|exact ne|exact nf|exact nc|(exact r1 (by decide))|(exact r2 rfl)|(exact r3 (by decide))|(simp only[List.length_append,List.length_cons,List.length_nil];omega)|(rename_i h;first|exact oI h|exact nah h)|(rename_i _ h _ g;exact sL h g)|decide|omega|(refine ret_with [] ?_;simp only[↓eB,seval,go_sem,bne,yr_rHead,hdk12,List.flatten_cons,List.flatten_nil,List.append_assoc])
end Go.Proofs.YtbiepiggmagfcaaGreatDoor
