/- print: statements, blocks. Conditions: the statements are of known kinds, the numbers are of 64 bits, the text is shorter than 10^9 bytes; the table of powers of ten is laid. -/
import Derived.Test.YtbiepiggmagfcaaGreatDoorPs2
set_option linter.unusedVariables false
set_option linter.unusedSimpArgs false
namespace Go.Proofs.YtbiepiggmagfcaaGreatDoor
open Go Go.Sy Go.RowKit
theorem pzSm_ln:zSm.length=10:=rfl
theorem smD_at {l:List Sm} {i:Nat} {k no:Int} {x y:List UInt8} {e f:Ex} {c:Cd} {ar:List Ar} {th el:List Sm} (h:l[i]?=some (.mk k x y e f c ar th el no)) (z:List D):(l.map Sm.r).getD i z=[dI k,dS x,dS y,e.d,f.d,c.d,.sl zAr (ar.map Ar.r),.sl zSm (th.map Sm.r),.sl zSm (el.map Sm.r),dI no]:=by simp[List.getD,h,sm_r,Sm.k,Sm.x,Sm.y,Sm.e,Sm.f,Sm.cd,Sm.ar,Sm.th,Sm.el,Sm.no]
theorem bd_u {b:Bd} (h1:b.r.length=1) (h2:b.u=true):∃d t,b=⟨true,t,[d]⟩:=by
 obtain⟨u,t,r⟩:=b
 obtain⟨d,rfl⟩:∃d:Int,r=[d]:=List.length_eq_one_iff.1 h1
 obtain rfl:u=true:=h2
 exact⟨d,t,rfl⟩
theorem lnB_take {l:List Sm} {i:Nat} {s:Sm} (h:l[i]?=some s) (d:Nat):lnX (lnB d (l.take (i+1)))=lnX (lnB d (l.take i))++lnX (lnS d s):=by
 rw[List.take_add_one,h,← lnX_app,← lnB_snoc];rfl
theorem lnB_app (d:Nat) (l m:List Sm):lnB d (l++m)=lnB d l++lnB d m:=by
 induction l with
 |nil=>rfl
 |cons a l ih=>rw[List.cons_append,lnB_cons,ih,lnB_cons,List.append_assoc]
theorem lnB_len {l:List Sm} {i:Nat} {s:Sm} (h:l[i]?=some s) (d:Nat):(lnX (lnB d (l.take i))).length+(lnX (lnS d s)).length≤(lnX (lnB d l)).length:=by
 have h1:lnB d l=lnB d (l.take (i+1))++lnB d (l.drop (i+1)):=by rw[← lnB_app,List.take_append_drop]
 have h2:=congrArg List.length (lnB_take h d)
 rw[h1,lnX_len_app]
 rw[List.length_append]at h2
 omega
theorem lT_len (d:Nat) (l:List (List UInt8)):(lineT d l).length=d+l.flatten.length+1:=by simp only[lineT,List.length_append,List.length_replicate,List.length_cons,List.length_nil]
theorem lT_mem (d:Nat) (l:List (List UInt8)):∀s∈l,s.length≤(lineT d l).length:=by
 intro s hs
 have:s.length≤l.flatten.length:=by
  induction l with
  |nil=>cases hs
  |cons a l ih=>
   rw[List.flatten_cons,List.length_append]
   rcases List.mem_cons.1 hs with rfl|h
   ·omega
   ·have:=ih h;omega
 rw[lT_len];omega
theorem lnX_o (d:Nat) (ps:List (List UInt8)) (n:Int) (l:List Ln):lnX (lnO d ps.flatten n::l)=lineT d ps++lnX l:=by simp[lnX,lnO,lineT,tbs]
theorem lnX_els (d:Nat) (l:List Ln):lnX (lnO d [125,32,101,108,115,101,32,123] (-1)::l)=lineT d [[125,32,101,108,115,101,32,123]]++lnX l:=by simp[lnX,lnO,lineT,tbs]
theorem lnX_cl (d:Nat) (l:List Ln):lnX (lnO d [125] (-1)::l)=lineT d [[125]]++lnX l:=by simp[lnX,lnO,lineT,tbs]
theorem gt_len (a:Sm) (l:List Sm):decide ((0:Int)<(((a::l).length:Nat):Int))=true:=by simp only[List.length_cons,decide_eq_true_eq];omega
abbrev yc_pstmts (n:Nat) (m:Nat) (b:Bd) (l:List Sm):Prop:=b.r.length=1∧b.u=true∧0≤dep b∧dep b+m≤1000000∧okPr n m l∧b.t.length+(lnX (lnB (dep b).toNat l)).length≤1000000000
abbrev yr_pstmts (n:Nat) (m:Nat) (b:Bd) (l:List Sm):SV:=.tup []
abbrev ym_pstmts (n:Nat) (m:Nat) (b:Bd) (l:List Sm):List (Option MV):=[some (tgN 111 3,[({ b with t:=b.t++lnX (lnB (dep b).toNat l) }:Bd).c])]
noncomputable abbrev ya_pstmts (n:Nat) (m:Nat):ArgN ((Bd)×(List Sm)×Unit):=(amB (rBd 111 1) (amD (cSs) am0))
abbrev yq_pstmts (n:Nat) (m:Nat):Prop:=CallsN Tryz.prog 48 powT powB (ya_pstmts n m).args (ya_pstmts n m).mem (fun p:(Bd)×(List Sm)×Unit=>yc_pstmts n m p.1 p.2.1) (fun p:(Bd)×(List Sm)×Unit=>yr_pstmts n m p.1 p.2.1) (fun p:(Bd)×(List Sm)×Unit=>ym_pstmts n m p.1 p.2.1)
theorem yl_pstmts (n:Nat) (m:Nat):∀p,(fun p:(Bd)×(List Sm)×Unit=>yc_pstmts n m p.1 p.2.1) p→lenM ((ya_pstmts n m).mem p).length ((fun p:(Bd)×(List Sm)×Unit=>ym_pstmts n m p.1 p.2.1) p)=true:=by intro p _;rfl
theorem yo_pstmts (n:Nat) (m:Nat):∀p,(fun p:(Bd)×(List Sm)×Unit=>yc_pstmts n m p.1 p.2.1) p→outV ((fun p:(Bd)×(List Sm)×Unit=>ym_pstmts n m p.1 p.2.1) p).length ((fun p:(Bd)×(List Sm)×Unit=>yr_pstmts n m p.1 p.2.1) p)=true:=by intro p _;rfl
theorem yn_pstmts (n:Nat) (m:Nat):∀p,(fun p:(Bd)×(List Sm)×Unit=>yc_pstmts n m p.1 p.2.1) p→∀(i:Nat) q,((fun p:(Bd)×(List Sm)×Unit=>ym_pstmts n m p.1 p.2.1) p)[i]?=some (some q)→∀r∈q.2,∀c∈r,cOK i c:=by intro p _;exact bd_cOK1 _ _
noncomputable def yg_pstmts {X:Ctx} {w0:World} (n:Nat) (m:Nat) (h:yq_pstmts n m) (hG:StaysN X w0 powT powB):Sy.Spec Tryz.prog X w0:=specN 48 Tryz.call48 powT powB (ya_pstmts n m) (fun p:(Bd)×(List Sm)×Unit=>yc_pstmts n m p.1 p.2.1) (fun p:(Bd)×(List Sm)×Unit=>yr_pstmts n m p.1 p.2.1) (fun p:(Bd)×(List Sm)×Unit=>ym_pstmts n m p.1 p.2.1) (yl_pstmts n m) (yo_pstmts n m) (yn_pstmts n m) h hG
abbrev yc_pblock (n:Nat) (m:Nat) (b:Bd) (l:List Sm):Prop:=b.r.length=1∧b.u=true∧0≤dep b∧dep b+1+m≤1000000∧okPr n m l∧b.t.length+(lnX (lnB ((dep b).toNat+1) l)).length≤1000000000
abbrev yr_pblock (n:Nat) (m:Nat) (b:Bd) (l:List Sm):SV:=.tup []
abbrev ym_pblock (n:Nat) (m:Nat) (b:Bd) (l:List Sm):List (Option MV):=[some (tgN 111 3,[({ b with t:=b.t++lnX (lnB ((dep b).toNat+1) l) }:Bd).c])]
noncomputable abbrev ya_pblock (n:Nat) (m:Nat):ArgN ((Bd)×(List Sm)×Unit):=(amB (rBd 111 1) (amD (cSs) am0))
abbrev yq_pblock (n:Nat) (m:Nat):Prop:=CallsN Tryz.prog 103 powT powB (ya_pblock n m).args (ya_pblock n m).mem (fun p:(Bd)×(List Sm)×Unit=>yc_pblock n m p.1 p.2.1) (fun p:(Bd)×(List Sm)×Unit=>yr_pblock n m p.1 p.2.1) (fun p:(Bd)×(List Sm)×Unit=>ym_pblock n m p.1 p.2.1)
theorem yl_pblock (n:Nat) (m:Nat):∀p,(fun p:(Bd)×(List Sm)×Unit=>yc_pblock n m p.1 p.2.1) p→lenM ((ya_pblock n m).mem p).length ((fun p:(Bd)×(List Sm)×Unit=>ym_pblock n m p.1 p.2.1) p)=true:=by intro p _;rfl
theorem yo_pblock (n:Nat) (m:Nat):∀p,(fun p:(Bd)×(List Sm)×Unit=>yc_pblock n m p.1 p.2.1) p→outV ((fun p:(Bd)×(List Sm)×Unit=>ym_pblock n m p.1 p.2.1) p).length ((fun p:(Bd)×(List Sm)×Unit=>yr_pblock n m p.1 p.2.1) p)=true:=by intro p _;rfl
theorem yn_pblock (n:Nat) (m:Nat):∀p,(fun p:(Bd)×(List Sm)×Unit=>yc_pblock n m p.1 p.2.1) p→∀(i:Nat) q,((fun p:(Bd)×(List Sm)×Unit=>ym_pblock n m p.1 p.2.1) p)[i]?=some (some q)→∀r∈q.2,∀c∈r,cOK i c:=by intro p _;exact bd_cOK1 _ _
noncomputable def yg_pblock {X:Ctx} {w0:World} (n:Nat) (m:Nat) (h:yq_pblock n m) (hG:StaysN X w0 powT powB):Sy.Spec Tryz.prog X w0:=specN 103 Tryz.call103 powT powB (ya_pblock n m) (fun p:(Bd)×(List Sm)×Unit=>yc_pblock n m p.1 p.2.1) (fun p:(Bd)×(List Sm)×Unit=>yr_pblock n m p.1 p.2.1) (fun p:(Bd)×(List Sm)×Unit=>ym_pblock n m p.1 p.2.1) (yl_pblock n m) (yo_pblock n m) (yn_pblock n m) h hG
attribute [local go_sem] Sm.ar Sm.c Sm.cd Sm.e Sm.el Sm.f Sm.k Sm.no Sm.th Sm.x Sm.y adC amB_a amB_m bd_c1 cCd_d cCd_dp cCd_e cCd_n cEx_d cEx_dp cEx_e cEx_n cSm_d cSm_e cSs_d cSs_e inK pzSm_ln rBd_e rBd_f0 rBd_f1 rBd_n0 rBd_n1 rBd_u0 rBd_u1 rBd_z
set_option maxRecDepth 20000 in set_option maxHeartbeats 4000000 in
theorem y_pblock (n:Nat) (m:Nat) (hS:yq_pstmts n m):yq_pblock n m:=by
 rintro ⟨b,l,_u⟩ w M I lab fz xs hT hBk hc hA hl hx
 have hG:=staysN_mX powT_keptB hT hBk (fz:=fz) (I:=I) (n:=1)
 refine calls_toN 1 Tryz.func103 rfl ((ya_pblock n m).mem ⟨b,l,_u⟩) rfl w M I lab fz [(yg_pstmts n m hS hG)] [] ((ya_pblock n m).args ⟨b,l,_u⟩) ((fun p:(Bd)×(List Sm)×Unit=>ym_pblock n m p.1 p.2.1) ⟨b,l,_u⟩) ((fun p:(Bd)×(List Sm)×Unit=>yr_pblock n m p.1 p.2.1) ⟨b,l,_u⟩) xs hA hl hx (fun v hv k hk=>(ya_pblock n m).an ⟨b,l,_u⟩ v hv k hk) (Nat.le_of_ble_eq_true rfl) (Nat.le_of_ble_eq_true rfl) ?_
 clear hx hl hA xs
 simp only[Tryz.f103]
 obtain⟨hm,hu,hd0,hd1,hk,hlen⟩:=hc
 obtain⟨d,t,rfl⟩:=bd_u hm hu
 rw[dep_mk]at hd0 hd1 hlen
 obtain⟨i,rfl⟩:∃i:Nat,d=(i:Int):=⟨d.toNat,by omega⟩
 rw[Int.toNat_natCast]at hlen
 have w1:IntKind.i64.wrap ((i:Int)+1)=((i+1:Nat):Int):=by rw[wrap_i64 (by omega) (by omega)];rfl
 have w2:IntKind.i64.wrap (((i+1:Nat):Int)-1)=(i:Int):=by rw[wrap_i64 (by omega) (by omega)];omega
 have q2:((i+1:Nat):Int)+m≤1000000:=by omega
 have q3:(0:Int)≤((i+1:Nat):Int):=by omega
 simp only[↓eB,seval,go_sem,yg_pstmts,w1,w2]
 try simp only[impB,impN]
 repeat' first|exact ck|with_reducible apply And.intro|intro _
 all_goals first|exact hm|exact hu|exact hk|exact q2|exact q3|exact hlen|(rename_i h;first|exact oI h|exact nah h)|(rename_i _ h _ g;exact sL h g)|decide|omega|(refine ret_with [] ?_;simp only[↓eB,seval,go_sem,bne,yr_pblock,ym_pblock,dep_mk])
theorem PrS.dp {n:Nat} {s:Sm} (h:PrS n s):∀a∈s.ar,a.e.dp<n∧okN a.e:=fun a ha=>⟨h.ok.a a ha,h.a a ha⟩
abbrev yc_pstmt (n:Nat) (m:Nat) (b:Bd) (s:Sm):Prop:=b.r.length=1∧b.u=true∧0≤dep b∧dep b+1+m≤1000000∧(PrS n s∧okPr n m s.th∧okPr n m s.el)∧b.t.length+(lnX (lnS (dep b).toNat s)).length≤1000000000
abbrev yr_pstmt (n:Nat) (m:Nat) (b:Bd) (s:Sm):SV:=.tup []
abbrev ym_pstmt (n:Nat) (m:Nat) (b:Bd) (s:Sm):List (Option MV):=[some (tgN 111 3,[({ b with t:=b.t++lnX (lnS (dep b).toNat s) }:Bd).c])]
noncomputable abbrev ya_pstmt (n:Nat) (m:Nat):ArgN ((Bd)×(Sm)×Unit):=(amB (rBd 111 1) (amD (cSm) am0))
abbrev yq_pstmt (n:Nat) (m:Nat):Prop:=CallsN Tryz.prog 82 powT powB (ya_pstmt n m).args (ya_pstmt n m).mem (fun p:(Bd)×(Sm)×Unit=>yc_pstmt n m p.1 p.2.1) (fun p:(Bd)×(Sm)×Unit=>yr_pstmt n m p.1 p.2.1) (fun p:(Bd)×(Sm)×Unit=>ym_pstmt n m p.1 p.2.1)
theorem yl_pstmt (n:Nat) (m:Nat):∀p,(fun p:(Bd)×(Sm)×Unit=>yc_pstmt n m p.1 p.2.1) p→lenM ((ya_pstmt n m).mem p).length ((fun p:(Bd)×(Sm)×Unit=>ym_pstmt n m p.1 p.2.1) p)=true:=by intro p _;rfl
theorem yo_pstmt (n:Nat) (m:Nat):∀p,(fun p:(Bd)×(Sm)×Unit=>yc_pstmt n m p.1 p.2.1) p→outV ((fun p:(Bd)×(Sm)×Unit=>ym_pstmt n m p.1 p.2.1) p).length ((fun p:(Bd)×(Sm)×Unit=>yr_pstmt n m p.1 p.2.1) p)=true:=by intro p _;rfl
theorem yn_pstmt (n:Nat) (m:Nat):∀p,(fun p:(Bd)×(Sm)×Unit=>yc_pstmt n m p.1 p.2.1) p→∀(i:Nat) q,((fun p:(Bd)×(Sm)×Unit=>ym_pstmt n m p.1 p.2.1) p)[i]?=some (some q)→∀r∈q.2,∀c∈r,cOK i c:=by intro p _;exact bd_cOK1 _ _
noncomputable def yg_pstmt {X:Ctx} {w0:World} (n:Nat) (m:Nat) (h:yq_pstmt n m) (hG:StaysN X w0 powT powB):Sy.Spec Tryz.prog X w0:=specN 82 Tryz.call82 powT powB (ya_pstmt n m) (fun p:(Bd)×(Sm)×Unit=>yc_pstmt n m p.1 p.2.1) (fun p:(Bd)×(Sm)×Unit=>yr_pstmt n m p.1 p.2.1) (fun p:(Bd)×(Sm)×Unit=>ym_pstmt n m p.1 p.2.1) (yl_pstmt n m) (yo_pstmt n m) (yn_pstmt n m) h hG
set_option maxRecDepth 20000 in set_option maxHeartbeats 16000000 in
theorem y_pstmt (n:Nat) (m:Nat) (hS:yq_pstmts n m):yq_pstmt n m:=by
 rintro ⟨b,s,_u⟩ w M I lab fz xs hT hBk hc hA hl hx
 have hG:=staysN_mX powT_keptB hT hBk (fz:=fz) (I:=I) (n:=1)
 refine calls_toN 1 Tryz.func82 rfl ((ya_pstmt n m).mem ⟨b,s,_u⟩) rfl w M I lab fz [(yg_Expr n (y_Expr n) hG),(yg_Cond n (y_Cond n) hG),(yg_call n (y_call n) hG),(yp_line (stays0 _ _)),(yg_pblock n m (y_pblock n m hS) hG)] [] ((ya_pstmt n m).args ⟨b,s,_u⟩) ((fun p:(Bd)×(Sm)×Unit=>ym_pstmt n m p.1 p.2.1) ⟨b,s,_u⟩) ((fun p:(Bd)×(Sm)×Unit=>yr_pstmt n m p.1 p.2.1) ⟨b,s,_u⟩) xs hA hl hx (fun v hv k hk=>(ya_pstmt n m).an ⟨b,s,_u⟩ v hv k hk) (Nat.le_of_ble_eq_true rfl) (Nat.le_of_ble_eq_true rfl) ?_
 clear hx hl hA xs
 simp only[Tryz.f82]
 obtain⟨hm,hu,hd0,hd1,⟨hk,hth,hel⟩,hlen⟩:=hc
 obtain⟨d,t,rfl⟩:=bd_u hm hu
 rw[dep_mk]at hd0 hd1 hlen
 have hds:=hk.dp
 have hd2:d≤1000000:=by omega
 obtain⟨hok,k0,k1,ne,nf,nc,na⟩:=hk
 have e1:=hok.e
 have e2:=hok.f
 have e3:=hok.c
 have e5:=hok.l
 rw[lnS_eq]at hlen
 obtain⟨k,x,y,e,f,c,ar,th,el,no⟩:=s
 dsimp only[Sm.k,Sm.e,Sm.f,Sm.cd,Sm.ar,Sm.th,Sm.el]at k0 k1 ne nf nc na e1 e2 e3 e5 hlen hds hth hel ⊢
 rcases kd13 k0 k1 with rfl|rfl|rfl|rfl|rfl|rfl|rfl|rfl|rfl|rfl|rfl|rfl|rfl
 ·simp only[Int.reduceBEq,if_true,if_false,Bool.false_eq_true,hdk0,lnX_o,lnX_nil,List.append_nil]at hlen
  have l0:=lT_len d.toNat [x,[32,61,32],exT e,[59]]
  have l1:t.length+d.toNat+([x,[32,61,32],exT e,[59]]:List (List UInt8)).flatten.length+1≤100000000000000:=by omega
  have l2:=lT_mem d.toNat [x,[32,61,32],exT e,[59]]
  simp only[List.mem_cons,List.not_mem_nil,or_false,forall_eq_or_imp,forall_eq]at l2
  simp only[↓eB,seval,go_sem,yg_Expr,yg_Cond,yg_call,yp_line,yg_line,yg_pblock]
  try simp only[impB,impN]
  repeat' first|exact ck|with_reducible apply And.intro|intro _
  all_goals first|exact hm|exact hu|exact hd0|exact hd2|exact hth|exact hel|exact e1|exact e2|exact e3|exact ne|exact nf|exact nc|(rename_i h;exact(hds _ h).1)|(rename_i h;exact(hds _ h).2)|exact e5|exact l1|exact hlen|(exact Nat.le_of_ble_eq_true rfl)|(rename_i h;first|exact oI h|exact nah h)|(rename_i _ h _ g;exact sL h g)|decide|omega|(refine ret_with [] ?_;simp only[↓eB,seval,go_sem,bne,yr_pstmt,ym_pstmt,lnS_eq,Int.reduceBEq,hdk0,lnX_o,lnX_nil,dep_mk])
 ·simp only[Int.reduceBEq,if_true,if_false,Bool.false_eq_true,hdk1,lnX_o,lnX_nil,List.append_nil]at hlen
  have l0:=lT_len d.toNat [x,[32,61,32,38],y,[59]]
  have l1:t.length+d.toNat+([x,[32,61,32,38],y,[59]]:List (List UInt8)).flatten.length+1≤100000000000000:=by omega
  have l2:=lT_mem d.toNat [x,[32,61,32,38],y,[59]]
  simp only[List.mem_cons,List.not_mem_nil,or_false,forall_eq_or_imp,forall_eq]at l2
  simp only[↓eB,seval,go_sem,yg_Expr,yg_Cond,yg_call,yp_line,yg_line,yg_pblock]
  try simp only[impB,impN]
  repeat' first|exact ck|with_reducible apply And.intro|intro _
  all_goals first|exact hm|exact hu|exact hd0|exact hd2|exact hth|exact hel|exact e1|exact e2|exact e3|exact ne|exact nf|exact nc|(rename_i h;exact(hds _ h).1)|(rename_i h;exact(hds _ h).2)|exact e5|exact l1|exact hlen|(exact Nat.le_of_ble_eq_true rfl)|(rename_i h;first|exact oI h|exact nah h)|(rename_i _ h _ g;exact sL h g)|decide|omega|(refine ret_with [] ?_;simp only[↓eB,seval,go_sem,bne,yr_pstmt,ym_pstmt,lnS_eq,Int.reduceBEq,hdk1,lnX_o,lnX_nil,dep_mk])
 ·simp only[Int.reduceBEq,if_true,if_false,Bool.false_eq_true,hdk2,lnX_o,lnX_nil,List.append_nil]at hlen
  have l0:=lT_len d.toNat [x,[32,61,32],y,[59]]
  have l1:t.length+d.toNat+([x,[32,61,32],y,[59]]:List (List UInt8)).flatten.length+1≤100000000000000:=by omega
  have l2:=lT_mem d.toNat [x,[32,61,32],y,[59]]
  simp only[List.mem_cons,List.not_mem_nil,or_false,forall_eq_or_imp,forall_eq]at l2
  simp only[↓eB,seval,go_sem,yg_Expr,yg_Cond,yg_call,yp_line,yg_line,yg_pblock]
  try simp only[impB,impN]
  repeat' first|exact ck|with_reducible apply And.intro|intro _
  all_goals first|exact hm|exact hu|exact hd0|exact hd2|exact hth|exact hel|exact e1|exact e2|exact e3|exact ne|exact nf|exact nc|(rename_i h;exact(hds _ h).1)|(rename_i h;exact(hds _ h).2)|exact e5|exact l1|exact hlen|(exact Nat.le_of_ble_eq_true rfl)|(rename_i h;first|exact oI h|exact nah h)|(rename_i _ h _ g;exact sL h g)|decide|omega|(refine ret_with [] ?_;simp only[↓eB,seval,go_sem,bne,yr_pstmt,ym_pstmt,lnS_eq,Int.reduceBEq,hdk2,lnX_o,lnX_nil,dep_mk])
 ·simp only[Int.reduceBEq,if_true,if_false,Bool.false_eq_true,hdk3,lnX_o,lnX_nil,List.append_nil]at hlen
  have l0:=lT_len d.toNat [x,[32,61,32,110,117,108,108,59]]
  have l1:t.length+d.toNat+([x,[32,61,32,110,117,108,108,59]]:List (List UInt8)).flatten.length+1≤100000000000000:=by omega
  have l2:=lT_mem d.toNat [x,[32,61,32,110,117,108,108,59]]
  simp only[List.mem_cons,List.not_mem_nil,or_false,forall_eq_or_imp,forall_eq]at l2
  simp only[↓eB,seval,go_sem,yg_Expr,yg_Cond,yg_call,yp_line,yg_line,yg_pblock]
  try simp only[impB,impN]
  repeat' first|exact ck|with_reducible apply And.intro|intro _
  all_goals first|exact hm|exact hu|exact hd0|exact hd2|exact hth|exact hel|exact e1|exact e2|exact e3|exact ne|exact nf|exact nc|(rename_i h;exact(hds _ h).1)|(rename_i h;exact(hds _ h).2)|exact e5|exact l1|exact hlen|(exact Nat.le_of_ble_eq_true rfl)|(rename_i h;first|exact oI h|exact nah h)|(rename_i _ h _ g;exact sL h g)|decide|omega|(refine ret_with [] ?_;simp only[↓eB,seval,go_sem,bne,yr_pstmt,ym_pstmt,lnS_eq,Int.reduceBEq,hdk3,lnX_o,lnX_nil,dep_mk])
 ·simp only[Int.reduceBEq,if_true,if_false,Bool.false_eq_true,hdk4,lnX_o,lnX_nil,List.append_nil]at hlen
  have l0:=lT_len d.toNat [x,[32,61,32,42],y,[59]]
  have l1:t.length+d.toNat+([x,[32,61,32,42],y,[59]]:List (List UInt8)).flatten.length+1≤100000000000000:=by omega
  have l2:=lT_mem d.toNat [x,[32,61,32,42],y,[59]]
  simp only[List.mem_cons,List.not_mem_nil,or_false,forall_eq_or_imp,forall_eq]at l2
  simp only[↓eB,seval,go_sem,yg_Expr,yg_Cond,yg_call,yp_line,yg_line,yg_pblock]
  try simp only[impB,impN]
  repeat' first|exact ck|with_reducible apply And.intro|intro _
  all_goals first|exact hm|exact hu|exact hd0|exact hd2|exact hth|exact hel|exact e1|exact e2|exact e3|exact ne|exact nf|exact nc|(rename_i h;exact(hds _ h).1)|(rename_i h;exact(hds _ h).2)|exact e5|exact l1|exact hlen|(exact Nat.le_of_ble_eq_true rfl)|(rename_i h;first|exact oI h|exact nah h)|(rename_i _ h _ g;exact sL h g)|decide|omega|(refine ret_with [] ?_;simp only[↓eB,seval,go_sem,bne,yr_pstmt,ym_pstmt,lnS_eq,Int.reduceBEq,hdk4,lnX_o,lnX_nil,dep_mk])
 ·simp only[Int.reduceBEq,if_true,if_false,Bool.false_eq_true,hdk5,lnX_o,lnX_nil,List.append_nil]at hlen
  have l0:=lT_len d.toNat [[42],x,[32,61,32],exT e,[59]]
  have l1:t.length+d.toNat+([[42],x,[32,61,32],exT e,[59]]:List (List UInt8)).flatten.length+1≤100000000000000:=by omega
  have l2:=lT_mem d.toNat [[42],x,[32,61,32],exT e,[59]]
  simp only[List.mem_cons,List.not_mem_nil,or_false,forall_eq_or_imp,forall_eq]at l2
  simp only[↓eB,seval,go_sem,yg_Expr,yg_Cond,yg_call,yp_line,yg_line,yg_pblock]
  try simp only[impB,impN]
  repeat' first|exact ck|with_reducible apply And.intro|intro _
  all_goals first|exact hm|exact hu|exact hd0|exact hd2|exact hth|exact hel|exact e1|exact e2|exact e3|exact ne|exact nf|exact nc|(rename_i h;exact(hds _ h).1)|(rename_i h;exact(hds _ h).2)|exact e5|exact l1|exact hlen|(exact Nat.le_of_ble_eq_true rfl)|(rename_i h;first|exact oI h|exact nah h)|(rename_i _ h _ g;exact sL h g)|decide|omega|(refine ret_with [] ?_;simp only[↓eB,seval,go_sem,bne,yr_pstmt,ym_pstmt,lnS_eq,Int.reduceBEq,hdk5,lnX_o,lnX_nil,dep_mk])
 ·simp only[Int.reduceBEq,if_true,if_false,Bool.false_eq_true,hdk6,lnX_o,lnX_nil,List.append_nil]at hlen
  have l0:=lT_len d.toNat [x,[32,61,32],y,[91],exT e,[93,59]]
  have l1:t.length+d.toNat+([x,[32,61,32],y,[91],exT e,[93,59]]:List (List UInt8)).flatten.length+1≤100000000000000:=by omega
  have l2:=lT_mem d.toNat [x,[32,61,32],y,[91],exT e,[93,59]]
  simp only[List.mem_cons,List.not_mem_nil,or_false,forall_eq_or_imp,forall_eq]at l2
  simp only[↓eB,seval,go_sem,yg_Expr,yg_Cond,yg_call,yp_line,yg_line,yg_pblock]
  try simp only[impB,impN]
  repeat' first|exact ck|with_reducible apply And.intro|intro _
  all_goals first|exact hm|exact hu|exact hd0|exact hd2|exact hth|exact hel|exact e1|exact e2|exact e3|exact ne|exact nf|exact nc|(rename_i h;exact(hds _ h).1)|(rename_i h;exact(hds _ h).2)|exact e5|exact l1|exact hlen|(exact Nat.le_of_ble_eq_true rfl)|(rename_i h;first|exact oI h|exact nah h)|(rename_i _ h _ g;exact sL h g)|decide|omega|(refine ret_with [] ?_;simp only[↓eB,seval,go_sem,bne,yr_pstmt,ym_pstmt,lnS_eq,Int.reduceBEq,hdk6,lnX_o,lnX_nil,dep_mk])
 ·simp only[Int.reduceBEq,if_true,if_false,Bool.false_eq_true,hdk7,lnX_o,lnX_nil,List.append_nil]at hlen
  have l0:=lT_len d.toNat [y,[91],exT e,[93,32,61,32],exT f,[59]]
  have l1:t.length+d.toNat+([y,[91],exT e,[93,32,61,32],exT f,[59]]:List (List UInt8)).flatten.length+1≤100000000000000:=by omega
  have l2:=lT_mem d.toNat [y,[91],exT e,[93,32,61,32],exT f,[59]]
  simp only[List.mem_cons,List.not_mem_nil,or_false,forall_eq_or_imp,forall_eq]at l2
  simp only[↓eB,seval,go_sem,yg_Expr,yg_Cond,yg_call,yp_line,yg_line,yg_pblock]
  try simp only[impB,impN]
  repeat' first|exact ck|with_reducible apply And.intro|intro _
  all_goals first|exact hm|exact hu|exact hd0|exact hd2|exact hth|exact hel|exact e1|exact e2|exact e3|exact ne|exact nf|exact nc|(rename_i h;exact(hds _ h).1)|(rename_i h;exact(hds _ h).2)|exact e5|exact l1|exact hlen|(exact Nat.le_of_ble_eq_true rfl)|(rename_i h;first|exact oI h|exact nah h)|(rename_i _ h _ g;exact sL h g)|decide|omega|(refine ret_with [] ?_;simp only[↓eB,seval,go_sem,bne,yr_pstmt,ym_pstmt,lnS_eq,Int.reduceBEq,hdk7,lnX_o,lnX_nil,dep_mk])
 ·simp only[Int.reduceBEq,if_true,if_false,Bool.false_eq_true,hdk8,lnX_o,lnX_nil,List.append_nil]at hlen
  have l0:=lT_len d.toNat [tgtT x,y,[40],jnT (ar.map argX),[41,59]]
  have l1:t.length+d.toNat+([tgtT x,y,[40],jnT (ar.map argX),[41,59]]:List (List UInt8)).flatten.length+1≤100000000000000:=by omega
  have l2:=lT_mem d.toNat [tgtT x,y,[40],jnT (ar.map argX),[41,59]]
  simp only[List.mem_cons,List.not_mem_nil,or_false,forall_eq_or_imp,forall_eq]at l2
  simp only[↓eB,seval,go_sem,yg_Expr,yg_Cond,yg_call,yp_line,yg_line,yg_pblock]
  try simp only[impB,impN]
  repeat' first|exact ck|with_reducible apply And.intro|intro _
  all_goals first|exact hm|exact hu|exact hd0|exact hd2|exact hth|exact hel|exact e1|exact e2|exact e3|exact ne|exact nf|exact nc|(rename_i h;exact(hds _ h).1)|(rename_i h;exact(hds _ h).2)|exact e5|exact l1|exact hlen|(exact Nat.le_of_ble_eq_true rfl)|(rename_i h;first|exact oI h|exact nah h)|(rename_i _ h _ g;exact sL h g)|decide|omega|(refine ret_with [] ?_;simp only[↓eB,seval,go_sem,bne,yr_pstmt,ym_pstmt,lnS_eq,Int.reduceBEq,hdk8,lnX_o,lnX_nil,dep_mk])
 ·simp only[Int.reduceBEq,if_true,if_false,Bool.false_eq_true,hdk9,lnX_o,lnX_nil,List.append_nil]at hlen
  have l0:=lT_len d.toNat [[114,101,116,117,114,110,32],exT e,[59]]
  have l1:t.length+d.toNat+([[114,101,116,117,114,110,32],exT e,[59]]:List (List UInt8)).flatten.length+1≤100000000000000:=by omega
  have l2:=lT_mem d.toNat [[114,101,116,117,114,110,32],exT e,[59]]
  simp only[List.mem_cons,List.not_mem_nil,or_false,forall_eq_or_imp,forall_eq]at l2
  simp only[↓eB,seval,go_sem,yg_Expr,yg_Cond,yg_call,yp_line,yg_line,yg_pblock]
  try simp only[impB,impN]
  repeat' first|exact ck|with_reducible apply And.intro|intro _
  all_goals first|exact hm|exact hu|exact hd0|exact hd2|exact hth|exact hel|exact e1|exact e2|exact e3|exact ne|exact nf|exact nc|(rename_i h;exact(hds _ h).1)|(rename_i h;exact(hds _ h).2)|exact e5|exact l1|exact hlen|(exact Nat.le_of_ble_eq_true rfl)|(rename_i h;first|exact oI h|exact nah h)|(rename_i _ h _ g;exact sL h g)|decide|omega|(refine ret_with [] ?_;simp only[↓eB,seval,go_sem,bne,yr_pstmt,ym_pstmt,lnS_eq,Int.reduceBEq,hdk9,lnX_o,lnX_nil,dep_mk])
 ·obtain⟨j,rfl⟩:∃j:Nat,d=(j:Int):=⟨d.toNat,by omega⟩
  rw[Int.toNat_natCast]at hlen
  have hd3:(j:Int)+1+m≤1000000:=by omega
  cases el with
  |nil=>
   simp only[List.isEmpty_nil,Int.reduceBEq,if_true,if_false,Bool.false_eq_true,hdk10,lnX_o,lnX_app,lnX_cl,lnX_nil,List.append_nil,List.nil_append,List.length_append]at hlen
   have l0:=lT_len j [[105,102,32,40],coT c,[41,32,123]]
   have l1:t.length+j+([[105,102,32,40],coT c,[41,32,123]]:List (List UInt8)).flatten.length+1≤100000000000000:=by omega
   have l2:=lT_mem j [[105,102,32,40],coT c,[41,32,123]]
   have l3:=lT_len j [[125]]
   simp only[List.mem_cons,List.not_mem_nil,or_false,forall_eq_or_imp,forall_eq]at l2
   simp only[↓eB,seval,go_sem,yg_Expr,yg_Cond,yg_call,yp_line,yg_line,yg_pblock]
   try simp only[impB,impN]
   repeat' first|exact ck|with_reducible apply And.intro|intro _
   all_goals first|exact hm|exact hu|exact hd0|exact hd2|exact hd3|exact hth|exact hel|exact e3|exact nc|exact l1|(simp only[List.length_append,List.flatten_cons,List.flatten_nil,List.length_cons,List.length_nil,Int.toNat_natCast,dep_mk]at *;omega)|(exact Nat.le_of_ble_eq_true rfl)|(rename_i h;first|exact oI h|exact nah h)|(rename_i _ h _ g;exact sL h g)|decide|omega|(refine ret_with [] ?_;simp only[↓eB,seval,go_sem,bne,yr_pstmt,ym_pstmt,lnS_eq,Int.reduceBEq,hdk10,lnX_o,lnX_app,lnX_cl,lnX_nil,List.isEmpty_nil,List.append_assoc,dep_mk])
  |cons e0 er=>
   have g0:=gt_len e0 er
   have g9:(e0::er).isEmpty=false:=rfl
   simp only[List.isEmpty_cons,Int.reduceBEq,if_true,if_false,Bool.false_eq_true,hdk10,lnX_o,lnX_app,lnX_els,lnX_cl,lnX_nil,List.append_nil,List.cons_append,List.length_append]at hlen
   have l0:=lT_len j [[105,102,32,40],coT c,[41,32,123]]
   have l1:t.length+j+([[105,102,32,40],coT c,[41,32,123]]:List (List UInt8)).flatten.length+1≤100000000000000:=by omega
   have l2:=lT_mem j [[105,102,32,40],coT c,[41,32,123]]
   have l3:=lT_len j [[125]]
   have l4:=lT_len j [[125,32,101,108,115,101,32,123]]
   simp only[List.mem_cons,List.not_mem_nil,or_false,forall_eq_or_imp,forall_eq]at l2
   generalize e0::er=el at*
   simp only[↓eB,seval,go_sem,yg_Expr,yg_Cond,yg_call,yp_line,yg_line,yg_pblock,g0]
   try simp only[impB,impN]
   repeat' first|exact ck|with_reducible apply And.intro|intro _
   all_goals first|exact hm|exact hu|exact hd0|exact hd2|exact hd3|exact hth|exact hel|exact e3|exact nc|exact l1|(simp only[List.length_append,List.flatten_cons,List.flatten_nil,List.length_cons,List.length_nil,Int.toNat_natCast,dep_mk]at *;omega)|(exact Nat.le_of_ble_eq_true rfl)|(rename_i h;first|exact oI h|exact nah h)|(rename_i _ h _ g;exact sL h g)|decide|omega|(refine ret_with [] ?_;simp only[↓eB,seval,go_sem,bne,yr_pstmt,ym_pstmt,lnS_eq,Int.reduceBEq,hdk10,lnX_o,lnX_app,lnX_els,lnX_cl,lnX_nil,List.append_assoc,dep_mk,g9])
 ·obtain⟨j,rfl⟩:∃j:Nat,d=(j:Int):=⟨d.toNat,by omega⟩
  rw[Int.toNat_natCast]at hlen
  have hd3:(j:Int)+1+m≤1000000:=by omega
  simp only[Int.reduceBEq,if_true,if_false,Bool.false_eq_true,hdk11,lnX_o,lnX_app,lnX_cl,lnX_nil,List.append_nil,List.nil_append,List.length_append]at hlen
  have l0:=lT_len j [[119,104,105,108,101,32,40],coT c,[41,32,123]]
  have l1:t.length+j+([[119,104,105,108,101,32,40],coT c,[41,32,123]]:List (List UInt8)).flatten.length+1≤100000000000000:=by omega
  have l2:=lT_mem j [[119,104,105,108,101,32,40],coT c,[41,32,123]]
  have l3:=lT_len j [[125]]
  simp only[List.mem_cons,List.not_mem_nil,or_false,forall_eq_or_imp,forall_eq]at l2
  simp only[↓eB,seval,go_sem,yg_Expr,yg_Cond,yg_call,yp_line,yg_line,yg_pblock]
  try simp only[impB,impN]
  repeat' first|exact ck|with_reducible apply And.intro|intro _
  all_goals first|exact hm|exact hu|exact hd0|exact hd2|exact hd3|exact hth|exact hel|exact e3|exact nc|exact l1|(simp only[List.length_append,List.flatten_cons,List.flatten_nil,List.length_cons,List.length_nil,Int.toNat_natCast,dep_mk]at *;omega)|(exact Nat.le_of_ble_eq_true rfl)|(rename_i h;first|exact oI h|exact nah h)|(rename_i _ h _ g;exact sL h g)|decide|omega|(refine ret_with [] ?_;simp only[↓eB,seval,go_sem,bne,yr_pstmt,ym_pstmt,lnS_eq,Int.reduceBEq,hdk11,lnX_o,lnX_app,lnX_cl,lnX_nil,List.append_assoc,dep_mk])
 ·simp only[Int.reduceBEq,if_true,if_false,Bool.false_eq_true,hdk12,lnX_o,lnX_nil,List.append_nil]at hlen
  have l0:=lT_len d.toNat [[97,115,115,101,114,116,32,40],coT c,[41,59]]
  have l1:t.length+d.toNat+([[97,115,115,101,114,116,32,40],coT c,[41,59]]:List (List UInt8)).flatten.length+1≤100000000000000:=by omega
  have l2:=lT_mem d.toNat [[97,115,115,101,114,116,32,40],coT c,[41,59]]
  simp only[List.mem_cons,List.not_mem_nil,or_false,forall_eq_or_imp,forall_eq]at l2
  simp only[↓eB,seval,go_sem,yg_Expr,yg_Cond,yg_call,yp_line,yg_line,yg_pblock]
  try simp only[impB,impN]
  repeat' first|exact ck|with_reducible apply And.intro|intro _
  all_goals first|exact hm|exact hu|exact hd0|exact hd2|exact hth|exact hel|exact e1|exact e2|exact e3|exact ne|exact nf|exact nc|(rename_i h;exact(hds _ h).1)|(rename_i h;exact(hds _ h).2)|exact e5|exact l1|exact hlen|(exact Nat.le_of_ble_eq_true rfl)|(rename_i h;first|exact oI h|exact nah h)|(rename_i _ h _ g;exact sL h g)|decide|omega|(refine ret_with [] ?_;simp only[↓eB,seval,go_sem,bne,yr_pstmt,ym_pstmt,lnS_eq,Int.reduceBEq,hdk12,lnX_o,lnX_nil,dep_mk])
set_option maxRecDepth 20000 in set_option maxHeartbeats 4000000 in
theorem y_pstmtsS (n:Nat) (m:Nat) (hS:yq_pstmts n m):yq_pstmts n (m+1):=by
 rintro ⟨b,l,_u⟩ w M I lab fz xs hT hBk hc hA hl hx
 have hG:=staysN_mX powT_keptB hT hBk (fz:=fz) (I:=I) (n:=1)
 refine calls_toN 1 Tryz.func48 rfl ((ya_pstmts n (m+1)).mem ⟨b,l,_u⟩) rfl w M I lab fz [(yg_pstmt n m (y_pstmt n m hS) hG)] [] ((ya_pstmts n (m+1)).args ⟨b,l,_u⟩) ((fun p:(Bd)×(List Sm)×Unit=>ym_pstmts n (m+1) p.1 p.2.1) ⟨b,l,_u⟩) ((fun p:(Bd)×(List Sm)×Unit=>yr_pstmts n (m+1) p.1 p.2.1) ⟨b,l,_u⟩) xs hA hl hx (fun v hv k hk=>(ya_pstmts n (m+1)).an ⟨b,l,_u⟩ v hv k hk) (Nat.le_of_ble_eq_true rfl) (Nat.le_of_ble_eq_true rfl) ?_
 clear hx hl hA xs
 simp only[Tryz.f48]
 obtain⟨hm,hu,hd0,hd1,⟨hl,hk⟩,hlen⟩:=hc
 obtain⟨d,t,rfl⟩:=bd_u hm hu
 dsimp only at hl hk
 rw[dep_mk]at hd0 hd1 hlen
 simp only[↓eB,seval,go_sem]
 refine loop_ok (Y:=Nat) (fun z=>z≤l.length)
  (fun z=>⟨[(0,true,.one (.p 0 0 0)),(6,true,.one (.d (.sl zSm (l.map Sm.r)))),(7,true,.one (.v (.int .i64 (l.length:Int)))),(8,true,.one (.v (.int .i64 (z:Int))))],[(0,.vec 0 (tgN 111 3) [[.p 0 0 0,.ov zB8 ((t++lnX (lnB d.toNat (l.take z))).map byK),.v (.int .i64 d)]])]⟩)
  (fun z=>l.length-z) 0 (Nat.zero_le _) ?_ ?_
 ·refine to_with [] ?_;simp only[↓eB,seval,go_sem,lnB_nil,lnX_nil]
 ·rintro i hi
  refine vc_ok [yg_pstmt n m (y_pstmt n m hS) hG] [] _ _ _ ?_
  cases hx:l[i]? with
  |none=>
   have h2:=List.getElem?_eq_none_iff.1 hx
   have h1:=natI_ge h2
   have h3:l.take i=l:=List.take_of_length_le h2
   simp only[↓eB,seval,go_sem,h1,h3]
   try simp only[impB,impN]
   repeat' first|exact ck|with_reducible apply And.intro|intro _
   all_goals first|exact trivial|(rename_i h;first|exact oI h|exact nah h)|(rename_i _ h _ g;exact sL h g)|decide|omega|(refine ret_with [] ?_;simp only[↓eB,seval,go_sem,bne,yr_pstmts,ym_pstmts,dep_mk])
  |some s=>
   have hlt:i<l.length:=(List.getElem?_eq_some_iff.1 hx).1
   have h1:=natI_lt hlt
   have h2:=natI_ltp hlt
   have h2':=natI_succ (n:=l.length) (Nat.le_of_lt hlt) (by omega)
   have g1:=hk s (List.mem_of_getElem? hx)
   have g2:=lnB_take hx d.toNat
   have g3:(t++lnX (lnB d.toNat (l.take i))).length+(lnX (lnS d.toNat s)).length≤1000000000:=by
    have:=lnB_len hx d.toNat
    dsimp only at hlen
    rw[List.length_append];omega
   have g4:d+1+(m:Int)≤1000000:=by omega
   obtain⟨k,x,y,e,f,c,ar,th,el,no⟩:=s
   have h3:=smD_at hx
   simp only[↓eB,seval,go_sem,yg_pstmt,h1,h2,h2',h3]
   try simp only[impB,impN]
   repeat' first|exact ck|with_reducible apply And.intro|intro _
   all_goals try first|exact hlt|exact rfl|exact hd0|exact g4|exact g1.1|exact g1.2.1|exact g1.2.2|exact g3|(rename_i h;first|exact oI h|exact nah h)|(rename_i _ h _ g;exact sL h g)|decide|omega
   refine⟨i+1,hlt,by omega,to_with [] ?_⟩
   simp only[↓eB,seval,go_sem,dep_mk,g2,List.append_assoc]
theorem y_pstmts (n:Nat):∀m:Nat,yq_pstmts n m
 |0=>by
  rintro ⟨b,l,_u⟩ w M I lab fz xs hT hBk hc hA hl hx
  exact hc.2.2.2.2.1.elim
 |m+1=>y_pstmtsS n m (y_pstmts n m)
end Go.Proofs.YtbiepiggmagfcaaGreatDoor
