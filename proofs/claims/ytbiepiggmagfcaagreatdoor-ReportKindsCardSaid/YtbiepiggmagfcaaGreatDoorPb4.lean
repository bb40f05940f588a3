/- strings.Builder: WriteByte and WriteString. Conditions: the bytes come to less than 10^14. -/
import Derived.Test.YtbiepiggmagfcaaGreatDoorPb3
set_option linter.unusedVariables false
set_option linter.unusedSimpArgs false
namespace Go.Proofs.YtbiepiggmagfcaaGreatDoor
open Go Go.Sy Go.RowKit
def byI (n:Int):UInt8:=UInt8.ofNat n.toNat
theorem byI_9:byI 9=9:=rfl
theorem byI_10:byI 10=10:=rfl
theorem byK_I (n:Int) (h0:0≤n) (h1:n<256):byK (byI n)=[.v (.int .u8 n)]:=by
 have:((UInt8.ofNat n.toNat).toNat:Int)=n:=by
  rw[UInt8.toNat_ofNat'];omega
 simp only[byK,byI,this]
theorem map_byK (l:List UInt8):l.map (fun b=>[C.v (.int .u8 b.toNat)])=l.map byK:=rfl
theorem by_all (l:List UInt8):((l.map byK).all fun r=>r.all fun c=>c.names.isEmpty)=true:=rowsY.cl
theorem by_st (l:List UInt8):∀r∈l.map byK,∀c∈r,C.stor c=true:=by
 intro r hr c hc
 obtain⟨x,_,rfl⟩:=List.mem_map.1 hr
 simp only[byK,List.mem_singleton]at hc
 subst hc;rfl
theorem bd_c1 (u:Bool) (t:List UInt8) (r:List Int):(Bd.mk u t r).c=adC u::.ov zB8 (t.map byK)::r.map inK:=rfl
theorem zB8_t:zT zB8=some 5:=rfl
theorem zB8_l:zB8.length=1:=rfl
attribute [go_sem] zB8_t zB8_l map_byK
theorem bd_rs {r:List Int} {m:Nat} (h:r.length=m) (h1:m≤1):r=[]∧m=0∨∃n,r=[n]∧m=1:=by
 match r,h with
 |[],h=>exact .inl ⟨rfl,h.symm⟩
 |[n],h=>exact .inr ⟨n,rfl,h.symm⟩
 |_::_::_,h=>simp at h;omega
abbrev yc_WriteByte (T:TypeId) (m:Nat) (b:Bd) (c:Int):Prop:=b.r.length=m∧m≤1∧lieB T m∧b.t.length≤100000000000000∧0≤c∧c<256
abbrev yr_WriteByte (T:TypeId) (m:Nat) (b:Bd) (c:Int):SV:=.one (.v .nilIface)
abbrev ym_WriteByte (T:TypeId) (m:Nat) (b:Bd) (c:Int):List (Option MV):=[some (tgN T (m+2),[({ b with u:=true,t:=b.t++[byI c] }:Bd).c])]
noncomputable abbrev ya_WriteByte (T:TypeId) (m:Nat):ArgN ((Bd)×(Int)×Unit):=(amB (rBd T m) (amD (cInt .u8) am0))
abbrev yq_WriteByte (T:TypeId) (m:Nat):Prop:=CallsN Tryz.prog 80 T0 B0 (ya_WriteByte T m).args (ya_WriteByte T m).mem (fun p:(Bd)×(Int)×Unit=>yc_WriteByte T m p.1 p.2.1) (fun p:(Bd)×(Int)×Unit=>yr_WriteByte T m p.1 p.2.1) (fun p:(Bd)×(Int)×Unit=>ym_WriteByte T m p.1 p.2.1)
theorem yl_WriteByte (T:TypeId) (m:Nat):∀p,(fun p:(Bd)×(Int)×Unit=>yc_WriteByte T m p.1 p.2.1) p→lenM ((ya_WriteByte T m).mem p).length ((fun p:(Bd)×(Int)×Unit=>ym_WriteByte T m p.1 p.2.1) p)=true:=by intro p _;rfl
theorem yo_WriteByte (T:TypeId) (m:Nat):∀p,(fun p:(Bd)×(Int)×Unit=>yc_WriteByte T m p.1 p.2.1) p→outV ((fun p:(Bd)×(Int)×Unit=>ym_WriteByte T m p.1 p.2.1) p).length ((fun p:(Bd)×(Int)×Unit=>yr_WriteByte T m p.1 p.2.1) p)=true:=by intro p _;rfl
theorem yn_WriteByte (T:TypeId) (m:Nat):∀p,(fun p:(Bd)×(Int)×Unit=>yc_WriteByte T m p.1 p.2.1) p→∀(i:Nat) q,((fun p:(Bd)×(Int)×Unit=>ym_WriteByte T m p.1 p.2.1) p)[i]?=some (some q)→∀r∈q.2,∀c∈r,cOK i c:=by intro p _;exact bd_cOK1 _ _
noncomputable def yg_WriteByte {X:Ctx} {w0:World} (T:TypeId) (m:Nat) (h:yq_WriteByte T m) (hG:StaysN X w0 T0 B0):Sy.Spec Tryz.prog X w0:=specN 80 Tryz.call80 T0 B0 (ya_WriteByte T m) (fun p:(Bd)×(Int)×Unit=>yc_WriteByte T m p.1 p.2.1) (fun p:(Bd)×(Int)×Unit=>yr_WriteByte T m p.1 p.2.1) (fun p:(Bd)×(Int)×Unit=>ym_WriteByte T m p.1 p.2.1) (yl_WriteByte T m) (yo_WriteByte T m) (yn_WriteByte T m) h hG
attribute [local go_sem] adC amB_a amB_m bd_c1 inK rBd_e rBd_f0 rBd_f1 rBd_n0 rBd_n1 rBd_u0 rBd_u1 rBd_z yg_copyCheck
theorem y_WriteByte (T:TypeId) (m:Nat):yq_WriteByte T m:=by
 rintro ⟨b,c,_u⟩ w M I lab fz xs hT hBk hc hA hl hx
 refine calls_toN 1 Tryz.func80 rfl ((ya_WriteByte T m).mem ⟨b,c,_u⟩) rfl w M I lab fz [(yg_copyCheck T m (y_copyCheck T m) (stays0 _ _))] [] ((ya_WriteByte T m).args ⟨b,c,_u⟩) ((fun p:(Bd)×(Int)×Unit=>ym_WriteByte T m p.1 p.2.1) ⟨b,c,_u⟩) ((fun p:(Bd)×(Int)×Unit=>yr_WriteByte T m p.1 p.2.1) ⟨b,c,_u⟩) xs hA hl hx (fun v hv k hk=>(ya_WriteByte T m).an ⟨b,c,_u⟩ v hv k hk) (Nat.le_of_ble_eq_true rfl) (Nat.le_of_ble_eq_true rfl) ?_
 clear hx hl hA xs
 simp only[Tryz.f80]
 obtain⟨hm,hm1,hlie,hlen,h0,h1⟩:=hc
 obtain⟨u,t,r⟩:=b
 dsimp only at hm hlen h0 h1
 rcases bd_rs hm hm1 with⟨rfl,rfl⟩|⟨n,rfl,rfl⟩<;>cases u
 all_goals
  simp only[↓eB,seval,go_sem]
  try simp only[impB,impN]
  repeat' first|exact ck|with_reducible apply And.intro|intro _
  all_goals first|exact⟨rfl,hlie⟩|(rename_i h;first|exact oI h|exact nah h)|(rename_i _ h _ g;exact sL h g)|decide|omega|(refine ret_with [.fold 0 0 1] ?_;simp only[↓eB,seval,go_sem,bne,yr_WriteByte,ym_WriteByte,List.map_append,List.all_append,List.isEmpty_nil,by_all,byK_I c h0 h1])
abbrev yc_WriteString (T:TypeId) (m:Nat) (b:Bd) (s:List UInt8):Prop:=b.r.length=m∧m≤1∧lieB T m∧b.t.length+s.length≤100000000000000
abbrev yr_WriteString (T:TypeId) (m:Nat) (b:Bd) (s:List UInt8):SV:=.tup [.inl (.v (.int .i64 (s.length:Int))),.inl (.v .nilIface)]
abbrev ym_WriteString (T:TypeId) (m:Nat) (b:Bd) (s:List UInt8):List (Option MV):=[some (tgN T (m+2),[({ b with u:=true,t:=b.t++s }:Bd).c])]
noncomputable abbrev ya_WriteString (T:TypeId) (m:Nat):ArgN ((Bd)×(List UInt8)×Unit):=(amB (rBd T m) (amD (cStr) am0))
abbrev yq_WriteString (T:TypeId) (m:Nat):Prop:=CallsN Tryz.prog 58 T0 B0 (ya_WriteString T m).args (ya_WriteString T m).mem (fun p:(Bd)×(List UInt8)×Unit=>yc_WriteString T m p.1 p.2.1) (fun p:(Bd)×(List UInt8)×Unit=>yr_WriteString T m p.1 p.2.1) (fun p:(Bd)×(List UInt8)×Unit=>ym_WriteString T m p.1 p.2.1)
theorem yl_WriteString (T:TypeId) (m:Nat):∀p,(fun p:(Bd)×(List UInt8)×Unit=>yc_WriteString T m p.1 p.2.1) p→lenM ((ya_WriteString T m).mem p).length ((fun p:(Bd)×(List UInt8)×Unit=>ym_WriteString T m p.1 p.2.1) p)=true:=by intro p _;rfl
theorem yo_WriteString (T:TypeId) (m:Nat):∀p,(fun p:(Bd)×(List UInt8)×Unit=>yc_WriteString T m p.1 p.2.1) p→outV ((fun p:(Bd)×(List UInt8)×Unit=>ym_WriteString T m p.1 p.2.1) p).length ((fun p:(Bd)×(List UInt8)×Unit=>yr_WriteString T m p.1 p.2.1) p)=true:=by intro p _;rfl
theorem yn_WriteString (T:TypeId) (m:Nat):∀p,(fun p:(Bd)×(List UInt8)×Unit=>yc_WriteString T m p.1 p.2.1) p→∀(i:Nat) q,((fun p:(Bd)×(List UInt8)×Unit=>ym_WriteString T m p.1 p.2.1) p)[i]?=some (some q)→∀r∈q.2,∀c∈r,cOK i c:=by intro p _;exact bd_cOK1 _ _
noncomputable def yg_WriteString {X:Ctx} {w0:World} (T:TypeId) (m:Nat) (h:yq_WriteString T m) (hG:StaysN X w0 T0 B0):Sy.Spec Tryz.prog X w0:=specN 58 Tryz.call58 T0 B0 (ya_WriteString T m) (fun p:(Bd)×(List UInt8)×Unit=>yc_WriteString T m p.1 p.2.1) (fun p:(Bd)×(List UInt8)×Unit=>yr_WriteString T m p.1 p.2.1) (fun p:(Bd)×(List UInt8)×Unit=>ym_WriteString T m p.1 p.2.1) (yl_WriteString T m) (yo_WriteString T m) (yn_WriteString T m) h hG
theorem y_WriteString (T:TypeId) (m:Nat):yq_WriteString T m:=by
 rintro ⟨b,s,_u⟩ w M I lab fz xs hT hBk hc hA hl hx
 refine calls_toN 1 Tryz.func58 rfl ((ya_WriteString T m).mem ⟨b,s,_u⟩) rfl w M I lab fz [(yg_copyCheck T m (y_copyCheck T m) (stays0 _ _))] [] ((ya_WriteString T m).args ⟨b,s,_u⟩) ((fun p:(Bd)×(List UInt8)×Unit=>ym_WriteString T m p.1 p.2.1) ⟨b,s,_u⟩) ((fun p:(Bd)×(List UInt8)×Unit=>yr_WriteString T m p.1 p.2.1) ⟨b,s,_u⟩) xs hA hl hx (fun v hv k hk=>(ya_WriteString T m).an ⟨b,s,_u⟩ v hv k hk) (Nat.le_of_ble_eq_true rfl) (Nat.le_of_ble_eq_true rfl) ?_
 clear hx hl hA xs
 simp only[Tryz.f58]
 obtain⟨hm,hm1,hlie,hlen⟩:=hc
 obtain⟨u,t,r⟩:=b
 dsimp only at hm hlen
 rcases bd_rs hm hm1 with⟨rfl,rfl⟩|⟨n,rfl,rfl⟩<;>cases u
 all_goals
  simp only[↓eB,seval,go_sem]
  try simp only[impB,impN]
  repeat' first|exact ck|with_reducible apply And.intro|intro _
  all_goals first|exact⟨rfl,hlie⟩|(rename_i _ h _ g;exact by_st _ _ h _ g)|(rename_i h;first|exact oI h|exact nah h)|(rename_i _ h _ g;exact sL h g)|decide|omega|(refine ret_with [.fold 0 0 1] ?_;simp only[↓eB,seval,go_sem,bne,yr_WriteString,ym_WriteString,List.map_append,List.all_append,List.isEmpty_nil,by_all])
theorem lieB_B:lieB 107 0:=by
 constructor
 intro n hn
 obtain⟨c,hc⟩:∃c,n / Tryz.prog.cellsOf 107=c+1:=by
  have:Tryz.prog.cellsOf 107=2:=by kernel_rfl
  rw[this]
  exact⟨n / 2-1,by omega⟩
 rw[hc]
 kernel_rfl
theorem lieB_P:lieB 111 1:=by
 constructor
 intro n hn
 obtain⟨c,hc⟩:∃c,n / Tryz.prog.cellsOf 111=c+1:=by
  have:Tryz.prog.cellsOf 111=3:=by kernel_rfl
  rw[this]
  exact⟨n / 3-1,by omega⟩
 rw[hc]
 kernel_rfl
end Go.Proofs.YtbiepiggmagfcaaGreatDoor
namespace Go.Proofs.YtbiepiggmagfcaaGreatDoor
open Go Go.Sy Go.RowKit
def zSs:List C:=[.v (.string (bs []))]
theorem zSs_t:zT zSs=none:=rfl
theorem zSs_l:zSs.length=1:=rfl
def sR1 (s:List UInt8):List C:=[.v (.string (bs s))]
theorem sR1_inj (a b:List UInt8) (h:sR1 a=sR1 b):a=b:=by
 simp only[sR1,List.cons.injEq,C.v.injEq,Value.string.injEq,and_true]at h
 exact bs_inj h
noncomputable def mS:RowM (List UInt8):=rowMOf zSs sR1 fun s c hc=>by simp only[sR1,List.mem_singleton]at hc;subst hc;rfl
theorem mS_z:mS.z=zSs:=rfl
theorem mS_e:mS.e=sR1:=rfl
theorem mS_d (s:List UInt8):mS.d [.v (.string (bs s))]=some s:=rowMOf_d sR1_inj s
theorem s_at {l:List (List UInt8)} {i:Nat} {x:List UInt8} (h:l[i]?=some x) (z:List C):(l.map sR1).getD i z=[.v (.string (bs x))]:=by simp[List.getD,h,sR1]
theorem s_names (l:List (List UInt8)):(l.map sR1).flatMap (fun r=>r.flatMap C.names)=[]:=by
 induction l with
 |nil=>rfl
 |cons a l ih=>rw[List.map_cons,List.flatMap_cons,ih];rfl
attribute [go_sem] zSs_t zSs_l mS_d mS_z mS_e
def tabT (t:List UInt8) (i:Nat):List UInt8:=t++List.replicate i 9
theorem tabT_0 (t:List UInt8):tabT t 0=t:=by simp[tabT]
theorem tabT_s (t:List UInt8) (i:Nat):tabT t i++[byI 9]=tabT t (i+1):=by
 rw[byI_9];simp[tabT,List.replicate_succ']
theorem tabT_len (t:List UInt8) (i:Nat):(tabT t i).length=t.length+i:=by simp[tabT]
def ptT (t:List UInt8) (l:List (List UInt8)) (i:Nat):List UInt8:=t++(l.take i).flatten
theorem ptT_0 (t:List UInt8) (l:List (List UInt8)):ptT t l 0=t:=by simp[ptT]
theorem ptT_s {l:List (List UInt8)} {i:Nat} {x:List UInt8} (h:l[i]?=some x) (t:List UInt8):ptT t l i++x=ptT t l (i+1):=by
 unfold ptT
 rw[List.append_assoc,List.take_add_one,h]
 simp
theorem ptT_all {l:List (List UInt8)} {i:Nat} (h:l.length≤i) (t:List UInt8):ptT t l i=t++l.flatten:=by
 unfold ptT;rw[List.take_of_length_le h]
theorem ptT_len {l:List (List UInt8)} {i:Nat} {x:List UInt8} (h:l[i]?=some x) (t:List UInt8):(ptT t l i).length+x.length≤t.length+l.flatten.length:=by
 have h1:l.flatten=(l.take (i+1)).flatten++(l.drop (i+1)).flatten:=by rw[← List.flatten_append,List.take_append_drop]
 have h2:=congrArg List.length (ptT_s h t)
 rw[h1]
 simp only[List.length_append,ptT]at h2 ⊢
 omega
def lineT (d:Nat) (l:List (List UInt8)):List UInt8:=List.replicate d 9++l.flatten++[10]
theorem lineT_eq (t:List UInt8) (d:Nat) (l:List (List UInt8)) {i:Nat} (h:l.length≤i):ptT (tabT t d) l i++[byI 10]=t++lineT d l:=by
 rw[ptT_all h,byI_10];simp[tabT,lineT]
def dep (b:Bd):Int:=b.r.headD 0
theorem dep_mk (u:Bool) (t:List UInt8) (n:Int):dep ⟨u,t,[n]⟩=n:=rfl
abbrev yc_line (b:Bd) (l:List (List UInt8)):Prop:=b.r.length=1∧0≤dep b∧dep b≤1000000∧l.length≤1000∧b.t.length+(dep b).toNat+l.flatten.length+1≤100000000000000
abbrev yr_line (b:Bd) (l:List (List UInt8)):SV:=.tup []
abbrev ym_line (b:Bd) (l:List (List UInt8)):List (Option MV):=[some (tgN 111 3,[({ b with u:=true,t:=b.t++lineT (dep b).toNat l }:Bd).c]),none]
noncomputable abbrev ya_line:ArgN ((Bd)×(List (List UInt8))×Unit):=(amB (rBd 111 1) (amS (mS) am0))
abbrev yq_line:Prop:=CallsN Tryz.prog 46 T0 B0 (ya_line).args (ya_line).mem (fun p:(Bd)×(List (List UInt8))×Unit=>yc_line p.1 p.2.1) (fun p:(Bd)×(List (List UInt8))×Unit=>yr_line p.1 p.2.1) (fun p:(Bd)×(List (List UInt8))×Unit=>ym_line p.1 p.2.1)
theorem yl_line:∀p,(fun p:(Bd)×(List (List UInt8))×Unit=>yc_line p.1 p.2.1) p→lenM ((ya_line).mem p).length ((fun p:(Bd)×(List (List UInt8))×Unit=>ym_line p.1 p.2.1) p)=true:=by intro p _;rfl
theorem yo_line:∀p,(fun p:(Bd)×(List (List UInt8))×Unit=>yc_line p.1 p.2.1) p→outV ((fun p:(Bd)×(List (List UInt8))×Unit=>ym_line p.1 p.2.1) p).length ((fun p:(Bd)×(List (List UInt8))×Unit=>yr_line p.1 p.2.1) p)=true:=by intro p _;rfl
theorem yn_line:∀p,(fun p:(Bd)×(List (List UInt8))×Unit=>yc_line p.1 p.2.1) p→∀(i:Nat) q,((fun p:(Bd)×(List (List UInt8))×Unit=>ym_line p.1 p.2.1) p)[i]?=some (some q)→∀r∈q.2,∀c∈r,cOK i c:=by intro p _;exact bd_cOK2 _ _
noncomputable def yg_line {X:Ctx} {w0:World} (h:yq_line) (hG:StaysN X w0 T0 B0):Sy.Spec Tryz.prog X w0:=specN 46 Tryz.call46 T0 B0 (ya_line) (fun p:(Bd)×(List (List UInt8))×Unit=>yc_line p.1 p.2.1) (fun p:(Bd)×(List (List UInt8))×Unit=>yr_line p.1 p.2.1) (fun p:(Bd)×(List (List UInt8))×Unit=>ym_line p.1 p.2.1) (yl_line) (yo_line) (yn_line) h hG
attribute [local go_sem] amB_a amB_m bd_c1 inK rBd_e rBd_z
set_option maxRecDepth 20000 in set_option maxHeartbeats 4000000 in
theorem y_line:yq_line:=by
 rintro ⟨b,l,_u⟩ w M I lab fz xs hT hBk hc hA hl hx
 refine calls_toN 2 Tryz.func46 rfl ((ya_line).mem ⟨b,l,_u⟩) rfl w M I lab fz [(yg_WriteByte 111 1 (y_WriteByte _ _) (stays0 _ _)),(yg_WriteString 111 1 (y_WriteString _ _) (stays0 _ _))] [] ((ya_line).args ⟨b,l,_u⟩) ((fun p:(Bd)×(List (List UInt8))×Unit=>ym_line p.1 p.2.1) ⟨b,l,_u⟩) ((fun p:(Bd)×(List (List UInt8))×Unit=>yr_line p.1 p.2.1) ⟨b,l,_u⟩) xs hA hl hx (fun v hv k hk=>(ya_line).an ⟨b,l,_u⟩ v hv k hk) (Nat.le_of_ble_eq_true rfl) (Nat.le_of_ble_eq_true rfl) ?_
 clear hx hl hA xs
 simp only[Tryz.f46]
 obtain⟨hm,hd0,hd1,hl1,hlen⟩:=hc
 obtain⟨u,t,r⟩:=b
 dsimp only at hm hd0 hd1 hlen hl1
 obtain⟨d,rfl⟩:∃d:Int,r=[d]:=List.length_eq_one_iff.1 hm
 rw[dep_mk]at hd0 hd1 hlen
 obtain⟨n,rfl⟩:∃n:Nat,d=(n:Int):=⟨d.toNat,by omega⟩
 rw[Int.toNat_natCast]at hlen
 simp only[↓eB,seval,go_sem]
 refine loop_ok (Y:=Nat×Bool) (fun y=>y.1≤n)
  (fun y=>⟨[(0,true,.one (.p 0 0 0)),(1,true,.one (.s 1)),(9,true,.one (.v (.int .i64 (n:Int)))),(10,true,.one (.v (.int .i64 (y.1:Int))))],[(0,.vec 0 (tgN 111 3) [[adC y.2,.ov zB8 ((tabT t y.1).map byK),.v (.int .i64 (n:Int))]]),(1,.vec 0 zSs (l.map sR1))]⟩)
  (fun y=>n-y.1) (0,u) (Nat.zero_le _) ?_ ?_
 ·cases u
  all_goals (refine to_with [] ?_;simp only[↓eB,seval,go_sem,rBd_u0,rBd_u1,rBd_n0,rBd_n1,rBd_f0,rBd_f1,adC,tabT_0,s_names])
 ·rintro ⟨i,u⟩ hi
  dsimp only at hi
  refine vc_ok [yg_WriteByte 111 1 (y_WriteByte _ _) (stays0 _ _),yg_WriteString 111 1 (y_WriteString _ _) (stays0 _ _)] [] _ _ _ ?_
  by_cases hlt:i<n
  ·have h1:=natI_lt hlt
   have h2:=natI_succ (n:=n) (Nat.le_of_lt hlt) (by omega)
   have h3:=tabT_s t i
   have h4:=tabT_len t i
   cases u<;>simp only[↓eB,seval,go_sem,rBd_u0,rBd_u1,rBd_n0,rBd_n1,rBd_f0,rBd_f1,adC,yg_WriteByte,yg_WriteString,h1,h2,h3]
   all_goals
    try simp only[impB,impN]
    repeat' first|exact ck|with_reducible apply And.intro|intro _
    all_goals try first|exact lieB_P|(rw[h4];omega)|(rename_i h;first|exact oI h|exact nah h)|(rename_i _ h _ g;exact sL h g)|decide|omega
    refine⟨(i+1,true),hlt,by omega,to_with [] ?_⟩
    simp only[↓eB,seval,go_sem,rBd_u0,rBd_u1,rBd_n0,rBd_n1,rBd_f0,rBd_f1,adC,s_names]
  ·obtain rfl:i=n:=by omega
   have h1:=natI_ge (Nat.le_refl i)
   simp only[↓eB,seval,go_sem,h1]
   refine loop_ok (Y:=Nat×Bool) (fun y=>y.1≤l.length)
    (fun y=>⟨[(0,true,.one (.p 0 0 0)),(17,true,.one (.s 1)),(18,true,.one (.v (.int .i64 (l.length:Int)))),(19,true,.one (.v (.int .i64 (y.1:Int))))],[(0,.vec 0 (tgN 111 3) [[adC y.2,.ov zB8 ((ptT (tabT t i) l y.1).map byK),.v (.int .i64 (i:Int))]]),(1,.vec 0 zSs (l.map sR1))]⟩)
    (fun y=>l.length-y.1) (0,u) (Nat.zero_le _) ?_ ?_
   ·cases u
    all_goals (refine to_with [] ?_;simp only[↓eB,seval,go_sem,rBd_u0,rBd_u1,rBd_n0,rBd_n1,rBd_f0,rBd_f1,adC,ptT_0,s_names])
   ·rintro ⟨j,u⟩ hj
    dsimp only at hj
    refine vc_ok [yg_WriteByte 111 1 (y_WriteByte _ _) (stays0 _ _),yg_WriteString 111 1 (y_WriteString _ _) (stays0 _ _)] [] _ _ _ ?_
    cases hx:l[j]? with
    |none=>
     have hj2:l.length≤j:=List.getElem?_eq_none_iff.1 hx
     have h1:=natI_ge hj2
     have h3:=lineT_eq t i l hj2
     have h4:(ptT (tabT t i) l j).length=t.length+i+l.flatten.length:=by rw[ptT_all hj2];simp[tabT_len]
     cases u<;>simp only[↓eB,seval,go_sem,rBd_u0,rBd_u1,rBd_n0,rBd_n1,rBd_f0,rBd_f1,adC,yg_WriteByte,yg_WriteString,h1,h3]
     all_goals
      try simp only[impB,impN]
      repeat' first|exact ck|with_reducible apply And.intro|intro _
      all_goals first|exact lieB_P|(rw[h4];omega)|(rename_i h;first|exact oI h|exact nah h)|(rename_i _ h _ g;exact sL h g)|decide|omega|(refine ret_with [] ?_;simp only[↓eB,seval,go_sem,bne,yr_line,ym_line,dep_mk,rBd_u0,rBd_u1,rBd_n0,rBd_n1,rBd_f0,rBd_f1,adC])
    |some x=>
     have hlt:j<l.length:=(List.getElem?_eq_some_iff.1 hx).1
     have h1:=natI_lt hlt
     have h2:=natI_ltp hlt
     have h2':=natI_succ (n:=l.length) (Nat.le_of_lt hlt) (by omega)
     have h3:=s_at hx
     have h4:=ptT_s hx (tabT t i)
     have h5:=ptT_len hx (tabT t i)
     rw[tabT_len]at h5
     cases u<;>simp only[↓eB,seval,go_sem,rBd_u0,rBd_u1,rBd_n0,rBd_n1,rBd_f0,rBd_f1,adC,yg_WriteByte,yg_WriteString,h1,h2,h2',h3,h4]
     all_goals
      try simp only[impB,impN]
      repeat' first|exact ck|with_reducible apply And.intro|intro _
      all_goals try first|exact lieB_P|exact hlt|(dsimp only;omega)|(rename_i h;first|exact oI h|exact nah h)|(rename_i _ h _ g;exact sL h g)|decide|omega
      refine⟨(j+1,true),hlt,by dsimp only;omega,to_with [] ?_⟩
      simp only[↓eB,seval,go_sem,rBd_u0,rBd_u1,rBd_n0,rBd_n1,rBd_f0,rBd_f1,adC,s_names]
noncomputable def yp_line {X:Ctx} {w0:World} (hG:StaysN X w0 T0 B0):Sy.Spec Tryz.prog X w0:=yg_line y_line hG
end Go.Proofs.YtbiepiggmagfcaaGreatDoor
