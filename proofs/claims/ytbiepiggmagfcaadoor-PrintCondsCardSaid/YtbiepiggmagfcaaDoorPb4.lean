/- strings.Builder: WriteByte and WriteString. Conditions: the bytes come to less than 10^14. -/
import Derived.Test.YtbiepiggmagfcaaDoorPb3
set_option linter.unusedVariables false
set_option linter.unusedSimpArgs false
namespace Go.Proofs.YtbiepiggmagfcaaDoor
open Go Go.Sy Go.RowKit
def byI (n:Int):UInt8:=UInt8.ofNat n.toNat
theorem byI_9:byI 9=9:=rfl
theorem byI_10:byI 10=10:=rfl
theorem byK_I (n:Int) (h0:0≤n) (h1:n<256):byK (byI n)=[.v (.int .u8 n)]:=by
 have:((UInt8.ofNat n.toNat).toNat:Int)=n:=by
  rw[UInt8.toNat_ofNat'];omega
 simp only[byK,byI,this]
theorem map_byK (l:List UInt8):l.map (fun b=>[C.v (.int .u8 b.toNat)])=l.map byK:=rfl
theorem by_all (l:List UInt8):((l.map byK).all fun r=>r.all fun c=>c.names.isEmpty)=true:=rowsY.cl
theorem by_st (l:List UInt8):∀r∈l.map byK,∀c∈r,C.stor c=true:=by
 intro r hr c hc
 obtain⟨x,_,rfl⟩:=List.mem_map.1 hr
 simp only[byK,List.mem_singleton]at hc
 subst hc;rfl
theorem bd_c1 (u:Bool) (t:List UInt8) (r:List Int):(Bd.mk u t r).c=adC u::.ov zB8 (t.map byK)::r.map inK:=rfl
theorem zB8_t:zT zB8=some 5:=rfl
theorem zB8_l:zB8.length=1:=rfl
attribute [go_sem] zB8_t zB8_l map_byK
theorem bd_rs {r:List Int} {m:Nat} (h:r.length=m) (h1:m≤1):r=[]∧m=0∨∃n,r=[n]∧m=1:=by
 match r,h with
 |[],h=>exact .inl ⟨rfl,h.symm⟩
 |[n],h=>exact .inr ⟨n,rfl,h.symm⟩
 |_::_::_,h=>simp at h;omega
abbrev yc_WriteByte (T:TypeId) (m:Nat) (b:Bd) (c:Int):Prop:=b.r.length=m∧m≤1∧lieB T m∧b.t.length≤100000000000000∧0≤c∧c<256
abbrev yr_WriteByte (T:TypeId) (m:Nat) (b:Bd) (c:Int):SV:=.one (.v .nilIface)
abbrev ym_WriteByte (T:TypeId) (m:Nat) (b:Bd) (c:Int):List (Option MV):=[some (tgN T (m+2),[({ b with u:=true,t:=b.t++[byI c] }:Bd).c])]
noncomputable abbrev ya_WriteByte (T:TypeId) (m:Nat):ArgN ((Bd)×(Int)×Unit):=(amB (rBd T m) (amD (cInt .u8) am0))
abbrev yq_WriteByte (T:TypeId) (m:Nat):Prop:=CallsN Tryd.prog 69 T0 B0 (ya_WriteByte T m).args (ya_WriteByte T m).mem (fun p:(Bd)×(Int)×Unit=>yc_WriteByte T m p.1 p.2.1) (fun p:(Bd)×(Int)×Unit=>yr_WriteByte T m p.1 p.2.1) (fun p:(Bd)×(Int)×Unit=>ym_WriteByte T m p.1 p.2.1)
theorem yl_WriteByte (T:TypeId) (m:Nat):∀p,(fun p:(Bd)×(Int)×Unit=>yc_WriteByte T m p.1 p.2.1) p→lenM ((ya_WriteByte T m).mem p).length ((fun p:(Bd)×(Int)×Unit=>ym_WriteByte T m p.1 p.2.1) p)=true:=by intro p _;rfl
theorem yo_WriteByte (T:TypeId) (m:Nat):∀p,(fun p:(Bd)×(Int)×Unit=>yc_WriteByte T m p.1 p.2.1) p→outV ((fun p:(Bd)×(Int)×Unit=>ym_WriteByte T m p.1 p.2.1) p).length ((fun p:(Bd)×(Int)×Unit=>yr_WriteByte T m p.1 p.2.1) p)=true:=by intro p _;rfl
theorem yn_WriteByte (T:TypeId) (m:Nat):∀p,(fun p:(Bd)×(Int)×Unit=>yc_WriteByte T m p.1 p.2.1) p→∀(i:Nat) q,((fun p:(Bd)×(Int)×Unit=>ym_WriteByte T m p.1 p.2.1) p)[i]?=some (some q)→∀r∈q.2,∀c∈r,cOK i c:=by intro p _;exact bd_cOK1 _ _
noncomputable def yg_WriteByte {X:Ctx} {w0:World} (T:TypeId) (m:Nat) (h:yq_WriteByte T m) (hG:StaysN X w0 T0 B0):Sy.Spec Tryd.prog X w0:=specN 69 Tryd.call69 T0 B0 (ya_WriteByte T m) (fun p:(Bd)×(Int)×Unit=>yc_WriteByte T m p.1 p.2.1) (fun p:(Bd)×(Int)×Unit=>yr_WriteByte T m p.1 p.2.1) (fun p:(Bd)×(Int)×Unit=>ym_WriteByte T m p.1 p.2.1) (yl_WriteByte T m) (yo_WriteByte T m) (yn_WriteByte T m) h hG
attribute [local go_sem] adC amB_a amB_m bd_c1 inK rBd_e rBd_f0 rBd_f1 rBd_n0 rBd_n1 rBd_u0 rBd_u1 rBd_z yg_copyCheck
theorem y_WriteByte (T:TypeId) (m:Nat):yq_WriteByte T m:=by
 rintro ⟨b,c,_u⟩ w M I lab fz xs hT hBk hc hA hl hx
 refine calls_toN 1 Tryd.func69 rfl ((ya_WriteByte T m).mem ⟨b,c,_u⟩) rfl w M I lab fz [(yg_copyCheck T m (y_copyCheck T m) (stays0 _ _))] [] ((ya_WriteByte T m).args ⟨b,c,_u⟩) ((fun p:(Bd)×(Int)×Unit=>ym_WriteByte T m p.1 p.2.1) ⟨b,c,_u⟩) ((fun p:(Bd)×(Int)×Unit=>yr_WriteByte T m p.1 p.2.1) ⟨b,c,_u⟩) xs hA hl hx (fun v hv k hk=>(ya_WriteByte T m).an ⟨b,c,_u⟩ v hv k hk) (Nat.le_of_ble_eq_true rfl) (Nat.le_of_ble_eq_true rfl) ?_
 clear hx hl hA xs
 simp only[Tryd.f69]
 obtain⟨hm,hm1,hlie,hlen,h0,h1⟩:=hc
 obtain⟨u,t,r⟩:=b
 dsimp only at hm hlen h0 h1
 rcases bd_rs hm hm1 with⟨rfl,rfl⟩|⟨n,rfl,rfl⟩<;>cases u
 all_goals
  simp only[↓eB,seval,go_sem]
  try simp only[impB,impN]
  repeat' first|exact ck|with_reducible apply And.intro|intro _
  all_goals first|exact⟨rfl,hlie⟩|(rename_i h;first|exact oI h|exact nah h)|(rename_i _ h _ g;exact sL h g)|decide|omega|(refine ret_with [.fold 0 0 1] ?_;simp only[↓eB,seval,go_sem,bne,yr_WriteByte,ym_WriteByte,List.map_append,List.all_append,List.isEmpty_nil,by_all,byK_I c h0 h1])
abbrev yc_WriteString (T:TypeId) (m:Nat) (b:Bd) (s:List UInt8):Prop:=b.r.length=m∧m≤1∧lieB T m∧b.t.length+s.length≤100000000000000
abbrev yr_WriteString (T:TypeId) (m:Nat) (b:Bd) (s:List UInt8):SV:=.tup [.inl (.v (.int .i64 (s.length:Int))),.inl (.v .nilIface)]
abbrev ym_WriteString (T:TypeId) (m:Nat) (b:Bd) (s:List UInt8):List (Option MV):=[some (tgN T (m+2),[({ b with u:=true,t:=b.t++s }:Bd).c])]
noncomputable abbrev ya_WriteString (T:TypeId) (m:Nat):ArgN ((Bd)×(List UInt8)×Unit):=(amB (rBd T m) (amD (cStr) am0))
abbrev yq_WriteString (T:TypeId) (m:Nat):Prop:=CallsN Tryd.prog 70 T0 B0 (ya_WriteString T m).args (ya_WriteString T m).mem (fun p:(Bd)×(List UInt8)×Unit=>yc_WriteString T m p.1 p.2.1) (fun p:(Bd)×(List UInt8)×Unit=>yr_WriteString T m p.1 p.2.1) (fun p:(Bd)×(List UInt8)×Unit=>ym_WriteString T m p.1 p.2.1)
theorem yl_WriteString (T:TypeId) (m:Nat):∀p,(fun p:(Bd)×(List UInt8)×Unit=>yc_WriteString T m p.1 p.2.1) p→lenM ((ya_WriteString T m).mem p).length ((fun p:(Bd)×(List UInt8)×Unit=>ym_WriteString T m p.1 p.2.1) p)=true:=by intro p _;rfl
theorem yo_WriteString (T:TypeId) (m:Nat):∀p,(fun p:(Bd)×(List UInt8)×Unit=>yc_WriteString T m p.1 p.2.1) p→outV ((fun p:(Bd)×(List UInt8)×Unit=>ym_WriteString T m p.1 p.2.1) p).length ((fun p:(Bd)×(List UInt8)×Unit=>yr_WriteString T m p.1 p.2.1) p)=true:=by intro p _;rfl
theorem yn_WriteString (T:TypeId) (m:Nat):∀p,(fun p:(Bd)×(List UInt8)×Unit=>yc_WriteString T m p.1 p.2.1) p→∀(i:Nat) q,((fun p:(Bd)×(List UInt8)×Unit=>ym_WriteString T m p.1 p.2.1) p)[i]?=some (some q)→∀r∈q.2,∀c∈r,cOK i c:=by intro p _;exact bd_cOK1 _ _
noncomputable def yg_WriteString {X:Ctx} {w0:World} (T:TypeId) (m:Nat) (h:yq_WriteString T m) (hG:StaysN X w0 T0 B0):Sy.Spec Tryd.prog X w0:=specN 70 Tryd.call70 T0 B0 (ya_WriteString T m) (fun p:(Bd)×(List UInt8)×Unit=>yc_WriteString T m p.1 p.2.1) (fun p:(Bd)×(List UInt8)×Unit=>yr_WriteString T m p.1 p.2.1) (fun p:(Bd)×(List UInt8)×Unit=>ym_WriteString T m p.1 p.2.1) (yl_WriteString T m) (yo_WriteString T m) (yn_WriteString T m) h hG
theorem y_WriteString (T:TypeId) (m:Nat):yq_WriteString T m:=by
 rintro ⟨b,s,_u⟩ w M I lab fz xs hT hBk hc hA hl hx
 refine calls_toN 1 Tryd.func70 rfl ((ya_WriteString T m).mem ⟨b,s,_u⟩) rfl w M I lab fz [(yg_copyCheck T m (y_copyCheck T m) (stays0 _ _))] [] ((ya_WriteString T m).args ⟨b,s,_u⟩) ((fun p:(Bd)×(List UInt8)×Unit=>ym_WriteString T m p.1 p.2.1) ⟨b,s,_u⟩) ((fun p:(Bd)×(List UInt8)×Unit=>yr_WriteString T m p.1 p.2.1) ⟨b,s,_u⟩) xs hA hl hx (fun v hv k hk=>(ya_WriteString T m).an ⟨b,s,_u⟩ v hv k hk) (Nat.le_of_ble_eq_true rfl) (Nat.le_of_ble_eq_true rfl) ?_
 clear hx hl hA xs
 simp only[Tryd.f70]
 obtain⟨hm,hm1,hlie,hlen⟩:=hc
 obtain⟨u,t,r⟩:=b
 dsimp only at hm hlen
 rcases bd_rs hm hm1 with⟨rfl,rfl⟩|⟨n,rfl,rfl⟩<;>cases u
 all_goals
  simp only[↓eB,seval,go_sem]
  try simp only[impB,impN]
  repeat' first|exact ck|with_reducible apply And.intro|intro _
  all_goals first|exact⟨rfl,hlie⟩|(rename_i _ h _ g;exact by_st _ _ h _ g)|(rename_i h;first|exact oI h|exact nah h)|(rename_i _ h _ g;exact sL h g)|decide|omega|(refine ret_with [.fold 0 0 1] ?_;simp only[↓eB,seval,go_sem,bne,yr_WriteString,ym_WriteString,List.map_append,List.all_append,List.isEmpty_nil,by_all])
theorem lieB_P:lieB 87 1:=by
 constructor
 intro n hn
 obtain⟨c,hc⟩:∃c,n / Tryd.prog.cellsOf 87=c+1:=by
  have:Tryd.prog.cellsOf 87=3:=by kernel_rfl
  rw[this]
  exact⟨n / 3-1,by omega⟩
 rw[hc]
 kernel_rfl
end Go.Proofs.YtbiepiggmagfcaaDoor
