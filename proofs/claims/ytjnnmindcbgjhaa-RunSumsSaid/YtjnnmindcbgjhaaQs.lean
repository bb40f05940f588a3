/- RunSums, walked. Condition: the byte is not negative. -/
import Derived.Test.YtjnnmindcbgjhaaKr
import Derived.Test.YtjnnmindcbgjhaaSyC
import Derived.Deep.Draws
import Derived.LaidMore
import Derived.ProofKit
import Derived.OpenShut
import Derived.Test.YtjnnmindcbgjhaaRows
import Derived.Lib.SmallJoins
import Derived.Carry
set_option linter.unusedVariables false
set_option linter.unusedSimpArgs false
namespace Go.Proofs.Ytjnnmindcbgjhaa
open Go Go.Sy Go.RowKit
def oP (k:Int):Pg:=⟨⟨[],[]⟩,[⟨[102],[⟨[120],false⟩,⟨[121],false⟩],[],[(.mk 9 [] [] (.mk k 0 [] (.mk 1 0 [120] .nil .nil) (.mk 1 0 [121] .nil .nil)) .nil .nil [] [] [] 0)]⟩]⟩
def ogl:List UInt8→List Gi:=fun _=>[]
theorem og_u:okUn 50 8 ogl ⟨gloB,[]⟩:=okUn_g ⟨by unfold smallB;simp,(fun g hg=>by cases hg),Nat.zero_le _,_,(by kernel_rfl:rxT []=([],0,0)),rfl⟩ (once_nd (by decide)) (by decide) (by decide)
theorem oP_r (k:Int) (h:okPb 50 8 (oP k)=true) (va:List Va) (f:Int) (hv:va.length≤5000) (hf:f<10):okR 50 10 (oP k) va ⟨[],[]⟩ f:=⟨okPb_ok h,Nat.zero_le _,Nat.zero_le _,(by intro x hx;cases hx),Nat.zero_le _,Nat.zero_le _,hv,hf,by decide⟩
def oT0:List UInt8:=[102,110,32,102,40,120,44,32,121,41,32,123,32,114,101,116,117,114,110,32,120,32,43,32,121,59,32,125]
theorem oT0_e:prF 8 ogl [⟨[102],oT0⟩,⟨gloB,[]⟩]=oP 2:=by kernel_rfl
theorem oT0_u:okUn 50 8 ogl ⟨[102],oT0⟩:=okUn_f (by decide) (by have e:oT0.length=28:=rfl;unfold smallB;omega) (by kernel_rfl)
theorem oP2_b:okPb 50 8 (oP 2)=true:=by kernel_rfl
theorem oR0 (a b:Int):clF 10 (oP 2) [102] [⟨false,a,[]⟩,⟨false,b,[]⟩] ⟨[],[]⟩ 3=⟨2,0,[],[],0,IntKind.i64.wrap (a+b),[],0,0⟩:=by kernel_rfl
def oT1:List UInt8:=[102,110,32,102,40,120,44,32,121,41,32,123,32,114,101,116,117,114,110,32,120,32,45,32,121,59,32,125]
theorem oT1_e:prF 8 ogl [⟨[102],oT1⟩,⟨gloB,[]⟩]=oP 3:=by kernel_rfl
theorem oT1_u:okUn 50 8 ogl ⟨[102],oT1⟩:=okUn_f (by decide) (by have e:oT1.length=28:=rfl;unfold smallB;omega) (by kernel_rfl)
theorem oP3_b:okPb 50 8 (oP 3)=true:=by kernel_rfl
theorem oR1 (a b:Int):clF 10 (oP 3) [102] [⟨false,a,[]⟩,⟨false,b,[]⟩] ⟨[],[]⟩ 3=⟨2,0,[],[],0,IntKind.i64.wrap (a-b),[],0,0⟩:=by kernel_rfl
def oT2:List UInt8:=[102,110,32,102,40,120,44,32,121,41,32,123,32,114,101,116,117,114,110,32,120,32,42,32,121,59,32,125]
theorem oT2_e:prF 8 ogl [⟨[102],oT2⟩,⟨gloB,[]⟩]=oP 4:=by kernel_rfl
theorem oT2_u:okUn 50 8 ogl ⟨[102],oT2⟩:=okUn_f (by decide) (by have e:oT2.length=28:=rfl;unfold smallB;omega) (by kernel_rfl)
theorem oP4_b:okPb 50 8 (oP 4)=true:=by kernel_rfl
theorem oR2 (a b:Int):clF 10 (oP 4) [102] [⟨false,a,[]⟩,⟨false,b,[]⟩] ⟨[],[]⟩ 3=⟨2,0,[],[],0,IntKind.i64.wrap (a*b),[],0,0⟩:=by kernel_rfl
def oT3:List UInt8:=[102,110,32,102,40,120,44,32,121,41,32,123,32,114,101,116,117,114,110,32,120,32,47,32,121,59,32,125]
theorem oT3_e:prF 8 ogl [⟨[102],oT3⟩,⟨gloB,[]⟩]=oP 5:=by kernel_rfl
theorem oT3_u:okUn 50 8 ogl ⟨[102],oT3⟩:=okUn_f (by decide) (by have e:oT3.length=28:=rfl;unfold smallB;omega) (by kernel_rfl)
theorem oP5_b:okPb 50 8 (oP 5)=true:=by kernel_rfl
theorem oR3 (a b:Int) (hb:(b==0)=false):clF 10 (oP 5) [102] [⟨false,a,[]⟩,⟨false,b,[]⟩] ⟨[],[]⟩ 3=⟨2,0,[],[],0,IntKind.i64.wrap (a.tdiv b),[],0,0⟩:=by
 cases b with
 |ofNat n=>cases n with
  |zero=>cases hb
  |succ n=>kernel_rfl
 |negSucc n=>kernel_rfl
theorem oZ3 (a:Int):clF 10 (oP 5) [102] [⟨false,a,[]⟩,⟨false,0,[]⟩] ⟨[],[]⟩ 3=⟨2,1,[],[],1,0,[102],0,0⟩:=by kernel_rfl
def oT4:List UInt8:=[102,110,32,102,40,120,44,32,121,41,32,123,32,114,101,116,117,114,110,32,120,32,37,32,121,59,32,125]
theorem oT4_e:prF 8 ogl [⟨[102],oT4⟩,⟨gloB,[]⟩]=oP 6:=by kernel_rfl
theorem oT4_u:okUn 50 8 ogl ⟨[102],oT4⟩:=okUn_f (by decide) (by have e:oT4.length=28:=rfl;unfold smallB;omega) (by kernel_rfl)
theorem oP6_b:okPb 50 8 (oP 6)=true:=by kernel_rfl
theorem oR4 (a b:Int) (hb:(b==0)=false):clF 10 (oP 6) [102] [⟨false,a,[]⟩,⟨false,b,[]⟩] ⟨[],[]⟩ 3=⟨2,0,[],[],0,a.tmod b,[],0,0⟩:=by
 cases b with
 |ofNat n=>cases n with
  |zero=>cases hb
  |succ n=>kernel_rfl
 |negSucc n=>kernel_rfl
theorem oZ4 (a:Int):clF 10 (oP 6) [102] [⟨false,a,[]⟩,⟨false,0,[]⟩] ⟨[],[]⟩ 3=⟨2,1,[],[],1,0,[102],0,0⟩:=by kernel_rfl
abbrev yc_RunSums (a:Int) (b:Int) (op:Int):Prop:=i64R a∧i64R b∧u8R op
abbrev yr_RunSums (a:Int) (b:Int) (op:Int):Value:=Value.bool true
attribute [local go_sem] cPg_d cPg_e cSta_d cSta_e cSta_n cVas_d cVas_d1 cVas_d2 cVas_e cVas_n ouC pgR pg_eta pqR stR yg_Call yg_one yp_known20 yr_known20
set_option maxRecDepth 20000 in set_option maxHeartbeats 32000000 in
theorem y_RunSums:CallsR Try.prog 5 (ahS ((cInt .i64).H) (ahS ((cInt .i64).H) (ahS ((cInt .u8).H) ah0))) (fun p:(Int×(Int×(Int×Unit)))=>yc_RunSums p.1 p.2.1 p.2.2.1) (fun p:(Int×(Int×(Int×Unit)))=>ofV (yr_RunSums p.1 p.2.1 p.2.2.1)):=by
 rintro ⟨a,b,op,_u⟩ w fz xs hc hfz hl hx
 refine calls_toRL Try.func5 rfl w fz [yp_known20,(yg_one 50 8 ogl (y_one 50 8 ogl)),(yg_Call 50 10 (y_Call 50 10))] [(4,[.flag 25])] (ahS ((cInt .i64).H) (ahS ((cInt .i64).H) (ahS ((cInt .u8).H) ah0))) (fun p:(Int×(Int×(Int×Unit)))=>ofV (yr_RunSums p.1 p.2.1 p.2.2.1)) _ xs hfz hl hx (Nat.le_of_ble_eq_true rfl) ?_
 clear hx hl hfz xs
 simp only[Try.f5]
 have hc:0≤op:=hc.2.2.1
 have hgb:gloB=[103,108,111,98,97,108,115]:=rfl
 have hgu:=og_u
 have hm:op.tmod 5=0∨op.tmod 5=1∨op.tmod 5=2∨op.tmod 5=3∨op.tmod 5=4:=by
  rw[Int.tmod_eq_emod_of_nonneg hc];omega
 rcases hm with hk|hk|hk|hk|hk
 ·have he:=oT0_e
  have hu:=oT0_u
  have hr:=oP_r 2 oP2_b
  simp only[oT0]at he hu
  have h1:=oR0 a b
  simp only[↓eB,seval,go_sem,hk,he,h1,beq_self_eq_true]
  refine⟨⟨hu,hgu⟩,hr _ 3 (Nat.le_of_ble_eq_true rfl) (by decide),?_⟩
  refine ret_with [] ?_;simp only[↓eB,seval,go_sem,bne,yr_RunSums]
 ·have he:=oT1_e
  have hu:=oT1_u
  have hr:=oP_r 3 oP3_b
  simp only[oT1]at he hu
  have h1:=oR1 a b
  simp only[↓eB,seval,go_sem,hk,he,h1,beq_self_eq_true]
  refine⟨⟨hu,hgu⟩,hr _ 3 (Nat.le_of_ble_eq_true rfl) (by decide),?_⟩
  refine ret_with [] ?_;simp only[↓eB,seval,go_sem,bne,yr_RunSums]
 ·have he:=oT2_e
  have hu:=oT2_u
  have hr:=oP_r 4 oP4_b
  simp only[oT2]at he hu
  have h1:=oR2 a b
  simp only[↓eB,seval,go_sem,hk,he,h1,beq_self_eq_true]
  refine⟨⟨hu,hgu⟩,hr _ 3 (Nat.le_of_ble_eq_true rfl) (by decide),?_⟩
  refine ret_with [] ?_;simp only[↓eB,seval,go_sem,bne,yr_RunSums]
 ·have he:=oT3_e
  have hu:=oT3_u
  have hr:=oP_r 5 oP5_b
  simp only[oT3]at he hu
  cases hb:(b==0) with
  |false=>
   have h1:=oR3 a b hb
   have hb2:b≠0:=by simpa using hb
   simp only[↓eB,seval,go_sem,hk,he,h1,hb,beq_self_eq_true]
   refine⟨⟨hu,hgu⟩,hr _ 3 (Nat.le_of_ble_eq_true rfl) (by decide),hb2,?_⟩
   refine ret_with [] ?_;simp only[↓eB,seval,go_sem,bne,yr_RunSums]
  |true=>
   have hb2:b=0:=by simpa using hb
   subst hb2
   have h1:=oZ3 a
   simp only[↓eB,seval,go_sem,hk,he,h1,beq_self_eq_true]
   refine⟨⟨hu,hgu⟩,hr _ 3 (Nat.le_of_ble_eq_true rfl) (by decide),?_⟩
   refine ret_with [] ?_;simp only[↓eB,seval,go_sem,bne,yr_RunSums]
 ·have he:=oT4_e
  have hu:=oT4_u
  have hr:=oP_r 6 oP6_b
  simp only[oT4]at he hu
  cases hb:(b==0) with
  |false=>
   have h1:=oR4 a b hb
   have hb2:b≠0:=by simpa using hb
   simp only[↓eB,seval,go_sem,hk,he,h1,hb,beq_self_eq_true]
   refine⟨⟨hu,hgu⟩,hr _ 3 (Nat.le_of_ble_eq_true rfl) (by decide),hb2,?_⟩
   refine ret_with [] ?_;simp only[↓eB,seval,go_sem,bne,yr_RunSums]
  |true=>
   have hb2:b=0:=by simpa using hb
   subst hb2
   have h1:=oZ4 a
   simp only[↓eB,seval,go_sem,hk,he,h1,beq_self_eq_true]
   refine⟨⟨hu,hgu⟩,hr _ 3 (Nat.le_of_ble_eq_true rfl) (by decide),?_⟩
   refine ret_with [] ?_;simp only[↓eB,seval,go_sem,bne,yr_RunSums]
end Go.Proofs.Ytjnnmindcbgjhaa
namespace Go.Sy
open Go Go.RowKit Go.ChangeShapes Go.WideShapes Go.ChangeAt
section
variable {H:Type} {enc:TypeId×Value→H} {P:Program} {W:World} {t:TypeId} {fuel:Nat} {A B:Type} {e:A→List D} {Q:A→Prop}
end
section
variable {H:Type} {enc:TypeId×Value→H} {P:Program} {W:World} {t:TypeId} {A:Type} {e:A→List D} {Q:A→Prop}
end
end Go.Sy
namespace Go.Proofs.Ytjnnmindcbgjhaa
open Go Go.Sy Go.RowKit Go.ChangeShapes Go.WideShapes Go.ChangeAt
theorem ownK:ownKnob Try.prog.godebug=none:=by kernel_rfl
theorem laidK:laidOutB Try.prog=true:=by kernel_rfl
theorem trodAll_below {H:Type} {enc:TypeId×Value→H} {P:Program} (hl:laidOutB P=true) {W W':World} (hb:Below W.heap.size W W'):∀(ts:List TypeId) (vs:List Value) (ds:List (DataW H)) (ps:List MemPlace),
  (∀t∈ts,P.readableRec t=true∧t<P.types.size)→DataW.TrodAll enc P W 0 (fun _=>true) true ts vs ds ps→(∀x∈ps,x.block<W.heap.size)→DataW.TrodAll enc P W' 0 (fun b=>decide (b<W.heap.size)) true ts vs ds ps
 |[],vs,ds,ps,_,h,_=>by
  obtain⟨rfl,rfl,rfl⟩:=trodAll_nil h
  exact trodAll_mk0
 |t::ts,vs,ds,ps,hts,h,hlt=>by
  obtain⟨v,vs',d,ds',p,q,rfl,rfl,rfl,h1,h2⟩:=trodAll_cons h
  have ht:=hts t (List.mem_cons_self ..)
  exact trodAll_cons_mk (Below.trod hl ht.1 ht.2 h1 hb fun x hx=>hlt x (List.mem_append_left _ hx))
   (trodAll_below hl hb ts vs' ds' q (fun t' ht'=>hts t' (List.mem_cons_of_mem _ ht')) h2 fun x hx=>hlt x (List.mem_append_right _ hx))
theorem law_post {H:Type} {enc:TypeId×Value→H} {f:Func} {s:ChangeSpec} {W W':World} {args:Array Value} {ds gs:List (DataW H)} {before:List MemPlace} (hW:DataW.Whole enc Try.prog f.params.toList s.vars false W args.toList ds gs before)
  (hv:s.vars=[]) (hr:f.resultTypes = #[4]) (hts:∀t∈f.params.toList,Try.prog.readableRec t=true∧t<Try.prog.types.size)
  (hf:gs=[]→(s.fn H (ds++gs)).results=[.lit (.bool true)]∧(s.fn H (ds++gs)).args=ds∧(s.fn H (ds++gs)).vars=[]) (hb:Below W.heap.size W W') :
  s.post enc Try.prog f false true false false W args (.bool true) W':=by
 have hlt:=hW.lt
 have hW0:=hW
 obtain⟨p,q,hA,hV,rfl,_,_⟩:=hW
 rw[hv]at hV
 obtain⟨rfl,rfl⟩:=trodVars_none hV
 obtain⟨f1,f2,f3⟩:=hf rfl
 refine⟨ds,[],p++[],[],p,[],hW0,?_,?_,?_,hb.frame _,fun h=>by cases h⟩
 ·rw[f1,hr]
  exact trodAll_cons_mk (shut_bool Try.underlying4 true) trodAll_mk0
 ·rw[f2]
  exact trodAll_below laidK hb _ _ _ _ hts hA fun x hx=>by simpa using hlt x (List.mem_append_left _ hx)
 ·rw[f3,hv];rfl
theorem to_plainR {P:Program} {f:FuncId} {A:Type} {ac:ArgH A} {Cd:A→Prop} {F:A→SV} (h:CallsR P f ac Cd F) (a:A) (w:World) (hc:Cd a) (vals:List Value) (val:Value) (hl:vals.length=(ac.e a).length)
  (h1:∀(j:Nat) (v:SV) (x:Value),(ac.e a)[j]?=some v→vals[j]?=some x→CD (hp w) (fun b=>b<w.heap.size) v x)
  (h2:clos (F a)=some val):Calls P f vals.toArray w (fun e w'=>e= .returned val∧Below w.heap.size w w'):=by
 refine(h a w (fun b=>b<w.heap.size) vals hc (fun _ h=>h) hl h1).mono ?_
 rintro e w' ⟨v,x,fz',rfl,rfl,g1,g2,g3,g4,g5,g6⟩
 rw[sd_clos g5 h2]
 exact⟨rfl,g6⟩
section
variable {H:Type} {enc:TypeId×Value→H} {W:World} {base:Nat} {v:Value} {d:DataW H} {p:List MemPlace}
theorem wf_i64' {n:Int} (h:(Lit.int .i64 n).wf=true):i64R n:=by
 have:=bounds_i64 h;unfold i64R;omega
theorem wf_u8' {n:Int} (h:(Lit.int .u8 n).wf=true):u8R n:=by
 have:=bounds_u8 h;unfold u8R;omega
end
end Go.Proofs.Ytjnnmindcbgjhaa
