/- The chapter's example of witnesses, walked. -/
import Derived.Test.YtjnnmindcbgjhabWk
import Derived.Test.YtjnnmindcbgjhabKp
import Derived.Test.YtjnnmindcbgjhabSyC
import Derived.Deep.Draws
import Derived.LaidMore
import Derived.ProofKit
import Derived.OpenShut
import Derived.Test.YtjnnmindcbgjhabRows
import Derived.Lib.SmallJoins
import Derived.Carry
set_option linter.unusedVariables false
set_option linter.unusedSimpArgs false
namespace Go.Proofs.Ytjnnmindcbgjhab
open Go Go.Sy Go.RowKit
def wT:List UInt8:=[102,110,32,102,40,120,41,32,123,32,114,101,116,117,114,110,32,49,32,47,32,120,59,32,125]
def wP:Pg:=⟨⟨[],[]⟩,[⟨[102],[⟨[120],false⟩],[],[(.mk 9 [] [] (.mk 5 0 [] (.mk 0 1 [] .nil .nil) (.mk 1 0 [120] .nil .nil)) .nil .nil [] [] [] 0)]⟩]⟩
theorem wP_e:prF 8 kgl [⟨[102],wT⟩]=wP:=by kernel_rfl
theorem wP_u:∀u∈[(⟨[102],wT⟩:Un)],okUn 50 8 kgl u:=by
 intro u hu
 rw[List.mem_singleton.1 hu]
 exact okUn_f (by decide) (by have e:wT.length=25:=rfl;unfold smallB;omega) (by kernel_rfl)
theorem wP_w (l:List Int) (f:Int) (hl:l.length≤1000000) (hf:f<10):okW 50 10 wP l f:=⟨okPb_ok (M:=8) (by kernel_rfl),by decide,by decide,(by intro x hx;cases hx),hl,hf,by decide⟩
theorem wP_a:firA 10 wP [102] 9 [3,0]=([⟨false,0,[]⟩],⟨8,1,[],[],1,0,[102],0,0⟩,true):=by kernel_rfl
theorem wP_b:firA 10 wP [102] 9 [3,4]=([],ms00,false):=by kernel_rfl
theorem wP_c:cntF wP [102] [3,0]=2:=by kernel_rfl
theorem wP_d:cntF wP [103] [1]=0:=by kernel_rfl
abbrev yc_known28:Prop:=True
abbrev yr_known28:SV:=.one (.v (.bool true))
noncomputable abbrev ya_known28:ArgC (Unit):=ac0
abbrev yq_known28:Prop:=CallsY Try.prog 4 ya_known28 (fun p:Unit=>yc_known28 ) (fun p:Unit=>yr_known28 )
theorem yn_known28:∀p:Unit,((fun p:Unit=>yr_known28 ) p).names=[]:=by intro p;rfl
set_option maxRecDepth 20000 in set_option maxHeartbeats 32000000 in
theorem y_known28:yq_known28:=by
 rintro ⟨_u⟩ w fz xs hc hfz hl hx
 refine calls_toL Try.func4 rfl w fz [(yg_Prog 50 8 kgl (y_Prog 50 8 kgl)),(yg_First 50 10 (y_First 50 10)),yp_Count] [(2,[.flag 13]),(3,[.flag 20]),(4,[.flag 49,.flag 55])] ya_known28 (fun p:Unit=>yr_known28 ) _ xs hfz hl hx (Nat.le_of_ble_eq_true rfl) ?_
 clear hx hl hfz xs
 simp only[Try.f4]
 have he:=wP_e
 have hu:=wP_u
 have hr:=wP_w
 simp only[wT]at he hu
 have hw:=hr [] 0 (by decide) (by decide)
 have hcn:∀(f:List UInt8) (l:List Int),l.length≤1000000→yc_Count wP f l:=fun f l h=>⟨hw.c,h,hw.p.l,hw.ps⟩
 simp only[↓eB,seval,go_sem,yg_Prog,yg_First,yp_Count,yr_Count,mUn_e,mUn_z,mUn_dr,Un.c,pqR,zUc,cPg_e,cPg_d,pgR,cI6_e,cI6_d,cI6_d1,cI6_d2,ouC,Va.r,he,wP_a,wP_b,wP_c,wP_d,pg_eta]
 refine⟨⟨Nat.le_of_ble_eq_true rfl,hu⟩,hr _ 9 (by decide) (by decide),hr _ 9 (by decide) (by decide),hcn _ _ (by decide),hcn _ _ (by decide),?_⟩
 refine ret_with [] ?_;simp only[↓eB,seval,go_sem,bne,yr_known28]
noncomputable def yp_known28 {X:Ctx} {w0:World}:Sy.Spec Try.prog X w0:=specD 4 Try.call4 ya_known28 (fun p:Unit=>yc_known28 ) (fun p:Unit=>yr_known28 ) yn_known28 y_known28
end Go.Proofs.Ytjnnmindcbgjhab
namespace Go.Proofs.Ytjnnmindcbgjhab
open Go Go.Sy Go.RowKit
set_option maxRecDepth 100000
def wgT:Nat→List UInt8
 |0=>[]
 |1=>[99,101,108,108,32,99,59,32]
 |2=>[99,101,108,108,32,99,59,32,99,101,108,108,32,100,59,32]
 |_=>[99,101,108,108,32,99,59,32,99,101,108,108,32,100,59,32,99,101,108,108,32,101,59,32]
def wgC:Nat→List (List UInt8)
 |0=>[]
 |1=>[[99]]
 |2=>[[99],[100]]
 |_=>[[99],[100],[101]]
def wgx (n:Nat):List UInt8→List Gi:=fun _=>(wgC n).map Gi.c
def wpT0:List UInt8:=[102,110,32,102,40,120,44,32,42,112,41,32,123,32,120,32,61,32,42,112,59,32,125]
def wpP0 (n:Nat):Pg:=⟨⟨wgC n,[]⟩,[⟨[102],[⟨[120],false⟩,⟨[112],true⟩],[],[(.mk 4 [120] [112] .nil .nil .nil [] [] [] 0)]⟩]⟩
def wpT1:List UInt8:=[102,110,32,102,40,120,44,32,42,112,41,32,123,32,105,102,32,40,112,32,33,61,32,110,117,108,108,41,32,123,32,42,112,32,61,32,49,59,32,105,102,32,40,99,32,61,61,32,49,41,32,123,32,97,115,115,101,114,116,32,40,120,32,33,61,32,120,41,59,32,125,32,125,32,125]
def wpP1 (n:Nat):Pg:=⟨⟨wgC n,[]⟩,[⟨[102],[⟨[120],false⟩,⟨[112],true⟩],[],[(.mk 10 [] [] .nil .nil (.mk 8 .nil .nil (.mk 9 .nil .nil .nil .nil [112]) .nil []) [] [(.mk 5 [112] [] (.mk 0 1 [] .nil .nil) .nil .nil [] [] [] 1),(.mk 10 [] [] .nil .nil (.mk 0 (.mk 1 0 [99] .nil .nil) (.mk 0 1 [] .nil .nil) .nil .nil []) [] [(.mk 12 [] [] .nil .nil (.mk 1 (.mk 1 0 [120] .nil .nil) (.mk 1 0 [120] .nil .nil) .nil .nil []) [] [] [] 3)] [] 2)] [] 0)]⟩]⟩
def wpT2:List UInt8:=[102,110,32,102,40,120,44,32,42,112,41,32,123,32,105,102,32,40,112,32,33,61,32,110,117,108,108,41,32,123,32,42,112,32,61,32,49,59,32,125,32,125]
def wpP2 (n:Nat):Pg:=⟨⟨wgC n,[]⟩,[⟨[102],[⟨[120],false⟩,⟨[112],true⟩],[],[(.mk 10 [] [] .nil .nil (.mk 8 .nil .nil (.mk 9 .nil .nil .nil .nil [112]) .nil []) [] [(.mk 5 [112] [] (.mk 0 1 [] .nil .nil) .nil .nil [] [] [] 1)] [] 0)]⟩]⟩
theorem wgC_len:∀n,(wgC n).length≤1000
 |0=>by decide
 |1=>by decide
 |2=>by decide
 |_+3=>Nat.le_of_ble_eq_true rfl
theorem lt4 {p:Nat→Prop} (h0:p 0) (h1:p 1) (h2:p 2) (h3:p 3):∀n,n<4→p n
 |0,_=>h0
 |1,_=>h1
 |2,_=>h2
 |3,_=>h3
 |_+4,h=>by omega
theorem wg_t0:rxT (wgT 0)=([],0,0):=by kernel_rfl
theorem wg_t1:rxT (wgT 1)=([⟨0,[99,101,108,108],0⟩,⟨0,[99],5⟩,⟨2,[59],6⟩],0,0):=by kernel_rfl
theorem wg_t2:rxT (wgT 2)=([⟨0,[99,101,108,108],0⟩,⟨0,[99],5⟩,⟨2,[59],6⟩,⟨0,[99,101,108,108],8⟩,⟨0,[100],13⟩,⟨2,[59],14⟩],0,0):=by kernel_rfl
theorem wg_t3:rxT (wgT 3)=([⟨0,[99,101,108,108],0⟩,⟨0,[99],5⟩,⟨2,[59],6⟩,⟨0,[99,101,108,108],8⟩,⟨0,[100],13⟩,⟨2,[59],14⟩,⟨0,[99,101,108,108],16⟩,⟨0,[101],21⟩,⟨2,[59],22⟩],0,0):=by kernel_rfl
theorem wg_ok:∀n,n<4→okUn 50 8 (wgx n) ⟨gloB,wgT n⟩:=by
 refine lt4 ?_ ?_ ?_ ?_
 ·refine okUn_g ⟨by have e:(wgT 0).length=0:=rfl;unfold smallB;omega,?_,by decide,_,wg_t0,rfl⟩ (once_nd (by decide)) (by decide) (by decide)
  intro g hg
  simp only[wgx,wgC,List.map_cons,List.map_nil,List.mem_cons,List.not_mem_nil,or_false]at hg
 ·refine okUn_g ⟨by have e:(wgT 1).length=8:=rfl;unfold smallB;omega,?_,by decide,_,wg_t1,rfl⟩ (once_nd (by decide)) (by decide) (by decide)
  intro g hg
  simp only[wgx,wgC,List.map_cons,List.map_nil,List.mem_cons,List.not_mem_nil,or_false]at hg
  rcases hg with rfl<;>exact gl_nm _ (by decide)
 ·refine okUn_g ⟨by have e:(wgT 2).length=16:=rfl;unfold smallB;omega,?_,by decide,_,wg_t2,rfl⟩ (once_nd (by decide)) (by decide) (by decide)
  intro g hg
  simp only[wgx,wgC,List.map_cons,List.map_nil,List.mem_cons,List.not_mem_nil,or_false]at hg
  rcases hg with rfl|rfl<;>exact gl_nm _ (by decide)
 ·refine okUn_g ⟨by have e:(wgT 3).length=24:=rfl;unfold smallB;omega,?_,by decide,_,wg_t3,rfl⟩ (once_nd (by decide)) (by decide) (by decide)
  intro g hg
  simp only[wgx,wgC,List.map_cons,List.map_nil,List.mem_cons,List.not_mem_nil,or_false]at hg
  rcases hg with rfl|rfl|rfl<;>exact gl_nm _ (by decide)
theorem wp_e0:∀n,n<4→prF 8 (wgx n) [⟨[102],wpT0⟩,⟨gloB,wgT n⟩]=wpP0 n:=lt4 (by kernel_rfl) (by kernel_rfl) (by kernel_rfl) (by kernel_rfl)
theorem wp_u0 (n:Nat) (h:n<4):∀u∈[(⟨[102],wpT0⟩:Un),⟨gloB,wgT n⟩],okUn 50 8 (wgx n) u:=by
 intro u hu
 simp only[List.mem_cons,List.not_mem_nil,or_false]at hu
 rcases hu with rfl|rfl
 ·exact okUn_f (by decide) (by have e:wpT0.length=23:=rfl;unfold smallB;omega) (by kernel_rfl)
 ·exact wg_ok n h
theorem wp_b0:∀n,n<4→okPb 50 8 (wpP0 n)=true:=lt4 (by kernel_rfl) (by kernel_rfl) (by kernel_rfl) (by kernel_rfl)
theorem wp_c0:∀n,n<4→cntF (wpP0 n) [102] [4,5]=2*((n:Int)+1):=lt4 (by kernel_rfl) (by kernel_rfl) (by kernel_rfl) (by kernel_rfl)
theorem wp_w0 (n:Nat) (h:n<4):okW 50 21 (wpP0 n) [4] 20:=⟨okPb_ok (wp_b0 n h),Nat.le_trans (wgC_len n) (by decide),Nat.zero_le _,(by intro x hx;cases hx),(by decide),(by decide),by decide⟩
theorem wp_e1:∀n,n<4→prF 8 (wgx n) [⟨[102],wpT1⟩,⟨gloB,wgT n⟩]=wpP1 n:=lt4 (by kernel_rfl) (by kernel_rfl) (by kernel_rfl) (by kernel_rfl)
theorem wp_u1 (n:Nat) (h:n<4):∀u∈[(⟨[102],wpT1⟩:Un),⟨gloB,wgT n⟩],okUn 50 8 (wgx n) u:=by
 intro u hu
 simp only[List.mem_cons,List.not_mem_nil,or_false]at hu
 rcases hu with rfl|rfl
 ·exact okUn_f (by decide) (by have e:wpT1.length=75:=rfl;unfold smallB;omega) (by kernel_rfl)
 ·exact wg_ok n h
theorem wp_b1:∀n,n<4→okPb 50 8 (wpP1 n)=true:=lt4 (by kernel_rfl) (by kernel_rfl) (by kernel_rfl) (by kernel_rfl)
theorem wp_c1:∀n,n<4→cntF (wpP1 n) [102] [4,5]=2*((n:Int)+1):=lt4 (by kernel_rfl) (by kernel_rfl) (by kernel_rfl) (by kernel_rfl)
theorem wp_w1 (n:Nat) (h:n<4):okW 50 21 (wpP1 n) [4] 20:=⟨okPb_ok (wp_b1 n h),Nat.le_trans (wgC_len n) (by decide),Nat.zero_le _,(by intro x hx;cases hx),(by decide),(by decide),by decide⟩
theorem wp_e2:∀n,n<4→prF 8 (wgx n) [⟨[102],wpT2⟩,⟨gloB,wgT n⟩]=wpP2 n:=lt4 (by kernel_rfl) (by kernel_rfl) (by kernel_rfl) (by kernel_rfl)
theorem wp_u2 (n:Nat) (h:n<4):∀u∈[(⟨[102],wpT2⟩:Un),⟨gloB,wgT n⟩],okUn 50 8 (wgx n) u:=by
 intro u hu
 simp only[List.mem_cons,List.not_mem_nil,or_false]at hu
 rcases hu with rfl|rfl
 ·exact okUn_f (by decide) (by have e:wpT2.length=42:=rfl;unfold smallB;omega) (by kernel_rfl)
 ·exact wg_ok n h
theorem wp_b2:∀n,n<4→okPb 50 8 (wpP2 n)=true:=lt4 (by kernel_rfl) (by kernel_rfl) (by kernel_rfl) (by kernel_rfl)
theorem wp_c2:∀n,n<4→cntF (wpP2 n) [102] [4,5]=2*((n:Int)+1):=lt4 (by kernel_rfl) (by kernel_rfl) (by kernel_rfl) (by kernel_rfl)
theorem wp_w2 (n:Nat) (h:n<4):okW 50 21 (wpP2 n) [4] 20:=⟨okPb_ok (wp_b2 n h),Nat.le_trans (wgC_len n) (by decide),Nat.zero_le _,(by intro x hx;cases hx),(by decide),(by decide),by decide⟩
theorem wp_r00:firA 21 (wpP0 0) [102] 20 [4]=([⟨false,4,[]⟩,⟨true,0,[]⟩],⟨19,1,[],[],1,0,[102],0,2⟩,true):=by kernel_rfl
theorem wp_r10:firA 21 (wpP1 0) [102] 20 [4]=([],ms00,false):=by kernel_rfl
theorem wp_r20:firA 21 (wpP2 0) [102] 20 [4]=([],ms00,false):=by kernel_rfl
theorem wp_r01:firA 21 (wpP0 1) [102] 20 [4]=([⟨false,4,[]⟩,⟨true,0,[]⟩],⟨19,1,[⟨[99],0⟩],[],1,0,[102],0,2⟩,true):=by kernel_rfl
theorem wp_r11:firA 21 (wpP1 1) [102] 20 [4]=([⟨false,4,[]⟩,⟨true,0,[99]⟩],⟨16,1,[⟨[99],1⟩],[],1,0,[102],3,3⟩,true):=by kernel_rfl
theorem wp_r21:firA 21 (wpP2 1) [102] 20 [4]=([],ms00,false):=by kernel_rfl
theorem wp_r02:firA 21 (wpP0 2) [102] 20 [4]=([⟨false,4,[]⟩,⟨true,0,[]⟩],⟨19,1,[⟨[99],0⟩,⟨[100],0⟩],[],1,0,[102],0,2⟩,true):=by kernel_rfl
theorem wp_r12:firA 21 (wpP1 2) [102] 20 [4]=([⟨false,4,[]⟩,⟨true,0,[99]⟩],⟨16,1,[⟨[99],1⟩,⟨[100],0⟩],[],1,0,[102],3,3⟩,true):=by kernel_rfl
theorem wp_r22:firA 21 (wpP2 2) [102] 20 [4]=([],ms00,false):=by kernel_rfl
theorem wp_r03:firA 21 (wpP0 3) [102] 20 [4]=([⟨false,4,[]⟩,⟨true,0,[]⟩],⟨19,1,[⟨[99],0⟩,⟨[100],0⟩,⟨[101],0⟩],[],1,0,[102],0,2⟩,true):=by kernel_rfl
theorem wp_r13:firA 21 (wpP1 3) [102] 20 [4]=([⟨false,4,[]⟩,⟨true,0,[99]⟩],⟨16,1,[⟨[99],1⟩,⟨[100],0⟩,⟨[101],0⟩],[],1,0,[102],3,3⟩,true):=by kernel_rfl
theorem wp_r23:firA 21 (wpP2 3) [102] 20 [4]=([],ms00,false):=by kernel_rfl
structure wpM (m:Ms) (k:Int):Prop where
 k:m.k=k
 c:m.cs.length≤1000
 a:m.ar=[]
theorem wp_r0:∀n,n<4→∃m,firA 21 (wpP0 n) [102] 20 [4]=([⟨false,4,[]⟩,⟨true,0,[]⟩],m,true)∧wpM m 2:=
 lt4 ⟨_,wp_r00,rfl,by decide,rfl⟩ ⟨_,wp_r01,rfl,by decide,rfl⟩ ⟨_,wp_r02,rfl,by decide,rfl⟩ ⟨_,wp_r03,rfl,by decide,rfl⟩
theorem wp_r1:∀n,n<4→(n=0∧firA 21 (wpP1 n) [102] 20 [4]=([],ms00,false))∨0<n∧∃m,firA 21 (wpP1 n) [102] 20 [4]=([⟨false,4,[]⟩,⟨true,0,[99]⟩],m,true)∧wpM m 3:=
 lt4 (.inl ⟨rfl,wp_r10⟩) (.inr ⟨by decide,_,wp_r11,rfl,by decide,rfl⟩) (.inr ⟨by decide,_,wp_r12,rfl,by decide,rfl⟩) (.inr ⟨by decide,_,wp_r13,rfl,by decide,rfl⟩)
theorem wp_r2:∀n,n<4→firA 21 (wpP2 n) [102] 20 [4]=([],ms00,false):=lt4 wp_r20 wp_r21 wp_r22 wp_r23
end Go.Proofs.Ytjnnmindcbgjhab
namespace Go.Proofs.Ytjnnmindcbgjhab
open Go Go.Sy Go.RowKit
def wgX (c:Int):List UInt8→List Gi:=wgx (c.tmod 4).toNat
theorem wgS:∀i,i<3→∃s,([99,100,101]:List UInt8).extract i (i+1)=s∧s.length=1∧(wgT i).length≤24∧wgT (i+1)=wgT i++[99,101,108,108,32]++s++[59,32]:=by
 intro i hi
 rcases i with _|_|_|i
 ·exact⟨_,rfl,rfl,by decide,rfl⟩
 ·exact⟨_,rfl,rfl,by decide,rfl⟩
 ·exact⟨_,rfl,rfl,by decide,rfl⟩
 ·omega
theorem mod3 {w:Int} (h:0≤w):w.tmod 3=0∨w.tmod 3=1∨w.tmod 3=2:=by
 have h0:0≤w.tmod 3:=Int.tmod_nonneg 3 h
 have h1:w.tmod 3<3:=Int.tmod_lt_of_pos w (by decide)
 omega
abbrev yc_WitnessPointers (c:Int) (v:Int):Prop:=u8R c∧u8R v
abbrev yr_WitnessPointers (c:Int) (v:Int):Value:=Value.bool true
attribute [local go_sem] Va.r cI6_d cI6_d1 cI6_d2 cI6_e ouC
set_option maxRecDepth 20000 in set_option maxHeartbeats 16000000 in
theorem y_WitnessPointers:CallsR Try.prog 3 (ahS ((cInt .u8).H) (ahS ((cInt .u8).H) ah0)) (fun p:(Int×(Int×Unit))=>yc_WitnessPointers p.1 p.2.1) (fun p:(Int×(Int×Unit))=>ofV (yr_WitnessPointers p.1 p.2.1)):=by
 rintro ⟨c,v,_u⟩ w fz xs hc hfz hl hx
 refine calls_toRL Try.func3 rfl w fz [yp_known28,(yg_Prog 50 8 (wgX c) (y_Prog 50 8 (wgX c))),(yg_First 50 21 (y_First 50 21)),yp_Count] [(10,[.flag 35]),(12,[.flag 49]),(13,[.flag 55])] (ahS ((cInt .u8).H) (ahS ((cInt .u8).H) ah0)) (fun p:(Int×(Int×Unit))=>ofV (yr_WitnessPointers p.1 p.2.1)) _ xs hfz hl hx (Nat.le_of_ble_eq_true rfl) ?_
 clear hx hl hfz xs
 simp only[Try.f3]
 obtain⟨⟨c0,c1⟩,⟨v0,v1⟩⟩:=hc
 dsimp only at c0 c1 v0 v1
 have hr0:0≤c.tmod 4:=Int.tmod_nonneg 4 c0
 have hr1:c.tmod 4<4:=Int.tmod_lt_of_pos c (by decide)
 obtain⟨N,hN⟩:∃N:Nat,c.tmod 4=(N:Int):=⟨(c.tmod 4).toNat,by omega⟩
 rw[hN]at hr0 hr1
 have hN4:N<4:=by omega
 have wN:IntKind.i64.wrap (N:Int)=(N:Int):=wrap_i64 (by omega) (by omega)
 have wV:IntKind.i64.wrap v=v:=wrap_i64 (by omega) (by omega)
 have hX:wgX c=wgx N:=by unfold wgX;rw[hN];rfl
 simp only[↓eB,seval,go_sem,yp_known28,yr_known28,yg_Prog,yg_First,yp_Count,yr_Count,cPg_e,cPg_d,pgR,mUn_e,mUn_z,mUn_dr,Un.c,pqR,zUc,hN,wN]
 refine loop_ok (Y:=Nat) (fun i=>i≤N)
  (fun i=>⟨[(1,true,.one (.v (.int .u8 v))),(5,true,.one (.v (.int .i64 (N:Int)))),(6,true,.one (.v (.string (bs (wgT i))))),(7,true,.one (.v (.int .i64 (i:Int))))],[]⟩)
  (fun i=>N-i) 0 (Nat.zero_le _) ?_ ?_
 ·refine to_with [] ?_;simp only[↓eB,seval,go_sem,wgT]
 ·intro i hi
  refine vc_ok [yp_known28,yg_Prog 50 8 (wgX c) (y_Prog 50 8 (wgX c)),yg_First 50 21 (y_First 50 21),yp_Count] [(10,[.flag 35]),(12,[.flag 49]),(13,[.flag 55])] _ _ _ ?_
  by_cases hlt:i<N
  ·have k1:decide ((i:Int)<(N:Int))=true:=decide_eq_true (by omega)
   have w1:IntKind.i64.wrap ((i:Int)+1)=((i+1:Nat):Int):=by rw[wrap_i64 (by omega) (by omega)];rfl
   obtain⟨s,hs,hl,hg,ht⟩:=wgS i (by omega)
   simp only[↓eB,seval,go_sem,yp_known28,yr_known28,yg_Prog,yg_First,yp_Count,yr_Count,cPg_e,cPg_d,pgR,mUn_e,mUn_z,mUn_dr,Un.c,pqR,zUc,k1,w1,hs]
   refine⟨(by omega),⟨(by omega),(by omega)⟩,(by simp only[List.length_append,List.length_cons,List.length_nil];omega),(by simp only[List.length_append,List.length_cons,List.length_nil];omega),i+1,hlt,(by omega),?_⟩
   refine to_with [] ?_;simp only[↓eB,seval,go_sem,ht]
  ·have k1:decide ((i:Int)<(N:Int))=false:=decide_eq_false (by omega)
   have hiN:i=N:=by omega
   subst hiN
   have w2:IntKind.i64.wrap ((i:Int)+1)=(i:Int)+1:=wrap_i64 (by omega) (by omega)
   have w3:IntKind.i64.wrap (2*((i:Int)+1))=2*((i:Int)+1):=wrap_i64 (by omega) (by omega)
   have hg:gloB=[103,108,111,98,97,108,115]:=rfl
   rcases mod3 v0 with hk|hk|hk
   ·have he:=wp_e0 i hN4
    have hu:=wp_u0 i hN4
    have hc:=wp_c0 i hN4
    have hw:=wp_w0 i hN4
    rw[← hX]at he hu
    rw[hg]at he hu
    simp only[wpT0]at he hu
    obtain⟨m,hm,mk,mc,ma⟩:=wp_r0 i hN4
    obtain⟨P,hPe⟩:∃P,wpP0 i=P:=⟨_,rfl⟩
    rw[hPe]at he hc hm
    rw[hPe]at hw
    simp only[↓eB,seval,go_sem,yp_known28,yr_known28,yg_Prog,yg_First,yp_Count,yr_Count,cPg_e,cPg_d,pgR,mUn_e,mUn_z,mUn_dr,Un.c,pqR,zUc,k1,wV,hk,w2,w3,he,hm,hc,bne_self_eq_false,pg_eta,mk]
    refine⟨⟨Nat.le_of_ble_eq_true rfl,hu⟩,hw,⟨hw.c,(by decide),hw.p.l,hw.ps⟩,?_⟩
    refine ret_with [] ?_;simp only[↓eB,seval,go_sem,bne,yr_WitnessPointers]
   ·rcases wp_r1 i hN4 with⟨hi0,hm⟩|⟨hi0,m,hm,mk,mc,ma⟩
    ·have kz:decide ((0:Int)<(i:Int))=false:=decide_eq_false (by omega)
     have hz:List.map oD (List.drop 2 (([]:List (List D)).getD 1 zVaD))=[.v (.string (bs []))]:=rfl
     have he:=wp_e1 i hN4
     have hu:=wp_u1 i hN4
     have hc:=wp_c1 i hN4
     have hw:=wp_w1 i hN4
     rw[← hX]at he hu
     rw[hg]at he hu
     simp only[wpT1]at he hu
     skip
     obtain⟨P,hPe⟩:∃P,wpP1 i=P:=⟨_,rfl⟩
     rw[hPe]at he hc hm
     rw[hPe]at hw
     simp only[↓eB,seval,go_sem,yp_known28,yr_known28,yg_Prog,yg_First,yp_Count,yr_Count,cPg_e,cPg_d,pgR,mUn_e,mUn_z,mUn_dr,Un.c,pqR,zUc,k1,wV,hk,w2,w3,he,hm,hc,bne_self_eq_false,pg_eta,kz,hz,ms00,beq_self_eq_true]
     refine⟨⟨Nat.le_of_ble_eq_true rfl,hu⟩,hw,⟨hw.c,(by decide),hw.p.l,hw.ps⟩,?_⟩
     refine ret_with [] ?_;simp only[↓eB,seval,go_sem,bne,yr_WitnessPointers]
    ·have kz:decide ((0:Int)<(i:Int))=true:=decide_eq_true (by omega)
     have he:=wp_e1 i hN4
     have hu:=wp_u1 i hN4
     have hc:=wp_c1 i hN4
     have hw:=wp_w1 i hN4
     rw[← hX]at he hu
     rw[hg]at he hu
     simp only[wpT1]at he hu
     skip
     obtain⟨P,hPe⟩:∃P,wpP1 i=P:=⟨_,rfl⟩
     rw[hPe]at he hc hm
     rw[hPe]at hw
     simp only[↓eB,seval,go_sem,yp_known28,yr_known28,yg_Prog,yg_First,yp_Count,yr_Count,cPg_e,cPg_d,pgR,mUn_e,mUn_z,mUn_dr,Un.c,pqR,zUc,k1,wV,hk,w2,w3,he,hm,hc,bne_self_eq_false,pg_eta,kz,mk,beq_self_eq_true]
     refine⟨⟨Nat.le_of_ble_eq_true rfl,hu⟩,hw,⟨hw.c,(by decide),hw.p.l,hw.ps⟩,?_⟩
     refine ret_with [] ?_;simp only[↓eB,seval,go_sem,bne,yr_WitnessPointers]
   ·have he:=wp_e2 i hN4
    have hu:=wp_u2 i hN4
    have hc:=wp_c2 i hN4
    have hw:=wp_w2 i hN4
    rw[← hX]at he hu
    rw[hg]at he hu
    simp only[wpT2]at he hu
    have hm:=wp_r2 i hN4
    obtain⟨P,hPe⟩:∃P,wpP2 i=P:=⟨_,rfl⟩
    rw[hPe]at he hc hm
    rw[hPe]at hw
    simp only[↓eB,seval,go_sem,yp_known28,yr_known28,yg_Prog,yg_First,yp_Count,yr_Count,cPg_e,cPg_d,pgR,mUn_e,mUn_z,mUn_dr,Un.c,pqR,zUc,k1,wV,hk,w2,w3,he,hm,hc,bne_self_eq_false,pg_eta,ms00]
    refine⟨⟨Nat.le_of_ble_eq_true rfl,hu⟩,hw,⟨hw.c,(by decide),hw.p.l,hw.ps⟩,?_⟩
    refine ret_with [] ?_;simp only[↓eB,seval,go_sem,bne,yr_WitnessPointers]
end Go.Proofs.Ytjnnmindcbgjhab
namespace Go.Sy
open Go Go.RowKit Go.ChangeShapes Go.WideShapes Go.ChangeAt
section
variable {H:Type} {enc:TypeId×Value→H} {P:Program} {W:World} {t:TypeId} {fuel:Nat} {A B:Type} {e:A→List D} {Q:A→Prop}
end
section
variable {H:Type} {enc:TypeId×Value→H} {P:Program} {W:World} {t:TypeId} {A:Type} {e:A→List D} {Q:A→Prop}
end
end Go.Sy
namespace Go.Proofs.Ytjnnmindcbgjhab
open Go Go.Sy Go.RowKit Go.ChangeShapes Go.WideShapes Go.ChangeAt
theorem ownK:ownKnob Try.prog.godebug=none:=by kernel_rfl
theorem laidK:laidOutB Try.prog=true:=by kernel_rfl
theorem trodAll_below {H:Type} {enc:TypeId×Value→H} {P:Program} (hl:laidOutB P=true) {W W':World} (hb:Below W.heap.size W W'):∀(ts:List TypeId) (vs:List Value) (ds:List (DataW H)) (ps:List MemPlace),
  (∀t∈ts,P.readableRec t=true∧t<P.types.size)→DataW.TrodAll enc P W 0 (fun _=>true) true ts vs ds ps→(∀x∈ps,x.block<W.heap.size)→DataW.TrodAll enc P W' 0 (fun b=>decide (b<W.heap.size)) true ts vs ds ps
 |[],vs,ds,ps,_,h,_=>by
  obtain⟨rfl,rfl,rfl⟩:=trodAll_nil h
  exact trodAll_mk0
 |t::ts,vs,ds,ps,hts,h,hlt=>by
  obtain⟨v,vs',d,ds',p,q,rfl,rfl,rfl,h1,h2⟩:=trodAll_cons h
  have ht:=hts t (List.mem_cons_self ..)
  exact trodAll_cons_mk (Below.trod hl ht.1 ht.2 h1 hb fun x hx=>hlt x (List.mem_append_left _ hx))
   (trodAll_below hl hb ts vs' ds' q (fun t' ht'=>hts t' (List.mem_cons_of_mem _ ht')) h2 fun x hx=>hlt x (List.mem_append_right _ hx))
theorem law_post {H:Type} {enc:TypeId×Value→H} {f:Func} {s:ChangeSpec} {W W':World} {args:Array Value} {ds gs:List (DataW H)} {before:List MemPlace} (hW:DataW.Whole enc Try.prog f.params.toList s.vars false W args.toList ds gs before)
  (hv:s.vars=[]) (hr:f.resultTypes = #[4]) (hts:∀t∈f.params.toList,Try.prog.readableRec t=true∧t<Try.prog.types.size)
  (hf:gs=[]→(s.fn H (ds++gs)).results=[.lit (.bool true)]∧(s.fn H (ds++gs)).args=ds∧(s.fn H (ds++gs)).vars=[]) (hb:Below W.heap.size W W') :
  s.post enc Try.prog f false true false false W args (.bool true) W':=by
 have hlt:=hW.lt
 have hW0:=hW
 obtain⟨p,q,hA,hV,rfl,_,_⟩:=hW
 rw[hv]at hV
 obtain⟨rfl,rfl⟩:=trodVars_none hV
 obtain⟨f1,f2,f3⟩:=hf rfl
 refine⟨ds,[],p++[],[],p,[],hW0,?_,?_,?_,hb.frame _,fun h=>by cases h⟩
 ·rw[f1,hr]
  exact trodAll_cons_mk (shut_bool Try.underlying4 true) trodAll_mk0
 ·rw[f2]
  exact trodAll_below laidK hb _ _ _ _ hts hA fun x hx=>by simpa using hlt x (List.mem_append_left _ hx)
 ·rw[f3,hv];rfl
theorem to_plainR {P:Program} {f:FuncId} {A:Type} {ac:ArgH A} {Cd:A→Prop} {F:A→SV} (h:CallsR P f ac Cd F) (a:A) (w:World) (hc:Cd a) (vals:List Value) (val:Value) (hl:vals.length=(ac.e a).length)
  (h1:∀(j:Nat) (v:SV) (x:Value),(ac.e a)[j]?=some v→vals[j]?=some x→CD (hp w) (fun b=>b<w.heap.size) v x)
  (h2:clos (F a)=some val):Calls P f vals.toArray w (fun e w'=>e= .returned val∧Below w.heap.size w w'):=by
 refine(h a w (fun b=>b<w.heap.size) vals hc (fun _ h=>h) hl h1).mono ?_
 rintro e w' ⟨v,x,fz',rfl,rfl,g1,g2,g3,g4,g5,g6⟩
 rw[sd_clos g5 h2]
 exact⟨rfl,g6⟩
section
variable {H:Type} {enc:TypeId×Value→H} {W:World} {base:Nat} {v:Value} {d:DataW H} {p:List MemPlace}
theorem wf_u8' {n:Int} (h:(Lit.int .u8 n).wf=true):u8R n:=by
 have:=bounds_u8 h;unfold u8R;omega
end
end Go.Proofs.Ytjnnmindcbgjhab
