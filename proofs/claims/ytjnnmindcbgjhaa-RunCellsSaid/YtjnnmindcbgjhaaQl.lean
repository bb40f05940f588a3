/- RunCells, walked. Conditions: those of the parameters' types. -/
import Derived.Test.YtjnnmindcbgjhaaKr
set_option linter.unusedVariables false
set_option linter.unusedSimpArgs false
namespace Go.Proofs.Ytjnnmindcbgjhaa
open Go Go.Sy Go.RowKit
theorem cSta_c2 (s s':List UInt8) (n n':Int):cSta.d (.agg [.d (.sl [.v (.string (bs [])),.v (.int .i64 0)] [[.v (.string (bs s)),.v (.int .i64 n)],[.v (.string (bs s')),.v (.int .i64 n')]]),.v (.slice none 0 0)])=some ⟨[⟨s,n⟩,⟨s',n'⟩],[]⟩:=codOf_le (e:=fun p:Sta=>.agg (stR p)) (a:=⟨[⟨s,n⟩,⟨s',n'⟩],[]⟩) ⟨.inl rfl,.inr ⟨rfl,rfl⟩,trivial⟩
theorem it_dg {n:Nat} (h:n<10):itT (n:Int)=[UInt8.ofNat (48+n)]:=by unfold itT;rw[itoa_nat,dec_lt h]
theorem it_0:itT 0=[48]:=it_dg (n:=0) (by decide)
theorem it_1:itT 1=[49]:=it_dg (n:=1) (by decide)
theorem it_2:itT 2=[50]:=it_dg (n:=2) (by decide)
theorem it_3:itT 3=[51]:=it_dg (n:=3) (by decide)
theorem it_4:itT 4=[52]:=it_dg (n:=4) (by decide)
theorem it_5:itT 5=[53]:=it_dg (n:=5) (by decide)
def rP (to:List UInt8) (k:Int):Pg:=⟨⟨[[99],[100]],[⟨[116],4⟩]⟩,[⟨[102],[⟨[120],false⟩,⟨[121],false⟩],[⟨[113],true⟩,⟨[122],false⟩],[(.mk 1 [113] to .nil .nil .nil [] [] [] 0),(.mk 0 [122] [] (.mk 0 1 [] .nil .nil) .nil .nil [] [] [] 1),(.mk 8 [] [103] .nil .nil .nil [⟨true,[113],.nil⟩,⟨false,[],(.mk 1 0 [120] .nil .nil)⟩] [] [] 2),(.mk 7 [] [116] (.mk 0 k [] .nil .nil) (.mk 1 0 [121] .nil .nil) .nil [] [] [] 3),(.mk 4 [120] [113] .nil .nil .nil [] [] [] 4),(.mk 9 [] [] (.mk 2 0 [] (.mk 1 0 [122] .nil .nil) (.mk 1 0 [120] .nil .nil)) .nil .nil [] [] [] 5)]⟩,⟨[103],[⟨[112],true⟩,⟨[110],false⟩],[⟨[122],false⟩],[(.mk 0 [122] [] (.mk 0 9 [] .nil .nil) .nil .nil [] [] [] 0),(.mk 5 [112] [] (.mk 1 0 [110] .nil .nil) .nil .nil [] [] [] 1),(.mk 3 [112] [] .nil .nil .nil [] [] [] 2)]⟩]⟩
def rG:List UInt8:=[102,110,32,103,40,42,112,44,32,110,41,32,123,32,118,97,114,32,122,59,32,122,32,61,32,57,59,32,42,112,32,61,32,110,59,32,112,32,61,32,110,117,108,108,59,32,125]
def rGl:List UInt8:=[99,101,108,108,32,99,59,32,99,101,108,108,32,100,59,32,97,114,114,97,121,32,116,91,52,93,59]
def rgl:List UInt8→List Gi:=fun _=>[.c [99],.c [100],.a [116] [52]]
theorem rG_u:okUn 50 8 rgl ⟨[103],rG⟩:=okUn_f (by decide) (by have e:rG.length=47:=rfl;unfold smallB;omega) (by kernel_rfl)
theorem rGl_u:okUn 50 8 rgl ⟨gloB,rGl⟩:=by
 refine okUn_g ⟨by have e:rGl.length=27:=rfl;unfold smallB;omega,?_,by decide,_,(by kernel_rfl:rxT rGl=([⟨0,[99,101,108,108],0⟩,⟨0,[99],5⟩,⟨2,[59],6⟩,⟨0,[99,101,108,108],8⟩,⟨0,[100],13⟩,⟨2,[59],14⟩,⟨0,[97,114,114,97,121],16⟩,⟨0,[116],22⟩,⟨2,[91],23⟩,⟨1,[52],24⟩,⟨2,[93],25⟩,⟨2,[59],26⟩],0,0)),rfl⟩ (once_nd (by decide)) (by decide) (by decide)
 intro g hg
 simp only[rgl,List.mem_cons,List.not_mem_nil,or_false]at hg
 rcases hg with rfl|rfl|rfl
 all_goals first|exact gl_nm _ (by decide)|exact⟨gl_nm _ (by decide),by unfold smallB;simp only[List.length_cons,List.length_nil];omega,by decide,by decide⟩
theorem rP_r (to:List UInt8) (k:Int) (h:okPb 50 8 (rP to k)=true) (va:List Va) (s:Sta) (f:Int) (hv:va.length≤5000) (hs:s.cs.length≤1000000) (ha:s.ar.length≤1000000) (hf:f<60):okR 50 60 (rP to k) va s f:=⟨okPb_ok h,by show 2≤_;decide,by show 1≤_;decide,(by intro x hx;rw[List.mem_singleton.1 hx];decide),hs,ha,hv,hf,by decide⟩
def rTc0:List UInt8:=[102,110,32,102,40,120,44,32,121,41,32,123,32,112,116,114,32,113,59,32,118,97,114,32,122,59,32,113,32,61,32,38,99,59,32,122,32,61,32,49,59,32,103,40,113,44,32,120,41,59,32,116,91,48,93,32,61,32,121,59,32,120,32,61,32,42,113,59,32,114,101,116,117,114,110,32,122,32,43,32,120,59,32,125]
theorem rTc0_e:prF 8 rgl [⟨[102],rTc0⟩,⟨[103],rG⟩,⟨gloB,rGl⟩]=rP [99] 0:=by kernel_rfl
theorem rTc0_u:okUn 50 8 rgl ⟨[102],rTc0⟩:=okUn_f (by decide) (by have e:rTc0.length=84:=rfl;unfold smallB;omega) (by kernel_rfl)
theorem rTc0_b:okPb 50 8 (rP [99] 0)=true:=by kernel_rfl
theorem rTc0_r (a b:Int):clF 60 (rP [99] 0) [102] [⟨false,a,[]⟩,⟨false,b,[]⟩] ⟨[⟨[99],5⟩,⟨[100],6⟩],[]⟩ 50=⟨41,0,[⟨[99],a⟩,⟨[100],6⟩],[⟨[116],[b,0,0,0]⟩],0,IntKind.i64.wrap (1+a),[],0,0⟩:=by kernel_rfl
def rTc1:List UInt8:=[102,110,32,102,40,120,44,32,121,41,32,123,32,112,116,114,32,113,59,32,118,97,114,32,122,59,32,113,32,61,32,38,99,59,32,122,32,61,32,49,59,32,103,40,113,44,32,120,41,59,32,116,91,49,93,32,61,32,121,59,32,120,32,61,32,42,113,59,32,114,101,116,117,114,110,32,122,32,43,32,120,59,32,125]
theorem rTc1_e:prF 8 rgl [⟨[102],rTc1⟩,⟨[103],rG⟩,⟨gloB,rGl⟩]=rP [99] 1:=by kernel_rfl
theorem rTc1_u:okUn 50 8 rgl ⟨[102],rTc1⟩:=okUn_f (by decide) (by have e:rTc1.length=84:=rfl;unfold smallB;omega) (by kernel_rfl)
theorem rTc1_b:okPb 50 8 (rP [99] 1)=true:=by kernel_rfl
theorem rTc1_r (a b:Int):clF 60 (rP [99] 1) [102] [⟨false,a,[]⟩,⟨false,b,[]⟩] ⟨[⟨[99],5⟩,⟨[100],6⟩],[]⟩ 50=⟨41,0,[⟨[99],a⟩,⟨[100],6⟩],[⟨[116],[0,b,0,0]⟩],0,IntKind.i64.wrap (1+a),[],0,0⟩:=by kernel_rfl
def rTc2:List UInt8:=[102,110,32,102,40,120,44,32,121,41,32,123,32,112,116,114,32,113,59,32,118,97,114,32,122,59,32,113,32,61,32,38,99,59,32,122,32,61,32,49,59,32,103,40,113,44,32,120,41,59,32,116,91,50,93,32,61,32,121,59,32,120,32,61,32,42,113,59,32,114,101,116,117,114,110,32,122,32,43,32,120,59,32,125]
theorem rTc2_e:prF 8 rgl [⟨[102],rTc2⟩,⟨[103],rG⟩,⟨gloB,rGl⟩]=rP [99] 2:=by kernel_rfl
theorem rTc2_u:okUn 50 8 rgl ⟨[102],rTc2⟩:=okUn_f (by decide) (by have e:rTc2.length=84:=rfl;unfold smallB;omega) (by kernel_rfl)
theorem rTc2_b:okPb 50 8 (rP [99] 2)=true:=by kernel_rfl
theorem rTc2_r (a b:Int):clF 60 (rP [99] 2) [102] [⟨false,a,[]⟩,⟨false,b,[]⟩] ⟨[⟨[99],5⟩,⟨[100],6⟩],[]⟩ 50=⟨41,0,[⟨[99],a⟩,⟨[100],6⟩],[⟨[116],[0,0,b,0]⟩],0,IntKind.i64.wrap (1+a),[],0,0⟩:=by kernel_rfl
def rTc3:List UInt8:=[102,110,32,102,40,120,44,32,121,41,32,123,32,112,116,114,32,113,59,32,118,97,114,32,122,59,32,113,32,61,32,38,99,59,32,122,32,61,32,49,59,32,103,40,113,44,32,120,41,59,32,116,91,51,93,32,61,32,121,59,32,120,32,61,32,42,113,59,32,114,101,116,117,114,110,32,122,32,43,32,120,59,32,125]
theorem rTc3_e:prF 8 rgl [⟨[102],rTc3⟩,⟨[103],rG⟩,⟨gloB,rGl⟩]=rP [99] 3:=by kernel_rfl
theorem rTc3_u:okUn 50 8 rgl ⟨[102],rTc3⟩:=okUn_f (by decide) (by have e:rTc3.length=84:=rfl;unfold smallB;omega) (by kernel_rfl)
theorem rTc3_b:okPb 50 8 (rP [99] 3)=true:=by kernel_rfl
theorem rTc3_r (a b:Int):clF 60 (rP [99] 3) [102] [⟨false,a,[]⟩,⟨false,b,[]⟩] ⟨[⟨[99],5⟩,⟨[100],6⟩],[]⟩ 50=⟨41,0,[⟨[99],a⟩,⟨[100],6⟩],[⟨[116],[0,0,0,b]⟩],0,IntKind.i64.wrap (1+a),[],0,0⟩:=by kernel_rfl
def rTc4:List UInt8:=[102,110,32,102,40,120,44,32,121,41,32,123,32,112,116,114,32,113,59,32,118,97,114,32,122,59,32,113,32,61,32,38,99,59,32,122,32,61,32,49,59,32,103,40,113,44,32,120,41,59,32,116,91,52,93,32,61,32,121,59,32,120,32,61,32,42,113,59,32,114,101,116,117,114,110,32,122,32,43,32,120,59,32,125]
theorem rTc4_e:prF 8 rgl [⟨[102],rTc4⟩,⟨[103],rG⟩,⟨gloB,rGl⟩]=rP [99] 4:=by kernel_rfl
theorem rTc4_u:okUn 50 8 rgl ⟨[102],rTc4⟩:=okUn_f (by decide) (by have e:rTc4.length=84:=rfl;unfold smallB;omega) (by kernel_rfl)
theorem rTc4_b:okPb 50 8 (rP [99] 4)=true:=by kernel_rfl
theorem rTc4_r (a b:Int):clF 60 (rP [99] 4) [102] [⟨false,a,[]⟩,⟨false,b,[]⟩] ⟨[⟨[99],5⟩,⟨[100],6⟩],[]⟩ 50=⟨43,1,[⟨[99],a⟩,⟨[100],6⟩],[⟨[116],[0,0,0,0]⟩],1,0,[102],3,1⟩:=by kernel_rfl
def rTc5:List UInt8:=[102,110,32,102,40,120,44,32,121,41,32,123,32,112,116,114,32,113,59,32,118,97,114,32,122,59,32,113,32,61,32,38,99,59,32,122,32,61,32,49,59,32,103,40,113,44,32,120,41,59,32,116,91,53,93,32,61,32,121,59,32,120,32,61,32,42,113,59,32,114,101,116,117,114,110,32,122,32,43,32,120,59,32,125]
theorem rTc5_e:prF 8 rgl [⟨[102],rTc5⟩,⟨[103],rG⟩,⟨gloB,rGl⟩]=rP [99] 5:=by kernel_rfl
theorem rTc5_u:okUn 50 8 rgl ⟨[102],rTc5⟩:=okUn_f (by decide) (by have e:rTc5.length=84:=rfl;unfold smallB;omega) (by kernel_rfl)
theorem rTc5_b:okPb 50 8 (rP [99] 5)=true:=by kernel_rfl
theorem rTc5_r (a b:Int):clF 60 (rP [99] 5) [102] [⟨false,a,[]⟩,⟨false,b,[]⟩] ⟨[⟨[99],5⟩,⟨[100],6⟩],[]⟩ 50=⟨43,1,[⟨[99],a⟩,⟨[100],6⟩],[⟨[116],[0,0,0,0]⟩],1,0,[102],3,1⟩:=by kernel_rfl
def rTd0:List UInt8:=[102,110,32,102,40,120,44,32,121,41,32,123,32,112,116,114,32,113,59,32,118,97,114,32,122,59,32,113,32,61,32,38,100,59,32,122,32,61,32,49,59,32,103,40,113,44,32,120,41,59,32,116,91,48,93,32,61,32,121,59,32,120,32,61,32,42,113,59,32,114,101,116,117,114,110,32,122,32,43,32,120,59,32,125]
theorem rTd0_e:prF 8 rgl [⟨[102],rTd0⟩,⟨[103],rG⟩,⟨gloB,rGl⟩]=rP [100] 0:=by kernel_rfl
theorem rTd0_u:okUn 50 8 rgl ⟨[102],rTd0⟩:=okUn_f (by decide) (by have e:rTd0.length=84:=rfl;unfold smallB;omega) (by kernel_rfl)
theorem rTd0_b:okPb 50 8 (rP [100] 0)=true:=by kernel_rfl
theorem rTd0_r (a b:Int):clF 60 (rP [100] 0) [102] [⟨false,a,[]⟩,⟨false,b,[]⟩] ⟨[⟨[99],5⟩,⟨[100],6⟩],[]⟩ 50=⟨41,0,[⟨[99],5⟩,⟨[100],a⟩],[⟨[116],[b,0,0,0]⟩],0,IntKind.i64.wrap (1+a),[],0,0⟩:=by kernel_rfl
def rTd1:List UInt8:=[102,110,32,102,40,120,44,32,121,41,32,123,32,112,116,114,32,113,59,32,118,97,114,32,122,59,32,113,32,61,32,38,100,59,32,122,32,61,32,49,59,32,103,40,113,44,32,120,41,59,32,116,91,49,93,32,61,32,121,59,32,120,32,61,32,42,113,59,32,114,101,116,117,114,110,32,122,32,43,32,120,59,32,125]
theorem rTd1_e:prF 8 rgl [⟨[102],rTd1⟩,⟨[103],rG⟩,⟨gloB,rGl⟩]=rP [100] 1:=by kernel_rfl
theorem rTd1_u:okUn 50 8 rgl ⟨[102],rTd1⟩:=okUn_f (by decide) (by have e:rTd1.length=84:=rfl;unfold smallB;omega) (by kernel_rfl)
theorem rTd1_b:okPb 50 8 (rP [100] 1)=true:=by kernel_rfl
theorem rTd1_r (a b:Int):clF 60 (rP [100] 1) [102] [⟨false,a,[]⟩,⟨false,b,[]⟩] ⟨[⟨[99],5⟩,⟨[100],6⟩],[]⟩ 50=⟨41,0,[⟨[99],5⟩,⟨[100],a⟩],[⟨[116],[0,b,0,0]⟩],0,IntKind.i64.wrap (1+a),[],0,0⟩:=by kernel_rfl
def rTd2:List UInt8:=[102,110,32,102,40,120,44,32,121,41,32,123,32,112,116,114,32,113,59,32,118,97,114,32,122,59,32,113,32,61,32,38,100,59,32,122,32,61,32,49,59,32,103,40,113,44,32,120,41,59,32,116,91,50,93,32,61,32,121,59,32,120,32,61,32,42,113,59,32,114,101,116,117,114,110,32,122,32,43,32,120,59,32,125]
theorem rTd2_e:prF 8 rgl [⟨[102],rTd2⟩,⟨[103],rG⟩,⟨gloB,rGl⟩]=rP [100] 2:=by kernel_rfl
theorem rTd2_u:okUn 50 8 rgl ⟨[102],rTd2⟩:=okUn_f (by decide) (by have e:rTd2.length=84:=rfl;unfold smallB;omega) (by kernel_rfl)
theorem rTd2_b:okPb 50 8 (rP [100] 2)=true:=by kernel_rfl
theorem rTd2_r (a b:Int):clF 60 (rP [100] 2) [102] [⟨false,a,[]⟩,⟨false,b,[]⟩] ⟨[⟨[99],5⟩,⟨[100],6⟩],[]⟩ 50=⟨41,0,[⟨[99],5⟩,⟨[100],a⟩],[⟨[116],[0,0,b,0]⟩],0,IntKind.i64.wrap (1+a),[],0,0⟩:=by kernel_rfl
def rTd3:List UInt8:=[102,110,32,102,40,120,44,32,121,41,32,123,32,112,116,114,32,113,59,32,118,97,114,32,122,59,32,113,32,61,32,38,100,59,32,122,32,61,32,49,59,32,103,40,113,44,32,120,41,59,32,116,91,51,93,32,61,32,121,59,32,120,32,61,32,42,113,59,32,114,101,116,117,114,110,32,122,32,43,32,120,59,32,125]
theorem rTd3_e:prF 8 rgl [⟨[102],rTd3⟩,⟨[103],rG⟩,⟨gloB,rGl⟩]=rP [100] 3:=by kernel_rfl
theorem rTd3_u:okUn 50 8 rgl ⟨[102],rTd3⟩:=okUn_f (by decide) (by have e:rTd3.length=84:=rfl;unfold smallB;omega) (by kernel_rfl)
theorem rTd3_b:okPb 50 8 (rP [100] 3)=true:=by kernel_rfl
theorem rTd3_r (a b:Int):clF 60 (rP [100] 3) [102] [⟨false,a,[]⟩,⟨false,b,[]⟩] ⟨[⟨[99],5⟩,⟨[100],6⟩],[]⟩ 50=⟨41,0,[⟨[99],5⟩,⟨[100],a⟩],[⟨[116],[0,0,0,b]⟩],0,IntKind.i64.wrap (1+a),[],0,0⟩:=by kernel_rfl
def rTd4:List UInt8:=[102,110,32,102,40,120,44,32,121,41,32,123,32,112,116,114,32,113,59,32,118,97,114,32,122,59,32,113,32,61,32,38,100,59,32,122,32,61,32,49,59,32,103,40,113,44,32,120,41,59,32,116,91,52,93,32,61,32,121,59,32,120,32,61,32,42,113,59,32,114,101,116,117,114,110,32,122,32,43,32,120,59,32,125]
theorem rTd4_e:prF 8 rgl [⟨[102],rTd4⟩,⟨[103],rG⟩,⟨gloB,rGl⟩]=rP [100] 4:=by kernel_rfl
theorem rTd4_u:okUn 50 8 rgl ⟨[102],rTd4⟩:=okUn_f (by decide) (by have e:rTd4.length=84:=rfl;unfold smallB;omega) (by kernel_rfl)
theorem rTd4_b:okPb 50 8 (rP [100] 4)=true:=by kernel_rfl
theorem rTd4_r (a b:Int):clF 60 (rP [100] 4) [102] [⟨false,a,[]⟩,⟨false,b,[]⟩] ⟨[⟨[99],5⟩,⟨[100],6⟩],[]⟩ 50=⟨43,1,[⟨[99],5⟩,⟨[100],a⟩],[⟨[116],[0,0,0,0]⟩],1,0,[102],3,1⟩:=by kernel_rfl
def rTd5:List UInt8:=[102,110,32,102,40,120,44,32,121,41,32,123,32,112,116,114,32,113,59,32,118,97,114,32,122,59,32,113,32,61,32,38,100,59,32,122,32,61,32,49,59,32,103,40,113,44,32,120,41,59,32,116,91,53,93,32,61,32,121,59,32,120,32,61,32,42,113,59,32,114,101,116,117,114,110,32,122,32,43,32,120,59,32,125]
theorem rTd5_e:prF 8 rgl [⟨[102],rTd5⟩,⟨[103],rG⟩,⟨gloB,rGl⟩]=rP [100] 5:=by kernel_rfl
theorem rTd5_u:okUn 50 8 rgl ⟨[102],rTd5⟩:=okUn_f (by decide) (by have e:rTd5.length=84:=rfl;unfold smallB;omega) (by kernel_rfl)
theorem rTd5_b:okPb 50 8 (rP [100] 5)=true:=by kernel_rfl
theorem rTd5_r (a b:Int):clF 60 (rP [100] 5) [102] [⟨false,a,[]⟩,⟨false,b,[]⟩] ⟨[⟨[99],5⟩,⟨[100],6⟩],[]⟩ 50=⟨43,1,[⟨[99],5⟩,⟨[100],a⟩],[⟨[116],[0,0,0,0]⟩],1,0,[102],3,1⟩:=by kernel_rfl
theorem mod6' {n:Int} (h:0≤n):n.tmod 6=0∨n.tmod 6=1∨n.tmod 6=2∨n.tmod 6=3∨n.tmod 6=4∨n.tmod 6=5:=by rw[Int.tmod_eq_emod_of_nonneg h];omega
theorem un3 {n m:Nat} {gl:List UInt8→List Gi} {u v w:Un} (h1:okUn n m gl u) (h2:okUn n m gl v) (h3:okUn n m gl w):([u,v,w]:List Un).length≤10∧∀x∈[u,v,w],okUn n m gl x:=by
 refine⟨Nat.le_of_ble_eq_true rfl,fun x hx=>?_⟩
 simp only[List.mem_cons,List.not_mem_nil,or_false]at hx
 rcases hx with rfl|rfl|rfl
 ·exact h1
 ·exact h2
 ·exact h3
abbrev yc_RunCells (a:Int) (b:Int) (i:Int) (other:Bool):Prop:=i64R a∧i64R b∧u8R i∧True
abbrev yr_RunCells (a:Int) (b:Int) (i:Int) (other:Bool):Value:=Value.bool true
attribute [local go_sem] Na.r Nb.r Un.c cPg_d cPg_e cSta_c2 cSta_d cSta_e cSta_n cVas_d cVas_d1 cVas_d2 cVas_e cVas_n mUn_dr mUn_e mUn_z ouC pgR pg_eta pqR stR yg_Call yg_Prog yp_Dc yp_known20 yr_known20 zUc
set_option maxRecDepth 20000 in set_option maxHeartbeats 64000000 in
theorem y_RunCells:CallsR Try.prog 7 (ahS ((cInt .i64).H) (ahS ((cInt .i64).H) (ahS ((cInt .u8).H) (ahS (cBool.H) ah0)))) (fun p:(Int×(Int×(Int×(Bool×Unit))))=>yc_RunCells p.1 p.2.1 p.2.2.1 p.2.2.2.1) (fun p:(Int×(Int×(Int×(Bool×Unit))))=>ofV (yr_RunCells p.1 p.2.1 p.2.2.1 p.2.2.2.1)):=by
 rintro ⟨a,b,i,other,_u⟩ w fz xs hc hfz hl hx
 refine calls_toRL Try.func7 rfl w fz [yp_known20,yp_Dc,(yg_Prog 50 8 rgl (y_Prog 50 8 rgl)),(yg_Call 50 60 (y_Call 50 60))] [(8,[.flag 38,.flag 41])] (ahS ((cInt .i64).H) (ahS ((cInt .i64).H) (ahS ((cInt .u8).H) (ahS (cBool.H) ah0)))) (fun p:(Int×(Int×(Int×(Bool×Unit))))=>ofV (yr_RunCells p.1 p.2.1 p.2.2.1 p.2.2.2.1)) _ xs hfz hl hx (Nat.le_of_ble_eq_true rfl) ?_
 clear hx hl hfz xs
 simp only[Try.f7]
 have hi:0≤i:=hc.2.2.1.1
 have hg:gloB=[103,108,111,98,97,108,115]:=rfl
 have hG:=rG_u
 have hL:=rGl_u
 simp only[rG,rGl,hg]at hG hL
 cases other with
 |true=>
  rcases mod6' hi with hk|hk|hk|hk|hk|hk
  ·have he:=rTd0_e
   have hu:=rTd0_u
   have hr:=rP_r _ _ rTd0_b
   have h1:=rTd0_r a b
   simp only[rTd0,rG,rGl,hg]at he hu
   simp only[↓eB,seval,go_sem,it_0,iD,hk,he,h1,beq_self_eq_true,bne_self_eq_false]
   refine⟨⟨by decide,by decide⟩,un3 hu hG hL,hr _ _ 50 (Nat.le_of_ble_eq_true rfl) (Nat.le_of_ble_eq_true rfl) (Nat.le_of_ble_eq_true rfl) (by decide),?_⟩
   refine ret_with [] ?_;simp only[↓eB,seval,go_sem,bne,yr_RunCells]
  ·have he:=rTd1_e
   have hu:=rTd1_u
   have hr:=rP_r _ _ rTd1_b
   have h1:=rTd1_r a b
   simp only[rTd1,rG,rGl,hg]at he hu
   simp only[↓eB,seval,go_sem,it_1,iD,hk,he,h1,beq_self_eq_true,bne_self_eq_false]
   refine⟨⟨by decide,by decide⟩,un3 hu hG hL,hr _ _ 50 (Nat.le_of_ble_eq_true rfl) (Nat.le_of_ble_eq_true rfl) (Nat.le_of_ble_eq_true rfl) (by decide),?_⟩
   refine ret_with [] ?_;simp only[↓eB,seval,go_sem,bne,yr_RunCells]
  ·have he:=rTd2_e
   have hu:=rTd2_u
   have hr:=rP_r _ _ rTd2_b
   have h1:=rTd2_r a b
   simp only[rTd2,rG,rGl,hg]at he hu
   simp only[↓eB,seval,go_sem,it_2,iD,hk,he,h1,beq_self_eq_true,bne_self_eq_false]
   refine⟨⟨by decide,by decide⟩,un3 hu hG hL,hr _ _ 50 (Nat.le_of_ble_eq_true rfl) (Nat.le_of_ble_eq_true rfl) (Nat.le_of_ble_eq_true rfl) (by decide),?_⟩
   refine ret_with [] ?_;simp only[↓eB,seval,go_sem,bne,yr_RunCells]
  ·have he:=rTd3_e
   have hu:=rTd3_u
   have hr:=rP_r _ _ rTd3_b
   have h1:=rTd3_r a b
   simp only[rTd3,rG,rGl,hg]at he hu
   simp only[↓eB,seval,go_sem,it_3,iD,hk,he,h1,beq_self_eq_true,bne_self_eq_false]
   refine⟨⟨by decide,by decide⟩,un3 hu hG hL,hr _ _ 50 (Nat.le_of_ble_eq_true rfl) (Nat.le_of_ble_eq_true rfl) (Nat.le_of_ble_eq_true rfl) (by decide),?_⟩
   refine ret_with [] ?_;simp only[↓eB,seval,go_sem,bne,yr_RunCells]
  ·have he:=rTd4_e
   have hu:=rTd4_u
   have hr:=rP_r _ _ rTd4_b
   have h1:=rTd4_r a b
   simp only[rTd4,rG,rGl,hg]at he hu
   simp only[↓eB,seval,go_sem,it_4,iD,hk,he,h1,beq_self_eq_true,bne_self_eq_false]
   refine⟨⟨by decide,by decide⟩,un3 hu hG hL,hr _ _ 50 (Nat.le_of_ble_eq_true rfl) (Nat.le_of_ble_eq_true rfl) (Nat.le_of_ble_eq_true rfl) (by decide),?_⟩
   refine ret_with [] ?_;simp only[↓eB,seval,go_sem,bne,yr_RunCells]
  ·have he:=rTd5_e
   have hu:=rTd5_u
   have hr:=rP_r _ _ rTd5_b
   have h1:=rTd5_r a b
   simp only[rTd5,rG,rGl,hg]at he hu
   simp only[↓eB,seval,go_sem,it_5,iD,hk,he,h1,beq_self_eq_true,bne_self_eq_false]
   refine⟨⟨by decide,by decide⟩,un3 hu hG hL,hr _ _ 50 (Nat.le_of_ble_eq_true rfl) (Nat.le_of_ble_eq_true rfl) (Nat.le_of_ble_eq_true rfl) (by decide),?_⟩
   refine ret_with [] ?_;simp only[↓eB,seval,go_sem,bne,yr_RunCells]
 |false=>
  rcases mod6' hi with hk|hk|hk|hk|hk|hk
  ·have he:=rTc0_e
   have hu:=rTc0_u
   have hr:=rP_r _ _ rTc0_b
   have h1:=rTc0_r a b
   simp only[rTc0,rG,rGl,hg]at he hu
   simp only[↓eB,seval,go_sem,it_0,iD,hk,he,h1,beq_self_eq_true,bne_self_eq_false]
   refine⟨⟨by decide,by decide⟩,un3 hu hG hL,hr _ _ 50 (Nat.le_of_ble_eq_true rfl) (Nat.le_of_ble_eq_true rfl) (Nat.le_of_ble_eq_true rfl) (by decide),?_⟩
   refine ret_with [] ?_;simp only[↓eB,seval,go_sem,bne,yr_RunCells]
  ·have he:=rTc1_e
   have hu:=rTc1_u
   have hr:=rP_r _ _ rTc1_b
   have h1:=rTc1_r a b
   simp only[rTc1,rG,rGl,hg]at he hu
   simp only[↓eB,seval,go_sem,it_1,iD,hk,he,h1,beq_self_eq_true,bne_self_eq_false]
   refine⟨⟨by decide,by decide⟩,un3 hu hG hL,hr _ _ 50 (Nat.le_of_ble_eq_true rfl) (Nat.le_of_ble_eq_true rfl) (Nat.le_of_ble_eq_true rfl) (by decide),?_⟩
   refine ret_with [] ?_;simp only[↓eB,seval,go_sem,bne,yr_RunCells]
  ·have he:=rTc2_e
   have hu:=rTc2_u
   have hr:=rP_r _ _ rTc2_b
   have h1:=rTc2_r a b
   simp only[rTc2,rG,rGl,hg]at he hu
   simp only[↓eB,seval,go_sem,it_2,iD,hk,he,h1,beq_self_eq_true,bne_self_eq_false]
   refine⟨⟨by decide,by decide⟩,un3 hu hG hL,hr _ _ 50 (Nat.le_of_ble_eq_true rfl) (Nat.le_of_ble_eq_true rfl) (Nat.le_of_ble_eq_true rfl) (by decide),?_⟩
   refine ret_with [] ?_;simp only[↓eB,seval,go_sem,bne,yr_RunCells]
  ·have he:=rTc3_e
   have hu:=rTc3_u
   have hr:=rP_r _ _ rTc3_b
   have h1:=rTc3_r a b
   simp only[rTc3,rG,rGl,hg]at he hu
   simp only[↓eB,seval,go_sem,it_3,iD,hk,he,h1,beq_self_eq_true,bne_self_eq_false]
   refine⟨⟨by decide,by decide⟩,un3 hu hG hL,hr _ _ 50 (Nat.le_of_ble_eq_true rfl) (Nat.le_of_ble_eq_true rfl) (Nat.le_of_ble_eq_true rfl) (by decide),?_⟩
   refine ret_with [] ?_;simp only[↓eB,seval,go_sem,bne,yr_RunCells]
  ·have he:=rTc4_e
   have hu:=rTc4_u
   have hr:=rP_r _ _ rTc4_b
   have h1:=rTc4_r a b
   simp only[rTc4,rG,rGl,hg]at he hu
   simp only[↓eB,seval,go_sem,it_4,iD,hk,he,h1,beq_self_eq_true,bne_self_eq_false]
   refine⟨⟨by decide,by decide⟩,un3 hu hG hL,hr _ _ 50 (Nat.le_of_ble_eq_true rfl) (Nat.le_of_ble_eq_true rfl) (Nat.le_of_ble_eq_true rfl) (by decide),?_⟩
   refine ret_with [] ?_;simp only[↓eB,seval,go_sem,bne,yr_RunCells]
  ·have he:=rTc5_e
   have hu:=rTc5_u
   have hr:=rP_r _ _ rTc5_b
   have h1:=rTc5_r a b
   simp only[rTc5,rG,rGl,hg]at he hu
   simp only[↓eB,seval,go_sem,it_5,iD,hk,he,h1,beq_self_eq_true,bne_self_eq_false]
   refine⟨⟨by decide,by decide⟩,un3 hu hG hL,hr _ _ 50 (Nat.le_of_ble_eq_true rfl) (Nat.le_of_ble_eq_true rfl) (Nat.le_of_ble_eq_true rfl) (by decide),?_⟩
   refine ret_with [] ?_;simp only[↓eB,seval,go_sem,bne,yr_RunCells]
end Go.Proofs.Ytjnnmindcbgjhaa
