/- The chapter's example, parsed. No conditions but those in each statement. -/
import Derived.Test.YtlaggppdgoknjaaGreatDoorPq15
import Derived.Test.YtlaggppdgoknjaaGreatDoorPg3
import Derived.Test.YtlaggppdgoknjaaGreatDoorPa9
import Derived.Test.YtlaggppdgoknjaaGreatDoorTie
import Derived.Test.YtlaggppdgoknjaaGreatDoorCards
import Derived.LaidMore
import Derived.Lay
import Derived.SevenTiedAt
import Derived.Stop.Joined
import Derived.ProofKit
import Derived.OpenShut
import Derived.Lib.SmallJoins
import Derived.Carry
set_option linter.unusedVariables false
set_option linter.unusedSimpArgs false
namespace Go.Proofs.YtlaggppdgoknjaaGreatDoor
open Go Go.Sy Go.RowKit
theorem yn_qFunc:∀p:List UInt8×Unit,(yr_qFunc p.1).names=[]:=by intro p;first|rfl|simp[SV.names,C.names]
noncomputable def yp_qFunc {X:Ctx} {w0:World}:Sy.Spec Tryz.prog X w0:=specD 9 Tryz.call9 (acS cStr ac0) (fun p:List UInt8×Unit=>smallB p.1) (fun p=>yr_qFunc p.1) yn_qFunc y_qFunc
theorem yn_qGlobals:∀p:List UInt8×Unit,(yr_qGlobals p.1).names=[]:=by intro p;first|rfl|simp[SV.names,C.names]
noncomputable def yp_qGlobals {X:Ctx} {w0:World}:Sy.Spec Tryz.prog X w0:=specD 12 Tryz.call12 (acS cStr ac0) (fun p:List UInt8×Unit=>smallB p.1) (fun p=>yr_qGlobals p.1) yn_qGlobals y_qGlobals
def zE1:Ex:=.mk 2 0 [] (.mk 1 0 [120] .nil .nil) (.mk 0 1 [] .nil .nil)
theorem zf1:funF [102,110,32,102,40,120,41,32,123,32,114,101,116,117,114,110,32,120,32,43,32,49,59,32,125]=(⟨[102],[⟨[120],false⟩],[],[.mk 9 [] [] zE1 .nil .nil [] [] [] 0]⟩,0,0):=by kernel_rfl
theorem zf2:(funF [102,110,32,102,40,120,41,32,123,32,114,101,116,117,114,110,32,59,32,125]).2.1=17:=by kernel_rfl
theorem zf2':(funF [102,110,32,102,40,120,41,32,123,32,114,101,116,117,114,110,32,59,32,125]).2.2=51:=by kernel_rfl
theorem zg3:gloQ [99,101,108,108,32,99,59,32,97,114,114,97,121,32,97,91,51,93,59]=(⟨[[99]],[⟨[97],3⟩]⟩,0,0):=by kernel_rfl
abbrev yc_known7:Prop:=True
abbrev yr_known7:SV:=.one (.v (.bool true))
set_option maxRecDepth 20000 in set_option maxHeartbeats 4000000 in
theorem y_known7:CallsY Tryz.prog 5 ac0 (fun p:Unit=>yc_known7 ) (fun p:Unit=>yr_known7 ):=by
 rintro _u w fz xs hc hfz hl hx
 refine calls_toL Tryz.func5 rfl w fz [yp_qFunc,yp_qGlobals] [] ac0 (fun p:Unit=>yr_known7 ) _ xs hfz hl hx (Nat.le_of_ble_eq_true rfl) ?_
 clear hx hl hfz xs
 simp only[Tryz.f5]
 have s1:smallB [102,110,32,102,40,120,41,32,123,32,114,101,116,117,114,110,32,120,32,43,32,49,59,32,125]:=by unfold smallB;decide
 have s2:smallB [102,110,32,102,40,120,41,32,123,32,114,101,116,117,114,110,32,59,32,125]:=by unfold smallB;decide
 have s3:smallB [99,101,108,108,32,99,59,32,97,114,114,97,121,32,97,91,51,93,59]:=by unfold smallB;decide
 simp only[↓eB,seval,go_sem,yp_qFunc,yp_qGlobals,ex_mk,ex_nil,Ex.isNil,Fn.c,Gl.d,Gy.r,cSd,zSqD,zGyD,Sm.r,zf1,zf2,zf2',zg3,zE1]
 try simp only[impB,impN]
 repeat' first|exact ck|with_reducible apply And.intro|intro _
 all_goals first|exact s1|exact s2|exact s3|(rename_i h;first|exact oI h|exact nah h)|(rename_i _ h _ g;exact sL h g)|decide|omega|(refine ret_with [] ?_;simp only[↓eB,seval,go_sem,bne,yr_known7])
theorem yn_known7:∀p:Unit,((fun p:Unit=>yr_known7 ) p).names=[]:=by intro p;first|rfl|simp[SV.names,C.names]
noncomputable def yp_known7 {X:Ctx} {w0:World}:Sy.Spec Tryz.prog X w0:=specD 5 Tryz.call5 ac0 (fun p:Unit=>yc_known7 ) (fun p:Unit=>yr_known7 ) yn_known7 y_known7
end Go.Proofs.YtlaggppdgoknjaaGreatDoor
namespace Go.Proofs.YtlaggppdgoknjaaGreatDoor
open Go Go.Sy Go.RowKit
def wdT:List (List UInt8):=[[102,110],[118,97,114],[112,116,114],[105,102],[101,108,115,101],[119,104,105,108,101],[114,101,116,117,114,110],[97,115,115,101,114,116],[110,117,108,108],[99,101,108,108],[97,114,114,97,121],[102,110,120],[73,102],[95]]
theorem st_at (l:List (List UInt8)) (i:Nat):(l.map cS).getD i [.v (.string (bs []))]=cS (l.getD i []):=by
 simp only[List.getD,List.getElem?_map]
 cases l[i]?<;>rfl
theorem wdT_at (i:Nat):([[.v (.string (bs [102,110]))],[.v (.string (bs [118,97,114]))],[.v (.string (bs [112,116,114]))],[.v (.string (bs [105,102]))],[.v (.string (bs [101,108,115,101]))],[.v (.string (bs [119,104,105,108,101]))],[.v (.string (bs [114,101,116,117,114,110]))],[.v (.string (bs [97,115,115,101,114,116]))],[.v (.string (bs [110,117,108,108]))],[.v (.string (bs [99,101,108,108]))],[.v (.string (bs [97,114,114,97,121]))],[.v (.string (bs [102,110,120]))],[.v (.string (bs [73,102]))],[.v (.string (bs [95]))]]:List (List C)).getD i [.v (.string (bs []))]=[.v (.string (bs (wdT.getD i [])))]:=st_at wdT i
def txL (n:List UInt8):List (List UInt8):=[102::110::32::(n++[40,41,32,123,32,125]),102::110::32::102::40::(n++[41,32,123,32,125]),102::110::32::102::40::41::32::123::32::118::97::114::32::(n++[59,32,125]),102::110::32::102::40::41::32::123::32::120::32::61::32::(n++[59,32,125]),102::110::32::102::40::41::32::123::32::120::32::61::32::103::40::49::44::32::(n++[41,59,32,125]),102::110::32::102::40::41::32::123::32::120::32::61::32::49::32::43::32::(n++[59,32,125])]
theorem txW_at (n:List UInt8) (i:Nat):([[.v (.string (bs (102::110::32::(n++[40,41,32,123,32,125]))))],[.v (.string (bs (102::110::32::102::40::(n++[41,32,123,32,125]))))],[.v (.string (bs (102::110::32::102::40::41::32::123::32::118::97::114::32::(n++[59,32,125]))))],[.v (.string (bs (102::110::32::102::40::41::32::123::32::120::32::61::32::(n++[59,32,125]))))],[.v (.string (bs (102::110::32::102::40::41::32::123::32::120::32::61::32::103::40::49::44::32::(n++[41,59,32,125]))))],[.v (.string (bs (102::110::32::102::40::41::32::123::32::120::32::61::32::49::32::43::32::(n++[59,32,125]))))]]:List (List C)).getD i [.v (.string (bs []))]=[.v (.string (bs ((txL n).getD i [])))]:=st_at (txL n) i
def txW (i j:Nat):List UInt8:=(txL (wdT.getD i [])).getD j []
def wdB (i j:Nat):Bool:=decide ((txW i j).length≤100)&&(((funF (txW i j)).2.2==0)==(decide (11≤i)||(i==8&&j==3)))
theorem wd_all:((List.range 14).all fun i=>(List.range 6).all fun j=>wdB i j)=true:=by kernel_rfl
theorem wd_of {i j:Nat} (hi:i<14) (hj:j<6):wdB i j=true:=
 List.all_eq_true.1 (List.all_eq_true.1 wd_all i (List.mem_range.2 hi)) j (List.mem_range.2 hj)
theorem wd_len (i:Nat) (hi:i<14):(wdT.getD i []).length≤6:=(by decide:∀i,i<14→(wdT.getD i []).length≤6) i hi
abbrev yc_ParseWords (a:Int) (b:Int):Prop:=0≤a∧0≤b
abbrev yr_ParseWords (a:Int) (b:Int):SV:=.one (.v (.bool true))
noncomputable abbrev ya_ParseWords:ArgC ((Int)×(Int)×Unit):=(acS (cInt .u8) (acS (cInt .u8) ac0))
abbrev yq_ParseWords:Prop:=CallsY Tryz.prog 4 ya_ParseWords (fun p:(Int)×(Int)×Unit=>yc_ParseWords p.1 p.2.1) (fun p:(Int)×(Int)×Unit=>yr_ParseWords p.1 p.2.1)
attribute [local go_sem] Fn.c cFn_d cFn_e pairN_o pairO_n spFn_n txW_at wdT_at yg_eqF yp_Func yp_known7 yp_qFunc yr_known7
set_option maxRecDepth 20000 in set_option maxHeartbeats 16000000 in
theorem y_ParseWords:yq_ParseWords:=by
 rintro ⟨a,b,_u⟩ w fz xs hc hfz hl hx
 refine calls_toL Tryz.func4 rfl w fz [yp_known7,yp_qFunc,yp_Func,(yg_eqF (gN (txW (a.tmod 14).toNat (b.tmod 6).toNat)) (gM (txW (a.tmod 14).toNat (b.tmod 6).toNat)) (y_eqF _ _))] [] ya_ParseWords (fun p:(Int)×(Int)×Unit=>yr_ParseWords p.1 p.2.1) _ xs hfz hl hx (Nat.le_of_ble_eq_true rfl) ?_
 clear hx hl hfz xs
 simp only[Tryz.f4]
 obtain⟨hw,hv⟩:=hc
 dsimp only at hw hv
 have w1:=Int.tmod_nonneg 14 hw
 have w2:=Int.tmod_lt_of_pos a (b:=14) (by decide)
 have v1:=Int.tmod_nonneg 6 hv
 have v2:=Int.tmod_lt_of_pos b (b:=6) (by decide)
 have hT:=wd_of (show (a.tmod 14).toNat<14 by omega) (show (b.tmod 6).toNat<6 by omega)
 have hl:=wd_len (a.tmod 14).toNat (by omega)
 obtain⟨S,hS⟩:∃S,txW (a.tmod 14).toNat (b.tmod 6).toNat=S:=⟨_,rfl⟩
 unfold wdB at hT
 rw[hS]at hT
 simp only[Bool.and_eq_true,decide_eq_true_eq]at hT
 obtain⟨hT1,hT2⟩:=hT
 have hs:smallB S:=by unfold smallB;omega
 have hB:=gB S
 have hO:=(funF_good S).1
 have hS':(txL (wdT.getD (a.tmod 14).toNat [])).getD (b.tmod 6).toNat []=S:=hS
 have hB1:yc_eqF (gN S) (gM S) (funF S).1 (funF S).1:=⟨rfl,hB,Nat.le_trans hO.1 (by decide),Nat.le_trans hO.2 (by decide)⟩
 have hwi:decide (11≤(a.tmod 14).toNat)=decide ((11:Int)≤a.tmod 14):=by rw[decide_eq_decide];omega
 have hw8:((a.tmod 14).toNat==8)=(a.tmod 14==8):=by rw[Bool.eq_iff_iff,beq_iff_eq,beq_iff_eq];omega
 have hv3:((b.tmod 6).toNat==3)=(b.tmod 6==3):=by rw[Bool.eq_iff_iff,beq_iff_eq,beq_iff_eq];omega
 rw[hwi,hw8,hv3]at hT2
 cases c1:decide ((11:Int)≤a.tmod 14) with
 |true=>
  rw[c1,Bool.true_or,beq_true]at hT2
  simp only[↓eB,seval,go_sem,List.length_append,hS',hS,c1,hT2,beq_self_eq_true,bne_self_eq_false]
  try simp only[impB,impN]
  repeat' first|exact ck|with_reducible apply And.intro|intro _
  all_goals first|exact hs|exact hB|exact rfl|exact hB1|exact hO.1|exact hO.2|(exact Nat.le_trans hO.1 (by decide))|(exact Nat.le_trans hO.2 (by decide))|exact hl|(simp only[List.length_append,List.length_cons,List.length_nil];omega)|(rename_i h;first|exact oI h|exact nah h)|(rename_i _ h _ g;exact sL h g)|decide|omega|(refine ret_with [] ?_;simp only[↓eB,seval,go_sem,bne,yr_ParseWords])
 |false=>
  rw[c1,Bool.false_or]at hT2
  cases c2:(a.tmod 14==8) with
  |false=>
   rw[c2,Bool.false_and,beq_false,Bool.not_eq_true']at hT2
   simp only[↓eB,seval,go_sem,List.length_append,hS',hS,c1,c2,hT2,beq_self_eq_true,bne_self_eq_false]
   try simp only[impB,impN]
   repeat' first|exact ck|with_reducible apply And.intro|intro _
   all_goals first|exact hs|exact hB|exact rfl|exact hB1|exact hO.1|exact hO.2|(exact Nat.le_trans hO.1 (by decide))|(exact Nat.le_trans hO.2 (by decide))|exact hl|(simp only[List.length_append,List.length_cons,List.length_nil];omega)|(rename_i h;first|exact oI h|exact nah h)|(rename_i _ h _ g;exact sL h g)|decide|omega|(refine ret_with [] ?_;simp only[↓eB,seval,go_sem,bne,yr_ParseWords])
  |true=>
   rw[c2,Bool.true_and]at hT2
   cases c3:(b.tmod 6==3) with
   |true=>
    rw[c3,beq_true]at hT2
    simp only[↓eB,seval,go_sem,List.length_append,hS',hS,c1,c2,c3,hT2,beq_self_eq_true,bne_self_eq_false]
    try simp only[impB,impN]
    repeat' first|exact ck|with_reducible apply And.intro|intro _
    all_goals first|exact hs|exact hB|exact rfl|exact hB1|exact hO.1|exact hO.2|(exact Nat.le_trans hO.1 (by decide))|(exact Nat.le_trans hO.2 (by decide))|exact hl|(simp only[List.length_append,List.length_cons,List.length_nil];omega)|(rename_i h;first|exact oI h|exact nah h)|(rename_i _ h _ g;exact sL h g)|decide|omega|(refine ret_with [] ?_;simp only[↓eB,seval,go_sem,bne,yr_ParseWords])
   |false=>
    rw[c3,beq_false,Bool.not_eq_true']at hT2
    simp only[↓eB,seval,go_sem,List.length_append,hS',hS,c1,c2,c3,hT2,beq_self_eq_true,bne_self_eq_false]
    try simp only[impB,impN]
    repeat' first|exact ck|with_reducible apply And.intro|intro _
    all_goals first|exact hs|exact hB|exact rfl|exact hB1|exact hO.1|exact hO.2|(exact Nat.le_trans hO.1 (by decide))|(exact Nat.le_trans hO.2 (by decide))|exact hl|(simp only[List.length_append,List.length_cons,List.length_nil];omega)|(rename_i h;first|exact oI h|exact nah h)|(rename_i _ h _ g;exact sL h g)|decide|omega|(refine ret_with [] ?_;simp only[↓eB,seval,go_sem,bne,yr_ParseWords])
end Go.Proofs.YtlaggppdgoknjaaGreatDoor
namespace Go.Proofs.YtlaggppdgoknjaaGreatDoor
open Go Go.RowKit Go.ChangeShapes Go.WideShapes Go.ChangeAt
theorem ownK:ownKnob Tryz.prog.godebug=none:=by kernel_rfl
theorem laidK:laidOutB Tryz.prog=true:=by kernel_rfl
theorem trodAll_below {H:Type} {enc:TypeId×Value→H} {P:Program} (hl:laidOutB P=true) {W W':World} (hb:Below W.heap.size W W'):∀(ts:List TypeId) (vs:List Value) (ds:List (DataW H)) (ps:List MemPlace),
  (∀t∈ts,P.readableRec t=true∧t<P.types.size)→DataW.TrodAll enc P W 0 (fun _=>true) true ts vs ds ps→(∀x∈ps,x.block<W.heap.size)→DataW.TrodAll enc P W' 0 (fun b=>decide (b<W.heap.size)) true ts vs ds ps
 |[],vs,ds,ps,_,h,_=>by
  obtain⟨rfl,rfl,rfl⟩:=trodAll_nil h
  exact trodAll_mk0
 |t::ts,vs,ds,ps,hts,h,hlt=>by
  obtain⟨v,vs',d,ds',p,q,rfl,rfl,rfl,h1,h2⟩:=trodAll_cons h
  have ht:=hts t (List.mem_cons_self ..)
  exact trodAll_cons_mk (Below.trod hl ht.1 ht.2 h1 hb fun x hx=>hlt x (List.mem_append_left _ hx))
   (trodAll_below hl hb ts vs' ds' q (fun t' ht'=>hts t' (List.mem_cons_of_mem _ ht')) h2 fun x hx=>hlt x (List.mem_append_right _ hx))
theorem law_post {H:Type} {enc:TypeId×Value→H} {f:Func} {s:ChangeSpec} {W W':World} {args:Array Value} {ds gs:List (DataW H)} {before:List MemPlace} (hW:DataW.Whole enc Tryz.prog f.params.toList s.vars false W args.toList ds gs before)
  (hv:s.vars=[]) (hr:f.resultTypes = #[4]) (hts:∀t∈f.params.toList,Tryz.prog.readableRec t=true∧t<Tryz.prog.types.size)
  (hf:gs=[]→(s.fn H (ds++gs)).results=[.lit (.bool true)]∧(s.fn H (ds++gs)).args=ds∧(s.fn H (ds++gs)).vars=[]) (hb:Below W.heap.size W W') :
  s.post enc Tryz.prog f false true false false W args (.bool true) W':=by
 have hlt:=hW.lt
 have hW0:=hW
 obtain⟨p,q,hA,hV,rfl,_,_⟩:=hW
 rw[hv]at hV
 obtain⟨rfl,rfl⟩:=trodVars_none hV
 obtain⟨f1,f2,f3⟩:=hf rfl
 refine⟨ds,[],p++[],[],p,[],hW0,?_,?_,?_,hb.frame _,fun h=>by cases h⟩
 ·rw[f1,hr]
  exact trodAll_cons_mk (shut_bool Tryz.underlying4 true) trodAll_mk0
 ·rw[f2]
  exact trodAll_below laidK hb _ _ _ _ hts hA fun x hx=>by simpa using hlt x (List.mem_append_left _ hx)
 ·rw[f3,hv];rfl
end Go.Proofs.YtlaggppdgoknjaaGreatDoor
namespace Go.Proofs.YtlaggppdgoknjaaGreatDoor
open Go Go.Sy Go.RowKit Go.ChangeShapes Go.WideShapes Go.ChangeAt
theorem wf_b0 {n:Int} (h:(Lit.int .u8 n).wf=true):0≤n:=by
 have:=bounds_u8 h;omega
theorem c_ParseWords (n:Int) (hn:(Lit.int .u8 n).wf=true) (v:Int) (hv:(Lit.int .u8 v).wf=true) (W:World) :
  Calls Tryz.prog 4 #[.int .u8 n,.int .u8 v] W (fun en W'=>en= .returned (.bool true)∧Below W.heap.size W W'):=
 to_plain y_ParseWords (n,v,()) W ⟨wf_b0 hn,wf_b0 hv⟩ [.int .u8 n,.int .u8 v] (.bool true) rfl (fun j u x h1 h2=>by
  rcases j with _|_|j
  ·obtain rfl:Value.int .u8 n=x:=Option.some.inj h2
   obtain rfl:SV.one (.v (.int .u8 n))=u:=Option.some.inj h1
   exact sd_ofV (x:=.int .u8 n) rfl
  ·obtain rfl:Value.int .u8 v=x:=Option.some.inj h2
   obtain rfl:SV.one (.v (.int .u8 v))=u:=Option.some.inj h1
   exact sd_ofV (x:=.int .u8 v) rfl
  ·exact absurd (show ([]:List Value)[j]?=some x from h2) (by simp)) rfl
end Go.Proofs.YtlaggppdgoknjaaGreatDoor
