/- A function that defers, in its caller's memory. No conditions but those in each statement. -/
import Derived.Test.YtjnnmindcbgjhabSy38
import Derived.Test.YtjnnmindcbgjhabRm2
set_option linter.unusedVariables false
set_option linter.unusedSimpArgs false
namespace Go.Sy
open Go Go.RowKit
section
variable {P:Program} {X:Ctx} {w0:World} {n:Nat}
theorem holds_deferF {s:St} {a:Act} {w:World} (h:Holds X w0 n s a w) {t:Nat} (ht:lkp s.e t=none) (sl:List (Nat×Nat)) (hs:∀p∈sl,lkp s.e p.1=some (true,.one (.p p.2 0 0))∧p.1≠t) (ns:List Nat) (hn:∀k∈ns,(lkp s.h k).isSome=true) (pn:Option (List (Nat×List C×List (List C)))) :
  ∃I:Nm,a.tmps.size=n∧(∀p∈X.F,I p.1=p.2)∧(∀p∈sl,a.tmps[p.1]?=some ((I p.2).p 0 0))∧∀(F:Value) (df:List Deferred),Holds ⟨X.M,X.Z,ns.map fun k=>(k,I k),pn,df,[]⟩ w0 n s { (a.put (some t) F) with defers:=df } w:=by
 obtain⟨hW,I,lab,fz,hA⟩:=h
 have hput:∀(F:Value) (j:Nat),j≠t→(a.put (some t) F).tmps[j]?=a.tmps[j]?:=by
  intro F j hj
  simp only[Act.put]
  rw[Array.getElem?_setIfInBounds,if_neg (Ne.symm hj)]
 refine⟨I,hA.n,fun p hp=>(hA.m.fix p hp).2,fun p hp=>?_,fun F df=>⟨hW,I,lab,fz,by rw[← hA.n];exact put_size a (some t) F,⟨rfl,fun p hp=>by cases hp⟩,fun j g v hj=>?_,⟨hA.m.h,hA.m.wf,hA.m.own,hA.m.fzl,hA.m.fzo,hA.m.kept,fun p hp=>?_⟩⟩⟩
 ·obtain⟨h1,h2⟩:=hs p hp
  obtain⟨x,hx,hd⟩:=hA.e p.1 true _ h1
  simp only[if_true]at hd
  rw[hx,den_p hd]
 ·have hjt:j≠t:=by rintro rfl;rw[ht]at hj;cases hj
  obtain⟨x,hx,hd⟩:=hA.e j g v hj
  exact⟨x,by show (a.put (some t) F).tmps[j]?=_;rw[hput F _ hjt];exact hx,hd⟩
 ·obtain⟨k,hk,rfl⟩:=List.mem_map.1 hp
  exact⟨hn k hk,rfl⟩
theorem calls_tdM {f:FuncId} {fn:Func} {c:Code} (hf:P.funcs[f]?=some fn) (hb:fn.body=some c) (mem:List MV) (w:World) (M:Nat→Prop) (I:Nm) (lab:Lab) (fz:Nat→Prop) (args:List SV) (mem':List (Option MV)) (R:SV) (xs:List Value)
  (hA:AtW (mX M fz I mem.length) w I lab fz (lkp (memH 0 mem)) w) (hlen:xs.length=args.length) (hx:∀(j:Nat) (v:SV) (x:Value),args[j]?=some v→xs[j]?=some x→SDen (hp w) fz lab I (lkp (memH 0 mem)) v x)
  (hnm:∀v∈args,∀k∈v.names,k<mem.length) (hn:args.length≤fn.ntmps)
  (h:TriD (P:=P) (mX M fz I mem.length) w fn.ntmps c ⟨argE 0 args,memH 0 mem⟩ (bodyPostD P fn (MPost w M fz I mem.length mem' R))):Calls P f xs.toArray w (MPost w M fz I mem.length mem' R):=by
 refine calls_of_wp_defers hf hb (h _ w ⟨?_,I,lab,fz,?_,⟨rfl,fun p hp=>by cases hp⟩,?_,hA⟩)
 ·intro t g v ht _ k hk
  rw[argE_lkp]at ht
  simp only[Nat.zero_le,if_true,Nat.sub_zero,Option.map_eq_some_iff,Prod.mk.injEq]at ht
  obtain⟨u,hu,rfl,rfl⟩:=ht
  have:=hnm u (List.mem_of_getElem? hu) k hk
  show (lkp (memH 0 mem) k).isSome=true
  rw[memH,lkp_mem0]
  simp[this]
 ·simp[hlen];omega
 ·intro t g v ht
  rw[argE_lkp]at ht
  simp only[Nat.zero_le,if_true,Nat.sub_zero,Option.map_eq_some_iff,Prod.mk.injEq]at ht
  obtain⟨u,hu,rfl,rfl⟩:=ht
  have hlt:t<args.length:=(List.getElem?_eq_some_iff.1 hu).1
  have hlt2:t<xs.length:=by omega
  refine⟨xs[t],?_,?_⟩
  ·rw[Array.getElem?_append_left (by simpa using hlt2)]
   simp[hlt2]
  ·simp only[if_true]
   exact hx t u _ hu (List.getElem?_eq_getElem hlt2)
theorem at_less {X':Ctx} {w:World} {I:Nm} {lab:Lab} {fz:Nat→Prop} {H:Hp} (hM:X'.M=X.M) (hZ:X'.Z=X.Z) (hF:∀p∈X'.F,p∈X.F) (h:AtW X w0 I lab fz H w):AtW X' w0 I lab fz H w:=
 ⟨h.h,h.wf,by rw[hM];exact h.own,h.fzl,by rw[hM,hZ];exact h.fzo,by rw[hM];exact h.kept,fun p hp=>h.fix p (hF p hp)⟩
theorem ret_atM {M fz0:Nat→Prop} {I0:Nm} {m:Nat} {s:St} {a:Act} {w:World} {fn:Func} {R:SV} {mem':List (Option MV)} (hM:M=X.M) (hZ:fz0=X.Z) (hF:∀p∈memF I0 0 m,p∈X.F) (hl:m≤mem'.length) (h:RetP P X fn.results.toList (RESM R mem') s) (hs:Holds X w0 n s a w) :
  ∃x,(results fn a.tmps).run P w= .ok x w∧MPost w0 M fz0 I0 m mem' R (.returned x) w:=by
 obtain⟨cs,s',vs,h1,h2,h3,h4,h5,h6⟩:=h
 obtain⟨_,I',lab',fz',hA'⟩:=runCs_ent h1 a w hs
 obtain⟨x,x1,x2⟩:=results_ok hA' h2 h3
 rw[h4]at x2
 refine⟨x,x1,x,I',lab',fz',rfl,at_sub (at_less (X:=X) (X':=mX M fz0 I0 m) hM hZ hF hA'.m) h6 (fun p hp'=>?_),sd_noVw h5 x2⟩
 obtain⟨q1,q2,_⟩:=mem_memF hp'
 exact memO_keys _ _ _ q1 (by omega)
theorem rest_ops {ops:Array Oper} (sp:List (Spec P X w0)) {j0:Nat} {l:List Oper} {st:St} {Q:St→Prop} {Qd:Exit→Act→World→Prop} {a:Act} {w:World} (hP:∀ch a w,keepA X a→PanW X w0 ch w→Qd (.panic ch) a w) (hQ:∀s' a w,Q s'→Holds X w0 n s' a w→Qd .normal a w)
  (hl:∀j,l[j]?=ops[j0+j]?) (hv:vcOps sp n ops l st [] textT Q) (hs:Holds X w0 n st a w):wpOps P ops Qd (List.range' j0 l.length) a w:=by
 obtain⟨hW,I,lab,fz,hA⟩:=hs
 obtain⟨xs,fs,s',h1,_,h2,h3,h4⟩:=vcOps_run sp n ops _ _ _ _ _ hv
 refine text_ops hP l j0 _ _ xs fs a w I lab fz hl h1 hW hA fun a' w' I' lab' fz' hW' hA'=>?_
 have e1:foldE xs 0 (fun _=>true) (lkp st.e)=stFinE xs (lkp st.e):=rfl
 have e2:foldH xs 0 (fun _=>true) (lkp st.h)=stFinH xs (lkp st.h):=rfl
 rw[e1,e2,← h3,← h4]at hW' hA'
 exact hQ s' a' w' (h2 (fun t p ht=>hA'.m.h t _ ht)) ⟨hW',I',lab',fz',hA'⟩
end
end Go.Sy
namespace Go.Proofs.Ytjnnmindcbgjhab
open Go Go.Sy Go.RowKit
abbrev yc_mFail (p:Pg×Ms) (fn:List UInt8) (al:Int) (kd:Int):Prop:=True
abbrev yb_mFail (p:Pg×Ms) (fn:List UInt8) (al:Int) (kd:Int):Bool:=true
abbrev yr_mFail (p:Pg×Ms) (fn:List UInt8) (al:Int) (kd:Int):SV:=.tup []
abbrev yv_mFail (p:Pg×Ms) (fn:List UInt8) (al:Int) (kd:Int):MV:=mcW p.1 (p.2.brk fn al kd)
noncomputable abbrev ya_mFail:ArgM ((Pg×Ms)×(List UInt8)×(Int)×(Int)×Unit):=(amP (mMc) (amD (cStr) (amD (cInt .i64) (amD (cInt .i64) am0))))
abbrev yq_mFail:Prop:=CallsMP Try.prog 48 ((ya_mFail).args 0) (ya_mFail).mem (fun p:(Pg×Ms)×(List UInt8)×(Int)×(Int)×Unit=>yc_mFail p.1 p.2.1 p.2.2.1 p.2.2.2.1) (fun p:(Pg×Ms)×(List UInt8)×(Int)×(Int)×Unit=>yb_mFail p.1 p.2.1 p.2.2.1 p.2.2.2.1) (fun p:(Pg×Ms)×(List UInt8)×(Int)×(Int)×Unit=>yr_mFail p.1 p.2.1 p.2.2.1 p.2.2.2.1) (fun p:(Pg×Ms)×(List UInt8)×(Int)×(Int)×Unit=>[some (yv_mFail p.1 p.2.1 p.2.2.1 p.2.2.2.1)])
theorem yl_mFail:∀p,(fun p:(Pg×Ms)×(List UInt8)×(Int)×(Int)×Unit=>yc_mFail p.1 p.2.1 p.2.2.1 p.2.2.2.1) p→((fun p:(Pg×Ms)×(List UInt8)×(Int)×(Int)×Unit=>[some (yv_mFail p.1 p.2.1 p.2.2.1 p.2.2.2.1)]) p).length=((ya_mFail).mem p).length:=by intro p _;rfl
theorem yo_mFail:∀p,(fun p:(Pg×Ms)×(List UInt8)×(Int)×(Int)×Unit=>yc_mFail p.1 p.2.1 p.2.2.1 p.2.2.2.1) p→outV ((fun p:(Pg×Ms)×(List UInt8)×(Int)×(Int)×Unit=>[some (yv_mFail p.1 p.2.1 p.2.2.1 p.2.2.2.1)]) p).length ((fun p:(Pg×Ms)×(List UInt8)×(Int)×(Int)×Unit=>yr_mFail p.1 p.2.1 p.2.2.1 p.2.2.2.1) p)=true:=by intro p _;first|rfl|exact ex_out _ _|exact cd_out _ _|(simp[outV,outC,ex_out,cd_out];done)
theorem yn_mFail:∀p,(fun p:(Pg×Ms)×(List UInt8)×(Int)×(Int)×Unit=>yc_mFail p.1 p.2.1 p.2.2.1 p.2.2.2.1) p→∀q,some q∈(fun p:(Pg×Ms)×(List UInt8)×(Int)×(Int)×Unit=>[some (yv_mFail p.1 p.2.1 p.2.2.1 p.2.2.2.1)]) p→∀r∈q.2,∀c∈r,c.names=[]:=by intro p _;exact mcW_nm _ _
attribute [local go_sem] Ms.brk Ms.exh Ms.spd mMc_d' mMc_e mMc_z mcC mcW ms_eta pg_eta pnOf_f pnOf_t wkR_me
set_option maxRecDepth 20000 in set_option maxHeartbeats 4000000 in
theorem y_mFail:yq_mFail:=by
 rintro ⟨p,fn,al,kd,_u⟩ w M I lab fz xs hc hA hl hx
 refine calls_toMP Try.func48 rfl _ w M I lab fz (yb_mFail p fn al kd) (yv_mFail p fn al kd) [] [] ((ya_mFail).args 0 ⟨p,fn,al,kd,_u⟩) (yr_mFail p fn al kd) xs hA hl hx (fun v hv k hk=>Nat.lt_of_lt_of_eq ((ya_mFail).an 0 ⟨p,fn,al,kd,_u⟩ v hv k hk).2 (Nat.zero_add _)) (Nat.le_of_ble_eq_true rfl) (yn_mFail ⟨p,fn,al,kd,_u⟩ hc _ (List.mem_singleton.2 rfl)) ?_
 clear hx hl hA xs
 simp only[Try.f48]
 obtain⟨P,m⟩:=p
 simp only[↓eB,seval,go_sem,yb_mFail,yv_mFail]
 try simp only[impB,impN]
 repeat' first|exact ck|with_reducible apply And.intro|intro _
 all_goals first|exact trivial|(rename_i h;first|exact oI h|exact nah h)|(rename_i _ h _ g;exact sL h g)|decide|omega|(refine ret_with [] ?_;simp only[↓eB,seval,go_sem,bne,yr_mFail,yb_mFail,yv_mFail,e_RESMP])
noncomputable def yp_mFail {X:Ctx} {w0:World}:Sy.Spec Try.prog X w0:=specMP 48 Try.call48 (ya_mFail) (fun p:(Pg×Ms)×(List UInt8)×(Int)×(Int)×Unit=>yc_mFail p.1 p.2.1 p.2.2.1 p.2.2.2.1) (fun p:(Pg×Ms)×(List UInt8)×(Int)×(Int)×Unit=>yb_mFail p.1 p.2.1 p.2.2.1 p.2.2.2.1) (fun p:(Pg×Ms)×(List UInt8)×(Int)×(Int)×Unit=>yr_mFail p.1 p.2.1 p.2.2.1 p.2.2.2.1) (fun p:(Pg×Ms)×(List UInt8)×(Int)×(Int)×Unit=>[some (yv_mFail p.1 p.2.1 p.2.2.1 p.2.2.2.1)]) yl_mFail yo_mFail yn_mFail y_mFail
abbrev yc_mExh (p:Pg×Ms):Prop:=True
abbrev yb_mExh (p:Pg×Ms):Bool:=true
abbrev yr_mExh (p:Pg×Ms):SV:=.tup []
abbrev yv_mExh (p:Pg×Ms):MV:=mcW p.1 p.2.exh
noncomputable abbrev ya_mExh:ArgM ((Pg×Ms)×Unit):=(amP (mMc) am0)
abbrev yq_mExh:Prop:=CallsMP Try.prog 59 ((ya_mExh).args 0) (ya_mExh).mem (fun p:(Pg×Ms)×Unit=>yc_mExh p.1) (fun p:(Pg×Ms)×Unit=>yb_mExh p.1) (fun p:(Pg×Ms)×Unit=>yr_mExh p.1) (fun p:(Pg×Ms)×Unit=>[some (yv_mExh p.1)])
theorem yl_mExh:∀p,(fun p:(Pg×Ms)×Unit=>yc_mExh p.1) p→((fun p:(Pg×Ms)×Unit=>[some (yv_mExh p.1)]) p).length=((ya_mExh).mem p).length:=by intro p _;rfl
theorem yo_mExh:∀p,(fun p:(Pg×Ms)×Unit=>yc_mExh p.1) p→outV ((fun p:(Pg×Ms)×Unit=>[some (yv_mExh p.1)]) p).length ((fun p:(Pg×Ms)×Unit=>yr_mExh p.1) p)=true:=by intro p _;first|rfl|exact ex_out _ _|exact cd_out _ _|(simp[outV,outC,ex_out,cd_out];done)
theorem yn_mExh:∀p,(fun p:(Pg×Ms)×Unit=>yc_mExh p.1) p→∀q,some q∈(fun p:(Pg×Ms)×Unit=>[some (yv_mExh p.1)]) p→∀r∈q.2,∀c∈r,c.names=[]:=by intro p _;exact mcW_nm _ _
set_option maxRecDepth 20000 in set_option maxHeartbeats 4000000 in
theorem y_mExh:yq_mExh:=by
 rintro ⟨p,_u⟩ w M I lab fz xs hc hA hl hx
 refine calls_toMP Try.func59 rfl _ w M I lab fz (yb_mExh p) (yv_mExh p) [] [] ((ya_mExh).args 0 ⟨p,_u⟩) (yr_mExh p) xs hA hl hx (fun v hv k hk=>Nat.lt_of_lt_of_eq ((ya_mExh).an 0 ⟨p,_u⟩ v hv k hk).2 (Nat.zero_add _)) (Nat.le_of_ble_eq_true rfl) (yn_mExh ⟨p,_u⟩ hc _ (List.mem_singleton.2 rfl)) ?_
 clear hx hl hA xs
 simp only[Try.f59]
 obtain⟨P,m⟩:=p
 simp only[↓eB,seval,go_sem,yb_mExh,yv_mExh]
 try simp only[impB,impN]
 repeat' first|exact ck|with_reducible apply And.intro|intro _
 all_goals first|exact trivial|(rename_i h;first|exact oI h|exact nah h)|(rename_i _ h _ g;exact sL h g)|decide|omega|(refine ret_with [] ?_;simp only[↓eB,seval,go_sem,bne,yr_mExh,yb_mExh,yv_mExh,e_RESMP])
noncomputable def yp_mExh {X:Ctx} {w0:World}:Sy.Spec Try.prog X w0:=specMP 59 Try.call59 (ya_mExh) (fun p:(Pg×Ms)×Unit=>yc_mExh p.1) (fun p:(Pg×Ms)×Unit=>yb_mExh p.1) (fun p:(Pg×Ms)×Unit=>yr_mExh p.1) (fun p:(Pg×Ms)×Unit=>[some (yv_mExh p.1)]) yl_mExh yo_mExh yn_mExh y_mExh
abbrev yc_mSpd (p:Pg×Ms):Prop:=True
abbrev yb_mSpd (p:Pg×Ms):Bool:=p.2.out
abbrev yr_mSpd (p:Pg×Ms):SV:=.tup []
abbrev yv_mSpd (p:Pg×Ms):MV:=mcW p.1 (if p.2.out=true then p.2.exh else p.2.spd)
noncomputable abbrev ya_mSpd:ArgM ((Pg×Ms)×Unit):=(amP (mMc) am0)
abbrev yq_mSpd:Prop:=CallsMP Try.prog 67 ((ya_mSpd).args 0) (ya_mSpd).mem (fun p:(Pg×Ms)×Unit=>yc_mSpd p.1) (fun p:(Pg×Ms)×Unit=>yb_mSpd p.1) (fun p:(Pg×Ms)×Unit=>yr_mSpd p.1) (fun p:(Pg×Ms)×Unit=>[some (yv_mSpd p.1)])
theorem yl_mSpd:∀p,(fun p:(Pg×Ms)×Unit=>yc_mSpd p.1) p→((fun p:(Pg×Ms)×Unit=>[some (yv_mSpd p.1)]) p).length=((ya_mSpd).mem p).length:=by intro p _;rfl
theorem yo_mSpd:∀p,(fun p:(Pg×Ms)×Unit=>yc_mSpd p.1) p→outV ((fun p:(Pg×Ms)×Unit=>[some (yv_mSpd p.1)]) p).length ((fun p:(Pg×Ms)×Unit=>yr_mSpd p.1) p)=true:=by intro p _;first|rfl|exact ex_out _ _|exact cd_out _ _|(simp[outV,outC,ex_out,cd_out];done)
theorem yn_mSpd:∀p,(fun p:(Pg×Ms)×Unit=>yc_mSpd p.1) p→∀q,some q∈(fun p:(Pg×Ms)×Unit=>[some (yv_mSpd p.1)]) p→∀r∈q.2,∀c∈r,c.names=[]:=by intro p _;exact mcW_nm _ _
set_option maxRecDepth 20000 in set_option maxHeartbeats 4000000 in
theorem y_mSpd:yq_mSpd:=by
 rintro ⟨p,_u⟩ w M I lab fz xs hc hA hl hx
 refine calls_toMP Try.func67 rfl _ w M I lab fz (yb_mSpd p) (yv_mSpd p) [yp_mExh] [] ((ya_mSpd).args 0 ⟨p,_u⟩) (yr_mSpd p) xs hA hl hx (fun v hv k hk=>Nat.lt_of_lt_of_eq ((ya_mSpd).an 0 ⟨p,_u⟩ v hv k hk).2 (Nat.zero_add _)) (Nat.le_of_ble_eq_true rfl) (yn_mSpd ⟨p,_u⟩ hc _ (List.mem_singleton.2 rfl)) ?_
 clear hx hl hA xs
 simp only[Try.f67]
 obtain⟨P,m⟩:=p
 cases ho:m.out with
 |true=>
  have h1:decide (m.fuel<1)=true:=ho
  simp only[↓eB,seval,go_sem,yp_mExh,yb_mExh,yv_mExh,yb_mSpd,yv_mSpd,ho,h1]
  try simp only[impB,impN]
  repeat' first|exact ck|with_reducible apply And.intro|intro _
  all_goals first|exact trivial|(rename_i h;first|exact oI h|exact nah h)|(rename_i _ h _ g;exact sL h g)|decide|omega|(refine ret_with [] ?_;simp only[↓eB,seval,go_sem,bne,yr_mSpd,yb_mSpd,yv_mSpd,e_RESMP,ho])
 |false=>
  have h1:decide (m.fuel<1)=false:=ho
  simp only[↓eB,seval,go_sem,yp_mExh,yb_mExh,yv_mExh,yb_mSpd,yv_mSpd,ho,h1]
  try simp only[impB,impN]
  repeat' first|exact ck|with_reducible apply And.intro|intro _
  all_goals first|exact trivial|(rename_i h;first|exact oI h|exact nah h)|(rename_i _ h _ g;exact sL h g)|decide|omega|(refine ret_with [] ?_;simp only[↓eB,seval,go_sem,bne,yr_mSpd,yb_mSpd,yv_mSpd,e_RESMP,ho])
noncomputable def yp_mSpd {X:Ctx} {w0:World}:Sy.Spec Try.prog X w0:=specMP 67 Try.call67 (ya_mSpd) (fun p:(Pg×Ms)×Unit=>yc_mSpd p.1) (fun p:(Pg×Ms)×Unit=>yb_mSpd p.1) (fun p:(Pg×Ms)×Unit=>yr_mSpd p.1) (fun p:(Pg×Ms)×Unit=>[some (yv_mSpd p.1)]) yl_mSpd yo_mSpd yn_mSpd y_mSpd
end Go.Proofs.Ytjnnmindcbgjhab
