/- ParseOrder, walked. No conditions but those in each statement. -/
import Derived.Test.YtodppgiaimihfabDoorPz4
set_option linter.unusedVariables false
set_option linter.unusedSimpArgs false
namespace Go.Proofs.YtodppgiaimihfabDoor
open Go Go.Sy Go.RowKit
theorem take_s {l:List Int} {z:Nat} {x:Int} (h:l[z]?=some x):l.take (z+1)=l.take z++[x]:=by
 obtain⟨h1,h2⟩:=List.getElem?_eq_some_iff.1 h
 rw[List.take_succ_eq_append_getElem h1,h2]
theorem nil_x {e:Ex} (h:okX e):e.isNil=false:=by
 cases e with
 |nil=>exact h.elim
 |mk=>rfl
theorem cl_x {e:Ex} (h:okX e):clC (exC e)=none:=by
 cases e with
 |nil=>exact h.elim
 |mk=>rfl
theorem pcs_s {l:List Int} {z:Nat} {x:Int} (h:l[z]?=some x):pcs 0 (l.take (z+1))=pcs 0 (l.take z)++[32]++sgn x++[32]++[dgt z]:=by
 obtain⟨h1,_⟩:=List.getElem?_eq_some_iff.1 h
 rw[take_s h,pcs_app,List.length_take,Nat.min_eq_left (by omega),Nat.zero_add]
 unfold pc
 simp
abbrev yc_ParseOrder (l:List Int):Prop:=l.length≤maxLen∧∀x∈l,0≤x∧x<256
abbrev yr_ParseOrder (l:List Int):SV:=.one (.v (.bool true))
noncomputable abbrev ya_ParseOrder:ArgC ((List Int)×Unit):=(acS (cBy) ac0)
abbrev yq_ParseOrder:Prop:=CallsY Tryd.prog 5 ya_ParseOrder (fun p:(List Int)×Unit=>yc_ParseOrder p.1) (fun p:(List Int)×Unit=>yr_ParseOrder p.1)
attribute [local go_sem] Fn.c Sm.r byD by_at cBy_d cBy_e cEx_d cEx_e cEx_n opT_at zBy
set_option maxRecDepth 20000 in set_option maxHeartbeats 8000000 in
theorem y_ParseOrder:yq_ParseOrder:=by
 rintro ⟨l,_u⟩ w fz xs hc hfz hl hx
 refine calls_toL Tryd.func5 rfl w fz [yp_known7,yp_qFunc,(yg_whole ((poC l).v.dp+1) (y_whole _)),yp_spelt] [] ya_ParseOrder (fun p:(List Int)×Unit=>yr_ParseOrder p.1) _ xs hfz hl hx (Nat.le_of_ble_eq_true rfl) ?_
 clear hx hl hfz xs
 simp only[Tryd.f5]
 obtain⟨hml,hby⟩:=hc
 dsimp only at hml hby
 cases c1:decide ((12:Int)<(l.length:Int)) with
 |true=>
  simp only[↓eB,seval,go_sem,List.length_append,yp_known7,yr_known7,yp_qFunc,yg_whole,yp_spelt,yr_spelt,c1]
  try simp only[impB,impN]
  repeat' first|exact ck|with_reducible apply And.intro|intro _
  all_goals first|exact trivial|(rename_i h;first|exact oI h|exact nah h)|(rename_i _ h _ g;exact sL h g)|decide|omega|(refine ret_with [] ?_;simp only[↓eB,seval,go_sem,bne,yr_ParseOrder])
 |false=>
 have hl12:l.length≤12:=by have:=of_decide_eq_false c1;omega
 have hx0:∀x∈l,0≤x:=fun x hx=>(hby x hx).1
 have hF:=po_fun hx0 hl12
 have hok:=poC_ok hx0 hl12
 have hW:=po_sp hx0 hl12
 have hN:=nil_x hok.2.2.2
 have hC:=cl_x hok.2.2.2
 have hWl:(wh (poC l).v).length≤1000:=by
  rw[← hW]
  refine Nat.le_trans (sp_len l 0 [] [] [49]) ?_
  simp only[List.length_cons,List.length_nil];omega
 have q1:yc_whole ((poC l).v.dp+1) (poC l).v:=⟨Nat.lt_succ_self _,hok.2.2.2,hWl⟩
 have q2:yc_spelt l:=⟨hl12,hby⟩
 have pl:=pcs_len l 0
 have hs:smallB (poT l):=by unfold smallB poT;simp only[List.length_append,List.length_cons,List.length_nil,pl];omega
 have hT:102::110::32::102::40::41::32::123::32::114::101::116::117::114::110::32::(49::(pcs 0 l++[59,32,125]))=poT l:=rfl
 have hT2:102::110::32::102::40::41::32::123::32::114::101::116::117::114::110::32::49::(pcs 0 l++[59,32,125])=poT l:=rfl
 simp only[↓eB,seval,go_sem,List.length_append,yp_known7,yr_known7,yp_qFunc,yg_whole,yp_spelt,yr_spelt,c1]
 refine loop_ok (Y:=Nat) (fun z=>z≤l.length)
  (fun z=>⟨[(0,true,.one (.d (.sl zBy (l.map byD)))),(3,true,.one (.v (.string (bs (49::pcs 0 (l.take z)))))),(4,true,.one (.v (.int .i64 (z:Int))))],[]⟩)
  (fun z=>l.length-z) 0 (Nat.zero_le _) ?_ ?_
 ·refine to_with [] ?_;simp only[↓eB,seval,go_sem,List.length_append,pcs]
 ·rintro z hz
  refine vc_ok [yp_known7,yp_qFunc,yg_whole ((poC l).v.dp+1) (y_whole _),yp_spelt] [] _ _ _ ?_
  have w1:IntKind.i64.wrap ((z:Int)+1)=((z+1:Nat):Int):=by rw[wrap_i64 (by omega) (by omega)];rfl
  cases hx:l[z]? with
  |none=>
   have h2:=List.getElem?_eq_none_iff.1 hx
   have h1:=natI_ge h2
   have ht:l.take z=l:=List.take_of_length_le h2
   simp only[↓eB,seval,go_sem,List.length_append,yp_known7,yr_known7,yp_qFunc,yg_whole,yp_spelt,yr_spelt,h1,ht,hT,hT2,hF,hN,hC,hW,beq_self_eq_true]
   try simp only[impB,impN]
   repeat' first|exact ck|with_reducible apply And.intro|intro _
   all_goals first|exact hs|exact q1|exact q2|exact hok.2.2.2|(exact(hby _ (by assumption)).1)|(exact(hby _ (by assumption)).2)|(rename_i h;first|exact oI h|exact nah h)|(rename_i _ h _ g;exact sL h g)|decide|omega|(refine ret_with [] ?_;simp only[↓eB,seval,go_sem,bne,yr_ParseOrder])
  |some x=>
   have hlt:=(List.getElem?_eq_some_iff.1 hx).1
   have h1:=natI_lt hlt
   have h2:=nth_x hx
   have hx1:=hby x (List.mem_of_getElem? hx)
   have m1:(z:Int).tmod 14=(z:Int):=Int.tmod_eq_of_lt (by omega) (by omega)
   have t1:0≤x.tmod 5:=Int.tmod_nonneg 5 hx1.1
   have t2:x.tmod 5<5:=Int.tmod_lt_of_pos _ (by decide)
   have d4:=dg_at z (by omega)
   unfold dgS at d4
   have sl:=sgn_len x
   have o1:=op_sgn hx1.1
   have e1:=pcs_s hx
   have pz:=pcs_len (l.take z) 0
   rw[List.length_take,Nat.min_eq_left hz]at pz
   simp only[↓eB,seval,go_sem,List.length_append,yp_known7,yr_known7,yp_qFunc,yg_whole,yp_spelt,yr_spelt,h1,h2,w1,m1,o1,d4]
   try simp only[impB,impN]
   repeat' (first|exact ck|with_reducible apply And.intro)
   all_goals try first|exact hlt|decide|omega
   refine⟨z+1,hlt,by omega,to_with [] ?_⟩
   simp only[↓eB,seval,go_sem,List.length_append,e1]
end Go.Proofs.YtodppgiaimihfabDoor
