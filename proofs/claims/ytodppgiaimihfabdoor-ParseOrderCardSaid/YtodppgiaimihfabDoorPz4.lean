/- A sum with all its parentheses, as told and as spelt from its signs. No conditions but those in each statement. -/
import Derived.Test.YtodppgiaimihfabDoorPz1
import Derived.Test.YtodppgiaimihfabDoorPy1
set_option linter.unusedVariables false
set_option linter.unusedSimpArgs false
namespace Go.Proofs.YtodppgiaimihfabDoor
open Go Go.Sy Go.RowKit
def byD (x:Int):List D:=[.v (.int .u8 x)]
def zBy:List D:=[.v (.int .u8 0)]
theorem by_inj (a b:Int) (h:byD a=byD b):a=b:=by simpa [byD] using h
theorem by_at (l:List Int) (i:Nat):(l.map byD).getD i [.v (.int .u8 0)]=byD (l.getD i 0):=by
 simp only[List.getD,List.getElem?_map]
 cases l[i]?<;>rfl
theorem by_dd {c:C} {z z':List D} {es es':List (List D)} (h:leC c (.d (.sl z es))) (h':leC c (.d (.sl z' es'))):es=es':=leC_d h h'
noncomputable def cBy:Cod (List Int):=codOf (fun l=>.one (.d (.sl zBy (l.map byD)))) (fun v a b h h'=>by
 cases v with
 |one c=>exact map_inj by_inj (by_dd h h')
 |agg l=>exact h.elim
 |tup l=>exact h.elim) (fun l=>rfl)
theorem cBy_e (l:List Int):cBy.e l= .one (.d (.sl zBy (l.map byD))):=rfl
theorem cBy_d (l:List Int):cBy.d (.one (.d (.sl [.v (.int .u8 0)] (l.map byD))))=some l:=codOf_le (e:=fun l:List Int=>.one (.d (.sl zBy (l.map byD)))) (leV_refl _)
theorem tb_at (l:List (List UInt8)) (i:Nat):(l.map cS).getD i [.v (.string (bs []))]=cS (l.getD i []):=by
 simp only[List.getD,List.getElem?_map]
 cases l[i]?<;>rfl
def opT:List (List UInt8):=[[43],[45],[42],[47],[37]]
theorem opT_at (i:Nat):([[.v (.string (bs [43]))],[.v (.string (bs [45]))],[.v (.string (bs [42]))],[.v (.string (bs [47]))],[.v (.string (bs [37]))]]:List (List C)).getD i [.v (.string (bs []))]=[.v (.string (bs (opT.getD i [])))]:=tb_at opT i
def op2:List (List UInt8):=[[43],[45]]
theorem op2_at (i:Nat):([[.v (.string (bs [43]))],[.v (.string (bs [45]))]]:List (List C)).getD i [.v (.string (bs []))]=[.v (.string (bs (op2.getD i [])))]:=tb_at op2 i
theorem op_sgn {x:Int} (h:0≤x):opT.getD (x.tmod 5).toNat []=sgn x:=by
 unfold sgn
 rcases md5 h with e|e|e|e|e<;>rw[e]<;>rfl
theorem op_sg2 {x:Int} (h:0≤x) (h2:¬2≤x.tmod 5):op2.getD (x.tmod 5).toNat []=sgn x:=by
 unfold sgn
 rcases md5 h with e|e|e|e|e<;>rw[e]at h2 ⊢<;>first|rfl|exact absurd (by decide) h2
theorem op_k {k:Int} (h:2≤k) (h2:k≤6):opT.getD ((k-2).tmod 5).toNat []=opK k:=by
 obtain rfl|rfl|rfl|rfl|rfl:k=2∨k=3∨k=4∨k=5∨k=6:=by omega
 all_goals rfl
theorem ten1:∀n,n<10→(([48,49,50,51,52,53,54,55,56,57]:List UInt8).drop n).take (n+1-n)=[UInt8.ofNat (48+n)]:=by decide
abbrev yc_D1 (n:Int):Prop:=0≤n∧n<10
abbrev yr_D1 (n:Int):SV:=.one (.v (.string (bs [UInt8.ofNat (48+n.toNat)])))
noncomputable abbrev ya_D1:ArgC ((Int)×Unit):=(acS (cInt .i64) ac0)
abbrev yq_D1:Prop:=CallsY Tryd.prog 19 ya_D1 (fun p:(Int)×Unit=>yc_D1 p.1) (fun p:(Int)×Unit=>yr_D1 p.1)
theorem yn_D1:∀p:(Int)×Unit,((fun p:(Int)×Unit=>yr_D1 p.1) p).names=[]:=by intro p;first|rfl|exact ex_names _|exact cd_names _
theorem y_D1:yq_D1:=by
 rintro ⟨n,_u⟩ w fz xs hc hfz hl hx
 refine calls_toL Tryd.func19 rfl w fz [] [] ya_D1 (fun p:(Int)×Unit=>yr_D1 p.1) _ xs hfz hl hx (Nat.le_of_ble_eq_true rfl) ?_
 clear hx hl hfz xs
 simp only[Tryd.f19]
 obtain⟨h1,h2⟩:=hc
 dsimp only at h1 h2
 obtain⟨m,rfl⟩:∃m:Nat,n=(m:Int):=⟨n.toNat,by omega⟩
 have h9:m<10:=by omega
 have d1:decide ((m:Int)<0)=false:=by simp
 have d2:decide ((m:Int)<10)=true:=by simp;omega
 have d3:IntKind.i64.wrap ((m:Int)+1)=((m+1:Nat):Int):=by rw[wrap_i64 (by omega) (by omega)];rfl
 have d4:=ten1 m h9
 have e0:(m:Int).toNat=m:=Int.toNat_natCast m
 simp only[↓eB,seval,go_sem,d1,d2,d3,d4,e0]
 try simp only[impB,impN]
 repeat' first|exact ck|with_reducible apply And.intro|intro _
 all_goals first|exact trivial|(rename_i h;first|exact oI h|exact nah h)|(rename_i _ h _ g;exact sL h g)|decide|omega|(refine ret_with [] ?_;simp only[↓eB,seval,go_sem,bne,yr_D1,d4,e0])
noncomputable def yp_D1 {X:Ctx} {w0:World}:Sy.Spec Tryd.prog X w0:=specD 19 Tryd.call19 ya_D1 (fun p:(Int)×Unit=>yc_D1 p.1) (fun p:(Int)×Unit=>yr_D1 p.1) yn_D1 y_D1
theorem wh_mk (k n:Int) (s:List UInt8) (a b:Ex) (h:2≤k):wh (.mk k n s a b)=[40]++wh a++opK k++wh b++[41]:=by
 show (if (k==0)=true then _ else if (k==1)=true then _ else _)=_
 rw[if_neg (by simp;omega),if_neg (by simp;omega)]
theorem opK_len (k:Int):(opK k).length=1:=by
 unfold opK
 repeat' split
 all_goals rfl
abbrev yc_whole (m:Nat) (e:Ex):Prop:=e.dp<m∧okX e∧(wh e).length≤1000
abbrev yr_whole (m:Nat) (e:Ex):SV:=.one (.v (.string (bs (wh e))))
noncomputable abbrev ya_whole:ArgC ((Ex)×Unit):=(acS (cEx) ac0)
abbrev yq_whole (m:Nat):Prop:=CallsY Tryd.prog 10 ya_whole (fun p:(Ex)×Unit=>yc_whole m p.1) (fun p:(Ex)×Unit=>yr_whole m p.1)
theorem yn_whole (m:Nat):∀p:(Ex)×Unit,((fun p:(Ex)×Unit=>yr_whole m p.1) p).names=[]:=by intro p;first|rfl|exact ex_names _|exact cd_names _
noncomputable def yg_whole {X:Ctx} {w0:World} (m:Nat) (h:yq_whole m):Sy.Spec Tryd.prog X w0:=specD 10 Tryd.call10 ya_whole (fun p:(Ex)×Unit=>yc_whole m p.1) (fun p:(Ex)×Unit=>yr_whole m p.1) (yn_whole m) h
set_option maxRecDepth 20000 in set_option maxHeartbeats 8000000 in
theorem y_wholeS (m:Nat) (hE:yq_whole m):yq_whole (m+1):=by
 rintro ⟨e,_u⟩ w fz xs hc hfz hl hx
 refine calls_toL Tryd.func10 rfl w fz [yp_D1,(yg_whole m hE)] [] ya_whole (fun p:(Ex)×Unit=>yr_whole (m+1) p.1) _ xs hfz hl hx (Nat.le_of_ble_eq_true rfl) ?_
 clear hx hl hfz xs
 simp only[Tryd.f10]
 obtain⟨h1,h2,h3⟩:=hc
 dsimp only at h1 h2 h3
 cases e with
 |nil=>exact h2.elim
 |mk k n s a b=>
  simp only[Ex.dp]at h1
  rcases h2 with⟨rfl,h4,h5⟩|rfl|⟨h4,h5,h6,h7⟩
  ·have e1:wh (.mk 0 n s a b)=[UInt8.ofNat (48+n.toNat)]:=rfl
   simp only[↓eB,seval,go_sem,cEx_e,cEx_d,cEx_n,ex_mk,ex_nil,by_at,byD,zBy,cBy_e,cBy_d,opT_at,op2_at,List.length_append,yp_D1,yr_D1,yg_whole]
   try simp only[impB,impN]
   repeat' first|exact ck|with_reducible apply And.intro|intro _
   all_goals first|exact h4|exact h5|(rename_i h;first|exact oI h|exact nah h)|(rename_i _ h _ g;exact sL h g)|decide|omega|(refine ret_with [] ?_;simp only[↓eB,seval,go_sem,bne,yr_whole,e1])
  ·have e1:wh (.mk 1 n s a b)=s:=rfl
   simp only[↓eB,seval,go_sem,cEx_e,cEx_d,cEx_n,ex_mk,ex_nil,by_at,byD,zBy,cBy_e,cBy_d,opT_at,op2_at,List.length_append,yp_D1,yr_D1,yg_whole]
   try simp only[impB,impN]
   repeat' first|exact ck|with_reducible apply And.intro|intro _
   all_goals first|exact trivial|(rename_i h;first|exact oI h|exact nah h)|(rename_i _ h _ g;exact sL h g)|decide|omega|(refine ret_with [] ?_;simp only[↓eB,seval,go_sem,bne,yr_whole,e1])
  ·have d1:a.dp<m:=by omega
   have d2:b.dp<m:=by omega
   have e1:=wh_mk k n s a b h4
   have e2:wh (.mk k n s a b)=40::(wh a++opK k++wh b++[41]):=by rw[e1];simp
   have h8:=h3
   rw[e1]at h8
   have h8:1+(wh a).length+1+(wh b).length+1≤1000:=by simpa only[List.length_append,List.length_cons,List.length_nil,opK_len] using h8
   have k0:(k==0)=false:=by simp;omega
   have k1:(k==1)=false:=by simp;omega
   have w1:IntKind.i64.wrap (k-2)=k-2:=wrap_i64 (by omega) (by omega)
   have o1:=op_k h4 h5
   have o2:=opK_len k
   have q1:yc_whole m a:=⟨d1,h6,by omega⟩
   have q2:yc_whole m b:=⟨d2,h7,by omega⟩
   have t1:0≤(k-2).tmod 5:=Int.tmod_nonneg 5 (by omega)
   have t2:(k-2).tmod 5<5:=Int.tmod_lt_of_pos _ (by decide)
   simp only[↓eB,seval,go_sem,cEx_e,cEx_d,cEx_n,ex_mk,ex_nil,by_at,byD,zBy,cBy_e,cBy_d,opT_at,op2_at,List.length_append,yp_D1,yr_D1,yg_whole,k0,k1,w1,o1]
   try simp only[impB,impN]
   repeat' first|exact ck|with_reducible apply And.intro|intro _
   all_goals first|exact q1|exact q2|(rename_i h;first|exact oI h|exact nah h)|(rename_i _ h _ g;exact sL h g)|decide|omega|(refine ret_with [] ?_;simp only[↓eB,seval,go_sem,bne,yr_whole,e2])
theorem y_whole:∀m:Nat,yq_whole m
 |0=>by
  rintro ⟨e,_u⟩ w fz xs hc hfz hl hx
  exact absurd hc.1 (Nat.not_lt_zero _)
 |m+1=>y_wholeS m (y_whole m)
theorem nth_x {l:List Int} {z:Nat} {x:Int} (h:l[z]?=some x):(l.map byD).getD z [.v (.int .u8 0)]=[.v (.int .u8 x)]:=by simp[List.getD,h,byD]
theorem drop_x {l:List Int} {z:Nat} {x:Int} (h:l[z]?=some x):l.drop z=x::l.drop (z+1):=by
 obtain⟨h1,h2⟩:=List.getElem?_eq_some_iff.1 h
 rw[List.drop_eq_getElem_cons h1,h2]
theorem jn_t {a b c:List UInt8} (h:(b==[])=true):jnS a b c=c:=by unfold jnS;rw[if_pos h]
theorem jn_f {a b c:List UInt8} (h:(b==[])=false):jnS a b c=40::(a++b++c++[41]):=by unfold jnS;rw[if_neg (by rw[h];decide)];simp
abbrev yc_spelt (l:List Int):Prop:=l.length≤12∧∀x∈l,0≤x∧x<256
abbrev yr_spelt (l:List Int):SV:=.one (.v (.string (bs (spS 0 l [] [] [49]))))
noncomputable abbrev ya_spelt:ArgC ((List Int)×Unit):=(acS (cBy) ac0)
abbrev yq_spelt:Prop:=CallsY Tryd.prog 11 ya_spelt (fun p:(List Int)×Unit=>yc_spelt p.1) (fun p:(List Int)×Unit=>yr_spelt p.1)
theorem yn_spelt:∀p:(List Int)×Unit,((fun p:(List Int)×Unit=>yr_spelt p.1) p).names=[]:=by intro p;first|rfl|exact ex_names _|exact cd_names _
set_option maxRecDepth 20000 in set_option maxHeartbeats 8000000 in
theorem y_spelt:yq_spelt:=by
 rintro ⟨l,_u⟩ w fz xs hc hfz hl hx
 refine calls_toL Tryd.func11 rfl w fz [] [] ya_spelt (fun p:(List Int)×Unit=>yr_spelt p.1) _ xs hfz hl hx (Nat.le_of_ble_eq_true rfl) ?_
 clear hx hl hfz xs
 simp only[Tryd.f11]
 obtain⟨hl12,hby⟩:=hc
 dsimp only at hl12 hby
 obtain⟨R,hR⟩:∃R,spS 0 l [] [] [49]=R:=⟨_,rfl⟩
 simp only[↓eB,seval,go_sem,cEx_e,cEx_d,cEx_n,ex_mk,ex_nil,by_at,byD,zBy,cBy_e,cBy_d,opT_at,op2_at,List.length_append]
 refine loop_ok (Y:=Nat×List UInt8×List UInt8×List UInt8) (fun y=>(y.1≤l.length∧spS y.1 (l.drop y.1) y.2.1 y.2.2.1 y.2.2.2=R∧y.2.1.length+y.2.2.1.length+y.2.2.2.length≤1+6*y.1)∨(y.1=l.length+1∧y.2.1=R))
  (fun y=>⟨[(0,true,.one (.d (.sl zBy (l.map byD)))),(3,true,.one (.v (.string (bs y.2.1)))),(4,true,.one (.v (.string (bs y.2.2.2)))),(5,true,.one (.v (.string (bs y.2.2.1)))),(6,true,.one (.v (.int .i64 (y.1:Int))))],[]⟩)
  (fun y=>l.length+1-y.1) (0,[],[],[49]) (.inl ⟨Nat.zero_le _,hR,by decide⟩) ?_ ?_
 ·refine to_with [] ?_;simp only[↓eB,seval,go_sem,cEx_e,cEx_d,cEx_n,ex_mk,ex_nil,by_at,byD,zBy,cBy_e,cBy_d,opT_at,op2_at,List.length_append]
 ·rintro ⟨z,out,sign,term⟩ hJ
  refine vc_ok [] [] _ _ _ ?_
  dsimp only at hJ
  rcases hJ with⟨hz,hS,hB⟩|⟨rfl,rfl⟩
  ·have w1:IntKind.i64.wrap ((z:Int)+1)=((z+1:Nat):Int):=by rw[wrap_i64 (by omega) (by omega)];rfl
   have c0:decide ((z:Int)≤(l.length:Int))=true:=by rw[decide_eq_true_eq];omega
   have hj:=jnS_len out sign term
   cases hx:l[z]? with
   |none=>
    have h2:=List.getElem?_eq_none_iff.1 hx
    have ez:z=l.length:=by omega
    have c1:decide ((z:Int)<(l.length:Int))=false:=by rw[decide_eq_false_iff_not];omega
    rw[List.drop_eq_nil_of_le h2]at hS
    have hS:jnS out sign term=R:=hS
    cases hs:(sign==[]) with
    |true=>
     rw[jn_t hs]at hS
     simp only[↓eB,seval,go_sem,cEx_e,cEx_d,cEx_n,ex_mk,ex_nil,by_at,byD,zBy,cBy_e,cBy_d,opT_at,op2_at,List.length_append,w1,c0,c1,hs]
     try simp only[impB,impN]
     repeat' (first|exact ck|with_reducible apply And.intro)
     all_goals try first|decide|omega
     refine⟨(z+1,term,sign,term),.inr ⟨by simp[ez],hS⟩,by dsimp only;omega,to_with [] ?_⟩
     simp only[↓eB,seval,go_sem,cEx_e,cEx_d,cEx_n,ex_mk,ex_nil,by_at,byD,zBy,cBy_e,cBy_d,opT_at,op2_at,List.length_append]
    |false=>
     rw[jn_f hs]at hS
     simp only[↓eB,seval,go_sem,cEx_e,cEx_d,cEx_n,ex_mk,ex_nil,by_at,byD,zBy,cBy_e,cBy_d,opT_at,op2_at,List.length_append,w1,c0,c1,hs]
     try simp only[impB,impN]
     repeat' (first|exact ck|with_reducible apply And.intro)
     all_goals try first|decide|omega
     refine⟨(z+1,40::(out++sign++term++[41]),sign,term),.inr ⟨by simp[ez],hS⟩,by dsimp only;omega,to_with [] ?_⟩
     simp only[↓eB,seval,go_sem,cEx_e,cEx_d,cEx_n,ex_mk,ex_nil,by_at,byD,zBy,cBy_e,cBy_d,opT_at,op2_at,List.length_append]
   |some x=>
    have hlt:=(List.getElem?_eq_some_iff.1 hx).1
    have h1:=natI_lt hlt
    have h2:=nth_x hx
    have hx0:=hby x (List.mem_of_getElem? hx)
    have m1:(z:Int).tmod 14=(z:Int):=Int.tmod_eq_of_lt (by omega) (by omega)
    have t1:0≤x.tmod 5:=Int.tmod_nonneg 5 hx0.1
    have t2:x.tmod 5<5:=Int.tmod_lt_of_pos _ (by decide)
    have d4:=dg_at z (by omega)
    unfold dgS at d4
    have sl:=sgn_len x
    rw[drop_x hx]at hS
    have hS:(if decide (2≤x.tmod 5)=true then spS (z+1) (l.drop (z+1)) out sign ([40]++term++sgn x++[dgt z]++[41]) else spS (z+1) (l.drop (z+1)) (jnS out sign term) (sgn x) [dgt z])=R:=hS
    cases hq:decide (2≤x.tmod 5) with
    |true=>
     rw[hq,if_pos rfl]at hS
     have o1:=op_sgn hx0.1
     have hS2:spS (z+1) (l.drop (z+1)) out sign (40::(term++sgn x++[dgt z]++[41]))=R:=by rw[← hS];simp
     simp only[↓eB,seval,go_sem,cEx_e,cEx_d,cEx_n,ex_mk,ex_nil,by_at,byD,zBy,cBy_e,cBy_d,opT_at,op2_at,List.length_append,w1,c0,h1,h2,hq,m1,o1,d4]
     try simp only[impB,impN]
     repeat' (first|exact ck|with_reducible apply And.intro)
     all_goals try first|exact hlt|decide|omega
     refine⟨(z+1,out,sign,40::(term++sgn x++[dgt z]++[41])),.inl ⟨hlt,hS2,by simp only[List.length_append,List.length_cons,List.length_nil,sl];omega⟩,by dsimp only;omega,to_with [] ?_⟩
     simp only[↓eB,seval,go_sem,cEx_e,cEx_d,cEx_n,ex_mk,ex_nil,by_at,byD,zBy,cBy_e,cBy_d,opT_at,op2_at,List.length_append]
    |false=>
     rw[hq,if_neg (by decide)]at hS
     have o1:=op_sg2 hx0.1 (of_decide_eq_false hq)
     have t3:x.tmod 5<2:=by have:=of_decide_eq_false hq;omega
     cases hs:(sign==[]) with
     |true=>
      rw[jn_t hs]at hS hj
      simp only[↓eB,seval,go_sem,cEx_e,cEx_d,cEx_n,ex_mk,ex_nil,by_at,byD,zBy,cBy_e,cBy_d,opT_at,op2_at,List.length_append,w1,c0,h1,h2,hq,m1,o1,d4,hs]
      try simp only[impB,impN]
      repeat' (first|exact ck|with_reducible apply And.intro)
      all_goals try first|exact hlt|decide|omega
      refine⟨(z+1,term,sgn x,[dgt z]),.inl ⟨hlt,hS,by simp only[List.length_cons,List.length_nil,sl];omega⟩,by dsimp only;omega,to_with [] ?_⟩
      simp only[↓eB,seval,go_sem,cEx_e,cEx_d,cEx_n,ex_mk,ex_nil,by_at,byD,zBy,cBy_e,cBy_d,opT_at,op2_at,List.length_append]
     |false=>
      rw[jn_f hs]at hS hj
      simp only[↓eB,seval,go_sem,cEx_e,cEx_d,cEx_n,ex_mk,ex_nil,by_at,byD,zBy,cBy_e,cBy_d,opT_at,op2_at,List.length_append,w1,c0,h1,h2,hq,m1,o1,d4,hs]
      try simp only[impB,impN]
      repeat' (first|exact ck|with_reducible apply And.intro)
      all_goals try first|exact hlt|decide|omega
      refine⟨(z+1,40::(out++sign++term++[41]),sgn x,[dgt z]),.inl ⟨hlt,hS,by simp only[List.length_append,List.length_cons,List.length_nil,sl]at hj ⊢;omega⟩,by dsimp only;omega,to_with [] ?_⟩
      simp only[↓eB,seval,go_sem,cEx_e,cEx_d,cEx_n,ex_mk,ex_nil,by_at,byD,zBy,cBy_e,cBy_d,opT_at,op2_at,List.length_append]
  ·have c0:decide (((l.length+1:Nat):Int)≤(l.length:Int))=false:=by rw[decide_eq_false_iff_not];omega
   simp only[↓eB,seval,go_sem,cEx_e,cEx_d,cEx_n,ex_mk,ex_nil,by_at,byD,zBy,cBy_e,cBy_d,opT_at,op2_at,List.length_append,c0]
   try simp only[impB,impN]
   repeat' first|exact ck|with_reducible apply And.intro|intro _
   all_goals first|exact trivial|(rename_i h;first|exact oI h|exact nah h)|(rename_i _ h _ g;exact sL h g)|decide|omega|(refine ret_with [] ?_;simp only[↓eB,seval,go_sem,bne,yr_spelt,hR])
noncomputable def yp_spelt {X:Ctx} {w0:World}:Sy.Spec Tryd.prog X w0:=specD 11 Tryd.call11 ya_spelt (fun p:(List Int)×Unit=>yc_spelt p.1) (fun p:(List Int)×Unit=>yr_spelt p.1) yn_spelt y_spelt
end Go.Proofs.YtodppgiaimihfabDoor
