/- Trees that are the same are told to be the same. No conditions but those in each statement. -/
import Derived.Test.YtlaggppdgoknjaaGreatDoorAt
import Derived.Test.YtlaggppdgoknjaaGreatDoorGs
set_option linter.unusedVariables false
set_option linter.unusedSimpArgs false
namespace Go.Proofs.YtlaggppdgoknjaaGreatDoor
open Go Go.Sy Go.RowKit
theorem smr_ac {l:List Sm} {i:Nat} {x:Sm} (h:l[i]?=some x) (z:List D):(l.map Sm.r).getD i z=x.r:=by simp[List.getD,h]
abbrev yc_eqE (n:Nat) (a:Ex) (b:Ex):Prop:=a=b∧a.dp<n
abbrev yr_eqE (n:Nat) (a:Ex) (b:Ex):SV:=.one (.v (.bool true))
noncomputable abbrev ya_eqE:ArgC ((Ex)×(Ex)×Unit):=(acS (cEx) (acS (cEx) ac0))
abbrev yq_eqE (n:Nat):Prop:=CallsY Tryz.prog 66 ya_eqE (fun p:(Ex)×(Ex)×Unit=>yc_eqE n p.1 p.2.1) (fun p:(Ex)×(Ex)×Unit=>yr_eqE n p.1 p.2.1)
theorem yn_eqE (n:Nat):∀p:(Ex)×(Ex)×Unit,((fun p:(Ex)×(Ex)×Unit=>yr_eqE n p.1 p.2.1) p).names=[]:=by intro p;first|rfl|exact ex_names _|exact cd_names _
noncomputable def yg_eqE {X:Ctx} {w0:World} (n:Nat) (h:yq_eqE n):Sy.Spec Tryz.prog X w0:=specD 66 Tryz.call66 ya_eqE (fun p:(Ex)×(Ex)×Unit=>yc_eqE n p.1 p.2.1) (fun p:(Ex)×(Ex)×Unit=>yr_eqE n p.1 p.2.1) (yn_eqE n) h
abbrev yc_eqC (n:Nat) (a:Cd) (b:Cd):Prop:=a=b∧a.dp<n
abbrev yr_eqC (n:Nat) (a:Cd) (b:Cd):SV:=.one (.v (.bool true))
noncomputable abbrev ya_eqC:ArgC ((Cd)×(Cd)×Unit):=(acS (cCd) (acS (cCd) ac0))
abbrev yq_eqC (n:Nat):Prop:=CallsY Tryz.prog 67 ya_eqC (fun p:(Cd)×(Cd)×Unit=>yc_eqC n p.1 p.2.1) (fun p:(Cd)×(Cd)×Unit=>yr_eqC n p.1 p.2.1)
theorem yn_eqC (n:Nat):∀p:(Cd)×(Cd)×Unit,((fun p:(Cd)×(Cd)×Unit=>yr_eqC n p.1 p.2.1) p).names=[]:=by intro p;first|rfl|exact ex_names _|exact cd_names _
noncomputable def yg_eqC {X:Ctx} {w0:World} (n:Nat) (h:yq_eqC n):Sy.Spec Tryz.prog X w0:=specD 67 Tryz.call67 ya_eqC (fun p:(Cd)×(Cd)×Unit=>yc_eqC n p.1 p.2.1) (fun p:(Cd)×(Cd)×Unit=>yr_eqC n p.1 p.2.1) (yn_eqC n) h
abbrev yc_eqS (n:Nat) (m:Nat) (a:Sm) (b:Sm):Prop:=a=b∧OkS n a∧okB n m a.th∧okB n m a.el
abbrev yr_eqS (n:Nat) (m:Nat) (a:Sm) (b:Sm):SV:=.one (.v (.bool true))
noncomputable abbrev ya_eqS:ArgC ((Sm)×(Sm)×Unit):=(acS (cSm) (acS (cSm) ac0))
abbrev yq_eqS (n:Nat) (m:Nat):Prop:=CallsY Tryz.prog 54 ya_eqS (fun p:(Sm)×(Sm)×Unit=>yc_eqS n m p.1 p.2.1) (fun p:(Sm)×(Sm)×Unit=>yr_eqS n m p.1 p.2.1)
theorem yn_eqS (n:Nat) (m:Nat):∀p:(Sm)×(Sm)×Unit,((fun p:(Sm)×(Sm)×Unit=>yr_eqS n m p.1 p.2.1) p).names=[]:=by intro p;first|rfl|exact ex_names _|exact cd_names _
noncomputable def yg_eqS {X:Ctx} {w0:World} (n:Nat) (m:Nat) (h:yq_eqS n m):Sy.Spec Tryz.prog X w0:=specD 54 Tryz.call54 ya_eqS (fun p:(Sm)×(Sm)×Unit=>yc_eqS n m p.1 p.2.1) (fun p:(Sm)×(Sm)×Unit=>yr_eqS n m p.1 p.2.1) (yn_eqS n m) h
abbrev yc_eqB (n:Nat) (m:Nat) (a:List Sm) (b:List Sm):Prop:=a=b∧okB n m a
abbrev yr_eqB (n:Nat) (m:Nat) (a:List Sm) (b:List Sm):SV:=.one (.v (.bool true))
noncomputable abbrev ya_eqB:ArgC ((List Sm)×(List Sm)×Unit):=(acS (cSs) (acS (cSs) ac0))
abbrev yq_eqB (n:Nat) (m:Nat):Prop:=CallsY Tryz.prog 26 ya_eqB (fun p:(List Sm)×(List Sm)×Unit=>yc_eqB n m p.1 p.2.1) (fun p:(List Sm)×(List Sm)×Unit=>yr_eqB n m p.1 p.2.1)
theorem yn_eqB (n:Nat) (m:Nat):∀p:(List Sm)×(List Sm)×Unit,((fun p:(List Sm)×(List Sm)×Unit=>yr_eqB n m p.1 p.2.1) p).names=[]:=by intro p;first|rfl|exact ex_names _|exact cd_names _
noncomputable def yg_eqB {X:Ctx} {w0:World} (n:Nat) (m:Nat) (h:yq_eqB n m):Sy.Spec Tryz.prog X w0:=specD 26 Tryz.call26 ya_eqB (fun p:(List Sm)×(List Sm)×Unit=>yc_eqB n m p.1 p.2.1) (fun p:(List Sm)×(List Sm)×Unit=>yr_eqB n m p.1 p.2.1) (yn_eqB n m) h
attribute [local go_sem] Sm.ar Sm.c Sm.cd Sm.e Sm.el Sm.f Sm.k Sm.no Sm.th Sm.x Sm.y cCd_d cCd_e cCd_n cEx_d cEx_e cEx_n cSm_d cSm_e cSs_d cSs_e fl10 pairN_o pairO_n sm_r spFn_n yg_eqB yg_eqC yg_eqE yg_eqS yr_eqB yr_eqC yr_eqE yr_eqS
set_option maxRecDepth 20000 in set_option maxHeartbeats 8000000 in
theorem y_eqES (n:Nat) (hu:yq_eqE n):yq_eqE (n+1):=by
 rintro ⟨a,b,_u⟩ w fz xs hc hfz hl hx
 refine calls_toL Tryz.func66 rfl w fz [(yg_eqE n hu)] [] ya_eqE (fun p:(Ex)×(Ex)×Unit=>yr_eqE (n+1) p.1 p.2.1) _ xs hfz hl hx (Nat.le_of_ble_eq_true rfl) ?_
 clear hx hl hfz xs
 simp only[Tryz.f66]
 obtain⟨hc1,hc2⟩:=hc
 dsimp only at hc1 hc2
 subst hc1
 cases a with
 |nil=>
  simp only[↓eB,seval,go_sem,beq_self_eq_true,bne_self_eq_false,ex_nil]
  try simp only[impB,impN]
  repeat' first|exact ck|with_reducible apply And.intro|intro _
  all_goals first|exact trivial|(rename_i h;first|exact oI h|exact nah h)|(rename_i _ h _ g;exact sL h g)|decide|omega|(refine ret_with [] ?_;simp only[↓eB,seval,go_sem,bne])
 |mk k n' s a b=>
  simp only[Ex.dp]at hc2
  have h1:yc_eqE n a a:=⟨rfl,by omega⟩
  have h2:yc_eqE n b b:=⟨rfl,by omega⟩
  simp only[↓eB,seval,go_sem,beq_self_eq_true,bne_self_eq_false,ex_mk]
  try simp only[impB,impN]
  repeat' first|exact ck|with_reducible apply And.intro|intro _
  all_goals first|exact h1.2|exact h2.2|exact rfl|(rename_i h;first|exact oI h|exact nah h)|(rename_i _ h _ g;exact sL h g)|decide|omega|(refine ret_with [] ?_;simp only[↓eB,seval,go_sem,bne])
theorem y_eqE:∀n:Nat,yq_eqE n
 |0=>by
  rintro ⟨a,b,_u⟩ w fz xs hc hfz hl hx
  exact absurd hc.2 (Nat.not_lt_zero _)
 |n+1=>y_eqES n (y_eqE n)
set_option maxRecDepth 20000 in set_option maxHeartbeats 8000000 in
theorem y_eqCS (n:Nat) (hu:yq_eqC n):yq_eqC (n+1):=by
 rintro ⟨a,b,_u⟩ w fz xs hc hfz hl hx
 refine calls_toL Tryz.func67 rfl w fz [(yg_eqE n (y_eqE n)),(yg_eqC n hu)] [] ya_eqC (fun p:(Cd)×(Cd)×Unit=>yr_eqC (n+1) p.1 p.2.1) _ xs hfz hl hx (Nat.le_of_ble_eq_true rfl) ?_
 clear hx hl hfz xs
 simp only[Tryz.f67]
 obtain⟨hc1,hc2⟩:=hc
 dsimp only at hc1 hc2
 subst hc1
 cases a with
 |nil=>
  simp only[↓eB,seval,go_sem,beq_self_eq_true,bne_self_eq_false,cd_nil]
  try simp only[impB,impN]
  repeat' first|exact ck|with_reducible apply And.intro|intro _
  all_goals first|exact trivial|(rename_i h;first|exact oI h|exact nah h)|(rename_i _ h _ g;exact sL h g)|decide|omega|(refine ret_with [] ?_;simp only[↓eB,seval,go_sem,bne])
 |mk k a b p q s=>
  simp only[Cd.dp]at hc2
  have h1:yc_eqE n a a:=⟨rfl,by omega⟩
  have h2:yc_eqE n b b:=⟨rfl,by omega⟩
  have h3:yc_eqC n p p:=⟨rfl,by omega⟩
  have h4:yc_eqC n q q:=⟨rfl,by omega⟩
  simp only[↓eB,seval,go_sem,beq_self_eq_true,bne_self_eq_false,cd_mk]
  try simp only[impB,impN]
  repeat' first|exact ck|with_reducible apply And.intro|intro _
  all_goals first|exact h1.2|exact h2.2|exact h3.2|exact h4.2|exact rfl|(rename_i h;first|exact oI h|exact nah h)|(rename_i _ h _ g;exact sL h g)|decide|omega|(refine ret_with [] ?_;simp only[↓eB,seval,go_sem,bne])
theorem y_eqC:∀n:Nat,yq_eqC n
 |0=>by
  rintro ⟨a,b,_u⟩ w fz xs hc hfz hl hx
  exact absurd hc.2 (Nat.not_lt_zero _)
 |n+1=>y_eqCS n (y_eqC n)
theorem arr_at {l:List Ar} {i:Nat} {x:Ar} (h:l[i]?=some x) (z:List D):(l.map Ar.r).getD i z=x.r:=by simp[List.getD,h]
theorem zAr_ln:zAr.length=3:=rfl
theorem zSm_ln:zSm.length=10:=rfl
set_option maxRecDepth 20000 in set_option maxHeartbeats 8000000 in
theorem y_eqSS (n:Nat) (m:Nat) (hu:yq_eqB n m):yq_eqS n m:=by
 rintro ⟨a,b,_u⟩ w fz xs hc hfz hl hx
 refine calls_toL Tryz.func54 rfl w fz [(yg_eqE n (y_eqE n)),(yg_eqC n (y_eqC n)),(yg_eqB n m hu)] [] ya_eqS (fun p:(Sm)×(Sm)×Unit=>yr_eqS n m p.1 p.2.1) _ xs hfz hl hx (Nat.le_of_ble_eq_true rfl) ?_
 clear hx hl hfz xs
 simp only[Tryz.f54]
 obtain⟨hc1,hc2,hc3,hc4⟩:=hc
 dsimp only at hc1 hc2 hc3 hc4
 subst hc1
 obtain⟨k,x,y,e,g,cd,ar,th,el,no⟩:=a
 obtain⟨o1,o2,o3,o4,o5⟩:=hc2
 have h1:yc_eqE n e e:=⟨rfl,o1⟩
 have h2:yc_eqE n g g:=⟨rfl,o2⟩
 have h3:yc_eqC n cd cd:=⟨rfl,o3⟩
 have h4:yc_eqB n m th th:=⟨rfl,hc3⟩
 have h5:yc_eqB n m el el:=⟨rfl,hc4⟩
 have o5:ar.length≤5000:=o5
 have o4:∀a∈ar,a.e.dp<n:=o4
 simp only[↓eB,seval,go_sem,beq_self_eq_true,bne_self_eq_false]
 refine loop_ok (Y:=Nat) (fun i=>i≤ar.length)
  (fun i=>⟨[(2,true,.one (.p 2 0 0)),(3,true,.one (.p 3 0 0)),(5,true,.one (.v (.int .i64 (i:Int))))],[(2,.vec 0 fl10 [(Sm.mk k x y e g cd ar th el no).c]),(3,.vec 0 fl10 [(Sm.mk k x y e g cd ar th el no).c])]⟩)
  (fun i=>ar.length-i) 0 (Nat.zero_le _) ?_ ?_
 ·refine to_with [] ?_;simp only[↓eB,seval,go_sem]
 ·intro i hi
  refine vc_ok [yg_eqE n (y_eqE n),yg_eqC n (y_eqC n),yg_eqB n m hu] [] _ _ _ ?_
  cases hx:ar[i]? with
  |none=>
   have b1:=natI_ge (List.getElem?_eq_none_iff.1 hx)
   simp only[↓eB,seval,go_sem,beq_self_eq_true,bne_self_eq_false,b1]
   try simp only[impB,impN]
   repeat' first|exact ck|with_reducible apply And.intro|intro _
   all_goals first|exact h1.2|exact h2.2|exact h3.2|exact h4.2|exact h5.2|exact rfl|(rename_i h;first|exact oI h|exact nah h)|(rename_i _ h _ g;exact sL h g)|decide|omega|(refine ret_with [] ?_;simp only[↓eB,seval,go_sem,bne])
  |some a=>
   have hil:i<ar.length:=(List.getElem?_eq_some_iff.1 hx).1
   have b1:=natI_lt hil
   have b2:=natI_ltp hil
   have b3:=arr_at hx
   have b4:=natI_succ (n:=ar.length) hi (by omega)
   have h6:yc_eqE n a.e a.e:=⟨rfl,o4 a (List.mem_of_getElem? hx)⟩
   obtain⟨ap,an,ae⟩:=a
   simp only[↓eB,seval,go_sem,beq_self_eq_true,bne_self_eq_false,b1,b2,b3,b4,Ar.r,zAr_ln]
   try simp only[impB,impN]
   repeat' first|exact ck|with_reducible apply And.intro|intro _
   all_goals try first|exact hil|exact h6.2|exact rfl|(rename_i h;first|exact oI h|exact nah h)|(rename_i _ h _ g;exact sL h g)|decide|omega
   refine⟨i+1,hil,by omega,to_with [] ?_⟩
   simp only[↓eB,seval,go_sem]
set_option maxRecDepth 20000 in set_option maxHeartbeats 8000000 in
theorem y_eqBS (n:Nat) (m:Nat) (hu:yq_eqS n m):yq_eqB n (m+1):=by
 rintro ⟨a,b,_u⟩ w fz xs hc hfz hl hx
 refine calls_toL Tryz.func26 rfl w fz [(yg_eqS n m hu)] [] ya_eqB (fun p:(List Sm)×(List Sm)×Unit=>yr_eqB n (m+1) p.1 p.2.1) _ xs hfz hl hx (Nat.le_of_ble_eq_true rfl) ?_
 clear hx hl hfz xs
 simp only[Tryz.f26]
 obtain⟨hc1,hc2,hc3⟩:=hc
 dsimp only at hc1 hc2 hc3
 subst hc1
 simp only[↓eB,seval,go_sem,beq_self_eq_true,bne_self_eq_false]
 refine loop_ok (Y:=Nat) (fun i=>i≤a.length)
  (fun i=>⟨[(0,true,.one (.d (.sl zSm (a.map Sm.r)))),(1,true,.one (.d (.sl zSm (a.map Sm.r)))),(5,true,.one (.v (.int .i64 (i:Int))))],[]⟩)
  (fun i=>a.length-i) 0 (Nat.zero_le _) ?_ ?_
 ·refine to_with [] ?_;simp only[↓eB,seval,go_sem]
 ·intro i hi
  refine vc_ok [yg_eqS n m hu] [] _ _ _ ?_
  cases hx:a[i]? with
  |none=>
   have b1:=natI_ge (List.getElem?_eq_none_iff.1 hx)
   simp only[↓eB,seval,go_sem,beq_self_eq_true,bne_self_eq_false,b1]
   try simp only[impB,impN]
   repeat' first|exact ck|with_reducible apply And.intro|intro _
   all_goals first|exact trivial|(rename_i h;first|exact oI h|exact nah h)|(rename_i _ h _ g;exact sL h g)|decide|omega|(refine ret_with [] ?_;simp only[↓eB,seval,go_sem,bne])
  |some s=>
   have hil:i<a.length:=(List.getElem?_eq_some_iff.1 hx).1
   have b1:=natI_lt hil
   have b2:=natI_ltp hil
   have b3:=smr_ac hx
   have b4:=natI_succ (n:=a.length) hi (by omega)
   obtain⟨g1,g2,g3⟩:=hc3 s (List.mem_of_getElem? hx)
   obtain⟨k,x,y,e,g,cd,ar,th,el,no⟩:=s
   simp only[↓eB,seval,go_sem,beq_self_eq_true,bne_self_eq_false,b1,b2,b3,b4,zSm_ln]
   try simp only[impB,impN]
   repeat' first|exact ck|with_reducible apply And.intro|intro _
   all_goals try first|exact hil|exact g1|exact g2|exact g3|exact rfl|(rename_i h;first|exact oI h|exact nah h)|(rename_i _ h _ g;exact sL h g)|decide|omega
   refine⟨i+1,hil,by omega,to_with [] ?_⟩
   simp only[↓eB,seval,go_sem]
theorem y_eqB (n:Nat):∀m:Nat,yq_eqB n m
 |0=>by
  rintro ⟨a,b,_u⟩ w fz xs hc hfz hl hx
  exact hc.2.elim
 |m+1=>y_eqBS n m (y_eqSS n m (y_eqB n m))
end Go.Proofs.YtlaggppdgoknjaaGreatDoor
namespace Go.Proofs.YtlaggppdgoknjaaGreatDoor
open Go Go.Sy Go.RowKit
abbrev smallB (l:List UInt8):Prop:=l.length≤4294967296
def letB (b:Int):Bool:=decide (97≤b)&&decide (b≤122)||(decide (65≤b)&&decide (b≤90))||b==95
def digB (b:Int):Bool:=decide (48≤b)&&decide (b≤57)
abbrev chI (l:List UInt8) (i:Nat):Int:=((l.getD i 0).toNat:Int)
def idB (b:Int):Bool:=letB b||digB b
def cTok (x:Tok):List C:=[.v (.int .i64 x.k),.v (.string (bs x.t)),.v (.int .i64 x.p)]
def dTok (x:Tok):List D:=[.v (.int .i64 x.k),.v (.string (bs x.t)),.v (.int .i64 x.p)]
def zTok:List C:=[.v (.int .i64 0),.v (.string ByteArray.empty),.v (.int .i64 0)]
theorem zTok_t:zT zTok=none:=rfl
attribute [go_sem] zTok_t
def zTokD:List D:=[.v (.int .i64 0),.v (.string ByteArray.empty),.v (.int .i64 0)]
theorem chN_tok (u:Nat) (z:List C) (l:List Tok):chNames (.vec u z (l.map cTok))=[]:=chN_of cTok (by intro a c hc;simp only[cTok,List.mem_cons,List.not_mem_nil,or_false]at hc;rcases hc with rfl|rfl|rfl<;>rfl) u z l
theorem flN_tok (l:List Tok):List.flatMap (fun r=>List.flatMap C.names r) (l.map cTok)=[]:=chN_tok 0 [] l
theorem toDss_tok (l:List Tok):toDss (l.map cTok)=some (l.map dTok):=toDss_of cTok (fun _=>rfl) l
theorem mvC_tok (k t:Nat) (l:List Tok):(l.map cTok).map (fun r=>r.map (mvC k t))=l.map cTok:=map_of cTok (fun _=>rfl) l
def toksV (r:List Tok×Int×Int):SV:=.tup [.inl (.d (.sl zTokD (r.1.map dTok))),.inl (.v (.int .i64 r.2.1)),.inl (.v (.int .i64 r.2.2))]
def oneB (l:List UInt8) (c:Int):Bool:=l.any fun b=>((b.toNat:Nat):Int)==c
theorem oneB_at {l:List UInt8} {i:Nat} (h:i<l.length) (c:Int):oneB (l.drop i) c=(((l.getD i 0).toNat:Int)==c||oneB (l.drop (i+1)) c):=by
 rw[List.drop_eq_getElem_cons h]
 simp only[oneB,List.any_cons,List.getD,List.getElem?_eq_getElem h,Option.getD_some]
def blB (c:Int):Bool:=c==32||c==9||c==13||c==10
def nlB (c:Int):Bool:=!(c==10)
def dgF:List UInt8→Int→Bool→Int×Bool
 |[],n,g=>(n,g)
 |b::r,n,g=>if digB (b.toNat:Int)=true then (if decide (922337203685477580<n)=true then dgF r n true else dgF r (IntKind.u64.wrap (IntKind.u64.wrap (10*n)+IntKind.u64.wrap (IntKind.u8.wrap ((b.toNat:Int)-48)))) g) else (n,g)
theorem dgF_at {l:List UInt8} {i:Nat} (h:i<l.length) (n:Int) (g:Bool):dgF (l.drop i) n g=if digB (chI l i)=true then (if decide (922337203685477580<n)=true then dgF (l.drop (i+1)) n true else dgF (l.drop (i+1)) (IntKind.u64.wrap (IntKind.u64.wrap (10*n)+IntKind.u64.wrap (IntKind.u8.wrap (chI l i-48)))) g) else (n,g):=by
 rw[List.drop_eq_getElem_cons h]
 simp only[dgF,chI,List.getD,List.getElem?_eq_getElem h,Option.getD_some]
theorem dgF_nil {l:List UInt8} {i:Nat} (h:l.length≤i) (n:Int) (g:Bool):dgF (l.drop i) n g=(n,g):=by
 rw[List.drop_eq_nil_of_le h];rfl
def greB (l:List UInt8):Bool:=(dgF l 0 false).2||decide (9223372036854775807<(dgF l 0 false).1)
def twoB (s:List UInt8) (i:Nat):Bool:=decide (((i+2:Nat):Int)≤(s.length:Int))&&((s.drop i).take 2==[61,61]||(s.drop i).take 2==[33,61]||(s.drop i).take 2==[60,61]||(s.drop i).take 2==[62,61]||(s.drop i).take 2==[38,38]||(s.drop i).take 2==[124,124])
abbrev signs:List UInt8:=[61,60,62,43,45,42,47,37,38,33,40,41,123,125,91,93,44,59]
def rxF (s:List UInt8):Nat→Nat→List Tok→List Tok×Int×Int
 |0,_,out=>(out,0,0)
 |f+1,i,out=>
  if s.length≤i then (out,0,0)
  else if blB (chI s i)=true then rxF s f (i+1) out
  else if (chI s i==35)=true then rxF s f (i+spanN nlB (s.drop i)) out
  else if letB (chI s i)=true then (if decide (32<((spanN idB (s.drop i):Nat):Int))=true then ([],(i:Int),53) else rxF s f (i+spanN idB (s.drop i)) (out++[⟨0,(s.drop i).take (spanN idB (s.drop i)),(i:Int)⟩]))
  else if digB (chI s i)=true then
   (
    if greB (s.drop i)=true then ([],(i:Int),53)
    else if (decide (((i+spanN digB (s.drop i):Nat):Int)<(s.length:Int))&&letB (chI s (i+spanN digB (s.drop i)))||(chI s i==48&&decide (1<((spanN digB (s.drop i):Nat):Int))))=true then ([],(i:Int),50)
    else rxF s f (i+spanN digB (s.drop i)) (out++[⟨1,(s.drop i).take (spanN digB (s.drop i)),(i:Int)⟩]))
  else if twoB s i=true then rxF s f (i+2) (out++[⟨2,(s.drop i).take 2,(i:Int)⟩])
  else if oneB signs (chI s i)=true then rxF s f (i+1) (out++[⟨2,(s.drop i).take 1,(i:Int)⟩])
  else ([],(i:Int),50)
def rxT (s:List UInt8):List Tok×Int×Int:=if decide (4096<(s.length:Int))=true then ([],0,53) else rxF s s.length 0 []
abbrev rxI (s:List UInt8) (i:Nat) (out:List Tok):St:=⟨[(0,true,.one (.v (.string (bs s)))),(5,true,.one (.s 1000)),(6,true,.one (.v (.int .i64 (i:Int))))],[(1000,.vec 0 zTok (out.map cTok))]⟩
abbrev rxJ (s:List UInt8) (i:Nat) (out:List Tok):Prop:=i≤s.length∧out.length≤i∧∃f,s.length-i≤f∧rxF s f i out=rxT s
theorem not_t {b:Bool} (h:(!b)=true):b=false:=by cases b<;>simp_all
theorem not_f {b:Bool} (h:(!b)=false):b=true:=by cases b<;>simp_all
theorem and_l {a b:Bool} (h:(a&&b)=true):a=true:=by cases a<;>simp_all
end Go.Proofs.YtlaggppdgoknjaaGreatDoor
