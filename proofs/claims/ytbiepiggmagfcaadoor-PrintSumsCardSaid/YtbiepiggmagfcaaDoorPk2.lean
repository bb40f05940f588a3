/- augurhelp.LightE, RightE. Conditions: the numbers are of 64 bits. -/
import Derived.Test.YtbiepiggmagfcaaDoorPi1
import Derived.Test.YtbiepiggmagfcaaDoorSy31
set_option linter.unusedVariables false
set_option linter.unusedSimpArgs false
namespace Go.Proofs.YtbiepiggmagfcaaDoor
open Go Go.Sy Go.RowKit
theorem exDmk (k n:Int) (s:List UInt8) (a b:Ex):(Ex.mk k n s a b).d= .pt (some [.v (.int .i64 k),.v (.int .i64 n),.v (.string (bs s)),a.d,b.d]):=rfl
def zIn1:List C:=[.v (.int .i64 0)]
theorem zIn1_t:zT zIn1=none:=rfl
theorem zIn1_ln:zIn1.length=1:=rfl
def inR (n:Int):List C:=[.v (.int .i64 n)]
theorem inR_inj (a b:Int) (h:inR a=inR b):a=b:=by simpa [inR] using h
noncomputable def mIn:RowM Int:=rowMOf zIn1 inR fun s c hc=>by simp only[inR,List.mem_singleton]at hc;subst hc;rfl
theorem mIn_z:mIn.z=zIn1:=rfl
theorem mIn_e:mIn.e=inR:=rfl
theorem mIn_d (n:Int):mIn.d [.v (.int .i64 n)]=some n:=rowMOf_d inR_inj n
def lgE:Ex→Int→Int→Bool×Int
 | .nil,l,_=>(true,l)
 | .mk _ _ s a b,l,d=>
  if (decide (l-1<0)||decide (d<0)||decide ((50:Int)<(s.length:Int)))=true then (false,l-1)
  else if (lgE a (l-1) (d-1)).1=true then lgE b (lgE a (l-1) (d-1)).2 (d-1) else (false,(lgE a (l-1) (d-1)).2)
theorem lgE_b:∀(e:Ex) (l d:Int),0≤l→(lgE e l d).2≤l ∧ -1≤(lgE e l d).2∧((lgE e l d).1=true→0≤(lgE e l d).2)
 | .nil,l,d,h=>⟨Int.le_refl _,by simp only[lgE];omega,fun _=>h⟩
 | .mk k n s a b,l,d,h=>by
  simp only[lgE]
  split
  ·exact⟨by simp only;omega,by simp only;omega,fun h=>by cases h⟩
  ·rename_i h1
   simp only[Bool.or_eq_true,decide_eq_true_eq,not_or]at h1
   obtain⟨a1,a2,a3⟩:=lgE_b a (l-1) (d-1) (by omega)
   split
   ·rename_i h2
    obtain⟨b1,b2,b3⟩:=lgE_b b _ (d-1) (a3 h2)
    exact⟨by omega,b2,b3⟩
   ·exact⟨by simp only;omega,a2,fun h=>by cases h⟩
theorem exn_n:Ex.nil.isNil=true:=rfl
theorem exn_m (k n:Int) (s:List UInt8) (a b:Ex):(Ex.mk k n s a b).isNil=false:=rfl
def riE:Ex→Bool
 | .nil=>false
 | .mk k n s a b=>
  if (k==0)=true then decide (0≤n)&&a.isNil&&b.isNil&&s==[]
  else if (k==1)=true then s != []&&a.isNil&&b.isNil&&n==0
  else if (k==7)=true then riE a&&b.isNil&&n==0&&s==[]
  else if (k==2||k==3||k==4||k==5||k==6)=true then riE a&&riE b&&n==0&&s==[]
  else false
theorem mem_nmI (n:Int):∀q,some q∈[some ((zIn1,[inR n]):MV)]→∀r∈q.2,∀c∈r,c.names=[]:=by
 intro q hq r hr c hc
 simp only[List.mem_singleton,Option.some.injEq]at hq
 subst hq
 simp only[List.mem_singleton]at hr
 subst hr
 simp only[inR,List.mem_singleton]at hc
 subst hc;rfl
abbrev yc_LightE (m:Nat) (e:Ex) (l:Int) (d:Int):Prop:=e.dp<m∧0≤l∧l≤1000 ∧ -1≤d∧d≤1000
abbrev yr_LightE (m:Nat) (e:Ex) (l:Int) (d:Int):SV:=.one (.v (.bool (lgE e l d).1))
abbrev ym_LightE (m:Nat) (e:Ex) (l:Int) (d:Int):List (Option MV):=[some (zIn1,[inR (lgE e l d).2])]
noncomputable abbrev ya_LightE:ArgM ((Ex)×(Int)×(Int)×Unit):=(amD (cEx) (amP (mIn) (amD (cInt .i64) am0)))
abbrev yq_LightE (m:Nat):Prop:=CallsM Tryd.prog 8 ((ya_LightE).args 0) (ya_LightE).mem (fun p:(Ex)×(Int)×(Int)×Unit=>yc_LightE m p.1 p.2.1 p.2.2.1) (fun p:(Ex)×(Int)×(Int)×Unit=>yr_LightE m p.1 p.2.1 p.2.2.1) (fun p:(Ex)×(Int)×(Int)×Unit=>ym_LightE m p.1 p.2.1 p.2.2.1)
theorem yl_LightE (m:Nat):∀p,(fun p:(Ex)×(Int)×(Int)×Unit=>yc_LightE m p.1 p.2.1 p.2.2.1) p→lenM ((ya_LightE).mem p).length ((fun p:(Ex)×(Int)×(Int)×Unit=>ym_LightE m p.1 p.2.1 p.2.2.1) p)=true:=by intro p _;rfl
theorem yo_LightE (m:Nat):∀p,(fun p:(Ex)×(Int)×(Int)×Unit=>yc_LightE m p.1 p.2.1 p.2.2.1) p→outV ((fun p:(Ex)×(Int)×(Int)×Unit=>ym_LightE m p.1 p.2.1 p.2.2.1) p).length ((fun p:(Ex)×(Int)×(Int)×Unit=>yr_LightE m p.1 p.2.1 p.2.2.1) p)=true:=by intro p _;rfl
theorem yn_LightE (m:Nat):∀p,(fun p:(Ex)×(Int)×(Int)×Unit=>yc_LightE m p.1 p.2.1 p.2.2.1) p→∀q,some q∈(fun p:(Ex)×(Int)×(Int)×Unit=>ym_LightE m p.1 p.2.1 p.2.2.1) p→∀r∈q.2,∀c∈r,c.names=[]:=by intro p _;exact mem_nmI _
noncomputable def yg_LightE {X:Ctx} {w0:World} (m:Nat) (h:yq_LightE m):Sy.Spec Tryd.prog X w0:=specM 8 Tryd.call8 (ya_LightE) (fun p:(Ex)×(Int)×(Int)×Unit=>yc_LightE m p.1 p.2.1 p.2.2.1) (fun p:(Ex)×(Int)×(Int)×Unit=>yr_LightE m p.1 p.2.1 p.2.2.1) (fun p:(Ex)×(Int)×(Int)×Unit=>ym_LightE m p.1 p.2.1 p.2.2.1) (yl_LightE m) (yo_LightE m) (yn_LightE m) h
attribute [local go_sem] cEx_e cEx_d cEx_n cEx_dp ex_mk ex_nil exDmk pairO_n pairN_o spFn_n mIn_d mIn_e mIn_z zIn1_t zIn1_ln Ex.isNil
set_option maxRecDepth 20000 in set_option maxHeartbeats 4000000 in
theorem y_LightES (m:Nat) (hE:yq_LightE m):yq_LightE (m+1):=by
 rintro ⟨e,l,d,_u⟩ w M I lab fz xs hc hA hl hx
 refine calls_toML Tryd.func8 rfl ((ya_LightE).mem ⟨e,l,d,_u⟩) w M I lab fz [(yg_LightE m hE)] [] ((ya_LightE).args 0 ⟨e,l,d,_u⟩) ((fun p:(Ex)×(Int)×(Int)×Unit=>ym_LightE (m+1) p.1 p.2.1 p.2.2.1) ⟨e,l,d,_u⟩) ((fun p:(Ex)×(Int)×(Int)×Unit=>yr_LightE (m+1) p.1 p.2.1 p.2.2.1) ⟨e,l,d,_u⟩) xs hA hl hx (fun v hv k hk=>by have:=(ya_LightE).an 0 ⟨e,l,d,_u⟩ v hv k hk;omega) (Nat.le_of_ble_eq_true rfl) (Nat.le_of_ble_eq_true rfl) ?_
 clear hx hl hA xs
 simp only[Tryd.f8]
 obtain⟨h1,h2,h3,h4,h5⟩:=hc
 dsimp only at h1 h2 h3 h4 h5
 cases e with
 |nil=>
  simp only[↓eB,seval,go_sem,inR]
  try simp only[impB,impN]
  repeat' first|exact ck|with_reducible apply And.intro|intro _
  all_goals first|exact trivial|(rename_i h;first|exact oI h|exact nah h)|(rename_i _ h _ g;exact sL h g)|decide|omega|(refine ret_with [] ?_;simp only[↓eB,seval,go_sem,bne,yr_LightE,ym_LightE,lgE,inR])
 |mk k n s a b=>
  simp only[Ex.dp]at h1
  have d1:a.dp<m:=by omega
  have d2:b.dp<m:=by omega
  have w1:IntKind.i64.wrap (l-1)=l-1:=wrap_i64 (by omega) (by omega)
  have w2:IntKind.i64.wrap (d-1)=d-1:=wrap_i64 (by omega) (by omega)
  cases c1:decide (l-1<0) with
  |true=>
   simp only[↓eB,seval,go_sem,inR,w1,c1]
   try simp only[impB,impN]
   repeat' first|exact ck|with_reducible apply And.intro|intro _
   all_goals first|exact trivial|(rename_i h;first|exact oI h|exact nah h)|(rename_i _ h _ g;exact sL h g)|decide|omega|(refine ret_with [] ?_;simp only[↓eB,seval,go_sem,bne,yr_LightE,ym_LightE,lgE,inR,c1])
  |false=>
  cases c2:decide (d<0) with
  |true=>
   simp only[↓eB,seval,go_sem,inR,w1,w2,c1,c2]
   try simp only[impB,impN]
   repeat' first|exact ck|with_reducible apply And.intro|intro _
   all_goals first|exact trivial|(rename_i h;first|exact oI h|exact nah h)|(rename_i _ h _ g;exact sL h g)|decide|omega|(refine ret_with [] ?_;simp only[↓eB,seval,go_sem,bne,yr_LightE,ym_LightE,lgE,inR,c1,c2])
  |false=>
  cases c3:decide ((50:Int)<(s.length:Int)) with
  |true=>
   simp only[↓eB,seval,go_sem,inR,w1,w2,c1,c2,c3]
   try simp only[impB,impN]
   repeat' first|exact ck|with_reducible apply And.intro|intro _
   all_goals first|exact trivial|(rename_i h;first|exact oI h|exact nah h)|(rename_i _ h _ g;exact sL h g)|decide|omega|(refine ret_with [] ?_;simp only[↓eB,seval,go_sem,bne,yr_LightE,ym_LightE,lgE,inR,c1,c2,c3])
  |false=>
  have e1:=of_decide_eq_false c1
  have e2:=of_decide_eq_false c2
  obtain⟨a1,a2,a3⟩:=lgE_b a (l-1) (d-1) (by omega)
  cases c4:(lgE a (l-1) (d-1)).1 with
  |false=>
   simp only[↓eB,seval,go_sem,inR,w1,w2,c1,c2,c3,yg_LightE,c4]
   try simp only[impB,impN]
   repeat' first|exact ck|with_reducible apply And.intro|intro _
   all_goals first|exact d1|(rename_i h;first|exact oI h|exact nah h)|(rename_i _ h _ g;exact sL h g)|decide|omega|(refine ret_with [] ?_;simp only[↓eB,seval,go_sem,bne,yr_LightE,ym_LightE,lgE,inR,c1,c2,c3,c4])
  |true=>
   have e4:=a3 c4
   simp only[↓eB,seval,go_sem,inR,w1,w2,c1,c2,c3,yg_LightE,c4]
   try simp only[impB,impN]
   repeat' first|exact ck|with_reducible apply And.intro|intro _
   all_goals first|exact d1|exact d2|(rename_i h;first|exact oI h|exact nah h)|(rename_i _ h _ g;exact sL h g)|decide|omega|(refine ret_with [] ?_;simp only[↓eB,seval,go_sem,bne,yr_LightE,ym_LightE,lgE,inR,c1,c2,c3,c4])
theorem y_LightE:∀m:Nat,yq_LightE m
 |0=>by
  rintro ⟨e,l,d,_u⟩ w M I lab fz xs hc hA hl hx
  exact absurd hc.1 (Nat.not_lt_zero _)
 |m+1=>y_LightES m (y_LightE m)
abbrev yc_RightE (m:Nat) (e:Ex):Prop:=e.dp<m
abbrev yr_RightE (m:Nat) (e:Ex):SV:=.one (.v (.bool (riE e)))
noncomputable abbrev ya_RightE:ArgC ((Ex)×Unit):=(acS (cEx) ac0)
abbrev yq_RightE (m:Nat):Prop:=CallsY Tryd.prog 9 ya_RightE (fun p:(Ex)×Unit=>yc_RightE m p.1) (fun p:(Ex)×Unit=>yr_RightE m p.1)
theorem yn_RightE (m:Nat):∀p:(Ex)×Unit,((fun p:(Ex)×Unit=>yr_RightE m p.1) p).names=[]:=by intro p;first|rfl|exact ex_names _|exact cd_names _
noncomputable def yg_RightE {X:Ctx} {w0:World} (m:Nat) (h:yq_RightE m):Sy.Spec Tryd.prog X w0:=specD 9 Tryd.call9 ya_RightE (fun p:(Ex)×Unit=>yc_RightE m p.1) (fun p:(Ex)×Unit=>yr_RightE m p.1) (yn_RightE m) h
theorem rk8 (k:Int):k=0∨k=1∨k=2∨k=3∨k=4∨k=5∨k=6∨k=7∨((k==0)=false∧(k==1)=false∧(k==2)=false∧(k==3)=false∧(k==4)=false∧(k==5)=false∧(k==6)=false∧(k==7)=false):=by
 simp only[beq_eq_false_iff_ne];omega
set_option maxRecDepth 20000 in set_option maxHeartbeats 8000000 in
theorem y_RightES (m:Nat) (hE:yq_RightE m):yq_RightE (m+1):=by
 rintro ⟨e,_u⟩ w fz xs hc hfz hl hx
 refine calls_toL Tryd.func9 rfl w fz [(yg_RightE m hE)] [] ya_RightE (fun p:(Ex)×Unit=>yr_RightE (m+1) p.1) _ xs hfz hl hx (Nat.le_of_ble_eq_true rfl) ?_
 clear hx hl hfz xs
 simp only[Tryd.f9]
 have h1:e.dp<m+1:=hc
 cases e with
 |nil=>
  simp only[↓eB,seval,go_sem]
  try simp only[impB,impN]
  repeat' first|exact ck|with_reducible apply And.intro|intro _
  all_goals first|exact trivial|(rename_i h;first|exact oI h|exact nah h)|(rename_i _ h _ g;exact sL h g)|decide|omega|(refine ret_with [] ?_;simp only[↓eB,seval,go_sem,bne,yr_RightE,riE])
 |mk k n s a b=>
  simp only[Ex.dp]at h1
  have d1:a.dp<m:=by omega
  have d2:b.dp<m:=by omega
  rcases rk8 k with rfl|rfl|rfl|rfl|rfl|rfl|rfl|rfl|⟨e0,e1,e2,e3,e4,e5,e6,e7⟩
  ·cases a<;>cases b
   all_goals
    simp only[↓eB,seval,go_sem,yg_RightE]
    try simp only[impB,impN]
    repeat' first|exact ck|with_reducible apply And.intro|intro _
    all_goals first|exact d1|exact d2|(rename_i h;first|exact oI h|exact nah h)|(rename_i _ h _ g;exact sL h g)|decide|omega|(refine ret_with [] ?_;simp only[↓eB,seval,go_sem,bne,yr_RightE,riE,exn_n,exn_m])
  ·cases a<;>cases b
   all_goals
    simp only[↓eB,seval,go_sem,yg_RightE]
    try simp only[impB,impN]
    repeat' first|exact ck|with_reducible apply And.intro|intro _
    all_goals first|exact d1|exact d2|(rename_i h;first|exact oI h|exact nah h)|(rename_i _ h _ g;exact sL h g)|decide|omega|(refine ret_with [] ?_;simp only[↓eB,seval,go_sem,bne,yr_RightE,riE,exn_n,exn_m])
  ·simp only[↓eB,seval,go_sem,yg_RightE]
   try simp only[impB,impN]
   repeat' first|exact ck|with_reducible apply And.intro|intro _
   all_goals first|exact d1|exact d2|(rename_i h;first|exact oI h|exact nah h)|(rename_i _ h _ g;exact sL h g)|decide|omega|(refine ret_with [] ?_;simp only[↓eB,seval,go_sem,bne,yr_RightE,riE,exn_n,exn_m])
  ·simp only[↓eB,seval,go_sem,yg_RightE]
   try simp only[impB,impN]
   repeat' first|exact ck|with_reducible apply And.intro|intro _
   all_goals first|exact d1|exact d2|(rename_i h;first|exact oI h|exact nah h)|(rename_i _ h _ g;exact sL h g)|decide|omega|(refine ret_with [] ?_;simp only[↓eB,seval,go_sem,bne,yr_RightE,riE,exn_n,exn_m])
  ·simp only[↓eB,seval,go_sem,yg_RightE]
   try simp only[impB,impN]
   repeat' first|exact ck|with_reducible apply And.intro|intro _
   all_goals first|exact d1|exact d2|(rename_i h;first|exact oI h|exact nah h)|(rename_i _ h _ g;exact sL h g)|decide|omega|(refine ret_with [] ?_;simp only[↓eB,seval,go_sem,bne,yr_RightE,riE,exn_n,exn_m])
  ·simp only[↓eB,seval,go_sem,yg_RightE]
   try simp only[impB,impN]
   repeat' first|exact ck|with_reducible apply And.intro|intro _
   all_goals first|exact d1|exact d2|(rename_i h;first|exact oI h|exact nah h)|(rename_i _ h _ g;exact sL h g)|decide|omega|(refine ret_with [] ?_;simp only[↓eB,seval,go_sem,bne,yr_RightE,riE,exn_n,exn_m])
  ·simp only[↓eB,seval,go_sem,yg_RightE]
   try simp only[impB,impN]
   repeat' first|exact ck|with_reducible apply And.intro|intro _
   all_goals first|exact d1|exact d2|(rename_i h;first|exact oI h|exact nah h)|(rename_i _ h _ g;exact sL h g)|decide|omega|(refine ret_with [] ?_;simp only[↓eB,seval,go_sem,bne,yr_RightE,riE,exn_n,exn_m])
  ·cases b
   all_goals
    simp only[↓eB,seval,go_sem,yg_RightE]
    try simp only[impB,impN]
    repeat' first|exact ck|with_reducible apply And.intro|intro _
    all_goals first|exact d1|exact d2|(rename_i h;first|exact oI h|exact nah h)|(rename_i _ h _ g;exact sL h g)|decide|omega|(refine ret_with [] ?_;simp only[↓eB,seval,go_sem,bne,yr_RightE,riE,exn_n,exn_m])
  ·simp only[↓eB,seval,go_sem,e0,e1,e2,e3,e4,e5,e6,e7]
   try simp only[impB,impN]
   repeat' first|exact ck|with_reducible apply And.intro|intro _
   all_goals first|exact trivial|(rename_i h;first|exact oI h|exact nah h)|(rename_i _ h _ g;exact sL h g)|decide|omega|(refine ret_with [] ?_;simp only[↓eB,seval,go_sem,bne,yr_RightE,riE,e0,e1,e2,e3,e4,e5,e6,e7])
theorem y_RightE:∀m:Nat,yq_RightE m
 |0=>by
  rintro ⟨e,_u⟩ w fz xs hc hfz hl hx
  exact absurd hc (Nat.not_lt_zero _)
 |m+1=>y_RightES m (y_RightE m)
end Go.Proofs.YtbiepiggmagfcaaDoor
