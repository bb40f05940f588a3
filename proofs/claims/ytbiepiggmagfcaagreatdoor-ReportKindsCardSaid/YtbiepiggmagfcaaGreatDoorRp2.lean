/- report: kinds' names, what stands at a statement. Conditions: no more than 1000 alarms and notes; the lines are shorter than 10^9 bytes. -/
import Derived.Test.YtbiepiggmagfcaaGreatDoorPs1
set_option linter.unusedVariables false
set_option linter.unusedSimpArgs false
namespace Go.Proofs.YtbiepiggmagfcaaGreatDoor
open Go Go.Sy Go.Shelf Go.RowKit
theorem sl_nm (l:List (List UInt8)):∀q,some q∈[some ((zSs,l.map sR1):MV)]→∀r∈q.2,∀c∈r,c.names=[]:=by
 intro q hq r hr c hc
 simp only[List.mem_singleton,Option.some.injEq]at hq
 subst hq
 obtain⟨x,hx,rfl⟩:=List.mem_map.1 hr
 simp only[sR1,List.mem_singleton]at hc
 subst hc;rfl
abbrev yc_Split (s:List UInt8) (p:List UInt8):Prop:=p=[10]∧s.length<4294967281
abbrev yr_Split (s:List UInt8) (p:List UInt8):SV:=.one (.s 0)
abbrev ym_Split (s:List UInt8) (p:List UInt8):List (Option MV):=[some (zSs,(splT s).map sR1)]
noncomputable abbrev ya_Split:ArgM ((List UInt8)×(List UInt8)×Unit):=(amD (cStr) (amD (cStr) am0))
abbrev yq_Split:Prop:=CallsM Tryz.prog 53 ((ya_Split).args 0) (ya_Split).mem (fun p:(List UInt8)×(List UInt8)×Unit=>yc_Split p.1 p.2.1) (fun p:(List UInt8)×(List UInt8)×Unit=>yr_Split p.1 p.2.1) (fun p:(List UInt8)×(List UInt8)×Unit=>ym_Split p.1 p.2.1)
theorem yl_Split:∀p,(fun p:(List UInt8)×(List UInt8)×Unit=>yc_Split p.1 p.2.1) p→lenM ((ya_Split).mem p).length ((fun p:(List UInt8)×(List UInt8)×Unit=>ym_Split p.1 p.2.1) p)=true:=by intro p _;rfl
theorem yo_Split:∀p,(fun p:(List UInt8)×(List UInt8)×Unit=>yc_Split p.1 p.2.1) p→outV ((fun p:(List UInt8)×(List UInt8)×Unit=>ym_Split p.1 p.2.1) p).length ((fun p:(List UInt8)×(List UInt8)×Unit=>yr_Split p.1 p.2.1) p)=true:=by intro p _;first|rfl|exact ex_out _ _|exact cd_out _ _|(simp[outV,outC,ex_out,cd_out];done)
theorem yn_Split:∀p,(fun p:(List UInt8)×(List UInt8)×Unit=>yc_Split p.1 p.2.1) p→∀q,some q∈(fun p:(List UInt8)×(List UInt8)×Unit=>ym_Split p.1 p.2.1) p→∀r∈q.2,∀c∈r,c.names=[]:=by intro p _;exact sl_nm _
theorem y_Split:yq_Split:=by
 rintro ⟨s,p,_u⟩ w M I lab fz xs hc hA hl hx
 refine calls_toML Tryz.func53 rfl ((ya_Split).mem ⟨s,p,_u⟩) w M I lab fz [yp_genSplit] [] ((ya_Split).args 0 ⟨s,p,_u⟩) ((fun p:(List UInt8)×(List UInt8)×Unit=>ym_Split p.1 p.2.1) ⟨s,p,_u⟩) ((fun p:(List UInt8)×(List UInt8)×Unit=>yr_Split p.1 p.2.1) ⟨s,p,_u⟩) xs hA hl hx (fun v hv k hk=>by have:=(ya_Split).an 0 ⟨s,p,_u⟩ v hv k hk;omega) (Nat.le_of_ble_eq_true rfl) (Nat.le_of_ble_eq_true rfl) ?_
 clear hx hl hA xs
 simp only[Tryz.f53]
 obtain⟨rfl,h2⟩:=hc
 simp only[↓eB,seval,go_sem,gS_f,gS_fn,gsFn]
 try simp only[impB,impN]
 repeat' first|exact ck|with_reducible apply And.intro|intro _
 all_goals first|exact h2|(rename_i h;first|exact oI h|exact nah h)|(rename_i _ h _ g;exact sL h g)|decide|omega|(refine ret_with [.mv 7 0] ?_;simp only[↓eB,seval,go_sem,bne,yr_Split,ym_Split,rowsS1.fn,rowsS1.mv])
noncomputable def yp_Split {X:Ctx} {w0:World}:Sy.Spec Tryz.prog X w0:=specM 53 Tryz.call53 (ya_Split) (fun p:(List UInt8)×(List UInt8)×Unit=>yc_Split p.1 p.2.1) (fun p:(List UInt8)×(List UInt8)×Unit=>yr_Split p.1 p.2.1) (fun p:(List UInt8)×(List UInt8)×Unit=>ym_Split p.1 p.2.1) yl_Split yo_Split yn_Split y_Split
def kdT (k:Int):List UInt8:=if (k==0)=true then [100,105,118] else if (k==1)=true then [105,110,100,101,120] else if (k==2)=true then [110,117,108,108] else if (k==3)=true then [97,115,115,101,114,116] else if (k==4)=true then [109,105,115,115,105,110,103] else if (k==5)=true then [99,97,108,108] else [63]
def wdB (k:Int):Bool:=decide (0≤k)&&decide (k≤2)
def wdT (k:Int):List UInt8:=if (k==0)=true then [100,101,97,100] else if (k==1)=true then [97,108,119,97,121,115] else if (k==2)=true then [110,101,118,101,114] else []
theorem kd6 (k:Int):k=0∨k=1∨k=2∨k=3∨k=4∨k=5∨((k==0)=false∧(k==1)=false∧(k==2)=false∧(k==3)=false∧(k==4)=false∧(k==5)=false∧(k<0∨6≤k)):=by
 simp only[beq_eq_false_iff_ne];omega
theorem kdw (k:Int):k=0∨k=1∨k=2∨((k==0)=false∧(k==1)=false∧(k==2)=false∧wdB k=false):=by
 simp only[beq_eq_false_iff_ne,wdB,Bool.and_eq_false_iff,decide_eq_false_iff_not];omega
theorem kdT_len (k:Int):(kdT k).length≤7:=by
 unfold kdT;repeat' split
 all_goals decide
theorem wdT_len (k:Int):(wdT k).length≤6:=by
 unfold wdT;repeat' split
 all_goals decide
abbrev yc_rpkind (k:Int):Prop:=True
abbrev yr_rpkind (k:Int):SV:=SV.one (.v (.string (bs (kdT k))))
theorem y_rpkind:CallsY Tryz.prog 25 (acS (cInt .i64) ac0) (fun p:(Int×Unit)=>yc_rpkind p.1) (fun p:(Int×Unit)=>yr_rpkind p.1):=by
 rintro ⟨k,_u⟩ w fz xs hc hfz hl hx
 refine calls_toL Tryz.func25 rfl w fz [] [] (acS (cInt .i64) ac0) (fun p:(Int×Unit)=>yr_rpkind p.1) _ xs hfz hl hx (Nat.le_of_ble_eq_true rfl) ?_
 clear hx hl hfz xs
 simp only[Tryz.f25]
 rcases kd6 k with rfl|rfl|rfl|rfl|rfl|rfl|⟨e0,e1,e2,e3,e4,e5,_⟩
 ·simp only[↓eB,seval,go_sem]
  try simp only[impB,impN]
  repeat' first|exact ck|with_reducible apply And.intro|intro _
  all_goals first|exact trivial|(rename_i h;first|exact oI h|exact nah h)|(rename_i _ h _ g;exact sL h g)|decide|omega|(refine ret_with [] ?_;simp only[↓eB,seval,go_sem,bne,yr_rpkind,kdT])
 ·simp only[↓eB,seval,go_sem]
  try simp only[impB,impN]
  repeat' first|exact ck|with_reducible apply And.intro|intro _
  all_goals first|exact trivial|(rename_i h;first|exact oI h|exact nah h)|(rename_i _ h _ g;exact sL h g)|decide|omega|(refine ret_with [] ?_;simp only[↓eB,seval,go_sem,bne,yr_rpkind,kdT])
 ·simp only[↓eB,seval,go_sem]
  try simp only[impB,impN]
  repeat' first|exact ck|with_reducible apply And.intro|intro _
  all_goals first|exact trivial|(rename_i h;first|exact oI h|exact nah h)|(rename_i _ h _ g;exact sL h g)|decide|omega|(refine ret_with [] ?_;simp only[↓eB,seval,go_sem,bne,yr_rpkind,kdT])
 ·simp only[↓eB,seval,go_sem]
  try simp only[impB,impN]
  repeat' first|exact ck|with_reducible apply And.intro|intro _
  all_goals first|exact trivial|(rename_i h;first|exact oI h|exact nah h)|(rename_i _ h _ g;exact sL h g)|decide|omega|(refine ret_with [] ?_;simp only[↓eB,seval,go_sem,bne,yr_rpkind,kdT])
 ·simp only[↓eB,seval,go_sem]
  try simp only[impB,impN]
  repeat' first|exact ck|with_reducible apply And.intro|intro _
  all_goals first|exact trivial|(rename_i h;first|exact oI h|exact nah h)|(rename_i _ h _ g;exact sL h g)|decide|omega|(refine ret_with [] ?_;simp only[↓eB,seval,go_sem,bne,yr_rpkind,kdT])
 ·simp only[↓eB,seval,go_sem]
  try simp only[impB,impN]
  repeat' first|exact ck|with_reducible apply And.intro|intro _
  all_goals first|exact trivial|(rename_i h;first|exact oI h|exact nah h)|(rename_i _ h _ g;exact sL h g)|decide|omega|(refine ret_with [] ?_;simp only[↓eB,seval,go_sem,bne,yr_rpkind,kdT])
 ·simp only[↓eB,seval,go_sem,e0,e1,e2,e3,e4,e5]
  try simp only[impB,impN]
  repeat' first|exact ck|with_reducible apply And.intro|intro _
  all_goals first|exact trivial|(rename_i h;first|exact oI h|exact nah h)|(rename_i _ h _ g;exact sL h g)|decide|omega|(refine ret_with [] ?_;simp only[↓eB,seval,go_sem,bne,yr_rpkind,kdT,e0,e1,e2,e3,e4,e5])
theorem yn_rpkind:∀p:(Int×Unit),((fun p:(Int×Unit)=>yr_rpkind p.1) p).names=[]:=by intro p;first|rfl|simp[SV.names,C.names]
noncomputable def yp_rpkind {X:Ctx} {w0:World}:Sy.Spec Tryz.prog X w0:=specD 25 Tryz.call25 (acS (cInt .i64) ac0) (fun p:(Int×Unit)=>yc_rpkind p.1) (fun p:(Int×Unit)=>yr_rpkind p.1) yn_rpkind y_rpkind
abbrev yc_rpword (k:Int):Prop:=True
abbrev yr_rpword (k:Int):SV:=SV.tup [.inl (.v (.string (bs (wdT k)))),.inl (.v (.bool (wdB k)))]
theorem y_rpword:CallsY Tryz.prog 109 (acS (cInt .i64) ac0) (fun p:(Int×Unit)=>yc_rpword p.1) (fun p:(Int×Unit)=>yr_rpword p.1):=by
 rintro ⟨k,_u⟩ w fz xs hc hfz hl hx
 refine calls_toL Tryz.func109 rfl w fz [] [] (acS (cInt .i64) ac0) (fun p:(Int×Unit)=>yr_rpword p.1) _ xs hfz hl hx (Nat.le_of_ble_eq_true rfl) ?_
 clear hx hl hfz xs
 simp only[Tryz.f109]
 rcases kdw k with rfl|rfl|rfl|⟨e0,e1,e2,e3⟩
 ·simp only[↓eB,seval,go_sem]
  try simp only[impB,impN]
  repeat' first|exact ck|with_reducible apply And.intro|intro _
  all_goals first|exact trivial|(rename_i h;first|exact oI h|exact nah h)|(rename_i _ h _ g;exact sL h g)|decide|omega|(refine ret_with [] ?_;simp only[↓eB,seval,go_sem,bne,yr_rpword,wdT,wdB])
 ·simp only[↓eB,seval,go_sem]
  try simp only[impB,impN]
  repeat' first|exact ck|with_reducible apply And.intro|intro _
  all_goals first|exact trivial|(rename_i h;first|exact oI h|exact nah h)|(rename_i _ h _ g;exact sL h g)|decide|omega|(refine ret_with [] ?_;simp only[↓eB,seval,go_sem,bne,yr_rpword,wdT,wdB])
 ·simp only[↓eB,seval,go_sem]
  try simp only[impB,impN]
  repeat' first|exact ck|with_reducible apply And.intro|intro _
  all_goals first|exact trivial|(rename_i h;first|exact oI h|exact nah h)|(rename_i _ h _ g;exact sL h g)|decide|omega|(refine ret_with [] ?_;simp only[↓eB,seval,go_sem,bne,yr_rpword,wdT,wdB])
 ·simp only[↓eB,seval,go_sem,e0,e1,e2]
  try simp only[impB,impN]
  repeat' first|exact ck|with_reducible apply And.intro|intro _
  all_goals first|exact trivial|(rename_i h;first|exact oI h|exact nah h)|(rename_i _ h _ g;exact sL h g)|decide|omega|(refine ret_with [] ?_;simp only[↓eB,seval,go_sem,bne,yr_rpword,wdT,e0,e1,e2,e3])
theorem yn_rpword:∀p:(Int×Unit),((fun p:(Int×Unit)=>yr_rpword p.1) p).names=[]:=by intro p;first|rfl|simp[SV.names,C.names]
noncomputable def yp_rpword {X:Ctx} {w0:World}:Sy.Spec Tryz.prog X w0:=specD 109 Tryz.call109 (acS (cInt .i64) ac0) (fun p:(Int×Unit)=>yc_rpword p.1) (fun p:(Int×Unit)=>yr_rpword p.1) yn_rpword y_rpword
abbrev yc_bLen (T:TypeId) (m:Nat) (b:Bd):Prop:=b.r.length=m∧m≤1∧lieB T m
abbrev yr_bLen (T:TypeId) (m:Nat) (b:Bd):SV:=.one (.v (.int .i64 (b.t.length:Int)))
abbrev ym_bLen (T:TypeId) (m:Nat) (b:Bd):List (Option MV):=[some (tgN T (m+2),[b.c])]
noncomputable abbrev ya_bLen (T:TypeId) (m:Nat):ArgN ((Bd)×Unit):=(amB (rBd T m) am0)
abbrev yq_bLen (T:TypeId) (m:Nat):Prop:=CallsN Tryz.prog 110 T0 B0 (ya_bLen T m).args (ya_bLen T m).mem (fun p:(Bd)×Unit=>yc_bLen T m p.1) (fun p:(Bd)×Unit=>yr_bLen T m p.1) (fun p:(Bd)×Unit=>ym_bLen T m p.1)
theorem yl_bLen (T:TypeId) (m:Nat):∀p,(fun p:(Bd)×Unit=>yc_bLen T m p.1) p→lenM ((ya_bLen T m).mem p).length ((fun p:(Bd)×Unit=>ym_bLen T m p.1) p)=true:=by intro p _;rfl
theorem yo_bLen (T:TypeId) (m:Nat):∀p,(fun p:(Bd)×Unit=>yc_bLen T m p.1) p→outV ((fun p:(Bd)×Unit=>ym_bLen T m p.1) p).length ((fun p:(Bd)×Unit=>yr_bLen T m p.1) p)=true:=by intro p _;rfl
theorem yn_bLen (T:TypeId) (m:Nat):∀p,(fun p:(Bd)×Unit=>yc_bLen T m p.1) p→∀(i:Nat) q,((fun p:(Bd)×Unit=>ym_bLen T m p.1) p)[i]?=some (some q)→∀r∈q.2,∀c∈r,cOK i c:=by intro p _;exact bd_cOK1 _ _
noncomputable def yg_bLen {X:Ctx} {w0:World} (T:TypeId) (m:Nat) (h:yq_bLen T m) (hG:StaysN X w0 T0 B0):Sy.Spec Tryz.prog X w0:=specN 110 Tryz.call110 T0 B0 (ya_bLen T m) (fun p:(Bd)×Unit=>yc_bLen T m p.1) (fun p:(Bd)×Unit=>yr_bLen T m p.1) (fun p:(Bd)×Unit=>ym_bLen T m p.1) (yl_bLen T m) (yo_bLen T m) (yn_bLen T m) h hG
theorem y_bLen (T:TypeId) (m:Nat):yq_bLen T m:=by
 rintro ⟨b,_u⟩ w M I lab fz xs hT hBk hc hA hl hx
 refine calls_toN 1 Tryz.func110 rfl ((ya_bLen T m).mem ⟨b,_u⟩) rfl w M I lab fz [] [] ((ya_bLen T m).args ⟨b,_u⟩) ((fun p:(Bd)×Unit=>ym_bLen T m p.1) ⟨b,_u⟩) ((fun p:(Bd)×Unit=>yr_bLen T m p.1) ⟨b,_u⟩) xs hA hl hx (fun v hv k hk=>(ya_bLen T m).an ⟨b,_u⟩ v hv k hk) (Nat.le_of_ble_eq_true rfl) (Nat.le_of_ble_eq_true rfl) ?_
 clear hx hl hA xs
 simp only[Tryz.f110]
 obtain⟨hm,hm1,hlie⟩:=hc
 obtain⟨u,t,r⟩:=b
 dsimp only at hm
 rcases bd_rs hm hm1 with⟨rfl,rfl⟩|⟨n,rfl,rfl⟩<;>cases u
 all_goals
  simp only[↓eB,seval,go_sem,amB_a,amB_m,rBd_z,rBd_e,rBd_u0,rBd_u1,rBd_n0,rBd_n1,rBd_f0,rBd_f1,bd_c1,adC,inK]
  try simp only[impB,impN]
  repeat' first|exact ck|with_reducible apply And.intro|intro _
  all_goals first|exact trivial|(rename_i h;first|exact oI h|exact nah h)|(rename_i _ h _ g;exact sL h g)|decide|omega|(refine ret_with [] ?_;simp only[↓eB,seval,go_sem,bne,yr_bLen,ym_bLen,by_all,amB_a,amB_m,rBd_z,rBd_e,rBd_u0,rBd_u1,rBd_n0,rBd_n1,rBd_f0,rBd_f1,bd_c1,adC,inK])
end Go.Proofs.YtbiepiggmagfcaaGreatDoor
namespace Go.Proofs.YtbiepiggmagfcaaGreatDoor
open Go Go.Sy Go.Shelf Go.RowKit
structure Al where
 n:Int
 k:Int
structure Nt where
 n:Int
 k:Int
 s:List UInt8
def Al.r (a:Al):List D:=[dI a.n,dI a.k]
def zAl:List D:=[dI 0,dI 0]
def Nt.r (a:Nt):List D:=[dI a.n,dI a.k,dS a.s]
def zNt:List D:=[dI 0,dI 0,dS []]
theorem zAl_ln:zAl.length=2:=rfl
theorem zNt_ln:zNt.length=3:=rfl
theorem al_inj (a b:Al) (h:a.r=b.r):a=b:=by
 obtain⟨x,y⟩:=a;obtain⟨x',y'⟩:=b
 simp only[Al.r,dI,List.cons.injEq,D.v.injEq,Value.int.injEq,true_and,and_true]at h
 rw[h.1,h.2]
theorem nt_inj (a b:Nt) (h:a.r=b.r):a=b:=by
 obtain⟨x,y,s⟩:=a;obtain⟨x',y',s'⟩:=b
 simp only[Nt.r,dI,dS,List.cons.injEq,D.v.injEq,Value.int.injEq,Value.string.injEq,true_and,and_true]at h
 rw[h.1,h.2.1,bs_inj h.2.2]
theorem al_at {l:List Al} {i:Nat} {n k:Int} (h:l[i]?=some ⟨n,k⟩) (z:List D):(l.map Al.r).getD i z=[dI n,dI k]:=by simp[List.getD,h,Al.r]
theorem nt_at {l:List Nt} {i:Nat} {n k:Int} {s:List UInt8} (h:l[i]?=some ⟨n,k,s⟩) (z:List D):(l.map Nt.r).getD i z=[dI n,dI k,dS s]:=by simp[List.getD,h,Nt.r]
structure Rp where
 l:List (List UInt8)
 a:List Al
 n:List Nt
def Rp.c (p:Rp):List C:=[.ov zSs (p.l.map sR1),.d (.sl zAl (p.a.map Al.r)),.d (.sl zNt (p.n.map Nt.r))]
def zRp:List C:=[.v (.bool false),.v (.bool false),.v (.bool false)]
theorem zRp_t:zT zRp=none:=rfl
attribute [go_sem] zRp_t
theorem rp_inj (a b:Rp) (h:a.c=b.c):a=b:=by
 obtain⟨l,x,y⟩:=a;obtain⟨l',x',y'⟩:=b
 simp only[Rp.c,List.cons.injEq,C.ov.injEq,C.d.injEq,D.sl.injEq,true_and,and_true]at h
 rw[map_inj sR1_inj h.1,map_inj al_inj h.2.1,map_inj nt_inj h.2.2]
theorem rp_nm (p:Rp):∀c∈p.c,c.names=[]:=by
 intro c hc
 simp only[Rp.c,List.mem_cons,List.not_mem_nil,or_false]at hc
 rcases hc with rfl|rfl|rfl<;>rfl
noncomputable def mRp:RowM Rp:=rowMOf zRp Rp.c rp_nm
theorem mRp_z:mRp.z=zRp:=rfl
theorem mRp_e:mRp.e=Rp.c:=rfl
theorem mRp_d (l:List (List UInt8)) (a:List Al) (n:List Nt):mRp.d [.ov zSs (l.map sR1),.d (.sl zAl (a.map Al.r)),.d (.sl zNt (n.map Nt.r))]=some ⟨l,a,n⟩:=rowMOf_d rp_inj ⟨l,a,n⟩
theorem mRp_d1 (l:List (List UInt8)) (a:List Al) (n:List Nt):mRp.d [.ov [.v (.string (bs []))] (l.map sR1),.d (.sl zAl (a.map Al.r)),.d (.sl zNt (n.map Nt.r))]=some ⟨l,a,n⟩:=mRp_d l a n
theorem mem_rp (p:Rp):∀q,some q∈[some ((zRp,[p.c]):MV)]→∀r∈q.2,∀c∈r,c.names=[]:=by
 intro q hq r hr c hc
 simp only[List.mem_singleton,Option.some.injEq]at hq
 subst hq
 simp only[List.mem_singleton]at hr
 subst hr
 exact rp_nm p c hc
theorem sr_all (l:List (List UInt8)):((l.map sR1).all fun r=>r.all fun c=>c.names.isEmpty)=true:=rowsS1.cl
theorem sr_at {l:List (List UInt8)} {i:Nat} {x:List UInt8} (h:l[i]?=some x):(l.map sR1)[i]?=some [.v (.string (bs x))]:=by simp[h,sR1]
theorem sr_gd {l:List (List UInt8)} {i:Nat} {x:List UInt8} (h:l[i]?=some x) (z:List C):(l.map sR1).getD i z=[.v (.string (bs x))]:=by simp[List.getD,h,sR1]
theorem sr_set (l:List (List UInt8)) (i:Nat) (x:List UInt8):(l.map sR1).set i [.v (.string (bs x))]=(l.set i x).map sR1:=by rw[List.map_set];rfl
def inB (l:List (List UInt8)) (i:Int):Bool:=decide (0≤i)&&decide (i<(l.length:Int))
def extL (l:List (List UInt8)) (i:Int) (t:List UInt8):List (List UInt8):=if inB l i=true then l.set i.toNat (l.getD i.toNat []++t) else l
abbrev yc_extend (p:Rp) (i:Int) (t:List UInt8):Prop:=p.l.length≤1000000∧(∀x∈p.l,x.length+t.length≤1000000000)∧t.length≤1000000000
abbrev yr_extend (p:Rp) (i:Int) (t:List UInt8):SV:=.tup []
abbrev ym_extend (p:Rp) (i:Int) (t:List UInt8):List (Option MV):=[some (zRp,[({ p with l:=extL p.l i t }:Rp).c])]
noncomputable abbrev ya_extend:ArgM ((Rp)×(Int)×(List UInt8)×Unit):=(amP (mRp) (amD (cInt .i64) (amD (cStr) am0)))
abbrev yq_extend:Prop:=CallsM Tryz.prog 111 ((ya_extend).args 0) (ya_extend).mem (fun p:(Rp)×(Int)×(List UInt8)×Unit=>yc_extend p.1 p.2.1 p.2.2.1) (fun p:(Rp)×(Int)×(List UInt8)×Unit=>yr_extend p.1 p.2.1 p.2.2.1) (fun p:(Rp)×(Int)×(List UInt8)×Unit=>ym_extend p.1 p.2.1 p.2.2.1)
theorem yl_extend:∀p,(fun p:(Rp)×(Int)×(List UInt8)×Unit=>yc_extend p.1 p.2.1 p.2.2.1) p→lenM ((ya_extend).mem p).length ((fun p:(Rp)×(Int)×(List UInt8)×Unit=>ym_extend p.1 p.2.1 p.2.2.1) p)=true:=by intro p _;rfl
theorem yo_extend:∀p,(fun p:(Rp)×(Int)×(List UInt8)×Unit=>yc_extend p.1 p.2.1 p.2.2.1) p→outV ((fun p:(Rp)×(Int)×(List UInt8)×Unit=>ym_extend p.1 p.2.1 p.2.2.1) p).length ((fun p:(Rp)×(Int)×(List UInt8)×Unit=>yr_extend p.1 p.2.1 p.2.2.1) p)=true:=by intro p _;rfl
theorem yn_extend:∀p,(fun p:(Rp)×(Int)×(List UInt8)×Unit=>yc_extend p.1 p.2.1 p.2.2.1) p→∀q,some q∈(fun p:(Rp)×(Int)×(List UInt8)×Unit=>ym_extend p.1 p.2.1 p.2.2.1) p→∀r∈q.2,∀c∈r,c.names=[]:=by intro p _;exact mem_rp _
attribute [local go_sem] Rp.c mRp_d mRp_d1 mRp_e mRp_z sR1 zRp zSs
theorem y_extend:yq_extend:=by
 rintro ⟨p,i,t,_u⟩ w M I lab fz xs hc hA hl hx
 refine calls_toML Tryz.func111 rfl ((ya_extend).mem ⟨p,i,t,_u⟩) w M I lab fz [] [(1,[.unr 0 0 0 1000])] ((ya_extend).args 0 ⟨p,i,t,_u⟩) ((fun p:(Rp)×(Int)×(List UInt8)×Unit=>ym_extend p.1 p.2.1 p.2.2.1) ⟨p,i,t,_u⟩) ((fun p:(Rp)×(Int)×(List UInt8)×Unit=>yr_extend p.1 p.2.1 p.2.2.1) ⟨p,i,t,_u⟩) xs hA hl hx (fun v hv k hk=>by have:=(ya_extend).an 0 ⟨p,i,t,_u⟩ v hv k hk;omega) (Nat.le_of_ble_eq_true rfl) (Nat.le_of_ble_eq_true rfl) ?_
 clear hx hl hA xs
 simp only[Tryz.f111]
 obtain⟨h1,h2,h2'⟩:=hc
 obtain⟨l,a,n⟩:=p
 dsimp only at h1 h2 h2'
 cases hb:inB l i with
 |false=>
  have he:extL l i t=l:=by unfold extL;rw[if_neg (by rw[hb];decide)]
  unfold inB at hb
  cases h0:decide (0≤i) with
  |false=>
   simp only[↓eB,seval,go_sem,h0]
   try simp only[impB,impN]
   repeat' first|exact ck|with_reducible apply And.intro|intro _
   all_goals first|exact h1|(rename_i h;first|exact oI h|exact nah h)|(rename_i _ h _ g;exact sL h g)|decide|omega|(refine ret_with [] ?_;simp only[↓eB,seval,go_sem,bne,yr_extend,ym_extend,he])
  |true=>
   rw[h0,Bool.true_and]at hb
   simp only[↓eB,seval,go_sem,h0,hb]
   try simp only[impB,impN]
   repeat' first|exact ck|with_reducible apply And.intro|intro _
   all_goals first|exact h1|(rename_i h;first|exact oI h|exact nah h)|(rename_i _ h _ g;exact sL h g)|decide|omega|(refine ret_with [] ?_;simp only[↓eB,seval,go_sem,bne,yr_extend,ym_extend,he])
 |true=>
  have hb2:=hb
  simp only[inB,Bool.and_eq_true,decide_eq_true_eq]at hb2
  obtain⟨j,rfl⟩:∃j:Nat,i=(j:Int):=⟨i.toNat,by omega⟩
  have hj:j<l.length:=by omega
  obtain⟨x,hx⟩:∃x,l[j]?=some x:=⟨_,List.getElem?_eq_getElem hj⟩
  have he:extL l (j:Int) t=l.set j (x++t):=by
   unfold extL;rw[if_pos hb,Int.toNat_natCast];simp[List.getD,hx]
  have h3:=h2 x (List.mem_of_getElem? hx)
  have q1:=sr_at hx
  have q2:=sr_gd hx
  have b1:=natI_lt hj
  have b2:=natI_ltp hj
  simp only[↓eB,seval,go_sem,b1,b2,q1,q2,sr_set]
  try simp only[impB,impN]
  repeat' first|exact ck|with_reducible apply And.intro|intro _
  all_goals first|exact h1|exact h3|exact hj|exact omega|(rename_i h;first|exact oI h|exact nah h)|(rename_i _ h _ g;exact sL h g)|decide|omega|(refine ret_with [.fold 0 0 0] ?_;simp only[↓eB,seval,go_sem,bne,yr_extend,ym_extend,he,q1,q2,sr_set,sr_all])
noncomputable def yp_extend {X:Ctx} {w0:World}:Sy.Spec Tryz.prog X w0:=specM 111 Tryz.call111 (ya_extend) (fun p:(Rp)×(Int)×(List UInt8)×Unit=>yc_extend p.1 p.2.1 p.2.2.1) (fun p:(Rp)×(Int)×(List UInt8)×Unit=>yr_extend p.1 p.2.1 p.2.2.1) (fun p:(Rp)×(Int)×(List UInt8)×Unit=>ym_extend p.1 p.2.1 p.2.2.1) yl_extend yo_extend yn_extend y_extend
end Go.Proofs.YtbiepiggmagfcaaGreatDoor
