/- report: kinds' names, what stands at a statement. Conditions: no more than 1000 alarms and notes; the lines are shorter than 10^9 bytes. -/
import Derived.Test.YtbiepiggmagfcaaGreatDoorPx2
set_option linter.unusedVariables false
set_option linter.unusedSimpArgs false
open List (mem_singleton)
namespace Go.Proofs.YtbiepiggmagfcaaGreatDoor
open Go Go.Sy Go.Shelf Go.RowKit
theorem A3D (l:List (List UInt8)):∀q,some q∈[some ((zSs,l.map sR1):MV)]→∀r∈q.2,∀c∈r,c.names=[]:=by
 intro q hq r hr c hc
 simp only[mem_singleton,jS]at hq
 subst hq
 obtain⟨x,hx,rfl⟩:=List.mem_map.1 hr
 simp only[sR1,mem_singleton]at hc
 subst hc;rfl
abbrev Ls (s:List UInt8) (p:List UInt8):Prop:=p=[10]∧s.length<4294967281
abbrev Lt (s:List UInt8) (p:List UInt8):SV:=.one (.s 0)
abbrev H5 (s:List UInt8) (p:List UInt8):List (Option MV):=[some (zSs,(Eh s).map sR1)]
noncomputable abbrev H6:ArgM ((List UInt8)×(List UInt8)×Unit):=(amD (cStr) (amD (cStr) am0))
abbrev ko:Prop:=BD Tryz.prog 53 ((H6).args 0) (H6).mem (fun p:(List UInt8)×(List UInt8)×Unit=>Ls p.1 p.2.1) (fun p:(List UInt8)×(List UInt8)×Unit=>Lt p.1 p.2.1) (fun p:(List UInt8)×(List UInt8)×Unit=>H5 p.1 p.2.1)
theorem kq:∀p,(fun p:(List UInt8)×(List UInt8)×Unit=>Ls p.1 p.2.1) p→BA ((H6).mem p).length ((fun p:(List UInt8)×(List UInt8)×Unit=>H5 p.1 p.2.1) p)=true:=by intro p _;rfl
theorem kr:∀p,(fun p:(List UInt8)×(List UInt8)×Unit=>Ls p.1 p.2.1) p→AQ ((fun p:(List UInt8)×(List UInt8)×Unit=>H5 p.1 p.2.1) p).length ((fun p:(List UInt8)×(List UInt8)×Unit=>Lt p.1 p.2.1) p)=true:=by intro p _;first|rfl|exact AK _ _|exact AL _ _|(simp[AQ,Bn,AK,AL];done)
theorem ku:∀p,(fun p:(List UInt8)×(List UInt8)×Unit=>Ls p.1 p.2.1) p→∀q,some q∈(fun p:(List UInt8)×(List UInt8)×Unit=>H5 p.1 p.2.1) p→∀r∈q.2,∀c∈r,c.names=[]:=by intro p _;exact A3D _
attribute [local go_sem] adC Kf Kg MF A7t A2y Xa inK MC Jk Jm Hh Hi Jj Jl MB
theorem rT:ko:=by
 rintro ⟨s,p,_u⟩ w M I lab fz xs hc hA hl hx
 refine AJ Tryz.func53 rfl _ w M I lab fz [Ma] [] _ _ _ xs hA hl hx (fun v hv k hk=>by have:=(H6).an 0 ⟨s,p,_u⟩ v hv k hk;omega) (jN rfl) (jN rfl) ?_
 clear hx hl hA xs
 simp only[Tryz.f53]
 obtain⟨rfl,h2⟩:=hc
 simp only[↓eB,seval,go_sem]
 try simp only[A1,A2]
 repeat' first|exact ck|with_reducible apply And.intro|intro _
 all_goals first|exact h2|(rename_i h;first|exact oI h|exact nah h)|(rename_i _ h _ g;exact sL h g)|decide|omega|(refine A0 [.mv 7 0] ?_;simp only[↓eB,seval,go_sem,bne,Lt,H5,Af.fn,Af.mv])
noncomputable def Xq {X:Ctx} {w0:World}:Sy.Spec Tryz.prog X w0:=Be 53 Tryz.call53 (H6) (fun p:(List UInt8)×(List UInt8)×Unit=>Ls p.1 p.2.1) (fun p:(List UInt8)×(List UInt8)×Unit=>Lt p.1 p.2.1) (fun p:(List UInt8)×(List UInt8)×Unit=>H5 p.1 p.2.1) kq kr ku rT
def kdT (k:Int):List UInt8:=if (k==0)=true then [100,105,118] else if (k==1)=true then [105,110,100,101,120] else if (k==2)=true then [110,117,108,108] else if (k==3)=true then [97,115,115,101,114,116] else if (k==4)=true then [109,105,115,115,105,110,103] else if (k==5)=true then [99,97,108,108] else [63]
def wdB (k:Int):Bool:=decide (0≤k)&&decide (k≤2)
def wdT (k:Int):List UInt8:=if (k==0)=true then [100,101,97,100] else if (k==1)=true then [97,108,119,97,121,115] else if (k==2)=true then [110,101,118,101,114] else []
theorem kd6 (k:Int):k=0∨k=1∨k=2∨k=3∨k=4∨k=5∨((k==0)=false∧(k==1)=false∧(k==2)=false∧(k==3)=false∧(k==4)=false∧(k==5)=false∧(k<0∨6≤k)):=by
 simp only[beq_eq_false_iff_ne];omega
theorem kdw (k:Int):k=0∨k=1∨k=2∨((k==0)=false∧(k==1)=false∧(k==2)=false∧wdB k=false):=by
 simp only[beq_eq_false_iff_ne,wdB,Bool.and_eq_false_iff,decide_eq_false_iff_not];omega
theorem UV (k:Int):(kdT k).length≤7:=by
 unfold kdT;repeat' split
 all_goals decide
theorem Qj (k:Int):(wdT k).length≤6:=by
 unfold wdT;repeat' split
 all_goals decide
abbrev VN (k:Int):Prop:=True
abbrev CW (k:Int):SV:=SV.one (.v (.string (bs (kdT k))))
theorem kv:AP Tryz.prog 25 (acS (cInt .i64) ac0) (fun p:(Int×Unit)=>VN p.1) (fun p:(Int×Unit)=>CW p.1):=by
 rintro ⟨k,_u⟩ w fz xs hc hfz hl hx
 refine A9 Tryz.func25 rfl w fz [] [] (acS (cInt .i64) ac0) (fun p:(Int×Unit)=>CW p.1) _ xs hfz hl hx (jN rfl) ?_
 clear hx hl hfz xs
 simp only[Tryz.f25]
 rcases kd6 k with rfl|rfl|rfl|rfl|rfl|rfl|⟨e0,e1,e2,e3,e4,e5,_⟩
 ·simp only[↓eB,seval,go_sem]
  try simp only[A1,A2]
  repeat' first|exact ck|with_reducible apply And.intro|intro _
  all_goals first|exact trivial|(rename_i h;first|exact oI h|exact nah h)|(rename_i _ h _ g;exact sL h g)|decide|omega|(refine A0 [] ?_;simp only[↓eB,seval,go_sem,bne,CW,kdT])
 ·simp only[↓eB,seval,go_sem]
  try simp only[A1,A2]
  repeat' first|exact ck|with_reducible apply And.intro|intro _
  all_goals first|exact trivial|(rename_i h;first|exact oI h|exact nah h)|(rename_i _ h _ g;exact sL h g)|decide|omega|(refine A0 [] ?_;simp only[↓eB,seval,go_sem,bne,CW,kdT])
 ·simp only[↓eB,seval,go_sem]
  try simp only[A1,A2]
  repeat' first|exact ck|with_reducible apply And.intro|intro _
  all_goals first|exact trivial|(rename_i h;first|exact oI h|exact nah h)|(rename_i _ h _ g;exact sL h g)|decide|omega|(refine A0 [] ?_;simp only[↓eB,seval,go_sem,bne,CW,kdT])
 ·simp only[↓eB,seval,go_sem]
  try simp only[A1,A2]
  repeat' first|exact ck|with_reducible apply And.intro|intro _
  all_goals first|exact trivial|(rename_i h;first|exact oI h|exact nah h)|(rename_i _ h _ g;exact sL h g)|decide|omega|(refine A0 [] ?_;simp only[↓eB,seval,go_sem,bne,CW,kdT])
 ·simp only[↓eB,seval,go_sem]
  try simp only[A1,A2]
  repeat' first|exact ck|with_reducible apply And.intro|intro _
  all_goals first|exact trivial|(rename_i h;first|exact oI h|exact nah h)|(rename_i _ h _ g;exact sL h g)|decide|omega|(refine A0 [] ?_;simp only[↓eB,seval,go_sem,bne,CW,kdT])
 ·simp only[↓eB,seval,go_sem]
  try simp only[A1,A2]
  repeat' first|exact ck|with_reducible apply And.intro|intro _
  all_goals first|exact trivial|(rename_i h;first|exact oI h|exact nah h)|(rename_i _ h _ g;exact sL h g)|decide|omega|(refine A0 [] ?_;simp only[↓eB,seval,go_sem,bne,CW,kdT])
 ·simp only[↓eB,seval,go_sem,e0,e1,e2,e3,e4,e5]
  try simp only[A1,A2]
  repeat' first|exact ck|with_reducible apply And.intro|intro _
  all_goals first|exact trivial|(rename_i h;first|exact oI h|exact nah h)|(rename_i _ h _ g;exact sL h g)|decide|omega|(refine A0 [] ?_;simp only[↓eB,seval,go_sem,bne,CW,kdT,e0,e1,e2,e3,e4,e5])
theorem gh:∀p:(Int×Unit),((fun p:(Int×Unit)=>CW p.1) p).names=[]:=by intro p;first|rfl|simp[SV.names,C.names]
noncomputable def Fk {X:Ctx} {w0:World}:Sy.Spec Tryz.prog X w0:=Am 25 Tryz.call25 (acS (cInt .i64) ac0) (fun p:(Int×Unit)=>VN p.1) (fun p:(Int×Unit)=>CW p.1) gh kv
abbrev VO (k:Int):Prop:=True
abbrev Dx (k:Int):SV:=SV.tup [.inl (.v (.string (bs (wdT k)))),.inl (.v (.bool (wdB k)))]
theorem kw:AP Tryz.prog 109 (acS (cInt .i64) ac0) (fun p:(Int×Unit)=>VO p.1) (fun p:(Int×Unit)=>Dx p.1):=by
 rintro ⟨k,_u⟩ w fz xs hc hfz hl hx
 refine A9 Tryz.func109 rfl w fz [] [] (acS (cInt .i64) ac0) (fun p:(Int×Unit)=>Dx p.1) _ xs hfz hl hx (jN rfl) ?_
 clear hx hl hfz xs
 simp only[Tryz.f109]
 rcases kdw k with rfl|rfl|rfl|⟨e0,e1,e2,e3⟩
 ·simp only[↓eB,seval,go_sem]
  try simp only[A1,A2]
  repeat' first|exact ck|with_reducible apply And.intro|intro _
  all_goals first|exact trivial|(rename_i h;first|exact oI h|exact nah h)|(rename_i _ h _ g;exact sL h g)|decide|omega|(refine A0 [] ?_;simp only[↓eB,seval,go_sem,bne,Dx,wdT,wdB])
 ·simp only[↓eB,seval,go_sem]
  try simp only[A1,A2]
  repeat' first|exact ck|with_reducible apply And.intro|intro _
  all_goals first|exact trivial|(rename_i h;first|exact oI h|exact nah h)|(rename_i _ h _ g;exact sL h g)|decide|omega|(refine A0 [] ?_;simp only[↓eB,seval,go_sem,bne,Dx,wdT,wdB])
 ·simp only[↓eB,seval,go_sem]
  try simp only[A1,A2]
  repeat' first|exact ck|with_reducible apply And.intro|intro _
  all_goals first|exact trivial|(rename_i h;first|exact oI h|exact nah h)|(rename_i _ h _ g;exact sL h g)|decide|omega|(refine A0 [] ?_;simp only[↓eB,seval,go_sem,bne,Dx,wdT,wdB])
 ·simp only[↓eB,seval,go_sem,e0,e1,e2]
  try simp only[A1,A2]
  repeat' first|exact ck|with_reducible apply And.intro|intro _
  all_goals first|exact trivial|(rename_i h;first|exact oI h|exact nah h)|(rename_i _ h _ g;exact sL h g)|decide|omega|(refine A0 [] ?_;simp only[↓eB,seval,go_sem,bne,Dx,wdT,e0,e1,e2,e3])
theorem gi:∀p:(Int×Unit),((fun p:(Int×Unit)=>Dx p.1) p).names=[]:=by intro p;first|rfl|simp[SV.names,C.names]
noncomputable def K4 {X:Ctx} {w0:World}:Sy.Spec Tryz.prog X w0:=Am 109 Tryz.call109 (acS (cInt .i64) ac0) (fun p:(Int×Unit)=>VO p.1) (fun p:(Int×Unit)=>Dx p.1) gi kw
abbrev Nc (T:TypeId) (m:Nat) (b:Bd):Prop:=b.r.length=m∧m≤1∧lieB T m
abbrev Nd (T:TypeId) (m:Nat) (b:Bd):SV:=.one (.v (.int .i64 (b.t.length:Int)))
abbrev JF (T:TypeId) (m:Nat) (b:Bd):List (Option MV):=[some (tgN T (m+2),[b.c])]
noncomputable abbrev JG (T:TypeId) (m:Nat):ArgN ((Bd)×Unit):=(amB (rBd T m) am0)
abbrev aE (T:TypeId) (m:Nat):Prop:=Ft Tryz.prog 110 T0 B0 (JG T m).args (JG T m).mem (fun p:(Bd)×Unit=>Nc T m p.1) (fun p:(Bd)×Unit=>Nd T m p.1) (fun p:(Bd)×Unit=>JF T m p.1)
theorem rU (T:TypeId) (m:Nat):∀p,(fun p:(Bd)×Unit=>Nc T m p.1) p→BA ((JG T m).mem p).length ((fun p:(Bd)×Unit=>JF T m p.1) p)=true:=by intro p _;rfl
theorem rW (T:TypeId) (m:Nat):∀p,(fun p:(Bd)×Unit=>Nc T m p.1) p→AQ ((fun p:(Bd)×Unit=>JF T m p.1) p).length ((fun p:(Bd)×Unit=>Nd T m p.1) p)=true:=by intro p _;rfl
theorem rX (T:TypeId) (m:Nat):∀p,(fun p:(Bd)×Unit=>Nc T m p.1) p→∀(i:Nat) q,((fun p:(Bd)×Unit=>JF T m p.1) p)[i]?=some (some q)→∀r∈q.2,∀c∈r,cOK i c:=by intro p _;exact HI _ _
noncomputable def Nf {X:Ctx} {w0:World} (T:TypeId) (m:Nat) (h:aE T m) (hG:BB X w0 T0 B0):Sy.Spec Tryz.prog X w0:=Gd 110 Tryz.call110 T0 B0 (JG T m) (fun p:(Bd)×Unit=>Nc T m p.1) (fun p:(Bd)×Unit=>Nd T m p.1) (fun p:(Bd)×Unit=>JF T m p.1) (rU T m) (rW T m) (rX T m) h hG
theorem TF (T:TypeId) (m:Nat):aE T m:=by
 rintro ⟨b,_u⟩ w M I lab fz xs hT hBk hc hA hl hx
 refine Eb 1 Tryz.func110 rfl _ rfl w M I lab fz [] [] _ _ _ xs hA hl hx ((JG T m).an ⟨b,_u⟩) (jN rfl) (jN rfl) ?_
 clear hx hl hA xs
 simp only[Tryz.f110]
 obtain⟨hm,hm1,hlie⟩:=hc
 obtain⟨u,t,r⟩:=b
 dsimp only at hm
 rcases bf hm hm1 with⟨rfl,rfl⟩|⟨n,rfl,rfl⟩<;>cases u
 all_goals
  simp only[↓eB,seval,go_sem]
  try simp only[A1,A2]
  repeat' first|exact ck|with_reducible apply And.intro|intro _
  all_goals first|exact trivial|(rename_i h;first|exact oI h|exact nah h)|(rename_i _ h _ g;exact sL h g)|decide|omega|(refine A0 [] ?_;simp only[↓eB,seval,go_sem,bne,Nd,JF,Wl])
end Go.Proofs.YtbiepiggmagfcaaGreatDoor
namespace Go.Proofs.YtbiepiggmagfcaaGreatDoor
open Go Go.Sy Go.Shelf Go.RowKit
structure Al where
 n:Int
 k:Int
structure Nt where
 n:Int
 k:Int
 s:List UInt8
def Al.r (a:Al):List D:=[dI a.n,dI a.k]
def zAl:List D:=[dI 0,dI 0]
def Nt.r (a:Nt):List D:=[dI a.n,dI a.k,dS a.s]
def zNt:List D:=[dI 0,dI 0,dS []]
theorem TG:zAl.length=2:=rfl
theorem TH:zNt.length=3:=rfl
theorem Xr (a b:Al) (h:a.r=b.r):a=b:=by
 obtain⟨x,y⟩:=a;obtain⟨x',y'⟩:=b
 simp only[Al.r,dI,List.cons.injEq,D.v.injEq,Value.int.injEq,true_and,and_true]at h
 rw[h.1,h.2]
theorem gj (a b:Nt) (h:a.r=b.r):a=b:=by
 obtain⟨x,y,s⟩:=a;obtain⟨x',y',s'⟩:=b
 simp only[Nt.r,dI,dS,List.cons.injEq,D.v.injEq,Value.int.injEq,Value.string.injEq,true_and,and_true]at h
 rw[h.1,h.2.1,bs_inj h.2.2]
theorem nT {l:List Al} {i:Nat} {n k:Int} (h:l[i]?=some ⟨n,k⟩) (z:List D):(l.map Al.r).getD i z=[dI n,dI k]:=by simp[List.getD,h,Al.r]
theorem cX {l:List Nt} {i:Nat} {n k:Int} {s:List UInt8} (h:l[i]?=some ⟨n,k,s⟩) (z:List D):(l.map Nt.r).getD i z=[dI n,dI k,dS s]:=by simp[List.getD,h,Nt.r]
structure Rp where
 l:List (List UInt8)
 a:List Al
 n:List Nt
def Rp.c (p:Rp):List C:=[.ov zSs (p.l.map sR1),.d (.sl zAl (p.a.map Al.r)),.d (.sl zNt (p.n.map Nt.r))]
def zRp:List C:=[.v (.bool false),.v (.bool false),.v (.bool false)]
theorem A3E:zT zRp=none:=rfl
attribute [go_sem] A3E
theorem xy (a b:Rp) (h:a.c=b.c):a=b:=by
 obtain⟨l,x,y⟩:=a;obtain⟨l',x',y'⟩:=b
 simp only[Rp.c,List.cons.injEq,C.ov.injEq,C.d.injEq,D.sl.injEq,true_and,and_true]at h
 rw[Bh ZL h.1,Bh Xr h.2.1,Bh gj h.2.2]
theorem nU (p:Rp):∀c∈p.c,c.names=[]:=by
 intro c hc
 simp only[Rp.c,List.mem_cons,List.not_mem_nil,or_false]at hc
 rcases hc with rfl|rfl|rfl<;>rfl
noncomputable def mRp:RowM Rp:=KB zRp Rp.c nU
theorem WI:mRp.z=zRp:=rfl
theorem WJ:mRp.e=Rp.c:=rfl
theorem TI (l:List (List UInt8)) (a:List Al) (n:List Nt):mRp.d [.ov zSs (l.map sR1),.d (.sl zAl (a.map Al.r)),.d (.sl zNt (n.map Nt.r))]=some ⟨l,a,n⟩:=Fs xy ⟨l,a,n⟩
theorem TJ (l:List (List UInt8)) (a:List Al) (n:List Nt):mRp.d [.ov [.v (.string (bs []))] (l.map sR1),.d (.sl zAl (a.map Al.r)),.d (.sl zNt (n.map Nt.r))]=some ⟨l,a,n⟩:=TI l a n
theorem TK (p:Rp):∀q,some q∈[some ((zRp,[p.c]):MV)]→∀r∈q.2,∀c∈r,c.names=[]:=by
 intro q hq r hr c hc
 simp only[mem_singleton,jS]at hq
 subst hq
 simp only[mem_singleton]at hr
 subst hr
 exact nU p c hc
theorem gk (l:List (List UInt8)):((l.map sR1).all fun r=>r.all fun c=>c.names.isEmpty)=true:=Af.cl
theorem A3F {l:List (List UInt8)} {i:Nat} {x:List UInt8} (h:l[i]?=some x):(l.map sR1)[i]?=some [.v (.string (bs x))]:=by simp[h,sR1]
theorem A3G {l:List (List UInt8)} {i:Nat} {x:List UInt8} (h:l[i]?=some x) (z:List C):(l.map sR1).getD i z=[.v (.string (bs x))]:=by simp[List.getD,h,sR1]
theorem xz (l:List (List UInt8)) (i:Nat) (x:List UInt8):(l.map sR1).set i [.v (.string (bs x))]=(l.set i x).map sR1:=by rw[List.map_set];rfl
def inB (l:List (List UInt8)) (i:Int):Bool:=decide (0≤i)&&decide (i<(l.length:Int))
def extL (l:List (List UInt8)) (i:Int) (t:List UInt8):List (List UInt8):=if inB l i=true then l.set i.toNat (l.getD i.toNat []++t) else l
abbrev K5 (p:Rp) (i:Int) (t:List UInt8):Prop:=p.l.length≤1000000∧(∀x∈p.l,x.length+t.length≤1000000000)∧t.length≤1000000000
abbrev Fl (p:Rp) (i:Int) (t:List UInt8):SV:=.tup []
abbrev Dy (p:Rp) (i:Int) (t:List UInt8):List (Option MV):=[some (zRp,[({ p with l:=extL p.l i t }:Rp).c])]
noncomputable abbrev Fm:ArgM ((Rp)×(Int)×(List UInt8)×Unit):=(amP (mRp) (amD (cInt .i64) (amD (cStr) am0)))
abbrev gm:Prop:=BD Tryz.prog 111 ((Fm).args 0) (Fm).mem (fun p:(Rp)×(Int)×(List UInt8)×Unit=>K5 p.1 p.2.1 p.2.2.1) (fun p:(Rp)×(Int)×(List UInt8)×Unit=>Fl p.1 p.2.1 p.2.2.1) (fun p:(Rp)×(Int)×(List UInt8)×Unit=>Dy p.1 p.2.1 p.2.2.1)
theorem gp:∀p,(fun p:(Rp)×(Int)×(List UInt8)×Unit=>K5 p.1 p.2.1 p.2.2.1) p→BA ((Fm).mem p).length ((fun p:(Rp)×(Int)×(List UInt8)×Unit=>Dy p.1 p.2.1 p.2.2.1) p)=true:=by intro p _;rfl
theorem gq:∀p,(fun p:(Rp)×(Int)×(List UInt8)×Unit=>K5 p.1 p.2.1 p.2.2.1) p→AQ ((fun p:(Rp)×(Int)×(List UInt8)×Unit=>Dy p.1 p.2.1 p.2.2.1) p).length ((fun p:(Rp)×(Int)×(List UInt8)×Unit=>Fl p.1 p.2.1 p.2.2.1) p)=true:=by intro p _;rfl
theorem gr:∀p,(fun p:(Rp)×(Int)×(List UInt8)×Unit=>K5 p.1 p.2.1 p.2.2.1) p→∀q,some q∈(fun p:(Rp)×(Int)×(List UInt8)×Unit=>Dy p.1 p.2.1 p.2.2.1) p→∀r∈q.2,∀c∈r,c.names=[]:=by intro p _;exact TK _
attribute [local go_sem] Rp.c TI TJ WJ WI sR1 xz zRp zSs
theorem kx:gm:=by
 rintro ⟨p,i,t,_u⟩ w M I lab fz xs hc hA hl hx
 refine AJ Tryz.func111 rfl _ w M I lab fz [] [(1,[.unr 0 0 0 1000])] _ _ _ xs hA hl hx (fun v hv k hk=>by have:=(Fm).an 0 ⟨p,i,t,_u⟩ v hv k hk;omega) (jN rfl) (jN rfl) ?_
 clear hx hl hA xs
 simp only[Tryz.f111]
 obtain⟨h1,h2,h2'⟩:=hc
 obtain⟨l,a,n⟩:=p
 dsimp only at h1 h2 h2'
 cases hb:inB l i with
 |false=>
  have he:extL l i t=l:=by unfold extL;rw[if_neg (by rw[hb];decide)]
  unfold inB at hb
  cases h0:decide (0≤i) with
  |false=>
   simp only[↓eB,seval,go_sem,h0]
   try simp only[A1,A2]
   repeat' first|exact ck|with_reducible apply And.intro|intro _
   all_goals first|exact h1|(rename_i h;first|exact oI h|exact nah h)|(rename_i _ h _ g;exact sL h g)|decide|omega|(refine A0 [] ?_;simp only[↓eB,seval,go_sem,bne,Fl,Dy,he])
  |true=>
   rw[h0,Bool.true_and]at hb
   simp only[↓eB,seval,go_sem,h0,hb]
   try simp only[A1,A2]
   repeat' first|exact ck|with_reducible apply And.intro|intro _
   all_goals first|exact h1|(rename_i h;first|exact oI h|exact nah h)|(rename_i _ h _ g;exact sL h g)|decide|omega|(refine A0 [] ?_;simp only[↓eB,seval,go_sem,bne,Fl,Dy,he])
 |true=>
  have hb2:=hb
  simp only[inB,Bool.and_eq_true,decide_eq_true_eq]at hb2
  obtain⟨j,rfl⟩:∃j:Nat,i=(j:Int):=⟨i.toNat,by omega⟩
  have hj:j<l.length:=by omega
  obtain⟨x,hx⟩:∃x,l[j]?=some x:=⟨_,List.getElem?_eq_getElem hj⟩
  have he:extL l (j:Int) t=l.set j (x++t):=by
   unfold extL;rw[if_pos hb,Int.toNat_natCast];simp[List.getD,hx]
  have h3:=h2 x (List.mem_of_getElem? hx)
  have q1:=A3F hx
  have q2:=A3G hx
  have b1:=Ah hj
  have b2:=AX hj
  simp only[↓eB,seval,go_sem,b1,b2,q1,q2]
  try simp only[A1,A2]
  repeat' first|exact ck|with_reducible apply And.intro|intro _
  all_goals first|exact h1|exact h3|exact hj|exact omega|(rename_i h;first|exact oI h|exact nah h)|(rename_i _ h _ g;exact sL h g)|decide|omega|(refine A0 [.fold 0 0 0] ?_;simp only[↓eB,seval,go_sem,bne,Fl,Dy,he,q1,q2,gk])
noncomputable def K6 {X:Ctx} {w0:World}:Sy.Spec Tryz.prog X w0:=Be 111 Tryz.call111 (Fm) (fun p:(Rp)×(Int)×(List UInt8)×Unit=>K5 p.1 p.2.1 p.2.2.1) (fun p:(Rp)×(Int)×(List UInt8)×Unit=>Fl p.1 p.2.1 p.2.2.1) (fun p:(Rp)×(Int)×(List UInt8)×Unit=>Dy p.1 p.2.1 p.2.2.1) gp gq gr kx
end Go.Proofs.YtbiepiggmagfcaaGreatDoor
