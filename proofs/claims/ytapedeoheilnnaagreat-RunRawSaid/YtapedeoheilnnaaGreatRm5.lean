/- A frame's sums and conditions, walked. No conditions but those in each statement. -/
import Derived.Test.YtapedeoheilnnaaGreatPgm
set_option linter.all false
set_option maxRecDepth 20000
set_option maxHeartbeats 16000000
open Option (isSome_some isSome_none)
namespace Go.Proofs.YtapedeoheilnnaaGreat
open Go Go.Sy Go.RowKit
variable{P:Prop}
theorem yc(h:P:=by (repeat' first|exact ck|with_reducible apply And.intro|intro _);all_goals first|exact trivial|exact KZ|(refine A1 [] ?_;simp only[seval,go_sem,bne,Pw,A5,xt,↓A0,h])):P:=h
theorem UM(h:P:=by (repeat' first|exact ck|with_reducible apply And.intro|intro _);all_goals first|exact trivial|exact KZ|(refine A1 [] ?_;simp only[seval,go_sem,bne,A5,↓A0,h])):P:=h
theorem yd(h:P:=by (repeat' first|exact ck|with_reducible apply And.intro|intro _);all_goals first|exact hc1|exact KZ|(refine A1 [] ?_;simp only[seval,go_sem,bne,A5,↓A0,h,hv])):P:=h
theorem mw(h:P:=by (repeat' first|exact ck|with_reducible apply And.intro|intro _);all_goals first|exact hc1|exact⟨hc1,ha1⟩|exact KZ|(refine A1 [] ?_;simp only[seval,go_sem,bne,A5,↓A0,h,ha])):P:=h
theorem UN(h:P:=by (repeat' first|exact ck|with_reducible apply And.intro|intro _);all_goals first|exact hc1|exact⟨hc1,ha1⟩|exact⟨hc1,hb1⟩|exact KZ|(refine A1 [] ?_;simp only[seval,go_sem,bne,A5,↓A0,h,ha,hb])):P:=h
theorem ye(h:P:=by (repeat' first|exact ck|with_reducible apply And.intro|intro _);all_goals first|exact hc1|exact⟨hc1,ha1⟩|exact⟨hc1,hb1⟩|exact hv0|exact KZ|(refine A1 [] ?_;simp only[seval,go_sem,bne,A5,↓A0,h,ha,hb])):P:=h
abbrev tR(q:Fa)(s:Sm)(x:List UInt8):Prop:=okC q.P q.m
abbrev X6(q:Fa)(s:Sm)(x:List UInt8):Bool:=(vlF q.P q.m q.vs x).b
abbrev Pv(q:Fa)(s:Sm)(x:List UInt8):Fa:=evA q s (vlF q.P q.m q.vs x)
abbrev TE(q:Fa)(s:Sm)(x:List UInt8):Fa:=evW q s (vlF q.P q.m q.vs x)
abbrev Pw(q:Fa)(s:Sm)(x:List UInt8):SV:=.one (.v (.int .i64 ((vlF q.P q.m q.vs x).vl 0)))
theorem tS:∀b,∀v∈ArgC.e (acS (cSp) (acS (cStr) ac0)) b,v.tupB=false:=by rintro ⟨x0,x1,_⟩ v hv;simp only[FM,FL,List.mem_cons,List.not_mem_nil,or_false]at hv;rcases hv with rfl|rfl<;>first|rfl|exact FD _|exact FE _
noncomputable abbrev TF:ArgL (Fa×(Sm)×(List UInt8)×Unit):=amFr (acS (cSp) (acS (cStr) ac0)) tS
abbrev TG:Prop:=DY Tryz.prog 117 (TF).args (TF).mem (λp:(Fa×(Sm)×(List UInt8)×Unit)=>tR p.1 p.2.1 p.2.2.1) (λp:(Fa×(Sm)×(List UInt8)×Unit)=>X6 p.1 p.2.1 p.2.2.1) (λp:(Fa×(Sm)×(List UInt8)×Unit)=>Pw p.1 p.2.1 p.2.2.1) (λp:(Fa×(Sm)×(List UInt8)×Unit)=>Fa.memO (Pv p.1 p.2.1 p.2.2.1)) (λp:(Fa×(Sm)×(List UInt8)×Unit)=>mlO (Fa.pan (TE p.1 p.2.1 p.2.2.1)))
noncomputable def X7{X:Ctx}{w0:World}(h:TG):Sy.Spec Tryz.prog X w0:=DL 117 Tryz.call117 (TF) _ _ _ _ _ (id (by exact λp _ _=>have h:=Ee p.1 (Pv p.1 p.2.1 p.2.2.1);⟨h.1,h.2.1,rfl,h.2.2⟩)) (id (by exact λp _ _=>JG p.1 (TE p.1 p.2.1 p.2.2.1))) (id (by exact λp _ _=>⟨(Ee p.1 (Pv p.1 p.2.1 p.2.2.1)).1,rfl⟩)) KF3 h
theorem tT{X:Ctx}{w0:World}(h:TG):(X7 (X:=X) (w0:=w0) h).f=117:=rfl
def tU{X:Ctx}{w0:World}(h:TG)(t:Nat)(args:List SV)(H:Hp):=@id ((X7 (X:=X) (w0:=w0) h).fn t args H=spL X _ t H _ _ _ _ _) rfl
attribute [local go_sem] Ev.b Ev.vl Fa.mem Fa.memO Fa.pan ML.ch ML.ren Ms.brk Ms.exh Ms.spd Sm.ar Sm.cd Sm.e Sm.el Sm.f Sm.k Sm.no Sm.th Sm.x Sm.y Va.c HA H9 HB Dd CS CR CA CP CQ L9 L8 DO DN chL evA evW J0 FG FF H7 fcN JC frC J1 H8 lmH lmO Gg ID IE mcC J2 IC mcW DJ Cg Ci CC CB CE CF EG nmX AB AA Dq De Cx Cy EK EJ GJ GI E1 EH rnC Fl AN Cf DP Cr CO EE va0 vrQ J3 JD Ds Dt DG X6 CV Cv Pv D4 TE
theorem yf:TG:=by
 rintro ⟨q,s,x,_u⟩ w M I lab fz xs hc hA hl hx
 refine Bn Tryz.func117 rfl (Fa.mem q) w M I lab fz (X6 q s x) (Fa.pan (TE q s x)) (Fa.memO (Pv q s x)) [CV] [] ((TF).args ⟨q,s,x,_u⟩) (Pw q s x) xs hA hl hx (Ht _ _ _ _) (jN rfl) (Nat.le_refl _) rfl (JH _) ?_
 clear hx hl hA xs
 simp only[Tryz.f117]
 have hc1:okC q.P q.m:=hc
 obtain⟨k0,x0,y0,e0,f0,cd0,ar0,th0,el0,no0⟩:=s
 cases h1:AD q.vs x with
 |some v=>
  have h:vlF q.P q.m q.vs x= .ok v.n:=by unfold vlF;rw[h1]
  simp only[seval,go_sem,xt,↓A0,isSome_some,isSome_none,h1,h]
  try simp only[A2,A3]
  try exact yc
 |none=>
 cases h2:q.P.ci x with
 |none=>
  have h:vlF q.P q.m q.vs x= .no 4:=by unfold vlF;rw[h1,h2]
  simp only[seval,go_sem,xt,↓A0,isSome_some,isSome_none,h1,h2,h]
  try simp only[A2,A3]
  try exact yc
 |some i=>
 have h:vlF q.P q.m q.vs x= .ok (q.m.cell i):=by unfold vlF;rw[h1,h2]
 have hi:=Pg.ci_lt hc1 h2
 have hg:=MK hi
 simp only[seval,go_sem,xt,↓A0,isSome_some,isSome_none,h1,h2,h,hg,Ms.cell]
 try simp only[A2,A3]
 repeat' first|exact ck|with_reducible apply And.intro|intro _
 all_goals first|exact hi.1|exact hi.2|exact KZ|(refine A1 [] ?_;simp only[seval,go_sem,bne,Pw,A5,xt,↓A0,h,Ms.cell])
noncomputable def dD{X:Ctx}{w0:World}:Sy.Spec Tryz.prog X w0:=X7 yf
abbrev my(n:Nat)(q:Fa)(s:Sm)(e:Ex):Prop:=okC q.P q.m/\e.dp<n
abbrev D9(n:Nat)(q:Fa)(s:Sm)(e:Ex):Bool:=(evF q.P q.m q.vs e).b
abbrev Cm(n:Nat)(q:Fa)(s:Sm)(e:Ex):Fa:=evA q s (evF q.P q.m q.vs e)
abbrev Cw(n:Nat)(q:Fa)(s:Sm)(e:Ex):Fa:=evW q s (evF q.P q.m q.vs e)
abbrev DA(n:Nat)(q:Fa)(s:Sm)(e:Ex):SV:=.one (.v (.int .i64 ((evF q.P q.m q.vs e).vl 0)))
theorem mz:∀b,∀v∈ArgC.e (acS (cSp) (acS (cEx) ac0)) b,v.tupB=false:=by rintro ⟨x0,x1,_⟩ v hv;simp only[FM,FL,List.mem_cons,List.not_mem_nil,or_false]at hv;rcases hv with rfl|rfl<;>first|rfl|exact FD _|exact FE _
noncomputable abbrev Qu:ArgL (Fa×(Sm)×(Ex)×Unit):=amFr (acS (cSp) (acS (cEx) ac0)) mz
abbrev Ld(n:Nat):Prop:=DY Tryz.prog 108 (Qu).args (Qu).mem (λp:(Fa×(Sm)×(Ex)×Unit)=>my n p.1 p.2.1 p.2.2.1) (λp:(Fa×(Sm)×(Ex)×Unit)=>D9 n p.1 p.2.1 p.2.2.1) (λp:(Fa×(Sm)×(Ex)×Unit)=>DA n p.1 p.2.1 p.2.2.1) (λp:(Fa×(Sm)×(Ex)×Unit)=>Fa.memO (Cm n p.1 p.2.1 p.2.2.1)) (λp:(Fa×(Sm)×(Ex)×Unit)=>mlO (Fa.pan (Cw n p.1 p.2.1 p.2.2.1)))
noncomputable def KO{X:Ctx}{w0:World}(n:Nat)(h:Ld n):Sy.Spec Tryz.prog X w0:=DL 108 Tryz.call108 (Qu) _ _ _ _ _ (id (by exact λp _ _=>have h:=Ee p.1 (Cm n p.1 p.2.1 p.2.2.1);⟨h.1,h.2.1,rfl,h.2.2⟩)) (id (by exact λp _ _=>JG p.1 (Cw n p.1 p.2.1 p.2.2.1))) (id (by exact λp _ _=>⟨(Ee p.1 (Cm n p.1 p.2.1 p.2.2.1)).1,rfl⟩)) KF3 h
theorem DZ{X:Ctx}{w0:World}(n:Nat)(h:Ld n):(KO (X:=X) (w0:=w0) n h).f=108:=rfl
def Da{X:Ctx}{w0:World}(n:Nat)(h:Ld n)(t:Nat)(args:List SV)(H:Hp):=@id ((KO (X:=X) (w0:=w0) n h).fn t args H=spL X _ t H _ _ _ _ _) rfl
attribute[local go_sem] xt DZ tT Da tU D9 dD DA Pw Cm Cw in
theorem nA(n:Nat)(hu:Ld n):Ld (n+1):=by
 rintro ⟨q,s,e,_u⟩ w M I lab fz xs hc hA hl hx
 refine Bn Tryz.func108 rfl (Fa.mem q) w M I lab fz (D9 (n+1) q s e) (Fa.pan (Cw (n+1) q s e)) (Fa.memO (Cm (n+1) q s e)) [CV,dD,(KO n hu)] [] ((Qu).args ⟨q,s,e,_u⟩) (DA (n+1) q s e) xs hA hl hx (Ht _ _ _ _) (jN rfl) (Nat.le_refl _) rfl (JH _) ?_
 clear hx hl hA xs
 simp only[Tryz.f108]
 obtain⟨hc1,hc2⟩:=hc
 dsimp only at hc1 hc2
 obtain⟨k0,x0,y0,e0,f0,cd0,ar0,th0,el0,no0⟩:=s
 cases e with
 |nil=>
  have h:evF q.P q.m q.vs .nil= .ok 0:=rfl
  simp only[seval,go_sem,↓A0,isSome_some,isSome_none,h,BQ]
  try simp only[A2,A3]
  try exact UM
 |mk k n1 x a b=>
 simp only[Ex.dp]at hc2
 have ha1:a.dp<n:=by omega
 have hb1:b.dp<n:=by omega
 by_cases c0:k=0
 .subst c0
  have h:evF q.P q.m q.vs (.mk 0 n1 x a b)= .ok n1:=rfl
  simp only[seval,go_sem,↓A0,isSome_some,isSome_none,h,EN]
  try simp only[A2,A3]
  try exact UM
 by_cases c1:k=1
 .subst c1
  have h:evF q.P q.m q.vs (.mk 1 n1 x a b)=vlF q.P q.m q.vs x:=rfl
  cases hv:vlF q.P q.m q.vs x with
  |ok v=>
   simp only[seval,go_sem,↓A0,isSome_some,isSome_none,h,hv,EN]
   try simp only[A2,A3]
   try exact yd
  |no j=>
  simp only[seval,go_sem,↓A0,isSome_some,isSome_none,h,hv,EN]
  try simp only[A2,A3]
  try exact yd
 by_cases c7:k=7
 .subst c7
  cases ha:evF q.P q.m q.vs a with
  |ok v=>
   have h:evF q.P q.m q.vs (.mk 7 n1 x a b)= .ok (w64i (0-v)):=by simp only[evF,ha];rfl
   simp only[seval,go_sem,↓A0,isSome_some,isSome_none,h,ha,EN]
   try simp only[A2,A3]
   try exact mw
  |no j=>
  have h:evF q.P q.m q.vs (.mk 7 n1 x a b)= .no j:=by simp only[evF,ha];rfl
  simp only[seval,go_sem,↓A0,isSome_some,isSome_none,h,ha,EN]
  try simp only[A2,A3]
  try exact mw
 have hh:evF q.P q.m q.vs (.mk k n1 x a b)=(match evF q.P q.m q.vs a with
   | .no j=>.no j
   | .ok x=>match evF q.P q.m q.vs b with
    | .no j=>.no j
    | .ok y=>if (k=5∨k=6)/\y=0 then .no 0 else .ok (arF k x y)):=by
  simp only[evF];rw[if_neg c0,if_neg c1,if_neg c7];rfl
 have d0:(k==0)=false:=by simpa using c0
 have d1:(k==1)=false:=by simpa using c1
 have d7:(k==7)=false:=by simpa using c7
 cases ha:evF q.P q.m q.vs a with
 |no j=>
  have h:evF q.P q.m q.vs (.mk k n1 x a b)= .no j:=by rw[hh,ha]
  simp only[seval,go_sem,↓A0,isSome_some,isSome_none,h,ha,EN,d0,d1,d7]
  try simp only[A2,A3]
  try exact mw
 |ok u=>
 cases hb:evF q.P q.m q.vs b with
 |no j=>
  have h:evF q.P q.m q.vs (.mk k n1 x a b)= .no j:=by rw[hh,ha,hb]
  simp only[seval,go_sem,↓A0,isSome_some,isSome_none,h,ha,hb,EN,d0,d1,d7]
  try simp only[A2,A3]
  try exact UN
 |ok v=>
 by_cases c5:k=5
 .subst c5
  cases cy:(v==0) with
  |true=>
   obtain rfl:v=0:=eq_of_beq cy
   have h:evF q.P q.m q.vs (.mk 5 n1 x a b)= .no 0:=by rw[hh,ha,hb];simp
   simp only[seval,go_sem,↓A0,isSome_some,isSome_none,h,ha,hb,EN]
   try simp only[A2,A3]
   try exact UN
  |false=>
  have hv0:v≠0:=by simpa using cy
  have h:evF q.P q.m q.vs (.mk 5 n1 x a b)= .ok (w64i (u.tdiv v)):=by rw[hh,ha,hb];simp[hv0,arF]
  simp only[seval,go_sem,↓A0,isSome_some,isSome_none,h,ha,hb,EN,cy]
  try simp only[A2,A3]
  try exact ye
 by_cases c6:k=6
 .subst c6
  cases cy:(v==0) with
  |true=>
   obtain rfl:v=0:=eq_of_beq cy
   have h:evF q.P q.m q.vs (.mk 6 n1 x a b)= .no 0:=by rw[hh,ha,hb];simp
   simp only[seval,go_sem,↓A0,isSome_some,isSome_none,h,ha,hb,EN]
   try simp only[A2,A3]
   try exact UN
  |false=>
  have hv0:v≠0:=by simpa using cy
  have h:evF q.P q.m q.vs (.mk 6 n1 x a b)= .ok (u.tmod v):=by rw[hh,ha,hb];simp[hv0,arF]
  simp only[seval,go_sem,↓A0,isSome_some,isSome_none,h,ha,hb,EN,cy]
  try simp only[A2,A3]
  try exact ye
 by_cases c2:k=2
 .subst c2
  have h:evF q.P q.m q.vs (.mk 2 n1 x a b)= .ok (w64i (u+v)):=by rw[hh,ha,hb];rfl
  simp only[seval,go_sem,↓A0,isSome_some,isSome_none,h,ha,hb,EN]
  try simp only[A2,A3]
  try exact UN
 by_cases c3:k=3
 .subst c3
  have h:evF q.P q.m q.vs (.mk 3 n1 x a b)= .ok (w64i (u-v)):=by rw[hh,ha,hb];rfl
  simp only[seval,go_sem,↓A0,isSome_some,isSome_none,h,ha,hb,EN]
  try simp only[A2,A3]
  try exact UN
 by_cases c4:k=4
 .subst c4
  have h:evF q.P q.m q.vs (.mk 4 n1 x a b)= .ok (w64i (u*v)):=by rw[hh,ha,hb];rfl
  simp only[seval,go_sem,↓A0,isSome_some,isSome_none,h,ha,hb,EN]
  try simp only[A2,A3]
  try exact UN
 have d2:(k==2)=false:=by simpa using c2
 have d3:(k==3)=false:=by simpa using c3
 have d4:(k==4)=false:=by simpa using c4
 have d5:(k==5)=false:=by simpa using c5
 have d6:(k==6)=false:=by simpa using c6
 have h:evF q.P q.m q.vs (.mk k n1 x a b)= .ok 0:=by
  rw[hh,ha,hb]
  simp[c5,c6,arF,c2,c3,c4]
 simp only[seval,go_sem,↓A0,isSome_some,isSome_none,h,ha,hb,EN,d0,d1,d2,d3,d4,d5,d6,d7]
 try simp only[A2,A3]
 try exact UN
theorem Px:∀n,Ld n
 |0=>λp w M I lab fz xs hc=>absurd hc.2 (Nat.not_lt_zero _)
 |n+1=>nA n (Px n)
end Go.Proofs.YtapedeoheilnnaaGreat
