/- A frame's sums and conditions, walked. No conditions but those in each statement. -/
import Derived.Test.YtapedeoheilnnaaGreatZr2
set_option linter.all false
set_option maxRecDepth 20000
set_option maxHeartbeats 16000000
open Option (isSome_some isSome_none)
namespace Go.Proofs.YtapedeoheilnnaaGreat
open Go Go.Sy Go.RowKit
theorem Ip{P:Prop}(h:P:=by
 repeat refine AX ?_
 refine A1 [] ?_;simp only[seval,go_sem,bne,A3,↓A0,h,ha,hb]):P:=h
theorem Oz{P:Prop}(h:P:=by
 repeat refine AX ?_
 refine A1 [] ?_;simp only[seval,go_sem,bne,A3,↓A0,h]):P:=h
theorem fK{P:Prop}(h:P:=by
 repeat refine AX ?_
 all_goals first|(refine A1 [] ?_;simp only[seval,go_sem,bne,A3,↓A0,h,ha,hb])|exact KA):P:=h
theorem qX{P:Prop}(h:P:=by
 repeat refine AX ?_
 all_goals first|(refine A1 [] ?_;simp only[seval,go_sem,bne,A3,↓A0,h,ha])|exact KA):P:=h
abbrev u7(q:Fa)(s:Sm)(x:List UInt8):Prop:=okC q.P q.m
abbrev XG(q:Fa)(s:Sm)(x:List UInt8):Bool:=(vlF q.P q.m q.vs x).b
abbrev QH(q:Fa)(s:Sm)(x:List UInt8):Fa:=evA q s (vlF q.P q.m q.vs x)
abbrev TU(q:Fa)(s:Sm)(x:List UInt8):Fa:=evW q s (vlF q.P q.m q.vs x)
abbrev NY(q:Fa)(s:Sm)(x:List UInt8):SV:=.one (.v (.int .i64 ((vlF q.P q.m q.vs x).vl 0)))
theorem u9:∀b,∀v∈ArgC.e (acS (cSp) (acS (cStr) ac0)) b,v.tupB=false:=by rintro ⟨x0,x1,_⟩ v hv;simp only[FV,FU,List.mem_cons,List.not_mem_nil,or_false]at hv;rcases hv with rfl|rfl<;>first|rfl|exact FN _|exact FO _
noncomputable abbrev TV:ArgL (Fa×(Sm)×(List UInt8)×Unit):=amFr (acS (cSp) (acS (cStr) ac0)) u9
abbrev TW:Prop:=Dj Tryz.prog 117 (TV).args (TV).mem (λp:(Fa×(Sm)×(List UInt8)×Unit)=>u7 p.1 p.2.1 p.2.2.1) (λp:(Fa×(Sm)×(List UInt8)×Unit)=>XG p.1 p.2.1 p.2.2.1) (λp:(Fa×(Sm)×(List UInt8)×Unit)=>NY p.1 p.2.1 p.2.2.1) (λp:(Fa×(Sm)×(List UInt8)×Unit)=>Fa.memO (QH p.1 p.2.1 p.2.2.1)) (λp:(Fa×(Sm)×(List UInt8)×Unit)=>mlO (Fa.pan (TU p.1 p.2.1 p.2.2.1)))
noncomputable def XH{X:Ctx}{w0:World}(h:TW):Sy.Spec Tryz.prog X w0:=Dc 117 Tryz.call117 (TV) _ _ _ _ _ (id (by exact λp _ _=>have h:=Ek p.1 (QH p.1 p.2.1 p.2.2.1);⟨h.1,h.2.1,rfl,h.2.2⟩)) (id (by exact λp _ _=>JM p.1 (TU p.1 p.2.1 p.2.2.1))) (id (by exact λp _ _=>⟨(Ek p.1 (QH p.1 p.2.1 p.2.2.1)).1,rfl⟩)) KF5 h
theorem uA{X:Ctx}{w0:World}(h:TW):(XH (X:=X) (w0:=w0) h).f=117:=rfl
def uB{X:Ctx}{w0:World}(h:TW)(t:Nat)(args:List SV)(H:Hp):=@id ((XH (X:=X) (w0:=w0) h).fn t args H=spL X _ t H _ _ _ _ _) rfl
attribute [local go_sem] Ev.b Ev.vl Fa.mem Fa.memO Fa.pan ML.ch ML.ren Ms.brk Ms.exh Ms.spd Sm.ar Sm.cd Sm.e Sm.el Sm.f Sm.k Sm.no Sm.th Sm.x Sm.y Va.c H4 Gz H5 Di Bl Bk Be Bi Bj LJ LI DJ DI chL evA evW IJ F6 F5 Gv fcN JI frC IK Gx lmH lmO Gw IH II mcC IL Hm mcW DH Cj Ck CQ CP CR CS EQ nmX A5 A4 Dz Dh D3 D4 ED E9 GW GV E5 EE rnC Fx AF Ci DS Cu CU E8 va0 vrQ IM JJ Dk Dl D8 XG CN Cn QH Cy TU
theorem zF:TW:=by
 rintro ⟨q,s,x,_u⟩ w M I lab fz xs hc hA hl hx
 refine Bz Tryz.func117 rfl (Fa.mem q) w M I lab fz (XG q s x) (Fa.pan (TU q s x)) (Fa.memO (QH q s x)) [CN] [] ((TV).args ⟨q,s,x,_u⟩) (NY q s x) xs hA hl hx (Hx _ _ _ _) (jN rfl) (Nat.le_refl _) rfl (JN _) ?_
 clear hx hl hA xs
 simp only[Tryz.f117]
 have hc1:okC q.P q.m:=hc
 obtain⟨k0,x0,y0,e0,f0,cd0,ar0,th0,el0,no0⟩:=s
 cases h1:AH q.vs x with
 |some v=>
  have h:vlF q.P q.m q.vs x= .ok v.n:=by unfold vlF;rw[h1]
  simp only[seval,go_sem,xt,↓A0,isSome_some,isSome_none,h1,h]
  repeat refine AX ?_
  refine A1 [] ?_;simp only[seval,go_sem,bne,NY,A3,xt,↓A0,h]
 |none=>
 cases h2:q.P.ci x with
 |none=>
  have h:vlF q.P q.m q.vs x= .no 4:=by unfold vlF;rw[h1,h2]
  simp only[seval,go_sem,xt,↓A0,isSome_some,isSome_none,h1,h2,h]
  repeat refine AX ?_
  all_goals first|(refine A1 [] ?_;simp only[seval,go_sem,bne,NY,A3,xt,↓A0,h])|exact KA
 |some i=>
 have h:vlF q.P q.m q.vs x= .ok (q.m.cell i):=by unfold vlF;rw[h1,h2]
 have hi:=Pg.ci_lt hc1 h2
 have hg:=MR hi
 simp only[seval,go_sem,xt,↓A0,isSome_some,isSome_none,h1,h2,h,hg,Ms.cell]
 have:=hi.1;have:=hi.2;repeat refine AX ?_
 refine A1 [] ?_;simp only[seval,go_sem,bne,NY,A3,xt,↓A0,h,Ms.cell]
noncomputable def dZ{X:Ctx}{w0:World}:Sy.Spec Tryz.prog X w0:=XH zF
abbrev nX(n:Nat)(q:Fa)(s:Sm)(e:Ex):Prop:=okC q.P q.m/\e.dp<n
abbrev D1(n:Nat)(q:Fa)(s:Sm)(e:Ex):Bool:=(evF q.P q.m q.vs e).b
abbrev Cg(n:Nat)(q:Fa)(s:Sm)(e:Ex):Fa:=evA q s (evF q.P q.m q.vs e)
abbrev Ct(n:Nat)(q:Fa)(s:Sm)(e:Ex):Fa:=evW q s (evF q.P q.m q.vs e)
abbrev D2(n:Nat)(q:Fa)(s:Sm)(e:Ex):SV:=.one (.v (.int .i64 ((evF q.P q.m q.vs e).vl 0)))
theorem nY:∀b,∀v∈ArgC.e (acS (cSp) (acS (cEx) ac0)) b,v.tupB=false:=by rintro ⟨x0,x1,_⟩ v hv;simp only[FV,FU,List.mem_cons,List.not_mem_nil,or_false]at hv;rcases hv with rfl|rfl<;>first|rfl|exact FN _|exact FO _
noncomputable abbrev R7:ArgL (Fa×(Sm)×(Ex)×Unit):=amFr (acS (cSp) (acS (cEx) ac0)) nY
abbrev Lm(n:Nat):Prop:=Dj Tryz.prog 108 (R7).args (R7).mem (λp:(Fa×(Sm)×(Ex)×Unit)=>nX n p.1 p.2.1 p.2.2.1) (λp:(Fa×(Sm)×(Ex)×Unit)=>D1 n p.1 p.2.1 p.2.2.1) (λp:(Fa×(Sm)×(Ex)×Unit)=>D2 n p.1 p.2.1 p.2.2.1) (λp:(Fa×(Sm)×(Ex)×Unit)=>Fa.memO (Cg n p.1 p.2.1 p.2.2.1)) (λp:(Fa×(Sm)×(Ex)×Unit)=>mlO (Fa.pan (Ct n p.1 p.2.1 p.2.2.1)))
noncomputable def KX{X:Ctx}{w0:World}(n:Nat)(h:Lm n):Sy.Spec Tryz.prog X w0:=Dc 108 Tryz.call108 (R7) _ _ _ _ _ (id (by exact λp _ _=>have h:=Ek p.1 (Cg n p.1 p.2.1 p.2.2.1);⟨h.1,h.2.1,rfl,h.2.2⟩)) (id (by exact λp _ _=>JM p.1 (Ct n p.1 p.2.1 p.2.2.1))) (id (by exact λp _ _=>⟨(Ek p.1 (Cg n p.1 p.2.1 p.2.2.1)).1,rfl⟩)) KF5 h
theorem DP{X:Ctx}{w0:World}(n:Nat)(h:Lm n):(KX (X:=X) (w0:=w0) n h).f=108:=rfl
def DQ{X:Ctx}{w0:World}(n:Nat)(h:Lm n)(t:Nat)(args:List SV)(H:Hp):=@id ((KX (X:=X) (w0:=w0) n h).fn t args H=spL X _ t H _ _ _ _ _) rfl
attribute[local go_sem] xt DP uA DQ uB D1 dZ D2 NY Cg Ct in
theorem nZ(n:Nat)(hu:Lm n):Lm (n+1):=by
 rintro ⟨q,s,e,_u⟩ w M I lab fz xs hc hA hl hx
 refine Bz Tryz.func108 rfl (Fa.mem q) w M I lab fz (D1 (n+1) q s e) (Fa.pan (Ct (n+1) q s e)) (Fa.memO (Cg (n+1) q s e)) [CN,dZ,(KX n hu)] [] ((R7).args ⟨q,s,e,_u⟩) (D2 (n+1) q s e) xs hA hl hx (Hx _ _ _ _) (jN rfl) (Nat.le_refl _) rfl (JN _) ?_
 clear hx hl hA xs
 simp only[Tryz.f108]
 obtain⟨hc1,hc2⟩:=hc
 dsimp only at hc1 hc2
 obtain⟨k0,x0,y0,e0,f0,cd0,ar0,th0,el0,no0⟩:=s
 cases e with
 |nil=>
  have h:evF q.P q.m q.vs .nil= .ok 0:=rfl
  simp only[seval,go_sem,↓A0,isSome_some,isSome_none,h,Af]
  exact Oz
 |mk k n1 x a b=>
 simp only[Ex.dp]at hc2
 have ha1:a.dp<n:=by omega
 have hb1:b.dp<n:=by omega
 by_cases c0:k=0
 .subst c0
  have h:evF q.P q.m q.vs (.mk 0 n1 x a b)= .ok n1:=rfl
  simp only[seval,go_sem,↓A0,isSome_some,isSome_none,h,EU]
  exact Oz
 by_cases c1:k=1
 .subst c1
  have h:evF q.P q.m q.vs (.mk 1 n1 x a b)=vlF q.P q.m q.vs x:=rfl
  cases hv:vlF q.P q.m q.vs x with
  |ok v=>
   simp only[seval,go_sem,↓A0,isSome_some,isSome_none,h,hv,EU]
   repeat refine AX ?_
   refine A1 [] ?_;simp only[seval,go_sem,bne,A3,↓A0,h,hv]
  |no j=>
  simp only[seval,go_sem,↓A0,isSome_some,isSome_none,h,hv,EU]
  repeat refine AX ?_
  all_goals first|(refine A1 [] ?_;simp only[seval,go_sem,bne,A3,↓A0,h,hv])|exact KA
 by_cases c7:k=7
 .subst c7
  cases ha:evF q.P q.m q.vs a with
  |ok v=>
   have h:evF q.P q.m q.vs (.mk 7 n1 x a b)= .ok (w64i (0-v)):=by simp only[evF,ha];rfl
   simp only[seval,go_sem,↓A0,isSome_some,isSome_none,h,ha,EU]
   repeat refine AX ?_
   refine A1 [] ?_;simp only[seval,go_sem,bne,A3,↓A0,h,ha]
  |no j=>
  have h:evF q.P q.m q.vs (.mk 7 n1 x a b)= .no j:=by simp only[evF,ha];rfl
  simp only[seval,go_sem,↓A0,isSome_some,isSome_none,h,ha,EU]
  exact qX
 have hh:evF q.P q.m q.vs (.mk k n1 x a b)=(match evF q.P q.m q.vs a with
   | .no j=>.no j
   | .ok x=>match evF q.P q.m q.vs b with
    | .no j=>.no j
    | .ok y=>if (k=5∨k=6)/\y=0 then .no 0 else .ok (arF k x y)):=by
  simp only[evF];rw[if_neg c0,if_neg c1,if_neg c7];rfl
 have d0:(k==0)=false:=by simpa using c0
 have d1:(k==1)=false:=by simpa using c1
 have d7:(k==7)=false:=by simpa using c7
 cases ha:evF q.P q.m q.vs a with
 |no j=>
  have h:evF q.P q.m q.vs (.mk k n1 x a b)= .no j:=by rw[hh,ha]
  simp only[seval,go_sem,↓A0,isSome_some,isSome_none,h,ha,EU,d0,d1,d7]
  exact qX
 |ok u=>
 cases hb:evF q.P q.m q.vs b with
 |no j=>
  have h:evF q.P q.m q.vs (.mk k n1 x a b)= .no j:=by rw[hh,ha,hb]
  simp only[seval,go_sem,↓A0,isSome_some,isSome_none,h,ha,hb,EU,d0,d1,d7]
  exact fK
 |ok v=>
 by_cases c5:k=5
 .subst c5
  cases cy:(v==0) with
  |true=>
   obtain rfl:v=0:=eq_of_beq cy
   have h:evF q.P q.m q.vs (.mk 5 n1 x a b)= .no 0:=by rw[hh,ha,hb];simp
   simp only[seval,go_sem,↓A0,isSome_some,isSome_none,h,ha,hb,EU]
   exact fK
  |false=>
  have hv0:v≠0:=by simpa using cy
  have h:evF q.P q.m q.vs (.mk 5 n1 x a b)= .ok (w64i (u.tdiv v)):=by rw[hh,ha,hb];simp[hv0,arF]
  simp only[seval,go_sem,↓A0,isSome_some,isSome_none,h,ha,hb,EU,cy]
  exact Ip
 by_cases c6:k=6
 .subst c6
  cases cy:(v==0) with
  |true=>
   obtain rfl:v=0:=eq_of_beq cy
   have h:evF q.P q.m q.vs (.mk 6 n1 x a b)= .no 0:=by rw[hh,ha,hb];simp
   simp only[seval,go_sem,↓A0,isSome_some,isSome_none,h,ha,hb,EU]
   exact fK
  |false=>
  have hv0:v≠0:=by simpa using cy
  have h:evF q.P q.m q.vs (.mk 6 n1 x a b)= .ok (u.tmod v):=by rw[hh,ha,hb];simp[hv0,arF]
  simp only[seval,go_sem,↓A0,isSome_some,isSome_none,h,ha,hb,EU,cy]
  exact Ip
 by_cases c2:k=2
 .subst c2
  have h:evF q.P q.m q.vs (.mk 2 n1 x a b)= .ok (w64i (u+v)):=by rw[hh,ha,hb];rfl
  simp only[seval,go_sem,↓A0,isSome_some,isSome_none,h,ha,hb,EU]
  exact Ip
 by_cases c3:k=3
 .subst c3
  have h:evF q.P q.m q.vs (.mk 3 n1 x a b)= .ok (w64i (u-v)):=by rw[hh,ha,hb];rfl
  simp only[seval,go_sem,↓A0,isSome_some,isSome_none,h,ha,hb,EU]
  exact Ip
 by_cases c4:k=4
 .subst c4
  have h:evF q.P q.m q.vs (.mk 4 n1 x a b)= .ok (w64i (u*v)):=by rw[hh,ha,hb];rfl
  simp only[seval,go_sem,↓A0,isSome_some,isSome_none,h,ha,hb,EU]
  exact Ip
 have d2:(k==2)=false:=by simpa using c2
 have d3:(k==3)=false:=by simpa using c3
 have d4:(k==4)=false:=by simpa using c4
 have d5:(k==5)=false:=by simpa using c5
 have d6:(k==6)=false:=by simpa using c6
 have h:evF q.P q.m q.vs (.mk k n1 x a b)= .ok 0:=by
  rw[hh,ha,hb]
  simp[c5,c6,arF,c2,c3,c4]
 simp only[seval,go_sem,↓A0,isSome_some,isSome_none,h,ha,hb,EU,d0,d1,d2,d3,d4,d5,d6,d7]
 exact Ip
theorem QI:∀n,Lm n
 |0=>λp w M I lab fz xs hc=>absurd hc.2 (Nat.not_lt_zero _)
 |n+1=>nZ n (QI n)
end Go.Proofs.YtapedeoheilnnaaGreat
