/- A frame's conditions, walked. No conditions but those in each statement. -/
import Derived.Test.YtapedeoheilnnaaGreatRm5
set_option linter.all false
open Option (isSome_some isSome_none)
namespace Go.Proofs.YtapedeoheilnnaaGreat
open Go Go.Sy Go.RowKit
variable{P:Prop}
theorem X8(h:P:=by (repeat' first|exact ck|with_reducible apply And.intro|intro _);all_goals first|exact hc1|exact⟨hc1,ha1⟩|exact⟨hc1,hb1⟩|exact⟨hc1,hp1⟩|exact⟨hc1,hp2⟩|exact KZ|(refine A1 [] ?_;simp only[seval,go_sem,bne,A5,↓A0,h,hp])):P:=h
theorem fF(h:P:=by (repeat' first|exact ck|with_reducible apply And.intro|intro _);all_goals first|exact hc1|exact⟨hc1,ha1⟩|exact⟨hc1,hb1⟩|exact⟨hc1,hp1⟩|exact⟨hc1,hp2⟩|exact KZ|(refine A1 [] ?_;simp only[seval,go_sem,bne,A5,↓A0,h,hp,hq])):P:=h
theorem yg(h:P:=by (repeat' first|exact ck|with_reducible apply And.intro|intro _);all_goals first|exact hc1|exact⟨hc1,ha1⟩|exact⟨hc1,hb1⟩|exact⟨hc1,hp1⟩|exact⟨hc1,hp2⟩|exact KZ|(refine A1 [] ?_;simp only[seval,go_sem,bne,A5,↓A0,h])):P:=h
theorem SE(h:P:=by (repeat' first|exact ck|with_reducible apply And.intro|intro _);all_goals first|exact hc1|exact⟨hc1,ha1⟩|exact⟨hc1,hb1⟩|exact⟨hc1,hp1⟩|exact⟨hc1,hp2⟩|exact KZ|(refine A1 [] ?_;simp only[seval,go_sem,bne,A5,↓A0,h,ha,hb])):P:=h
def kb:Cd->Bool
 | .nil=>false
 | .mk k _ _ _ _ _=>k==7
theorem A3v(k:Int)(a b:Ex)(p q:Cd)(s:List UInt8):kb (.mk k a b p q s)=(k==7):=rfl
theorem yh:kb .nil=false:=rfl
abbrev nB(n:Nat)(d:Bool)(q:Fa)(s:Sm)(e:Cd):Prop:=okC q.P q.m/\e.dp<n
abbrev Ey(n:Nat)(d:Bool)(q:Fa)(s:Sm)(e:Cd):Bool:=(cdF q.P q.m q.vs e).b
abbrev EV(n:Nat)(d:Bool)(q:Fa)(s:Sm)(e:Cd):Fa:=evA q s (cdF q.P q.m q.vs e)
abbrev Eh(n:Nat)(d:Bool)(q:Fa)(s:Sm)(e:Cd):Fa:=evW q s (cdF q.P q.m q.vs e)
abbrev Ez(n:Nat)(d:Bool)(q:Fa)(s:Sm)(e:Cd):SV:=.one (.v (.bool ((cdF q.P q.m q.vs e).vl d)))
theorem nC:∀b,∀v∈ArgC.e (acS (cSp) (acS (cCd) ac0)) b,v.tupB=false:=by rintro ⟨x0,x1,_⟩ v hv;simp only[FM,FL,List.mem_cons,List.not_mem_nil,or_false]at hv;rcases hv with rfl|rfl<;>first|rfl|exact FD _|exact FE _
noncomputable abbrev Qv:ArgL (Fa×(Sm)×(Cd)×Unit):=amFr (acS (cSp) (acS (cCd) ac0)) nC
abbrev Le(n:Nat)(d:Bool):Prop:=DY Tryz.prog 113 (Qv).args (Qv).mem (λp:(Fa×(Sm)×(Cd)×Unit)=>nB n d p.1 p.2.1 p.2.2.1) (λp:(Fa×(Sm)×(Cd)×Unit)=>Ey n d p.1 p.2.1 p.2.2.1) (λp:(Fa×(Sm)×(Cd)×Unit)=>Ez n d p.1 p.2.1 p.2.2.1) (λp:(Fa×(Sm)×(Cd)×Unit)=>Fa.memO (EV n d p.1 p.2.1 p.2.2.1)) (λp:(Fa×(Sm)×(Cd)×Unit)=>mlO (Fa.pan (Eh n d p.1 p.2.1 p.2.2.1)))
noncomputable def Lf{X:Ctx}{w0:World}(n:Nat)(d:Bool)(h:Le n d):Sy.Spec Tryz.prog X w0:=DL 113 Tryz.call113 (Qv) _ _ _ _ _ (id (by exact λp _ _=>have h:=Ee p.1 (EV n d p.1 p.2.1 p.2.2.1);⟨h.1,h.2.1,rfl,h.2.2⟩)) (id (by exact λp _ _=>JG p.1 (Eh n d p.1 p.2.1 p.2.2.1))) (id (by exact λp _ _=>⟨(Ee p.1 (EV n d p.1 p.2.1 p.2.2.1)).1,rfl⟩)) KF3 h
theorem Ff{X:Ctx}{w0:World}(n:Nat)(d:Bool)(h:Le n d):(Lf (X:=X) (w0:=w0) n d h).f=113:=rfl
def Fg{X:Ctx}{w0:World}(n:Nat)(d:Bool)(h:Le n d)(t:Nat)(args:List SV)(H:Hp):=@id ((Lf (X:=X) (w0:=w0) n d h).fn t args H=spL X _ t H _ _ _ _ _) rfl
attribute [local go_sem] Ev.b Ev.vl Fa.mem Fa.memO Fa.pan ML.ch ML.ren Ms.brk Ms.exh Ms.spd Sm.ar Sm.cd Sm.e Sm.el Sm.f Sm.k Sm.no Sm.th Sm.x Sm.y Va.c HA H9 HB Dd CS CR CA CP CQ L9 L8 DO DN chL evA evW J0 FG FF H7 fcN JC frC J1 H8 A3v yh lmH lmO Gg ID IE mcC J2 IC mcW DJ Cg Ci CC CB CE CF EG nmX AB AA Dq De Cx Cy EK EJ GJ GI E1 EH rnC Fl AN Cf DP Cr CO EE va0 vrQ J3 JD Ds Ff DZ Dt Fg Da DG Ey D9 CV Ez DA Cv EV Cm D4 Eh Cw
set_option maxRecDepth 20000 in set_option maxHeartbeats 16000000 in
attribute[local go_sem] xt in
theorem nD(n:Nat)(d:Bool)(hu:∀d,Le n d):Le (n+1) d:=by
 rintro ⟨q,s,e,_u⟩ w M I lab fz xs hc hA hl hx
 refine Bn Tryz.func113 rfl (Fa.mem q) w M I lab fz (Ey (n+1) d q s e) (Fa.pan (Eh (n+1) d q s e)) (Fa.memO (EV (n+1) d q s e)) [CV,(KO n (Px n)),(Lf n (kb e) (hu (kb e)))] [] ((Qv).args ⟨q,s,e,_u⟩) (Ez (n+1) d q s e) xs hA hl hx (Ht _ _ _ _) (jN rfl) (Nat.le_refl _) rfl (JH _) ?_
 clear hx hl hA xs
 simp only[Tryz.f113]
 obtain⟨hc1,hc2⟩:=hc
 dsimp only at hc1 hc2
 obtain⟨k0,x0,y0,e0,f0,cd0,ar0,th0,el0,no0⟩:=s
 cases e with
 |nil=>
  have h:cdF q.P q.m q.vs .nil= .ok false:=rfl
  simp only[seval,go_sem,↓A0,isSome_some,isSome_none,h,Bw]
  try simp only[A2,A3]
  try exact UM
 |mk k a b p1 p2 x=>
 simp only[Cd.dp]at hc2
 have ha1:a.dp<n:=by omega
 have hb1:b.dp<n:=by omega
 have hp1:p1.dp<n:=by omega
 have hp2:p2.dp<n:=by omega
 by_cases c6:k=6
 .subst c6
  cases hp:cdF q.P q.m q.vs p1 with
  |no j=>
   have h:cdF q.P q.m q.vs (.mk 6 a b p1 p2 x)= .no j:=by simp only[cdF,hp];rfl
   simp only[seval,go_sem,↓A0,isSome_some,isSome_none,h,hp,E3]
   try simp only[A2,A3]
   try exact X8
  |ok v=>
  cases v with
  |false=>
   have h:cdF q.P q.m q.vs (.mk 6 a b p1 p2 x)= .ok false:=by simp only[cdF,hp];rfl
   simp only[seval,go_sem,↓A0,isSome_some,isSome_none,h,hp,E3]
   try simp only[A2,A3]
   try exact X8
  |true=>
  cases hq:cdF q.P q.m q.vs p2 with
  |no j=>
   have h:cdF q.P q.m q.vs (.mk 6 a b p1 p2 x)= .no j:=by simp only[cdF,hp,hq];rfl
   simp only[seval,go_sem,↓A0,isSome_some,isSome_none,h,hp,hq,E3]
   try simp only[A2,A3]
   try exact fF
  |ok u=>
  have h:cdF q.P q.m q.vs (.mk 6 a b p1 p2 x)= .ok u:=by simp only[cdF,hp,hq];rfl
  simp only[seval,go_sem,↓A0,isSome_some,isSome_none,h,hp,hq,E3]
  try simp only[A2,A3]
  try exact fF
 by_cases c7:k=7
 .subst c7
  cases hp:cdF q.P q.m q.vs p1 with
  |no j=>
   have h:cdF q.P q.m q.vs (.mk 7 a b p1 p2 x)= .no j:=by simp only[cdF,hp];rfl
   simp only[seval,go_sem,↓A0,isSome_some,isSome_none,h,hp,E3]
   try simp only[A2,A3]
   try exact X8
  |ok v=>
  cases v with
  |true=>
   have h:cdF q.P q.m q.vs (.mk 7 a b p1 p2 x)= .ok true:=by simp only[cdF,hp];rfl
   simp only[seval,go_sem,↓A0,isSome_some,isSome_none,h,hp,E3]
   try simp only[A2,A3]
   try exact X8
  |false=>
  cases hq:cdF q.P q.m q.vs p2 with
  |no j=>
   have h:cdF q.P q.m q.vs (.mk 7 a b p1 p2 x)= .no j:=by simp only[cdF,hp,hq];rfl
   simp only[seval,go_sem,↓A0,isSome_some,isSome_none,h,hp,hq,E3]
   try simp only[A2,A3]
   try exact fF
  |ok u=>
  have h:cdF q.P q.m q.vs (.mk 7 a b p1 p2 x)= .ok u:=by simp only[cdF,hp,hq];rfl
  simp only[seval,go_sem,↓A0,isSome_some,isSome_none,h,hp,hq,E3]
  try simp only[A2,A3]
  try exact fF
 by_cases c8:k=8
 .subst c8
  cases hp:cdF q.P q.m q.vs p1 with
  |no j=>
   have h:cdF q.P q.m q.vs (.mk 8 a b p1 p2 x)= .no j:=by simp only[cdF,hp];rfl
   simp only[seval,go_sem,↓A0,isSome_some,isSome_none,h,hp,E3]
   try simp only[A2,A3]
   try exact X8
  |ok v=>
  have h:cdF q.P q.m q.vs (.mk 8 a b p1 p2 x)= .ok (!v):=by simp only[cdF,hp];rfl
  simp only[seval,go_sem,↓A0,isSome_some,isSome_none,h,hp,E3]
  try simp only[A2,A3]
  try exact X8
 by_cases c9:k=9
 .subst c9
  have h:cdF q.P q.m q.vs (.mk 9 a b p1 p2 x)= .ok ((G1 q.vs x).s==[]):=by simp only[cdF];rfl
  unfold G1 at h
  cases hm:AD q.vs x with
  |none=>
   rw[hm]at h
   simp only[seval,go_sem,↓A0,isSome_some,isSome_none,h,hm,E3]
   try simp only[A2,A3]
   try exact yg
  |some v=>
  rw[hm]at h
  simp only[seval,go_sem,↓A0,isSome_some,isSome_none,h,hm,E3]
  try simp only[A2,A3]
  try exact yg
 have hh:cdF q.P q.m q.vs (.mk k a b p1 p2 x)=(match evF q.P q.m q.vs a with
   | .no j=>.no j
   | .ok x=>match evF q.P q.m q.vs b with
    | .no j=>.no j
    | .ok y=>.ok (cmF k x y)):=by
  simp only[cdF];rw[if_neg c6,if_neg c7,if_neg c8,if_neg c9];rfl
 have d6:(k==6)=false:=by simpa using c6
 have d7:(k==7)=false:=by simpa using c7
 have d8:(k==8)=false:=by simpa using c8
 have d9:(k==9)=false:=by simpa using c9
 cases ha:evF q.P q.m q.vs a with
 |no j=>
  have h:cdF q.P q.m q.vs (.mk k a b p1 p2 x)= .no j:=by rw[hh,ha]
  simp only[seval,go_sem,↓A0,isSome_some,isSome_none,h,ha,E3,d6,d7,d8,d9]
  try simp only[A2,A3]
  repeat' first|exact ck|with_reducible apply And.intro|intro _
  all_goals first|exact hc1|exact⟨hc1,ha1⟩|exact⟨hc1,hb1⟩|exact⟨hc1,hp1⟩|exact⟨hc1,hp2⟩|exact KZ|(refine A1 [] ?_;simp only[seval,go_sem,bne,A5,↓A0,h,ha])
 |ok u=>
 cases hb:evF q.P q.m q.vs b with
 |no j=>
  have h:cdF q.P q.m q.vs (.mk k a b p1 p2 x)= .no j:=by rw[hh,ha,hb]
  simp only[seval,go_sem,↓A0,isSome_some,isSome_none,h,ha,hb,E3,d6,d7,d8,d9]
  try simp only[A2,A3]
  try exact SE
 |ok v=>
 by_cases c0:k=0
 .subst c0
  have h:cdF q.P q.m q.vs (.mk 0 a b p1 p2 x)= .ok (u==v):=by rw[hh,ha,hb];rfl
  simp only[seval,go_sem,↓A0,isSome_some,isSome_none,h,ha,hb,E3,bne]
  try simp only[A2,A3]
  try exact SE
 by_cases c1:k=1
 .subst c1
  have h:cdF q.P q.m q.vs (.mk 1 a b p1 p2 x)= .ok (!(u==v)):=by rw[hh,ha,hb];rfl
  simp only[seval,go_sem,↓A0,isSome_some,isSome_none,h,ha,hb,E3,bne]
  try simp only[A2,A3]
  try exact SE
 by_cases c2:k=2
 .subst c2
  have h:cdF q.P q.m q.vs (.mk 2 a b p1 p2 x)= .ok (decide (u<v)):=by rw[hh,ha,hb];rfl
  simp only[seval,go_sem,↓A0,isSome_some,isSome_none,h,ha,hb,E3,bne]
  try simp only[A2,A3]
  try exact SE
 by_cases c3:k=3
 .subst c3
  have h:cdF q.P q.m q.vs (.mk 3 a b p1 p2 x)= .ok (decide (u<=v)):=by rw[hh,ha,hb];rfl
  simp only[seval,go_sem,↓A0,isSome_some,isSome_none,h,ha,hb,E3,bne]
  try simp only[A2,A3]
  try exact SE
 by_cases c4:k=4
 .subst c4
  have h:cdF q.P q.m q.vs (.mk 4 a b p1 p2 x)= .ok (decide (v<u)):=by rw[hh,ha,hb];rfl
  simp only[seval,go_sem,↓A0,isSome_some,isSome_none,h,ha,hb,E3,bne]
  try simp only[A2,A3]
  try exact SE
 by_cases c5:k=5
 .subst c5
  have h:cdF q.P q.m q.vs (.mk 5 a b p1 p2 x)= .ok (decide (v<=u)):=by rw[hh,ha,hb];rfl
  simp only[seval,go_sem,↓A0,isSome_some,isSome_none,h,ha,hb,E3,bne]
  try simp only[A2,A3]
  try exact SE
 have e0':(k==0)=false:=by simpa using c0
 have e1':(k==1)=false:=by simpa using c1
 have e2':(k==2)=false:=by simpa using c2
 have e3':(k==3)=false:=by simpa using c3
 have e4':(k==4)=false:=by simpa using c4
 have e5':(k==5)=false:=by simpa using c5
 have h:cdF q.P q.m q.vs (.mk k a b p1 p2 x)= .ok false:=by
  rw[hh,ha,hb];simp[cmF,c0,c1,c2,c3,c4,c5]
 simp only[seval,go_sem,↓A0,isSome_some,isSome_none,h,ha,hb,E3,e0',e1',e2',e3',e4',e5',d6,d7,d8,d9]
 try simp only[A2,A3]
 try exact SE
theorem TH:∀n d,Le n d
 |0,d=>λp w M I lab fz xs hc=>absurd hc.2 (Nat.not_lt_zero _)
 |n+1,d=>nD n d λd=>TH n d
end Go.Proofs.YtapedeoheilnnaaGreat
