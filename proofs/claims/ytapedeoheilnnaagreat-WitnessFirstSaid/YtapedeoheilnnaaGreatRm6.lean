/- A frame's conditions, walked. No conditions but those in each statement. -/
import Derived.Test.YtapedeoheilnnaaGreatRm5
set_option linter.all false
open Option (isSome_some isSome_none)
namespace Go.Proofs.YtapedeoheilnnaaGreat
open Go Go.Sy Go.RowKit
theorem Zn{P:Prop}(h:P:=by
 simp only[seval,go_sem,↓A0,isSome_some,isSome_none,h,hp,EF]
 repeat refine AX ?_
 all_goals first|(refine A1 [] ?_;simp only[seval,go_sem,bne,A3,↓A0,h,hp])|exact KA):P:=h
theorem iO{P:Prop}(h:P:=by
 simp only[seval,go_sem,↓A0,isSome_some,isSome_none,h,hp,EF]
 repeat refine AX ?_
 refine A1 [] ?_;simp only[seval,go_sem,bne,A3,↓A0,h,hp]):P:=h
theorem ux{P:Prop}(h:P:=by
 simp only[seval,go_sem,↓A0,isSome_some,isSome_none,h,hp,hq,EF]
 repeat refine AX ?_
 all_goals first|(refine A1 [] ?_;simp only[seval,go_sem,bne,A3,↓A0,h,hp,hq])|exact KA):P:=h
theorem AAP{P:Prop}(h:P:=by
 simp only[seval,go_sem,↓A0,isSome_some,isSome_none,h,hp,hq,EF]
 repeat refine AX ?_
 refine A1 [] ?_;simp only[seval,go_sem,bne,A3,↓A0,h,hp,hq]):P:=h
def kb:Cd->Bool
 | .nil=>false
 | .mk k _ _ _ _ _=>k==7
theorem A4B(k:Int)(a b:Ex)(p q:Cd)(s:List UInt8):kb (.mk k a b p q s)=(k==7):=rfl
theorem zG:kb .nil=false:=rfl
abbrev nb(n:Nat)(d:Bool)(q:Fa)(s:Sm)(e:Cd):Prop:=okC q.P q.m/\e.dp<n
abbrev En(n:Nat)(d:Bool)(q:Fa)(s:Sm)(e:Cd):Bool:=(cdF q.P q.m q.vs e).b
abbrev EO(n:Nat)(d:Bool)(q:Fa)(s:Sm)(e:Cd):Fa:=evA q s (cdF q.P q.m q.vs e)
abbrev Eb(n:Nat)(d:Bool)(q:Fa)(s:Sm)(e:Cd):Fa:=evW q s (cdF q.P q.m q.vs e)
abbrev Eo(n:Nat)(d:Bool)(q:Fa)(s:Sm)(e:Cd):SV:=.one (.v (.bool ((cdF q.P q.m q.vs e).vl d)))
theorem nd:∀b,∀v∈ArgC.e (acS (cSp) (acS (cCd) ac0)) b,v.tupB=false:=by rintro ⟨x0,x1,_⟩ v hv;simp only[FV,FU,List.mem_cons,List.not_mem_nil,or_false]at hv;rcases hv with rfl|rfl<;>first|rfl|exact FN _|exact FO _
noncomputable abbrev R8:ArgL (Fa×(Sm)×(Cd)×Unit):=amFr (acS (cSp) (acS (cCd) ac0)) nd
abbrev Ln(n:Nat)(d:Bool):Prop:=Dj Tryz.prog 113 (R8).args (R8).mem (λp:(Fa×(Sm)×(Cd)×Unit)=>nb n d p.1 p.2.1 p.2.2.1) (λp:(Fa×(Sm)×(Cd)×Unit)=>En n d p.1 p.2.1 p.2.2.1) (λp:(Fa×(Sm)×(Cd)×Unit)=>Eo n d p.1 p.2.1 p.2.2.1) (λp:(Fa×(Sm)×(Cd)×Unit)=>Fa.memO (EO n d p.1 p.2.1 p.2.2.1)) (λp:(Fa×(Sm)×(Cd)×Unit)=>mlO (Fa.pan (Eb n d p.1 p.2.1 p.2.2.1)))
noncomputable def Lo{X:Ctx}{w0:World}(n:Nat)(d:Bool)(h:Ln n d):Sy.Spec Tryz.prog X w0:=Dc 113 Tryz.call113 (R8) _ _ _ _ _ (id (by exact λp _ _=>have h:=Ek p.1 (EO n d p.1 p.2.1 p.2.2.1);⟨h.1,h.2.1,rfl,h.2.2⟩)) (id (by exact λp _ _=>JM p.1 (Eb n d p.1 p.2.1 p.2.2.1))) (id (by exact λp _ _=>⟨(Ek p.1 (EO n d p.1 p.2.1 p.2.2.1)).1,rfl⟩)) KF5 h
theorem FP{X:Ctx}{w0:World}(n:Nat)(d:Bool)(h:Ln n d):(Lo (X:=X) (w0:=w0) n d h).f=113:=rfl
def FQ{X:Ctx}{w0:World}(n:Nat)(d:Bool)(h:Ln n d)(t:Nat)(args:List SV)(H:Hp):=@id ((Lo (X:=X) (w0:=w0) n d h).fn t args H=spL X _ t H _ _ _ _ _) rfl
attribute [local go_sem] Ev.b Ev.vl Fa.mem Fa.memO Fa.pan ML.ch ML.ren Ms.brk Ms.exh Ms.spd Sm.ar Sm.cd Sm.e Sm.el Sm.f Sm.k Sm.no Sm.th Sm.x Sm.y Va.c H4 Gz H5 Di Bl Bk Be Bi Bj LJ LI DJ DI chL evA evW IJ F6 F5 Gv fcN JI frC IK Gx A4B zG lmH lmO Gw IH II mcC IL Hm mcW DH Cj Ck CQ CP CR CS EQ nmX A5 A4 Dz Dh D3 D4 ED E9 GW GV E5 EE rnC Fx AF Ci DS Cu CU E8 va0 vrQ IM JJ Dk FP DP Dl FQ DQ D8 En D1 CN Eo D2 Cn EO Cg Cy Eb Ct
set_option maxRecDepth 20000 in set_option maxHeartbeats 16000000 in
attribute[local go_sem] xt in
theorem nf(n:Nat)(d:Bool)(hu:∀d,Ln n d):Ln (n+1) d:=by
 rintro ⟨q,s,e,_u⟩ w M I lab fz xs hc hA hl hx
 refine Bz Tryz.func113 rfl (Fa.mem q) w M I lab fz (En (n+1) d q s e) (Fa.pan (Eb (n+1) d q s e)) (Fa.memO (EO (n+1) d q s e)) [CN,(KX n (QI n)),(Lo n (kb e) (hu (kb e)))] [] ((R8).args ⟨q,s,e,_u⟩) (Eo (n+1) d q s e) xs hA hl hx (Hx _ _ _ _) (jN rfl) (Nat.le_refl _) rfl (JN _) ?_
 clear hx hl hA xs
 simp only[Tryz.f113]
 obtain⟨hc1,hc2⟩:=hc
 dsimp only at hc1 hc2
 obtain⟨k0,x0,y0,e0,f0,cd0,ar0,th0,el0,no0⟩:=s
 cases e with
 |nil=>
  have h:cdF q.P q.m q.vs .nil= .ok false:=rfl
  simp only[seval,go_sem,↓A0,isSome_some,isSome_none,h,BD]
  exact Oz
 |mk k a b p1 p2 x=>
 simp only[Cd.dp]at hc2
 have ha1:a.dp<n:=by omega
 have hb1:b.dp<n:=by omega
 have hp1:p1.dp<n:=by omega
 have hp2:p2.dp<n:=by omega
 by_cases c6:k=6
 .subst c6
  cases hp:cdF q.P q.m q.vs p1 with
  |no j=>
   have h:cdF q.P q.m q.vs (.mk 6 a b p1 p2 x)= .no j:=by simp only[cdF,hp];rfl
   exact Zn
  |ok v=>
  cases v with
  |false=>
   have h:cdF q.P q.m q.vs (.mk 6 a b p1 p2 x)= .ok false:=by simp only[cdF,hp];rfl
   exact iO
  |true=>
  cases hq:cdF q.P q.m q.vs p2 with
  |no j=>
   have h:cdF q.P q.m q.vs (.mk 6 a b p1 p2 x)= .no j:=by simp only[cdF,hp,hq];rfl
   exact ux
  |ok u=>
  have h:cdF q.P q.m q.vs (.mk 6 a b p1 p2 x)= .ok u:=by simp only[cdF,hp,hq];rfl
  exact AAP
 by_cases c7:k=7
 .subst c7
  cases hp:cdF q.P q.m q.vs p1 with
  |no j=>
   have h:cdF q.P q.m q.vs (.mk 7 a b p1 p2 x)= .no j:=by simp only[cdF,hp];rfl
   exact Zn
  |ok v=>
  cases v with
  |true=>
   have h:cdF q.P q.m q.vs (.mk 7 a b p1 p2 x)= .ok true:=by simp only[cdF,hp];rfl
   exact iO
  |false=>
  cases hq:cdF q.P q.m q.vs p2 with
  |no j=>
   have h:cdF q.P q.m q.vs (.mk 7 a b p1 p2 x)= .no j:=by simp only[cdF,hp,hq];rfl
   exact ux
  |ok u=>
  have h:cdF q.P q.m q.vs (.mk 7 a b p1 p2 x)= .ok u:=by simp only[cdF,hp,hq];rfl
  exact AAP
 by_cases c8:k=8
 .subst c8
  cases hp:cdF q.P q.m q.vs p1 with
  |no j=>
   have h:cdF q.P q.m q.vs (.mk 8 a b p1 p2 x)= .no j:=by simp only[cdF,hp];rfl
   exact Zn
  |ok v=>
  have h:cdF q.P q.m q.vs (.mk 8 a b p1 p2 x)= .ok (!v):=by simp only[cdF,hp];rfl
  exact iO
 by_cases c9:k=9
 .subst c9
  have h:cdF q.P q.m q.vs (.mk 9 a b p1 p2 x)= .ok ((GB q.vs x).s==[]):=by simp only[cdF];rfl
  unfold GB at h
  cases hm:AH q.vs x with
  |none=>
   rw[hm]at h
   simp only[seval,go_sem,↓A0,isSome_some,isSome_none,h,hm,EF]
   exact Oz
  |some v=>
  rw[hm]at h
  simp only[seval,go_sem,↓A0,isSome_some,isSome_none,h,hm,EF]
  exact Oz
 have hh:cdF q.P q.m q.vs (.mk k a b p1 p2 x)=(match evF q.P q.m q.vs a with
   | .no j=>.no j
   | .ok x=>match evF q.P q.m q.vs b with
    | .no j=>.no j
    | .ok y=>.ok (cmF k x y)):=by
  simp only[cdF];rw[if_neg c6,if_neg c7,if_neg c8,if_neg c9];rfl
 have d6:(k==6)=false:=by simpa using c6
 have d7:(k==7)=false:=by simpa using c7
 have d8:(k==8)=false:=by simpa using c8
 have d9:(k==9)=false:=by simpa using c9
 cases ha:evF q.P q.m q.vs a with
 |no j=>
  have h:cdF q.P q.m q.vs (.mk k a b p1 p2 x)= .no j:=by rw[hh,ha]
  simp only[seval,go_sem,↓A0,isSome_some,isSome_none,h,ha,EF,d6,d7,d8,d9]
  exact qX
 |ok u=>
 cases hb:evF q.P q.m q.vs b with
 |no j=>
  have h:cdF q.P q.m q.vs (.mk k a b p1 p2 x)= .no j:=by rw[hh,ha,hb]
  simp only[seval,go_sem,↓A0,isSome_some,isSome_none,h,ha,hb,EF,d6,d7,d8,d9]
  exact fK
 |ok v=>
 by_cases c0:k=0
 .subst c0
  have h:cdF q.P q.m q.vs (.mk 0 a b p1 p2 x)= .ok (u==v):=by rw[hh,ha,hb];rfl
  simp only[seval,go_sem,↓A0,isSome_some,isSome_none,h,ha,hb,EF,bne]
  exact Ip
 by_cases c1:k=1
 .subst c1
  have h:cdF q.P q.m q.vs (.mk 1 a b p1 p2 x)= .ok (!(u==v)):=by rw[hh,ha,hb];rfl
  simp only[seval,go_sem,↓A0,isSome_some,isSome_none,h,ha,hb,EF,bne]
  exact Ip
 by_cases c2:k=2
 .subst c2
  have h:cdF q.P q.m q.vs (.mk 2 a b p1 p2 x)= .ok (decide (u<v)):=by rw[hh,ha,hb];rfl
  simp only[seval,go_sem,↓A0,isSome_some,isSome_none,h,ha,hb,EF,bne]
  exact Ip
 by_cases c3:k=3
 .subst c3
  have h:cdF q.P q.m q.vs (.mk 3 a b p1 p2 x)= .ok (decide (u<=v)):=by rw[hh,ha,hb];rfl
  simp only[seval,go_sem,↓A0,isSome_some,isSome_none,h,ha,hb,EF,bne]
  exact Ip
 by_cases c4:k=4
 .subst c4
  have h:cdF q.P q.m q.vs (.mk 4 a b p1 p2 x)= .ok (decide (v<u)):=by rw[hh,ha,hb];rfl
  simp only[seval,go_sem,↓A0,isSome_some,isSome_none,h,ha,hb,EF,bne]
  exact Ip
 by_cases c5:k=5
 .subst c5
  have h:cdF q.P q.m q.vs (.mk 5 a b p1 p2 x)= .ok (decide (v<=u)):=by rw[hh,ha,hb];rfl
  simp only[seval,go_sem,↓A0,isSome_some,isSome_none,h,ha,hb,EF,bne]
  exact Ip
 have e0':(k==0)=false:=by simpa using c0
 have e1':(k==1)=false:=by simpa using c1
 have e2':(k==2)=false:=by simpa using c2
 have e3':(k==3)=false:=by simpa using c3
 have e4':(k==4)=false:=by simpa using c4
 have e5':(k==5)=false:=by simpa using c5
 have h:cdF q.P q.m q.vs (.mk k a b p1 p2 x)= .ok false:=by
  rw[hh,ha,hb];simp[cmF,c0,c1,c2,c3,c4,c5]
 simp only[seval,go_sem,↓A0,isSome_some,isSome_none,h,ha,hb,EF,e0',e1',e2',e3',e4',e5',d6,d7,d8,d9]
 exact Ip
theorem TX:∀n d,Ln n d
 |0,d=>λp w M I lab fz xs hc=>absurd hc.2 (Nat.not_lt_zero _)
 |n+1,d=>nf n d λd=>TX n d
end Go.Proofs.YtapedeoheilnnaaGreat
