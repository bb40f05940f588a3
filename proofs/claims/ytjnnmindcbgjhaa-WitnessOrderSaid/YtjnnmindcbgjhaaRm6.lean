/- A frame's conditions, walked. No conditions but those in each statement. -/
import Derived.Test.YtjnnmindcbgjhaaRm5
set_option linter.unusedVariables false
set_option linter.unusedSimpArgs false
namespace Go.Proofs.Ytjnnmindcbgjhaa
open Go Go.Sy Go.RowKit
def kb:Cd→Bool
 | .nil=>false
 | .mk k _ _ _ _ _=>k==7
theorem yw (k:Int) (a b:Ex) (p q:Cd) (s:List UInt8):kb (.mk k a b p q s)=(k==7):=rfl
theorem sj:kb .nil=false:=rfl
abbrev Kg (n:Nat) (d:Bool) (q:Fa) (s:Sm) (e:Cd):Prop:=okC q.P q.m∧e.dp<n
abbrev CZ (n:Nat) (d:Bool) (q:Fa) (s:Sm) (e:Cd):Bool:=(cdF q.P q.m q.vs e).b
abbrev Bp (n:Nat) (d:Bool) (q:Fa) (s:Sm) (e:Cd):Fa:=evA q s (cdF q.P q.m q.vs e)
abbrev CM (n:Nat) (d:Bool) (q:Fa) (s:Sm) (e:Cd):Fa:=evW q s (cdF q.P q.m q.vs e)
abbrev Cm (n:Nat) (d:Bool) (q:Fa) (s:Sm) (e:Cd):SV:=.one (.v (.bool ((cdF q.P q.m q.vs e).vl d)))
theorem eP:∀b,∀v∈ArgC.e (acS (cSp) (acS (cCd) ac0)) b,v.tupB=false:=by rintro ⟨x0,x1,_⟩ v hv;simp only[Ho,Hn,List.mem_cons,List.not_mem_nil,or_false]at hv;rcases hv with rfl|rfl<;>first|rfl|exact ID _|exact IE _
noncomputable abbrev G7:ArgL (Fa×(Sm)×(Cd)×Unit):=amFr (acS (cSp) (acS (cCd) ac0)) eP
abbrev Kh (n:Nat) (d:Bool):Prop:=EB Try.prog 103 (G7).args (G7).mem (fun p:(Fa×(Sm)×(Cd)×Unit)=>Kg n d p.1 p.2.1 p.2.2.1) (fun p:(Fa×(Sm)×(Cd)×Unit)=>CZ n d p.1 p.2.1 p.2.2.1) (fun p:(Fa×(Sm)×(Cd)×Unit)=>Cm n d p.1 p.2.1 p.2.2.1) (fun p:(Fa×(Sm)×(Cd)×Unit)=>Fa.memO (Bp n d p.1 p.2.1 p.2.2.1)) (fun p:(Fa×(Sm)×(Cd)×Unit)=>mlO (Fa.pan (CM n d p.1 p.2.1 p.2.2.1)))
theorem eQ (n:Nat) (d:Bool):∀p,(fun p:(Fa×(Sm)×(Cd)×Unit)=>Kg n d p.1 p.2.1 p.2.2.1) p→(fun p:(Fa×(Sm)×(Cd)×Unit)=>CZ n d p.1 p.2.1 p.2.2.1) p=false→Di ((G7).mem p).length ((fun p:(Fa×(Sm)×(Cd)×Unit)=>Fa.memO (Bp n d p.1 p.2.1 p.2.2.1)) p)=true∧kdL ((G7).mem p) ((fun p:(Fa×(Sm)×(Cd)×Unit)=>Fa.memO (Bp n d p.1 p.2.1 p.2.2.1)) p)=true∧EM ((fun p:(Fa×(Sm)×(Cd)×Unit)=>Fa.memO (Bp n d p.1 p.2.1 p.2.2.1)) p) ((fun p:(Fa×(Sm)×(Cd)×Unit)=>Cm n d p.1 p.2.1 p.2.2.1) p)∧∀q,some q∈(fun p:(Fa×(Sm)×(Cd)×Unit)=>Fa.memO (Bp n d p.1 p.2.1 p.2.2.1)) p→DS ((fun p:(Fa×(Sm)×(Cd)×Unit)=>Fa.memO (Bp n d p.1 p.2.1 p.2.2.1)) p).length q:=fun p _ _=>have h:=DU p.1 (Bp n d p.1 p.2.1 p.2.2.1);⟨h.1,h.2.1,rfl,h.2.2⟩
theorem eR (n:Nat) (d:Bool):∀p,(fun p:(Fa×(Sm)×(Cd)×Unit)=>Kg n d p.1 p.2.1 p.2.2.1) p→(fun p:(Fa×(Sm)×(Cd)×Unit)=>CZ n d p.1 p.2.1 p.2.2.1) p=true→((fun p:(Fa×(Sm)×(Cd)×Unit)=>mlO (Fa.pan (CM n d p.1 p.2.1 p.2.2.1))) p).length=((G7).mem p).length∧kdL ((G7).mem p) ((fun p:(Fa×(Sm)×(Cd)×Unit)=>mlO (Fa.pan (CM n d p.1 p.2.1 p.2.2.1))) p)=true∧∀q,some q∈(fun p:(Fa×(Sm)×(Cd)×Unit)=>mlO (Fa.pan (CM n d p.1 p.2.1 p.2.2.1))) p→DS ((fun p:(Fa×(Sm)×(Cd)×Unit)=>mlO (Fa.pan (CM n d p.1 p.2.1 p.2.2.1))) p).length q:=fun p _ _=>Hx p.1 (CM n d p.1 p.2.1 p.2.2.1)
theorem eS (n:Nat) (d:Bool):∀p,(fun p:(Fa×(Sm)×(Cd)×Unit)=>Kg n d p.1 p.2.1 p.2.2.1) p→(fun p:(Fa×(Sm)×(Cd)×Unit)=>CZ n d p.1 p.2.1 p.2.2.1) p=true→Di ((G7).mem p).length ((fun p:(Fa×(Sm)×(Cd)×Unit)=>Fa.memO (Bp n d p.1 p.2.1 p.2.2.1)) p)=true∧EM ((fun p:(Fa×(Sm)×(Cd)×Unit)=>Fa.memO (Bp n d p.1 p.2.1 p.2.2.1)) p) ((fun p:(Fa×(Sm)×(Cd)×Unit)=>Cm n d p.1 p.2.1 p.2.2.1) p):=fun p _ _=>⟨(DU p.1 (Bp n d p.1 p.2.1 p.2.2.1)).1,rfl⟩
noncomputable def Ki {X:Ctx} {w0:World} (n:Nat) (d:Bool) (h:Kh n d):Sy.Spec Try.prog X w0:=Dt 103 Try.call103 (G7) (fun p:(Fa×(Sm)×(Cd)×Unit)=>Kg n d p.1 p.2.1 p.2.2.1) (fun p:(Fa×(Sm)×(Cd)×Unit)=>CZ n d p.1 p.2.1 p.2.2.1) (fun p:(Fa×(Sm)×(Cd)×Unit)=>Cm n d p.1 p.2.1 p.2.2.1) (fun p:(Fa×(Sm)×(Cd)×Unit)=>Fa.memO (Bp n d p.1 p.2.1 p.2.2.1)) (fun p:(Fa×(Sm)×(Cd)×Unit)=>mlO (Fa.pan (CM n d p.1 p.2.1 p.2.2.1))) (eQ n d) (eR n d) (eS n d) (fun _=>rfl) h
theorem E6 {X:Ctx} {w0:World} (n:Nat) (d:Bool) (h:Kh n d):(Ki (X:=X) (w0:=w0) n d h).f=103:=rfl
theorem E7 {X:Ctx} {w0:World} (n:Nat) (d:Bool) (h:Kh n d) (t:Nat) (args:List SV) (H:Hp):(Ki (X:=X) (w0:=w0) n d h).fn t args H=spL X ((G7).d H args) t H (fun p:(Fa×(Sm)×(Cd)×Unit)=>Kg n d p.1 p.2.1 p.2.2.1) (fun p:(Fa×(Sm)×(Cd)×Unit)=>CZ n d p.1 p.2.1 p.2.2.1) (fun p:(Fa×(Sm)×(Cd)×Unit)=>Cm n d p.1 p.2.1 p.2.2.1) (fun p:(Fa×(Sm)×(Cd)×Unit)=>Fa.memO (Bp n d p.1 p.2.1 p.2.2.1)) (fun p:(Fa×(Sm)×(Cd)×Unit)=>mlO (Fa.pan (CM n d p.1 p.2.1 p.2.2.1))):=rfl
attribute [local go_sem] Ev.b Ev.vl Fa.mem Fa.memO Fa.pan ML.ch ML.ren Ms.brk Ms.exh Ms.spd Sm.ar Sm.cd Sm.e Sm.el Sm.f Sm.k Sm.no Sm.th Sm.x Sm.y Va.c Fo Fm Fp EA BG BO BP BD BM BN K1 K0 Cw Cv chL evA evW Hf E5 E4 Fu fcN IF frC Hg Fl yw sj lmH lmO FO Gj Gk mcC Hh Gg mcW EZ Dl Dm Bf Be Bg Bh FP nmX AB AA Ds EY Dj Dk FS FR F9 F8 EX Fb rnC Gc AK DW EC Db CT Ee va0 vrQ Hi IG FB Cb E6 CK Ce E7 CL Bc CZ BR Bd Cm BZ B3 Bp Aw BL CM BC
set_option maxRecDepth 20000 in set_option maxHeartbeats 16000000 in
attribute[local go_sem] xt in
theorem eT (n:Nat) (d:Bool) (hu:∀d,Kh n d):Kh (n+1) d:=by
 rintro ⟨q,s,e,_u⟩ w M I lab fz xs hc hA hl hx
 refine Cj Try.func103 rfl (Fa.mem q) w M I lab fz (CZ (n+1) d q s e) (Fa.pan (CM (n+1) d q s e)) (Fa.memO (Bp (n+1) d q s e)) [Bd,(JC n (OP n)),(Ki n (kb e) (hu (kb e)))] [] ((G7).args ⟨q,s,e,_u⟩) (Cm (n+1) d q s e) xs hA hl hx (GM _ _ _ _) (jN rfl) (Nat.le_refl _) rfl (Hy _) ?_
 clear hx hl hA xs
 simp only[Try.f103]
 obtain⟨hc1,hc2⟩:=hc
 dsimp only at hc1 hc2
 obtain⟨k0,x0,y0,e0,f0,cd0,ar0,th0,el0,no0⟩:=s
 cases e with
 |nil=>
  have h:cdF q.P q.m q.vs .nil= .ok false:=rfl
  simp only[↓eB,seval,go_sem,↓A1,Option.isSome_some,Option.isSome_none,h,Am]
  try simp only[A3,A4]
  repeat' first|exact ck|with_reducible apply And.intro|intro _
  all_goals first|exact trivial|(rename_i h;first|exact oI h|exact nah h)|(rename_i _ h _ g;exact sL h g)|decide|omega|(refine A0 [] ?_;simp only[↓eB,seval,go_sem,bne,A6,↓A1,h])
 |mk k a b p1 p2 x=>
  simp only[Cd.dp]at hc2
  have ha1:a.dp<n:=by omega
  have hb1:b.dp<n:=by omega
  have hp1:p1.dp<n:=by omega
  have hp2:p2.dp<n:=by omega
  by_cases c6:k=6
  ·subst c6
   cases hp:cdF q.P q.m q.vs p1 with
   |no j=>
    have h:cdF q.P q.m q.vs (.mk 6 a b p1 p2 x)= .no j:=by simp only[cdF,hp];rfl
    simp only[↓eB,seval,go_sem,↓A1,Option.isSome_some,Option.isSome_none,h,hp,D5]
    try simp only[A3,A4]
    repeat' first|exact ck|with_reducible apply And.intro|intro _
    all_goals first|exact hc1|exact⟨hc1,ha1⟩|exact⟨hc1,hb1⟩|exact⟨hc1,hp1⟩|exact⟨hc1,hp2⟩|(rename_i h;first|exact oI h|exact nah h)|(rename_i _ h _ g;exact sL h g)|decide|omega|(refine A0 [] ?_;simp only[↓eB,seval,go_sem,bne,A6,↓A1,h,hp])
   |ok v=>
    cases v with
    |false=>
     have h:cdF q.P q.m q.vs (.mk 6 a b p1 p2 x)= .ok false:=by simp only[cdF,hp];rfl
     simp only[↓eB,seval,go_sem,↓A1,Option.isSome_some,Option.isSome_none,h,hp,D5]
     try simp only[A3,A4]
     repeat' first|exact ck|with_reducible apply And.intro|intro _
     all_goals first|exact hc1|exact⟨hc1,ha1⟩|exact⟨hc1,hb1⟩|exact⟨hc1,hp1⟩|exact⟨hc1,hp2⟩|(rename_i h;first|exact oI h|exact nah h)|(rename_i _ h _ g;exact sL h g)|decide|omega|(refine A0 [] ?_;simp only[↓eB,seval,go_sem,bne,A6,↓A1,h,hp])
    |true=>
     cases hq:cdF q.P q.m q.vs p2 with
     |no j=>
      have h:cdF q.P q.m q.vs (.mk 6 a b p1 p2 x)= .no j:=by simp only[cdF,hp,hq];rfl
      simp only[↓eB,seval,go_sem,↓A1,Option.isSome_some,Option.isSome_none,h,hp,hq,D5]
      try simp only[A3,A4]
      repeat' first|exact ck|with_reducible apply And.intro|intro _
      all_goals first|exact hc1|exact⟨hc1,ha1⟩|exact⟨hc1,hb1⟩|exact⟨hc1,hp1⟩|exact⟨hc1,hp2⟩|(rename_i h;first|exact oI h|exact nah h)|(rename_i _ h _ g;exact sL h g)|decide|omega|(refine A0 [] ?_;simp only[↓eB,seval,go_sem,bne,A6,↓A1,h,hp,hq])
     |ok u=>
      have h:cdF q.P q.m q.vs (.mk 6 a b p1 p2 x)= .ok u:=by simp only[cdF,hp,hq];rfl
      simp only[↓eB,seval,go_sem,↓A1,Option.isSome_some,Option.isSome_none,h,hp,hq,D5]
      try simp only[A3,A4]
      repeat' first|exact ck|with_reducible apply And.intro|intro _
      all_goals first|exact hc1|exact⟨hc1,ha1⟩|exact⟨hc1,hb1⟩|exact⟨hc1,hp1⟩|exact⟨hc1,hp2⟩|(rename_i h;first|exact oI h|exact nah h)|(rename_i _ h _ g;exact sL h g)|decide|omega|(refine A0 [] ?_;simp only[↓eB,seval,go_sem,bne,A6,↓A1,h,hp,hq])
  by_cases c7:k=7
  ·subst c7
   cases hp:cdF q.P q.m q.vs p1 with
   |no j=>
    have h:cdF q.P q.m q.vs (.mk 7 a b p1 p2 x)= .no j:=by simp only[cdF,hp];rfl
    simp only[↓eB,seval,go_sem,↓A1,Option.isSome_some,Option.isSome_none,h,hp,D5]
    try simp only[A3,A4]
    repeat' first|exact ck|with_reducible apply And.intro|intro _
    all_goals first|exact hc1|exact⟨hc1,ha1⟩|exact⟨hc1,hb1⟩|exact⟨hc1,hp1⟩|exact⟨hc1,hp2⟩|(rename_i h;first|exact oI h|exact nah h)|(rename_i _ h _ g;exact sL h g)|decide|omega|(refine A0 [] ?_;simp only[↓eB,seval,go_sem,bne,A6,↓A1,h,hp])
   |ok v=>
    cases v with
    |true=>
     have h:cdF q.P q.m q.vs (.mk 7 a b p1 p2 x)= .ok true:=by simp only[cdF,hp];rfl
     simp only[↓eB,seval,go_sem,↓A1,Option.isSome_some,Option.isSome_none,h,hp,D5]
     try simp only[A3,A4]
     repeat' first|exact ck|with_reducible apply And.intro|intro _
     all_goals first|exact hc1|exact⟨hc1,ha1⟩|exact⟨hc1,hb1⟩|exact⟨hc1,hp1⟩|exact⟨hc1,hp2⟩|(rename_i h;first|exact oI h|exact nah h)|(rename_i _ h _ g;exact sL h g)|decide|omega|(refine A0 [] ?_;simp only[↓eB,seval,go_sem,bne,A6,↓A1,h,hp])
    |false=>
     cases hq:cdF q.P q.m q.vs p2 with
     |no j=>
      have h:cdF q.P q.m q.vs (.mk 7 a b p1 p2 x)= .no j:=by simp only[cdF,hp,hq];rfl
      simp only[↓eB,seval,go_sem,↓A1,Option.isSome_some,Option.isSome_none,h,hp,hq,D5]
      try simp only[A3,A4]
      repeat' first|exact ck|with_reducible apply And.intro|intro _
      all_goals first|exact hc1|exact⟨hc1,ha1⟩|exact⟨hc1,hb1⟩|exact⟨hc1,hp1⟩|exact⟨hc1,hp2⟩|(rename_i h;first|exact oI h|exact nah h)|(rename_i _ h _ g;exact sL h g)|decide|omega|(refine A0 [] ?_;simp only[↓eB,seval,go_sem,bne,A6,↓A1,h,hp,hq])
     |ok u=>
      have h:cdF q.P q.m q.vs (.mk 7 a b p1 p2 x)= .ok u:=by simp only[cdF,hp,hq];rfl
      simp only[↓eB,seval,go_sem,↓A1,Option.isSome_some,Option.isSome_none,h,hp,hq,D5]
      try simp only[A3,A4]
      repeat' first|exact ck|with_reducible apply And.intro|intro _
      all_goals first|exact hc1|exact⟨hc1,ha1⟩|exact⟨hc1,hb1⟩|exact⟨hc1,hp1⟩|exact⟨hc1,hp2⟩|(rename_i h;first|exact oI h|exact nah h)|(rename_i _ h _ g;exact sL h g)|decide|omega|(refine A0 [] ?_;simp only[↓eB,seval,go_sem,bne,A6,↓A1,h,hp,hq])
  by_cases c8:k=8
  ·subst c8
   cases hp:cdF q.P q.m q.vs p1 with
   |no j=>
    have h:cdF q.P q.m q.vs (.mk 8 a b p1 p2 x)= .no j:=by simp only[cdF,hp];rfl
    simp only[↓eB,seval,go_sem,↓A1,Option.isSome_some,Option.isSome_none,h,hp,D5]
    try simp only[A3,A4]
    repeat' first|exact ck|with_reducible apply And.intro|intro _
    all_goals first|exact hc1|exact⟨hc1,ha1⟩|exact⟨hc1,hb1⟩|exact⟨hc1,hp1⟩|exact⟨hc1,hp2⟩|(rename_i h;first|exact oI h|exact nah h)|(rename_i _ h _ g;exact sL h g)|decide|omega|(refine A0 [] ?_;simp only[↓eB,seval,go_sem,bne,A6,↓A1,h,hp])
   |ok v=>
    have h:cdF q.P q.m q.vs (.mk 8 a b p1 p2 x)= .ok (!v):=by simp only[cdF,hp];rfl
    simp only[↓eB,seval,go_sem,↓A1,Option.isSome_some,Option.isSome_none,h,hp,D5]
    try simp only[A3,A4]
    repeat' first|exact ck|with_reducible apply And.intro|intro _
    all_goals first|exact hc1|exact⟨hc1,ha1⟩|exact⟨hc1,hb1⟩|exact⟨hc1,hp1⟩|exact⟨hc1,hp2⟩|(rename_i h;first|exact oI h|exact nah h)|(rename_i _ h _ g;exact sL h g)|decide|omega|(refine A0 [] ?_;simp only[↓eB,seval,go_sem,bne,A6,↓A1,h,hp])
  by_cases c9:k=9
  ·subst c9
   have h:cdF q.P q.m q.vs (.mk 9 a b p1 p2 x)= .ok ((FT q.vs x).s==[]):=by simp only[cdF];rfl
   unfold FT at h
   cases hm:B0 q.vs x with
   |none=>
    rw[hm]at h
    simp only[↓eB,seval,go_sem,↓A1,Option.isSome_some,Option.isSome_none,h,hm,D5]
    try simp only[A3,A4]
    repeat' first|exact ck|with_reducible apply And.intro|intro _
    all_goals first|exact hc1|exact⟨hc1,ha1⟩|exact⟨hc1,hb1⟩|exact⟨hc1,hp1⟩|exact⟨hc1,hp2⟩|(rename_i h;first|exact oI h|exact nah h)|(rename_i _ h _ g;exact sL h g)|decide|omega|(refine A0 [] ?_;simp only[↓eB,seval,go_sem,bne,A6,↓A1,h])
   |some v=>
    rw[hm]at h
    simp only[↓eB,seval,go_sem,↓A1,Option.isSome_some,Option.isSome_none,h,hm,D5]
    try simp only[A3,A4]
    repeat' first|exact ck|with_reducible apply And.intro|intro _
    all_goals first|exact hc1|exact⟨hc1,ha1⟩|exact⟨hc1,hb1⟩|exact⟨hc1,hp1⟩|exact⟨hc1,hp2⟩|(rename_i h;first|exact oI h|exact nah h)|(rename_i _ h _ g;exact sL h g)|decide|omega|(refine A0 [] ?_;simp only[↓eB,seval,go_sem,bne,A6,↓A1,h])
  have hh:cdF q.P q.m q.vs (.mk k a b p1 p2 x)=(match evF q.P q.m q.vs a with
    | .no j=>.no j
    | .ok x=>match evF q.P q.m q.vs b with
     | .no j=>.no j
     | .ok y=>.ok (cmF k x y)):=by
   simp only[cdF];rw[if_neg c6,if_neg c7,if_neg c8,if_neg c9];rfl
  have d6:(k==6)=false:=by simpa using c6
  have d7:(k==7)=false:=by simpa using c7
  have d8:(k==8)=false:=by simpa using c8
  have d9:(k==9)=false:=by simpa using c9
  cases ha:evF q.P q.m q.vs a with
  |no j=>
   have h:cdF q.P q.m q.vs (.mk k a b p1 p2 x)= .no j:=by rw[hh,ha]
   simp only[↓eB,seval,go_sem,↓A1,Option.isSome_some,Option.isSome_none,h,ha,D5,d6,d7,d8,d9]
   try simp only[A3,A4]
   repeat' first|exact ck|with_reducible apply And.intro|intro _
   all_goals first|exact hc1|exact⟨hc1,ha1⟩|exact⟨hc1,hb1⟩|exact⟨hc1,hp1⟩|exact⟨hc1,hp2⟩|(rename_i h;first|exact oI h|exact nah h)|(rename_i _ h _ g;exact sL h g)|decide|omega|(refine A0 [] ?_;simp only[↓eB,seval,go_sem,bne,A6,↓A1,h,ha])
  |ok u=>
  cases hb:evF q.P q.m q.vs b with
  |no j=>
   have h:cdF q.P q.m q.vs (.mk k a b p1 p2 x)= .no j:=by rw[hh,ha,hb]
   simp only[↓eB,seval,go_sem,↓A1,Option.isSome_some,Option.isSome_none,h,ha,hb,D5,d6,d7,d8,d9]
   try simp only[A3,A4]
   repeat' first|exact ck|with_reducible apply And.intro|intro _
   all_goals first|exact hc1|exact⟨hc1,ha1⟩|exact⟨hc1,hb1⟩|exact⟨hc1,hp1⟩|exact⟨hc1,hp2⟩|(rename_i h;first|exact oI h|exact nah h)|(rename_i _ h _ g;exact sL h g)|decide|omega|(refine A0 [] ?_;simp only[↓eB,seval,go_sem,bne,A6,↓A1,h,ha,hb])
  |ok v=>
  by_cases c0:k=0
  ·subst c0
   have h:cdF q.P q.m q.vs (.mk 0 a b p1 p2 x)= .ok (u==v):=by rw[hh,ha,hb];rfl
   simp only[↓eB,seval,go_sem,↓A1,Option.isSome_some,Option.isSome_none,h,ha,hb,D5,bne]
   try simp only[A3,A4]
   repeat' first|exact ck|with_reducible apply And.intro|intro _
   all_goals first|exact hc1|exact⟨hc1,ha1⟩|exact⟨hc1,hb1⟩|exact⟨hc1,hp1⟩|exact⟨hc1,hp2⟩|(rename_i h;first|exact oI h|exact nah h)|(rename_i _ h _ g;exact sL h g)|decide|omega|(refine A0 [] ?_;simp only[↓eB,seval,go_sem,bne,A6,↓A1,h,ha,hb])
  by_cases c1:k=1
  ·subst c1
   have h:cdF q.P q.m q.vs (.mk 1 a b p1 p2 x)= .ok (!(u==v)):=by rw[hh,ha,hb];rfl
   simp only[↓eB,seval,go_sem,↓A1,Option.isSome_some,Option.isSome_none,h,ha,hb,D5,bne]
   try simp only[A3,A4]
   repeat' first|exact ck|with_reducible apply And.intro|intro _
   all_goals first|exact hc1|exact⟨hc1,ha1⟩|exact⟨hc1,hb1⟩|exact⟨hc1,hp1⟩|exact⟨hc1,hp2⟩|(rename_i h;first|exact oI h|exact nah h)|(rename_i _ h _ g;exact sL h g)|decide|omega|(refine A0 [] ?_;simp only[↓eB,seval,go_sem,bne,A6,↓A1,h,ha,hb])
  by_cases c2:k=2
  ·subst c2
   have h:cdF q.P q.m q.vs (.mk 2 a b p1 p2 x)= .ok (decide (u<v)):=by rw[hh,ha,hb];rfl
   simp only[↓eB,seval,go_sem,↓A1,Option.isSome_some,Option.isSome_none,h,ha,hb,D5,bne]
   try simp only[A3,A4]
   repeat' first|exact ck|with_reducible apply And.intro|intro _
   all_goals first|exact hc1|exact⟨hc1,ha1⟩|exact⟨hc1,hb1⟩|exact⟨hc1,hp1⟩|exact⟨hc1,hp2⟩|(rename_i h;first|exact oI h|exact nah h)|(rename_i _ h _ g;exact sL h g)|decide|omega|(refine A0 [] ?_;simp only[↓eB,seval,go_sem,bne,A6,↓A1,h,ha,hb])
  by_cases c3:k=3
  ·subst c3
   have h:cdF q.P q.m q.vs (.mk 3 a b p1 p2 x)= .ok (decide (u≤v)):=by rw[hh,ha,hb];rfl
   simp only[↓eB,seval,go_sem,↓A1,Option.isSome_some,Option.isSome_none,h,ha,hb,D5,bne]
   try simp only[A3,A4]
   repeat' first|exact ck|with_reducible apply And.intro|intro _
   all_goals first|exact hc1|exact⟨hc1,ha1⟩|exact⟨hc1,hb1⟩|exact⟨hc1,hp1⟩|exact⟨hc1,hp2⟩|(rename_i h;first|exact oI h|exact nah h)|(rename_i _ h _ g;exact sL h g)|decide|omega|(refine A0 [] ?_;simp only[↓eB,seval,go_sem,bne,A6,↓A1,h,ha,hb])
  by_cases c4:k=4
  ·subst c4
   have h:cdF q.P q.m q.vs (.mk 4 a b p1 p2 x)= .ok (decide (v<u)):=by rw[hh,ha,hb];rfl
   simp only[↓eB,seval,go_sem,↓A1,Option.isSome_some,Option.isSome_none,h,ha,hb,D5,bne]
   try simp only[A3,A4]
   repeat' first|exact ck|with_reducible apply And.intro|intro _
   all_goals first|exact hc1|exact⟨hc1,ha1⟩|exact⟨hc1,hb1⟩|exact⟨hc1,hp1⟩|exact⟨hc1,hp2⟩|(rename_i h;first|exact oI h|exact nah h)|(rename_i _ h _ g;exact sL h g)|decide|omega|(refine A0 [] ?_;simp only[↓eB,seval,go_sem,bne,A6,↓A1,h,ha,hb])
  by_cases c5:k=5
  ·subst c5
   have h:cdF q.P q.m q.vs (.mk 5 a b p1 p2 x)= .ok (decide (v≤u)):=by rw[hh,ha,hb];rfl
   simp only[↓eB,seval,go_sem,↓A1,Option.isSome_some,Option.isSome_none,h,ha,hb,D5,bne]
   try simp only[A3,A4]
   repeat' first|exact ck|with_reducible apply And.intro|intro _
   all_goals first|exact hc1|exact⟨hc1,ha1⟩|exact⟨hc1,hb1⟩|exact⟨hc1,hp1⟩|exact⟨hc1,hp2⟩|(rename_i h;first|exact oI h|exact nah h)|(rename_i _ h _ g;exact sL h g)|decide|omega|(refine A0 [] ?_;simp only[↓eB,seval,go_sem,bne,A6,↓A1,h,ha,hb])
  have e0':(k==0)=false:=by simpa using c0
  have e1':(k==1)=false:=by simpa using c1
  have e2':(k==2)=false:=by simpa using c2
  have e3':(k==3)=false:=by simpa using c3
  have e4':(k==4)=false:=by simpa using c4
  have e5':(k==5)=false:=by simpa using c5
  have h:cdF q.P q.m q.vs (.mk k a b p1 p2 x)= .ok false:=by
   rw[hh,ha,hb];simp[cmF,c0,c1,c2,c3,c4,c5]
  simp only[↓eB,seval,go_sem,↓A1,Option.isSome_some,Option.isSome_none,h,ha,hb,D5,e0',e1',e2',e3',e4',e5',d6,d7,d8,d9]
  try simp only[A3,A4]
  repeat' first|exact ck|with_reducible apply And.intro|intro _
  all_goals first|exact hc1|exact⟨hc1,ha1⟩|exact⟨hc1,hb1⟩|exact⟨hc1,hp1⟩|exact⟨hc1,hp2⟩|(rename_i h;first|exact oI h|exact nah h)|(rename_i _ h _ g;exact sL h g)|decide|omega|(refine A0 [] ?_;simp only[↓eB,seval,go_sem,bne,A6,↓A1,h,ha,hb])
theorem Qc:∀n d,Kh n d
 |0,d=>fun p w M I lab fz xs hc=>absurd hc.2 (Nat.not_lt_zero _)
 |n+1,d=>eT n d fun d=>Qc n d
end Go.Proofs.Ytjnnmindcbgjhaa
