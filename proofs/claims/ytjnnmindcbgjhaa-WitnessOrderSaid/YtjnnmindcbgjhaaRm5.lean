/- A frame's sums and conditions, walked. No conditions but those in each statement. -/
import Derived.Test.YtjnnmindcbgjhaaSy42
set_option linter.unusedVariables false
set_option linter.unusedSimpArgs false
set_option maxRecDepth 20000
set_option maxHeartbeats 16000000
namespace Go.Proofs.Ytjnnmindcbgjhaa
open Go Go.Sy Go.RowKit
abbrev Lv (q:Fa) (s:Sm) (x:List UInt8):Prop:=okC q.P q.m
abbrev Jc (q:Fa) (s:Sm) (x:List UInt8):Bool:=(vlF q.P q.m q.vs x).b
abbrev El (q:Fa) (s:Sm) (x:List UInt8):Fa:=evA q s (vlF q.P q.m q.vs x)
abbrev HG (q:Fa) (s:Sm) (x:List UInt8):Fa:=evW q s (vlF q.P q.m q.vs x)
abbrev HH (q:Fa) (s:Sm) (x:List UInt8):SV:=.one (.v (.int .i64 ((vlF q.P q.m q.vs x).vl 0)))
theorem lE:∀b,∀v∈ArgC.e (acS (cSp) (acS (cStr) ac0)) b,v.tupB=false:=by rintro ⟨x0,x1,_⟩ v hv;simp only[Ho,Hn,List.mem_cons,List.not_mem_nil,or_false]at hv;rcases hv with rfl|rfl<;>first|rfl|exact ID _|exact IE _
noncomputable abbrev HI:ArgL (Fa×(Sm)×(List UInt8)×Unit):=amFr (acS (cSp) (acS (cStr) ac0)) lE
abbrev Qb:Prop:=EB Try.prog 106 (HI).args (HI).mem (fun p:(Fa×(Sm)×(List UInt8)×Unit)=>Lv p.1 p.2.1 p.2.2.1) (fun p:(Fa×(Sm)×(List UInt8)×Unit)=>Jc p.1 p.2.1 p.2.2.1) (fun p:(Fa×(Sm)×(List UInt8)×Unit)=>HH p.1 p.2.1 p.2.2.1) (fun p:(Fa×(Sm)×(List UInt8)×Unit)=>Fa.memO (El p.1 p.2.1 p.2.2.1)) (fun p:(Fa×(Sm)×(List UInt8)×Unit)=>mlO (Fa.pan (HG p.1 p.2.1 p.2.2.1)))
theorem lF:∀p,(fun p:(Fa×(Sm)×(List UInt8)×Unit)=>Lv p.1 p.2.1 p.2.2.1) p→(fun p:(Fa×(Sm)×(List UInt8)×Unit)=>Jc p.1 p.2.1 p.2.2.1) p=false→Di ((HI).mem p).length ((fun p:(Fa×(Sm)×(List UInt8)×Unit)=>Fa.memO (El p.1 p.2.1 p.2.2.1)) p)=true∧kdL ((HI).mem p) ((fun p:(Fa×(Sm)×(List UInt8)×Unit)=>Fa.memO (El p.1 p.2.1 p.2.2.1)) p)=true∧EM ((fun p:(Fa×(Sm)×(List UInt8)×Unit)=>Fa.memO (El p.1 p.2.1 p.2.2.1)) p) ((fun p:(Fa×(Sm)×(List UInt8)×Unit)=>HH p.1 p.2.1 p.2.2.1) p)∧∀q,some q∈(fun p:(Fa×(Sm)×(List UInt8)×Unit)=>Fa.memO (El p.1 p.2.1 p.2.2.1)) p→DS ((fun p:(Fa×(Sm)×(List UInt8)×Unit)=>Fa.memO (El p.1 p.2.1 p.2.2.1)) p).length q:=fun p _ _=>have h:=DU p.1 (El p.1 p.2.1 p.2.2.1);⟨h.1,h.2.1,rfl,h.2.2⟩
theorem lG:∀p,(fun p:(Fa×(Sm)×(List UInt8)×Unit)=>Lv p.1 p.2.1 p.2.2.1) p→(fun p:(Fa×(Sm)×(List UInt8)×Unit)=>Jc p.1 p.2.1 p.2.2.1) p=true→((fun p:(Fa×(Sm)×(List UInt8)×Unit)=>mlO (Fa.pan (HG p.1 p.2.1 p.2.2.1))) p).length=((HI).mem p).length∧kdL ((HI).mem p) ((fun p:(Fa×(Sm)×(List UInt8)×Unit)=>mlO (Fa.pan (HG p.1 p.2.1 p.2.2.1))) p)=true∧∀q,some q∈(fun p:(Fa×(Sm)×(List UInt8)×Unit)=>mlO (Fa.pan (HG p.1 p.2.1 p.2.2.1))) p→DS ((fun p:(Fa×(Sm)×(List UInt8)×Unit)=>mlO (Fa.pan (HG p.1 p.2.1 p.2.2.1))) p).length q:=fun p _ _=>Hx p.1 (HG p.1 p.2.1 p.2.2.1)
theorem lH:∀p,(fun p:(Fa×(Sm)×(List UInt8)×Unit)=>Lv p.1 p.2.1 p.2.2.1) p→(fun p:(Fa×(Sm)×(List UInt8)×Unit)=>Jc p.1 p.2.1 p.2.2.1) p=true→Di ((HI).mem p).length ((fun p:(Fa×(Sm)×(List UInt8)×Unit)=>Fa.memO (El p.1 p.2.1 p.2.2.1)) p)=true∧EM ((fun p:(Fa×(Sm)×(List UInt8)×Unit)=>Fa.memO (El p.1 p.2.1 p.2.2.1)) p) ((fun p:(Fa×(Sm)×(List UInt8)×Unit)=>HH p.1 p.2.1 p.2.2.1) p):=fun p _ _=>⟨(DU p.1 (El p.1 p.2.1 p.2.2.1)).1,rfl⟩
noncomputable def TW {X:Ctx} {w0:World} (h:Qb):Sy.Spec Try.prog X w0:=Dt 106 Try.call106 (HI) (fun p:(Fa×(Sm)×(List UInt8)×Unit)=>Lv p.1 p.2.1 p.2.2.1) (fun p:(Fa×(Sm)×(List UInt8)×Unit)=>Jc p.1 p.2.1 p.2.2.1) (fun p:(Fa×(Sm)×(List UInt8)×Unit)=>HH p.1 p.2.1 p.2.2.1) (fun p:(Fa×(Sm)×(List UInt8)×Unit)=>Fa.memO (El p.1 p.2.1 p.2.2.1)) (fun p:(Fa×(Sm)×(List UInt8)×Unit)=>mlO (Fa.pan (HG p.1 p.2.1 p.2.2.1))) (lF) (lG) (lH) (fun _=>rfl) h
theorem lI {X:Ctx} {w0:World} (h:Qb):(TW (X:=X) (w0:=w0) h).f=106:=rfl
theorem lJ {X:Ctx} {w0:World} (h:Qb) (t:Nat) (args:List SV) (H:Hp):(TW (X:=X) (w0:=w0) h).fn t args H=spL X ((HI).d H args) t H (fun p:(Fa×(Sm)×(List UInt8)×Unit)=>Lv p.1 p.2.1 p.2.2.1) (fun p:(Fa×(Sm)×(List UInt8)×Unit)=>Jc p.1 p.2.1 p.2.2.1) (fun p:(Fa×(Sm)×(List UInt8)×Unit)=>HH p.1 p.2.1 p.2.2.1) (fun p:(Fa×(Sm)×(List UInt8)×Unit)=>Fa.memO (El p.1 p.2.1 p.2.2.1)) (fun p:(Fa×(Sm)×(List UInt8)×Unit)=>mlO (Fa.pan (HG p.1 p.2.1 p.2.2.1))):=rfl
attribute [local go_sem] Ev.b Ev.vl Fa.mem Fa.memO Fa.pan ML.ch ML.ren Ms.brk Ms.exh Ms.spd Sm.ar Sm.cd Sm.e Sm.el Sm.f Sm.k Sm.no Sm.th Sm.x Sm.y Va.c Fo Fm Fp EA BG BO BP BD BM BN K1 K0 Cw Cv chL evA evW Hf E5 E4 Fu fcN IF frC Hg Fl lmH lmO FO Gj Gk mcC Hh Gg mcW EZ Dl Dm Bf Be Bg Bh FP nmX AB AA Ds EY Dj Dk FS FR F9 F8 EX Fb rnC Gc AK DW EC Db CT Ee va0 vrQ Hi IG FB Cb Ce Bc Jc Bd B3 El BL HG
theorem si:Qb:=by
 rintro ⟨q,s,x,_u⟩ w M I lab fz xs hc hA hl hx
 refine Cj Try.func106 rfl (Fa.mem q) w M I lab fz (Jc q s x) (Fa.pan (HG q s x)) (Fa.memO (El q s x)) [Bd] [] ((HI).args ⟨q,s,x,_u⟩) (HH q s x) xs hA hl hx (GM _ _ _ _) (jN rfl) (Nat.le_refl _) rfl (Hy _) ?_
 clear hx hl hA xs
 simp only[Try.f106]
 have hc1:okC q.P q.m:=hc
 obtain⟨k0,x0,y0,e0,f0,cd0,ar0,th0,el0,no0⟩:=s
 cases h1:B0 q.vs x with
 |some v=>
  have h:vlF q.P q.m q.vs x= .ok v.n:=by unfold vlF;rw[h1]
  simp only[↓eB,seval,go_sem,xt,↓A1,Option.isSome_some,Option.isSome_none,h1,h]
  try simp only[A3,A4]
  repeat' first|exact ck|with_reducible apply And.intro|intro _
  all_goals first|exact trivial|(rename_i h;first|exact oI h|exact nah h)|(rename_i _ h _ g;exact sL h g)|decide|omega|(refine A0 [] ?_;simp only[↓eB,seval,go_sem,bne,HH,A6,xt,↓A1,h])
 |none=>
  cases h2:q.P.ci x with
  |none=>
   have h:vlF q.P q.m q.vs x= .no 4:=by unfold vlF;rw[h1,h2]
   simp only[↓eB,seval,go_sem,xt,↓A1,Option.isSome_some,Option.isSome_none,h1,h2,h]
   try simp only[A3,A4]
   repeat' first|exact ck|with_reducible apply And.intro|intro _
   all_goals first|exact trivial|(rename_i h;first|exact oI h|exact nah h)|(rename_i _ h _ g;exact sL h g)|decide|omega|(refine A0 [] ?_;simp only[↓eB,seval,go_sem,bne,HH,A6,xt,↓A1,h])
  |some i=>
   have h:vlF q.P q.m q.vs x= .ok (q.m.cell i):=by unfold vlF;rw[h1,h2]
   have hi:=Pg.ci_lt hc1 h2
   have hg:=Ss hi
   simp only[↓eB,seval,go_sem,xt,↓A1,Option.isSome_some,Option.isSome_none,h1,h2,h,hg,Ms.cell]
   try simp only[A3,A4]
   repeat' first|exact ck|with_reducible apply And.intro|intro _
   all_goals first|exact hi.1|exact hi.2|(rename_i h;first|exact oI h|exact nah h)|(rename_i _ h _ g;exact sL h g)|decide|omega|(refine A0 [] ?_;simp only[↓eB,seval,go_sem,bne,HH,A6,xt,↓A1,h,Ms.cell])
noncomputable def Y0 {X:Ctx} {w0:World}:Sy.Spec Try.prog X w0:=TW si
abbrev Ke (n:Nat) (q:Fa) (s:Sm) (e:Ex):Prop:=okC q.P q.m∧e.dp<n
abbrev BR (n:Nat) (q:Fa) (s:Sm) (e:Ex):Bool:=(evF q.P q.m q.vs e).b
abbrev Aw (n:Nat) (q:Fa) (s:Sm) (e:Ex):Fa:=evA q s (evF q.P q.m q.vs e)
abbrev BC (n:Nat) (q:Fa) (s:Sm) (e:Ex):Fa:=evW q s (evF q.P q.m q.vs e)
abbrev BZ (n:Nat) (q:Fa) (s:Sm) (e:Ex):SV:=.one (.v (.int .i64 ((evF q.P q.m q.vs e).vl 0)))
theorem eK:∀b,∀v∈ArgC.e (acS (cSp) (acS (cEx) ac0)) b,v.tupB=false:=by rintro ⟨x0,x1,_⟩ v hv;simp only[Ho,Hn,List.mem_cons,List.not_mem_nil,or_false]at hv;rcases hv with rfl|rfl<;>first|rfl|exact ID _|exact IE _
noncomputable abbrev G6:ArgL (Fa×(Sm)×(Ex)×Unit):=amFr (acS (cSp) (acS (cEx) ac0)) eK
abbrev Kf (n:Nat):Prop:=EB Try.prog 98 (G6).args (G6).mem (fun p:(Fa×(Sm)×(Ex)×Unit)=>Ke n p.1 p.2.1 p.2.2.1) (fun p:(Fa×(Sm)×(Ex)×Unit)=>BR n p.1 p.2.1 p.2.2.1) (fun p:(Fa×(Sm)×(Ex)×Unit)=>BZ n p.1 p.2.1 p.2.2.1) (fun p:(Fa×(Sm)×(Ex)×Unit)=>Fa.memO (Aw n p.1 p.2.1 p.2.2.1)) (fun p:(Fa×(Sm)×(Ex)×Unit)=>mlO (Fa.pan (BC n p.1 p.2.1 p.2.2.1)))
theorem eL (n:Nat):∀p,(fun p:(Fa×(Sm)×(Ex)×Unit)=>Ke n p.1 p.2.1 p.2.2.1) p→(fun p:(Fa×(Sm)×(Ex)×Unit)=>BR n p.1 p.2.1 p.2.2.1) p=false→Di ((G6).mem p).length ((fun p:(Fa×(Sm)×(Ex)×Unit)=>Fa.memO (Aw n p.1 p.2.1 p.2.2.1)) p)=true∧kdL ((G6).mem p) ((fun p:(Fa×(Sm)×(Ex)×Unit)=>Fa.memO (Aw n p.1 p.2.1 p.2.2.1)) p)=true∧EM ((fun p:(Fa×(Sm)×(Ex)×Unit)=>Fa.memO (Aw n p.1 p.2.1 p.2.2.1)) p) ((fun p:(Fa×(Sm)×(Ex)×Unit)=>BZ n p.1 p.2.1 p.2.2.1) p)∧∀q,some q∈(fun p:(Fa×(Sm)×(Ex)×Unit)=>Fa.memO (Aw n p.1 p.2.1 p.2.2.1)) p→DS ((fun p:(Fa×(Sm)×(Ex)×Unit)=>Fa.memO (Aw n p.1 p.2.1 p.2.2.1)) p).length q:=fun p _ _=>have h:=DU p.1 (Aw n p.1 p.2.1 p.2.2.1);⟨h.1,h.2.1,rfl,h.2.2⟩
theorem eM (n:Nat):∀p,(fun p:(Fa×(Sm)×(Ex)×Unit)=>Ke n p.1 p.2.1 p.2.2.1) p→(fun p:(Fa×(Sm)×(Ex)×Unit)=>BR n p.1 p.2.1 p.2.2.1) p=true→((fun p:(Fa×(Sm)×(Ex)×Unit)=>mlO (Fa.pan (BC n p.1 p.2.1 p.2.2.1))) p).length=((G6).mem p).length∧kdL ((G6).mem p) ((fun p:(Fa×(Sm)×(Ex)×Unit)=>mlO (Fa.pan (BC n p.1 p.2.1 p.2.2.1))) p)=true∧∀q,some q∈(fun p:(Fa×(Sm)×(Ex)×Unit)=>mlO (Fa.pan (BC n p.1 p.2.1 p.2.2.1))) p→DS ((fun p:(Fa×(Sm)×(Ex)×Unit)=>mlO (Fa.pan (BC n p.1 p.2.1 p.2.2.1))) p).length q:=fun p _ _=>Hx p.1 (BC n p.1 p.2.1 p.2.2.1)
theorem eN (n:Nat):∀p,(fun p:(Fa×(Sm)×(Ex)×Unit)=>Ke n p.1 p.2.1 p.2.2.1) p→(fun p:(Fa×(Sm)×(Ex)×Unit)=>BR n p.1 p.2.1 p.2.2.1) p=true→Di ((G6).mem p).length ((fun p:(Fa×(Sm)×(Ex)×Unit)=>Fa.memO (Aw n p.1 p.2.1 p.2.2.1)) p)=true∧EM ((fun p:(Fa×(Sm)×(Ex)×Unit)=>Fa.memO (Aw n p.1 p.2.1 p.2.2.1)) p) ((fun p:(Fa×(Sm)×(Ex)×Unit)=>BZ n p.1 p.2.1 p.2.2.1) p):=fun p _ _=>⟨(DU p.1 (Aw n p.1 p.2.1 p.2.2.1)).1,rfl⟩
noncomputable def JC {X:Ctx} {w0:World} (n:Nat) (h:Kf n):Sy.Spec Try.prog X w0:=Dt 98 Try.call98 (G6) (fun p:(Fa×(Sm)×(Ex)×Unit)=>Ke n p.1 p.2.1 p.2.2.1) (fun p:(Fa×(Sm)×(Ex)×Unit)=>BR n p.1 p.2.1 p.2.2.1) (fun p:(Fa×(Sm)×(Ex)×Unit)=>BZ n p.1 p.2.1 p.2.2.1) (fun p:(Fa×(Sm)×(Ex)×Unit)=>Fa.memO (Aw n p.1 p.2.1 p.2.2.1)) (fun p:(Fa×(Sm)×(Ex)×Unit)=>mlO (Fa.pan (BC n p.1 p.2.1 p.2.2.1))) (eL n) (eM n) (eN n) (fun _=>rfl) h
theorem CK {X:Ctx} {w0:World} (n:Nat) (h:Kf n):(JC (X:=X) (w0:=w0) n h).f=98:=rfl
theorem CL {X:Ctx} {w0:World} (n:Nat) (h:Kf n) (t:Nat) (args:List SV) (H:Hp):(JC (X:=X) (w0:=w0) n h).fn t args H=spL X ((G6).d H args) t H (fun p:(Fa×(Sm)×(Ex)×Unit)=>Ke n p.1 p.2.1 p.2.2.1) (fun p:(Fa×(Sm)×(Ex)×Unit)=>BR n p.1 p.2.1 p.2.2.1) (fun p:(Fa×(Sm)×(Ex)×Unit)=>BZ n p.1 p.2.1 p.2.2.1) (fun p:(Fa×(Sm)×(Ex)×Unit)=>Fa.memO (Aw n p.1 p.2.1 p.2.2.1)) (fun p:(Fa×(Sm)×(Ex)×Unit)=>mlO (Fa.pan (BC n p.1 p.2.1 p.2.2.1))):=rfl
attribute[local go_sem] xt CK lI CL lJ BR Y0 BZ HH Aw BC in
theorem eO (n:Nat) (hu:Kf n):Kf (n+1):=by
 rintro ⟨q,s,e,_u⟩ w M I lab fz xs hc hA hl hx
 refine Cj Try.func98 rfl (Fa.mem q) w M I lab fz (BR (n+1) q s e) (Fa.pan (BC (n+1) q s e)) (Fa.memO (Aw (n+1) q s e)) [Bd,Y0,(JC n hu)] [] ((G6).args ⟨q,s,e,_u⟩) (BZ (n+1) q s e) xs hA hl hx (GM _ _ _ _) (jN rfl) (Nat.le_refl _) rfl (Hy _) ?_
 clear hx hl hA xs
 simp only[Try.f98]
 obtain⟨hc1,hc2⟩:=hc
 dsimp only at hc1 hc2
 obtain⟨k0,x0,y0,e0,f0,cd0,ar0,th0,el0,no0⟩:=s
 cases e with
 |nil=>
  have h:evF q.P q.m q.vs .nil= .ok 0:=rfl
  simp only[↓eB,seval,go_sem,↓A1,Option.isSome_some,Option.isSome_none,h,AV]
  try simp only[A3,A4]
  repeat' first|exact ck|with_reducible apply And.intro|intro _
  all_goals first|exact trivial|(rename_i h;first|exact oI h|exact nah h)|(rename_i _ h _ g;exact sL h g)|decide|omega|(refine A0 [] ?_;simp only[↓eB,seval,go_sem,bne,A6,↓A1,h])
 |mk k n1 x a b=>
  simp only[Ex.dp]at hc2
  have ha1:a.dp<n:=by omega
  have hb1:b.dp<n:=by omega
  by_cases c0:k=0
  ·subst c0
   have h:evF q.P q.m q.vs (.mk 0 n1 x a b)= .ok n1:=rfl
   simp only[↓eB,seval,go_sem,↓A1,Option.isSome_some,Option.isSome_none,h,DE]
   try simp only[A3,A4]
   repeat' first|exact ck|with_reducible apply And.intro|intro _
   all_goals first|exact trivial|(rename_i h;first|exact oI h|exact nah h)|(rename_i _ h _ g;exact sL h g)|decide|omega|(refine A0 [] ?_;simp only[↓eB,seval,go_sem,bne,A6,↓A1,h])
  by_cases c1:k=1
  ·subst c1
   have h:evF q.P q.m q.vs (.mk 1 n1 x a b)=vlF q.P q.m q.vs x:=rfl
   cases hv:vlF q.P q.m q.vs x with
   |ok v=>
    simp only[↓eB,seval,go_sem,↓A1,Option.isSome_some,Option.isSome_none,h,hv,DE]
    try simp only[A3,A4]
    repeat' first|exact ck|with_reducible apply And.intro|intro _
    all_goals first|exact hc1|(rename_i h;first|exact oI h|exact nah h)|(rename_i _ h _ g;exact sL h g)|decide|omega|(refine A0 [] ?_;simp only[↓eB,seval,go_sem,bne,A6,↓A1,h,hv])
   |no j=>
    simp only[↓eB,seval,go_sem,↓A1,Option.isSome_some,Option.isSome_none,h,hv,DE]
    try simp only[A3,A4]
    repeat' first|exact ck|with_reducible apply And.intro|intro _
    all_goals first|exact hc1|(rename_i h;first|exact oI h|exact nah h)|(rename_i _ h _ g;exact sL h g)|decide|omega|(refine A0 [] ?_;simp only[↓eB,seval,go_sem,bne,A6,↓A1,h,hv])
  by_cases c7:k=7
  ·subst c7
   cases ha:evF q.P q.m q.vs a with
   |ok v=>
    have h:evF q.P q.m q.vs (.mk 7 n1 x a b)= .ok (w64i (0-v)):=by simp only[evF,ha];rfl
    simp only[↓eB,seval,go_sem,↓A1,Option.isSome_some,Option.isSome_none,h,ha,DE]
    try simp only[A3,A4]
    repeat' first|exact ck|with_reducible apply And.intro|intro _
    all_goals first|exact hc1|exact⟨hc1,ha1⟩|(rename_i h;first|exact oI h|exact nah h)|(rename_i _ h _ g;exact sL h g)|decide|omega|(refine A0 [] ?_;simp only[↓eB,seval,go_sem,bne,A6,↓A1,h,ha])
   |no j=>
    have h:evF q.P q.m q.vs (.mk 7 n1 x a b)= .no j:=by simp only[evF,ha];rfl
    simp only[↓eB,seval,go_sem,↓A1,Option.isSome_some,Option.isSome_none,h,ha,DE]
    try simp only[A3,A4]
    repeat' first|exact ck|with_reducible apply And.intro|intro _
    all_goals first|exact hc1|exact⟨hc1,ha1⟩|(rename_i h;first|exact oI h|exact nah h)|(rename_i _ h _ g;exact sL h g)|decide|omega|(refine A0 [] ?_;simp only[↓eB,seval,go_sem,bne,A6,↓A1,h,ha])
  have hh:evF q.P q.m q.vs (.mk k n1 x a b)=(match evF q.P q.m q.vs a with
    | .no j=>.no j
    | .ok x=>match evF q.P q.m q.vs b with
     | .no j=>.no j
     | .ok y=>if (k=5∨k=6)∧y=0 then .no 0 else .ok (arF k x y)):=by
   simp only[evF];rw[if_neg c0,if_neg c1,if_neg c7];rfl
  have d0:(k==0)=false:=by simpa using c0
  have d1:(k==1)=false:=by simpa using c1
  have d7:(k==7)=false:=by simpa using c7
  cases ha:evF q.P q.m q.vs a with
  |no j=>
   have h:evF q.P q.m q.vs (.mk k n1 x a b)= .no j:=by rw[hh,ha]
   simp only[↓eB,seval,go_sem,↓A1,Option.isSome_some,Option.isSome_none,h,ha,DE,d0,d1,d7]
   try simp only[A3,A4]
   repeat' first|exact ck|with_reducible apply And.intro|intro _
   all_goals first|exact hc1|exact⟨hc1,ha1⟩|(rename_i h;first|exact oI h|exact nah h)|(rename_i _ h _ g;exact sL h g)|decide|omega|(refine A0 [] ?_;simp only[↓eB,seval,go_sem,bne,A6,↓A1,h,ha])
  |ok u=>
  cases hb:evF q.P q.m q.vs b with
  |no j=>
   have h:evF q.P q.m q.vs (.mk k n1 x a b)= .no j:=by rw[hh,ha,hb]
   simp only[↓eB,seval,go_sem,↓A1,Option.isSome_some,Option.isSome_none,h,ha,hb,DE,d0,d1,d7]
   try simp only[A3,A4]
   repeat' first|exact ck|with_reducible apply And.intro|intro _
   all_goals first|exact hc1|exact⟨hc1,ha1⟩|exact⟨hc1,hb1⟩|(rename_i h;first|exact oI h|exact nah h)|(rename_i _ h _ g;exact sL h g)|decide|omega|(refine A0 [] ?_;simp only[↓eB,seval,go_sem,bne,A6,↓A1,h,ha,hb])
  |ok v=>
  by_cases c5:k=5
  ·subst c5
   cases cy:(v==0) with
   |true=>
    obtain rfl:v=0:=eq_of_beq cy
    have h:evF q.P q.m q.vs (.mk 5 n1 x a b)= .no 0:=by rw[hh,ha,hb];simp
    simp only[↓eB,seval,go_sem,↓A1,Option.isSome_some,Option.isSome_none,h,ha,hb,DE]
    try simp only[A3,A4]
    repeat' first|exact ck|with_reducible apply And.intro|intro _
    all_goals first|exact hc1|exact⟨hc1,ha1⟩|exact⟨hc1,hb1⟩|(rename_i h;first|exact oI h|exact nah h)|(rename_i _ h _ g;exact sL h g)|decide|omega|(refine A0 [] ?_;simp only[↓eB,seval,go_sem,bne,A6,↓A1,h,ha,hb])
   |false=>
    have hv0:v≠0:=by simpa using cy
    have h:evF q.P q.m q.vs (.mk 5 n1 x a b)= .ok (w64i (u.tdiv v)):=by rw[hh,ha,hb];simp[hv0,arF]
    simp only[↓eB,seval,go_sem,↓A1,Option.isSome_some,Option.isSome_none,h,ha,hb,DE,cy]
    try simp only[A3,A4]
    repeat' first|exact ck|with_reducible apply And.intro|intro _
    all_goals first|exact hc1|exact⟨hc1,ha1⟩|exact⟨hc1,hb1⟩|exact hv0|(rename_i h;first|exact oI h|exact nah h)|(rename_i _ h _ g;exact sL h g)|decide|omega|(refine A0 [] ?_;simp only[↓eB,seval,go_sem,bne,A6,↓A1,h,ha,hb])
  by_cases c6:k=6
  ·subst c6
   cases cy:(v==0) with
   |true=>
    obtain rfl:v=0:=eq_of_beq cy
    have h:evF q.P q.m q.vs (.mk 6 n1 x a b)= .no 0:=by rw[hh,ha,hb];simp
    simp only[↓eB,seval,go_sem,↓A1,Option.isSome_some,Option.isSome_none,h,ha,hb,DE]
    try simp only[A3,A4]
    repeat' first|exact ck|with_reducible apply And.intro|intro _
    all_goals first|exact hc1|exact⟨hc1,ha1⟩|exact⟨hc1,hb1⟩|(rename_i h;first|exact oI h|exact nah h)|(rename_i _ h _ g;exact sL h g)|decide|omega|(refine A0 [] ?_;simp only[↓eB,seval,go_sem,bne,A6,↓A1,h,ha,hb])
   |false=>
    have hv0:v≠0:=by simpa using cy
    have h:evF q.P q.m q.vs (.mk 6 n1 x a b)= .ok (u.tmod v):=by rw[hh,ha,hb];simp[hv0,arF]
    simp only[↓eB,seval,go_sem,↓A1,Option.isSome_some,Option.isSome_none,h,ha,hb,DE,cy]
    try simp only[A3,A4]
    repeat' first|exact ck|with_reducible apply And.intro|intro _
    all_goals first|exact hc1|exact⟨hc1,ha1⟩|exact⟨hc1,hb1⟩|exact hv0|(rename_i h;first|exact oI h|exact nah h)|(rename_i _ h _ g;exact sL h g)|decide|omega|(refine A0 [] ?_;simp only[↓eB,seval,go_sem,bne,A6,↓A1,h,ha,hb])
  by_cases c2:k=2
  ·subst c2
   have h:evF q.P q.m q.vs (.mk 2 n1 x a b)= .ok (w64i (u+v)):=by rw[hh,ha,hb];rfl
   simp only[↓eB,seval,go_sem,↓A1,Option.isSome_some,Option.isSome_none,h,ha,hb,DE]
   try simp only[A3,A4]
   repeat' first|exact ck|with_reducible apply And.intro|intro _
   all_goals first|exact hc1|exact⟨hc1,ha1⟩|exact⟨hc1,hb1⟩|(rename_i h;first|exact oI h|exact nah h)|(rename_i _ h _ g;exact sL h g)|decide|omega|(refine A0 [] ?_;simp only[↓eB,seval,go_sem,bne,A6,↓A1,h,ha,hb])
  by_cases c3:k=3
  ·subst c3
   have h:evF q.P q.m q.vs (.mk 3 n1 x a b)= .ok (w64i (u-v)):=by rw[hh,ha,hb];rfl
   simp only[↓eB,seval,go_sem,↓A1,Option.isSome_some,Option.isSome_none,h,ha,hb,DE]
   try simp only[A3,A4]
   repeat' first|exact ck|with_reducible apply And.intro|intro _
   all_goals first|exact hc1|exact⟨hc1,ha1⟩|exact⟨hc1,hb1⟩|(rename_i h;first|exact oI h|exact nah h)|(rename_i _ h _ g;exact sL h g)|decide|omega|(refine A0 [] ?_;simp only[↓eB,seval,go_sem,bne,A6,↓A1,h,ha,hb])
  by_cases c4:k=4
  ·subst c4
   have h:evF q.P q.m q.vs (.mk 4 n1 x a b)= .ok (w64i (u*v)):=by rw[hh,ha,hb];rfl
   simp only[↓eB,seval,go_sem,↓A1,Option.isSome_some,Option.isSome_none,h,ha,hb,DE]
   try simp only[A3,A4]
   repeat' first|exact ck|with_reducible apply And.intro|intro _
   all_goals first|exact hc1|exact⟨hc1,ha1⟩|exact⟨hc1,hb1⟩|(rename_i h;first|exact oI h|exact nah h)|(rename_i _ h _ g;exact sL h g)|decide|omega|(refine A0 [] ?_;simp only[↓eB,seval,go_sem,bne,A6,↓A1,h,ha,hb])
  have d2:(k==2)=false:=by simpa using c2
  have d3:(k==3)=false:=by simpa using c3
  have d4:(k==4)=false:=by simpa using c4
  have d5:(k==5)=false:=by simpa using c5
  have d6:(k==6)=false:=by simpa using c6
  have h:evF q.P q.m q.vs (.mk k n1 x a b)= .ok 0:=by
   rw[hh,ha,hb]
   simp[c5,c6,arF,c2,c3,c4]
  simp only[↓eB,seval,go_sem,↓A1,Option.isSome_some,Option.isSome_none,h,ha,hb,DE,d0,d1,d2,d3,d4,d5,d6,d7]
  try simp only[A3,A4]
  repeat' first|exact ck|with_reducible apply And.intro|intro _
  all_goals first|exact hc1|exact⟨hc1,ha1⟩|exact⟨hc1,hb1⟩|(rename_i h;first|exact oI h|exact nah h)|(rename_i _ h _ g;exact sL h g)|decide|omega|(refine A0 [] ?_;simp only[↓eB,seval,go_sem,bne,A6,↓A1,h,ha,hb])
theorem OP:∀n,Kf n
 |0=>fun p w M I lab fz xs hc=>absurd hc.2 (Nat.not_lt_zero _)
 |n+1=>eO n (OP n)
end Go.Proofs.Ytjnnmindcbgjhaa
