/- A function that defers, in its caller's memory. No conditions but those in each statement. -/
import Derived.Test.YtjnnmindcbgjhaaSy38
import Derived.Test.YtjnnmindcbgjhaaRm2
set_option linter.unusedVariables false
set_option linter.unusedSimpArgs false
set_option maxRecDepth 20000
set_option maxHeartbeats 4000000
namespace Go.Sy
open Go Go.RowKit
section
variable {P:Program} {X:Ctx} {w0:World} {n:Nat}
theorem Xq {s:St} {a:Act} {w:World} (h:Holds X w0 n s a w) {t:Nat} (ht:lkp s.e t=none) (sl:List (Nat×Nat)) (hs:∀p∈sl,lkp s.e p.1=some (true,.one (.p p.2 0 0))∧p.1≠t) (ns:List Nat) (hn:∀k∈ns,(lkp s.h k).isSome=true) (pn:Option (List (Nat×List C×List (List C)))) :
  ∃I:Nm,a.tmps.size=n∧(∀p∈X.F,I p.1=p.2)∧(∀p∈sl,a.tmps[p.1]?=some ((I p.2).p 0 0))∧∀(F:Value) (df:List Deferred),Holds ⟨X.M,X.Z,ns.map fun k=>(k,I k),pn,df,[]⟩ w0 n s { (a.put (some t) F) with defers:=df } w:=by
 obtain⟨hW,I,lab,fz,hA⟩:=h
 have hput:∀(F:Value) (j:Nat),j≠t→(a.put (some t) F).tmps[j]?=a.tmps[j]?:=by
  intro F j hj
  simp only[Act.put]
  rw[Array.getElem?_setIfInBounds,if_neg (Ne.symm hj)]
 refine⟨I,hA.n,fun p hp=>(hA.m.fix p hp).2,fun p hp=>?_,fun F df=>⟨hW,I,lab,fz,by rw[← hA.n];exact QU a (some t) F,⟨rfl,fun p hp=>by cases hp⟩,fun j g v hj=>?_,⟨hA.m.h,hA.m.wf,hA.m.own,hA.m.fzl,hA.m.fzo,hA.m.kept,fun p hp=>?_⟩⟩⟩
 ·obtain⟨h1,h2⟩:=hs p hp
  obtain⟨x,hx,hd⟩:=hA.e p.1 true _ h1
  simp only[if_true]at hd
  rw[hx,A2j hd]
 ·have hjt:j≠t:=by rintro rfl;rw[ht]at hj;cases hj
  obtain⟨x,hx,hd⟩:=hA.e j g v hj
  exact⟨x,by show (a.put (some t) F).tmps[j]?=_;rw[hput F _ hjt];exact hx,hd⟩
 ·obtain⟨k,hk,rfl⟩:=List.mem_map.1 hp
  exact⟨hn k hk,rfl⟩
theorem eo {f:FuncId} {fn:Func} {c:Code} (hf:P.funcs[f]?=some fn) (hb:fn.body=some c) (mem:List MV) (w:World) (M:Nat→Prop) (I:Nm) (lab:Lab) (fz:Nat→Prop) (args:List SV) (mem':List (Option MV)) (R:SV) (xs:List Value)
  (hA:AtW (mX M fz I mem.length) w I lab fz (lkp (Ey 0 mem)) w) (hlen:xs.length=args.length) (hx:∀(j:Nat) (v:SV) (x:Value),args[j]?=some v→xs[j]?=some x→Ae (hp w) fz lab I (lkp (Ey 0 mem)) v x)
  (hnm:∀v∈args,∀k∈v.names,k<mem.length) (hn:args.length≤fn.ntmps)
  (h:T4 (P:=P) (mX M fz I mem.length) w fn.ntmps c ⟨IP 0 args,Ey 0 mem⟩ (bodyPostD P fn (Ky w M fz I mem.length mem' R))):Calls P f xs.toArray w (Ky w M fz I mem.length mem' R):=by
 refine calls_of_wp_defers hf hb (h _ w ⟨?_,I,lab,fz,?_,⟨rfl,fun p hp=>by cases hp⟩,?_,hA⟩)
 ·intro t g v ht _ k hk
  rw[G3]at ht
  simp only[Nat.zero_le,if_true,Nat.sub_zero,Option.map_eq_some_iff,jP]at ht
  obtain⟨u,hu,rfl,rfl⟩:=ht
  have:=hnm u (List.mem_of_getElem? hu) k hk
  show (lkp (Ey 0 mem) k).isSome=true
  rw[Ey,Gk]
  simp[this]
 ·simp[hlen];omega
 ·intro t g v ht
  rw[G3]at ht
  simp only[Nat.zero_le,if_true,Nat.sub_zero,Option.map_eq_some_iff,jP]at ht
  obtain⟨u,hu,rfl,rfl⟩:=ht
  have hlt:t<args.length:=(List.getElem?_eq_some_iff.1 hu).1
  have hlt2:t<xs.length:=by omega
  refine⟨xs[t],?_,?_⟩
  ·rw[Array.getElem?_append_left (by simpa using hlt2)]
   simp[hlt2]
  ·simp only[if_true]
   exact hx t u _ hu (List.getElem?_eq_getElem hlt2)
theorem Zw {X':Ctx} {w:World} {I:Nm} {lab:Lab} {fz:Nat→Prop} {H:Hp} (hM:X'.M=X.M) (hZ:X'.Z=X.Z) (hF:∀p∈X'.F,p∈X.F) (h:AtW X w0 I lab fz H w):AtW X' w0 I lab fz H w:=
 ⟨h.h,h.wf,by rw[hM];exact h.own,h.fzl,by rw[hM,hZ];exact h.fzo,by rw[hM];exact h.kept,fun p hp=>h.fix p (hF p hp)⟩
theorem qR {M fz0:Nat→Prop} {I0:Nm} {m:Nat} {s:St} {a:Act} {w:World} {fn:Func} {R:SV} {mem':List (Option MV)} (hM:M=X.M) (hZ:fz0=X.Z) (hF:∀p∈memF I0 0 m,p∈X.F) (hl:m≤mem'.length) (h:MU P X fn.results.toList (kI R mem') s) (hs:Holds X w0 n s a w) :
  ∃x,(results fn a.tmps).run P w= .ok x w∧Ky w0 M fz0 I0 m mem' R (.returned x) w:=by
 obtain⟨cs,s',vs,h1,h2,h3,h4,h5,h6⟩:=h
 obtain⟨_,I',lab',fz',hA'⟩:=Fg h1 a w hs
 obtain⟨x,x1,x2⟩:=JU hA' h2 h3
 rw[h4]at x2
 refine⟨x,x1,x,I',lab',fz',rfl,Ps (Zw (X:=X) (X':=mX M fz0 I0 m) hM hZ hF hA'.m) h6 (fun p hp'=>?_),N8 h5 x2⟩
 obtain⟨q1,q2,_⟩:=Hm hp'
 exact ON _ _ _ q1 (by omega)
theorem jR {ops:Array Oper} (sp:List (Spec P X w0)) {j0:Nat} {l:List Oper} {st:St} {Q:St→Prop} {Qd:Exit→Act→World→Prop} {a:Act} {w:World} (hP:∀ch a w,Gq X a→K5 X w0 ch w→Qd (.panic ch) a w) (hQ:∀s' a w,Q s'→Holds X w0 n s' a w→Qd .normal a w)
  (hl:∀j,l[j]?=ops[j0+j]?) (hv:JT sp n ops l st [] Wu Q) (hs:Holds X w0 n st a w):wpOps P ops Qd (List.range' j0 l.length) a w:=by
 obtain⟨hW,I,lab,fz,hA⟩:=hs
 obtain⟨xs,fs,s',h1,_,h2,h3,h4⟩:=OM sp n ops _ _ _ _ _ hv
 refine TL hP l j0 _ _ xs fs a w I lab fz hl h1 hW hA fun a' w' I' lab' fz' hW' hA'=>?_
 have e1:CU xs 0 (fun _=>true) (lkp st.e)=Jg xs (lkp st.e):=rfl
 have e2:CB xs 0 (fun _=>true) (lkp st.h)=Jh xs (lkp st.h):=rfl
 rw[e1,e2,← h3,← h4]at hW' hA'
 exact hQ s' a' w' (h2 (fun t p ht=>hA'.m.h t _ ht)) ⟨hW',I',lab',fz',hA'⟩
end
end Go.Sy
namespace Go.Proofs.Ytjnnmindcbgjhaa
open Go Go.Sy Go.RowKit
abbrev Ns (p:Pg×Ms) (fn:List UInt8) (al:Int) (kd:Int):Prop:=True
abbrev FI (p:Pg×Ms) (fn:List UInt8) (al:Int) (kd:Int):Bool:=true
abbrev Nt (p:Pg×Ms) (fn:List UInt8) (al:Int) (kd:Int):SV:=.tup []
abbrev Dv (p:Pg×Ms) (fn:List UInt8) (al:Int) (kd:Int):MV:=mcW p.1 (p.2.brk fn al kd)
noncomputable abbrev Ll:ArgM ((Pg×Ms)×(List UInt8)×(Int)×(Int)×Unit):=(amP (mMc) (amD (cStr) (amD (cInt .i64) (amD (cInt .i64) am0))))
abbrev jT:Prop:=P5 Try.prog 51 ((Ll).args 0) (Ll).mem (fun p:(Pg×Ms)×(List UInt8)×(Int)×(Int)×Unit=>Ns p.1 p.2.1 p.2.2.1 p.2.2.2.1) (fun p:(Pg×Ms)×(List UInt8)×(Int)×(Int)×Unit=>FI p.1 p.2.1 p.2.2.1 p.2.2.2.1) (fun p:(Pg×Ms)×(List UInt8)×(Int)×(Int)×Unit=>Nt p.1 p.2.1 p.2.2.1 p.2.2.2.1) (fun p:(Pg×Ms)×(List UInt8)×(Int)×(Int)×Unit=>[some (Dv p.1 p.2.1 p.2.2.1 p.2.2.2.1)])
theorem jU:∀p,(fun p:(Pg×Ms)×(List UInt8)×(Int)×(Int)×Unit=>Ns p.1 p.2.1 p.2.2.1 p.2.2.2.1) p→((fun p:(Pg×Ms)×(List UInt8)×(Int)×(Int)×Unit=>[some (Dv p.1 p.2.1 p.2.2.1 p.2.2.2.1)]) p).length=((Ll).mem p).length:=by intro p _;rfl
theorem jV:∀p,(fun p:(Pg×Ms)×(List UInt8)×(Int)×(Int)×Unit=>Ns p.1 p.2.1 p.2.2.1 p.2.2.2.1) p→Av ((fun p:(Pg×Ms)×(List UInt8)×(Int)×(Int)×Unit=>[some (Dv p.1 p.2.1 p.2.2.1 p.2.2.2.1)]) p).length ((fun p:(Pg×Ms)×(List UInt8)×(Int)×(Int)×Unit=>Nt p.1 p.2.1 p.2.2.1 p.2.2.2.1) p)=true:=by intro p _;first|rfl|exact AO _ _|exact AP _ _|(simp[Av,C0,AO,AP];done)
theorem Xr:∀p,(fun p:(Pg×Ms)×(List UInt8)×(Int)×(Int)×Unit=>Ns p.1 p.2.1 p.2.2.1 p.2.2.2.1) p→∀q,some q∈(fun p:(Pg×Ms)×(List UInt8)×(Int)×(Int)×Unit=>[some (Dv p.1 p.2.1 p.2.2.1 p.2.2.2.1)]) p→∀r∈q.2,∀c∈r,c.names=[]:=by intro p _;exact PM _ _
attribute [local go_sem] Ms.brk Ms.exh Ms.spd Fv HW HX mcC mcW Fw Et FO FN FR
theorem qS:jT:=by
 rintro ⟨p,fn,al,kd,_u⟩ w M I lab fz xs hc hA hl hx
 refine MY Try.func51 rfl _ w M I lab fz (FI p fn al kd) (Dv p fn al kd) [] [] ((Ll).args 0 ⟨p,fn,al,kd,_u⟩) (Nt p fn al kd) xs hA hl hx (fun v hv k hk=>Nat.lt_of_lt_of_eq ((Ll).an 0 ⟨p,fn,al,kd,_u⟩ v hv k hk).2 (Nat.zero_add _)) (jN rfl) (Xr ⟨p,fn,al,kd,_u⟩ hc _ (List.mem_singleton.2 rfl)) ?_
 clear hx hl hA xs
 simp only[Try.f51]
 obtain⟨P,m⟩:=p
 simp only[↓eB,seval,go_sem,FI,Dv]
 try simp only[A3,A4]
 repeat' first|exact ck|with_reducible apply And.intro|intro _
 all_goals first|exact trivial|(rename_i h;first|exact oI h|exact nah h)|(rename_i _ h _ g;exact sL h g)|decide|omega|(refine A0 [] ?_;simp only[↓eB,seval,go_sem,bne,Nt,FI,Dv,LI])
noncomputable def Hd {X:Ctx} {w0:World}:Sy.Spec Try.prog X w0:=P6 51 Try.call51 (Ll) (fun p:(Pg×Ms)×(List UInt8)×(Int)×(Int)×Unit=>Ns p.1 p.2.1 p.2.2.1 p.2.2.2.1) (fun p:(Pg×Ms)×(List UInt8)×(Int)×(Int)×Unit=>FI p.1 p.2.1 p.2.2.1 p.2.2.2.1) (fun p:(Pg×Ms)×(List UInt8)×(Int)×(Int)×Unit=>Nt p.1 p.2.1 p.2.2.1 p.2.2.2.1) (fun p:(Pg×Ms)×(List UInt8)×(Int)×(Int)×Unit=>[some (Dv p.1 p.2.1 p.2.2.1 p.2.2.2.1)]) jU jV Xr qS
abbrev Pd (p:Pg×Ms):Prop:=True
abbrev EB (p:Pg×Ms):Bool:=true
abbrev Pe (p:Pg×Ms):SV:=.tup []
abbrev DJ (p:Pg×Ms):MV:=mcW p.1 p.2.exh
noncomputable abbrev Mx:ArgM ((Pg×Ms)×Unit):=(amP (mMc) am0)
abbrev qT:Prop:=P5 Try.prog 71 ((Mx).args 0) (Mx).mem (fun p:(Pg×Ms)×Unit=>Pd p.1) (fun p:(Pg×Ms)×Unit=>EB p.1) (fun p:(Pg×Ms)×Unit=>Pe p.1) (fun p:(Pg×Ms)×Unit=>[some (DJ p.1)])
theorem qU:∀p,(fun p:(Pg×Ms)×Unit=>Pd p.1) p→((fun p:(Pg×Ms)×Unit=>[some (DJ p.1)]) p).length=((Mx).mem p).length:=by intro p _;rfl
theorem qV:∀p,(fun p:(Pg×Ms)×Unit=>Pd p.1) p→Av ((fun p:(Pg×Ms)×Unit=>[some (DJ p.1)]) p).length ((fun p:(Pg×Ms)×Unit=>Pe p.1) p)=true:=by intro p _;first|rfl|exact AO _ _|exact AP _ _|(simp[Av,C0,AO,AP];done)
theorem Zx:∀p,(fun p:(Pg×Ms)×Unit=>Pd p.1) p→∀q,some q∈(fun p:(Pg×Ms)×Unit=>[some (DJ p.1)]) p→∀r∈q.2,∀c∈r,c.names=[]:=by intro p _;exact PM _ _
theorem xC:qT:=by
 rintro ⟨p,_u⟩ w M I lab fz xs hc hA hl hx
 refine MY Try.func71 rfl _ w M I lab fz (EB p) (DJ p) [] [] ((Mx).args 0 ⟨p,_u⟩) (Pe p) xs hA hl hx (fun v hv k hk=>Nat.lt_of_lt_of_eq ((Mx).an 0 ⟨p,_u⟩ v hv k hk).2 (Nat.zero_add _)) (jN rfl) (Zx ⟨p,_u⟩ hc _ (List.mem_singleton.2 rfl)) ?_
 clear hx hl hA xs
 simp only[Try.f71]
 obtain⟨P,m⟩:=p
 simp only[↓eB,seval,go_sem,EB,DJ]
 try simp only[A3,A4]
 repeat' first|exact ck|with_reducible apply And.intro|intro _
 all_goals first|exact trivial|(rename_i h;first|exact oI h|exact nah h)|(rename_i _ h _ g;exact sL h g)|decide|omega|(refine A0 [] ?_;simp only[↓eB,seval,go_sem,bne,Pe,EB,DJ,LI])
noncomputable def ET {X:Ctx} {w0:World}:Sy.Spec Try.prog X w0:=P6 71 Try.call71 (Mx) (fun p:(Pg×Ms)×Unit=>Pd p.1) (fun p:(Pg×Ms)×Unit=>EB p.1) (fun p:(Pg×Ms)×Unit=>Pe p.1) (fun p:(Pg×Ms)×Unit=>[some (DJ p.1)]) qU qV Zx xC
abbrev Pf (p:Pg×Ms):Prop:=True
abbrev EC (p:Pg×Ms):Bool:=p.2.out
abbrev My (p:Pg×Ms):SV:=.tup []
abbrev DK (p:Pg×Ms):MV:=mcW p.1 (if p.2.out=true then p.2.exh else p.2.spd)
noncomputable abbrev Mz:ArgM ((Pg×Ms)×Unit):=(amP (mMc) am0)
abbrev qW:Prop:=P5 Try.prog 96 ((Mz).args 0) (Mz).mem (fun p:(Pg×Ms)×Unit=>Pf p.1) (fun p:(Pg×Ms)×Unit=>EC p.1) (fun p:(Pg×Ms)×Unit=>My p.1) (fun p:(Pg×Ms)×Unit=>[some (DK p.1)])
theorem qX:∀p,(fun p:(Pg×Ms)×Unit=>Pf p.1) p→((fun p:(Pg×Ms)×Unit=>[some (DK p.1)]) p).length=((Mz).mem p).length:=by intro p _;rfl
theorem qY:∀p,(fun p:(Pg×Ms)×Unit=>Pf p.1) p→Av ((fun p:(Pg×Ms)×Unit=>[some (DK p.1)]) p).length ((fun p:(Pg×Ms)×Unit=>My p.1) p)=true:=by intro p _;first|rfl|exact AO _ _|exact AP _ _|(simp[Av,C0,AO,AP];done)
theorem Zy:∀p,(fun p:(Pg×Ms)×Unit=>Pf p.1) p→∀q,some q∈(fun p:(Pg×Ms)×Unit=>[some (DK p.1)]) p→∀r∈q.2,∀c∈r,c.names=[]:=by intro p _;exact PM _ _
attribute[local go_sem] EB EC ET DJ DK in
theorem xD:qW:=by
 rintro ⟨p,_u⟩ w M I lab fz xs hc hA hl hx
 refine MY Try.func96 rfl _ w M I lab fz (EC p) (DK p) [ET] [] ((Mz).args 0 ⟨p,_u⟩) (My p) xs hA hl hx (fun v hv k hk=>Nat.lt_of_lt_of_eq ((Mz).an 0 ⟨p,_u⟩ v hv k hk).2 (Nat.zero_add _)) (jN rfl) (Zy ⟨p,_u⟩ hc _ (List.mem_singleton.2 rfl)) ?_
 clear hx hl hA xs
 simp only[Try.f96]
 obtain⟨P,m⟩:=p
 cases ho:m.out with
 |true=>
  have h1:decide (m.fuel<1)=true:=ho
  simp only[↓eB,seval,go_sem,ho,h1]
  try simp only[A3,A4]
  repeat' first|exact ck|with_reducible apply And.intro|intro _
  all_goals first|exact trivial|(rename_i h;first|exact oI h|exact nah h)|(rename_i _ h _ g;exact sL h g)|decide|omega|(refine A0 [] ?_;simp only[↓eB,seval,go_sem,bne,My,LI,ho])
 |false=>
  have h1:decide (m.fuel<1)=false:=ho
  simp only[↓eB,seval,go_sem,ho,h1]
  try simp only[A3,A4]
  repeat' first|exact ck|with_reducible apply And.intro|intro _
  all_goals first|exact trivial|(rename_i h;first|exact oI h|exact nah h)|(rename_i _ h _ g;exact sL h g)|decide|omega|(refine A0 [] ?_;simp only[↓eB,seval,go_sem,bne,My,LI,ho])
noncomputable def EU {X:Ctx} {w0:World}:Sy.Spec Try.prog X w0:=P6 96 Try.call96 (Mz) (fun p:(Pg×Ms)×Unit=>Pf p.1) (fun p:(Pg×Ms)×Unit=>EC p.1) (fun p:(Pg×Ms)×Unit=>My p.1) (fun p:(Pg×Ms)×Unit=>[some (DK p.1)]) qX qY Zy xD
end Go.Proofs.Ytjnnmindcbgjhaa
namespace Go.Proofs.Ytjnnmindcbgjhaa
open Go Go.Sy Go.RowKit
theorem J0 (e:Ex):(SV.one (exC e)).tupB=false:=rfl
theorem J1 (e:Cd):(SV.one (cdC e)).tupB=false:=rfl
theorem GM (q:Fa):(⟨q.nm,q.ret,q.P,q.m,q.vs⟩:Fa)=q:=rfl
noncomputable def cSp:Cod Sm:=Gn (fun s=>.one (.dp s.r)) (fun v a b h h'=>by
 cases v with
 |one c=>
  rcases h with rfl|⟨_,h2⟩
  ·rcases h' with h|⟨_,h4⟩
   ·simp only[C.dp.injEq]at h
    exact NC a b h
   ·cases h4
  ·cases h2
 |agg l=>exact h.elim
 |tup l=>exact h.elim) (fun s=>rfl)
theorem Km (s:Sm):cSp.e s= .one (.dp s.r):=rfl
theorem Kn (k no:Int) (x y:List UInt8) (e f:Ex) (cd:Cd) (ar:List Ar) (th el:List Sm):cSp.d (.one (.dp [.v (.int .i64 k),.v (.string (bs x)),.v (.string (bs y)),e.d,f.d,cd.d,.sl zAr (ar.map Ar.r),.sl zSm (th.map Sm.r),.sl zSm (el.map Sm.r),.v (.int .i64 no)]))=some (.mk k x y e f cd ar th el no):=by
 have h:cSp.d (.one (.dp (Sm.mk k x y e f cd ar th el no).r))=some (.mk k x y e f cd ar th el no):=D9 (e:=fun s:Sm=>.one (.dp s.r)) (Dp _)
 rw[HN]at h;exact h
theorem UG (l:List (List UInt8×Int)) (s:List UInt8):Ap ((mpI l).map fun p=>(p.1,[C.v p.2])) s=(Ap l s).map fun i=>[.v (.int .i64 i)]:=by
 unfold mpI
 rw[Ny (fun x:Value=>[C.v x]),Ny (fun x:Int=>Value.int .i64 x),Option.map_map];rfl
theorem Bg (P:Pg) (s:List UInt8):Ap ((mpI (fI P.g.c)).map fun p=>(p.1,[C.v p.2])) s=(P.ci s).map fun i=>[.v (.int .i64 i)]:=UG _ _
theorem Bh (P:Pg) (s:List UInt8):Ap ((mpI (fI (P.g.a.map Gy.s))).map fun p=>(p.1,[C.v p.2])) s=(P.ai s).map fun i=>[.v (.int .i64 i)]:=UG _ _
theorem Bi (P:Pg) (s:List UInt8):Ap ((mpI (fI (P.fs.map Fn.name))).map fun p=>(p.1,[C.v p.2])) s=(P.fi s).map fun i=>[.v (.int .i64 i)]:=UG _ _
theorem Bj (vs:Vs) (s:List UInt8):Ap (vsC vs) s=(Ap vs s).map Va.c:=Ny Va.c s vs
theorem ME (vs:Vs) (s:List UInt8) (p:Bool) (n:Int) (t:List UInt8):C2 (vsC vs) s [.v (.bool p),.v (.int .i64 n),.v (.string (bs t))]=vsC (C2 vs s ⟨p,n,t⟩):=T9 Va.c s ⟨p,n,t⟩ vs
theorem J2 (vs:Vs):List.flatMap (fun p=>List.flatMap C.names p.snd) (vsC vs)=[]:=List.flatMap_eq_nil_iff.2 fun p hp=>List.flatMap_eq_nil_iff.2 fun c hc=>Tr vs c (List.mem_flatMap.2 ⟨p,hp,hc⟩)
theorem J3 (f:Nat→Nat) (vs:Vs):(vsC vs).map (fun p=>(p.1,p.2.map (rnC f)))=vsC vs:=Dq fun p hp=>by
 show (p.1,p.2.map _)=p
 rw[Dq fun c hc=>Eh (Tr vs c (List.mem_flatMap.2 ⟨p,hp,hc⟩))]
theorem A1 (t:Nat) (ag:Bool) (es:List (List UInt8×List C)) (r:List (Nat×Ch)) (K:St→Prop):IM ((t,.mp ag es)::r) K=IM r K:=rfl
theorem UH {l:List Nb} {i:Int} (h:0≤i∧i<(l.length:Int)) (z:List C):(l.map Nb.c).getD i.toNat z=[.v (.string (bs (l.getD i.toNat ⟨[],0⟩).s)),.v (.int .i64 (l.getD i.toNat ⟨[],0⟩).n)]:=by
 have h1:i.toNat<l.length:=by omega
 simp[List.getD,h1,Nb.c]
theorem Xs {l:List Na} {i:Int} (h:0≤i∧i<(l.length:Int)) (z:List C):(l.map Na.c).getD i.toNat z=[.v (.string (bs (l.getD i.toNat ⟨[],[]⟩).s)),.ov zI ((l.getD i.toNat ⟨[],[]⟩).l.map cI)]:=by
 have h1:i.toNat<l.length:=by omega
 simp[List.getD,h1,Na.c]
abbrev N0 (q:Fa) (s:Sm) (kd:Int):Prop:=True
abbrev Be (q:Fa) (s:Sm) (kd:Int):Bool:=true
abbrev B8 (q:Fa) (s:Sm) (kd:Int):Fa:={ q with m:=q.m.brk q.nm s.no kd }
abbrev BM (q:Fa) (s:Sm) (kd:Int):Fa:={ q with m:=q.m.brk q.nm s.no kd }
abbrev KL (q:Fa) (s:Sm) (kd:Int):SV:=.tup []
theorem qZ:∀b,∀v∈ArgC.e (acS (cSp) (acS (cInt .i64) ac0)) b,v.tupB=false:=by rintro ⟨x0,x1,_⟩ v hv;simp only[Hl,Hk,List.mem_cons,List.not_mem_nil,or_false]at hv;rcases hv with rfl|rfl<;>first|rfl|exact J0 _|exact J1 _
noncomputable abbrev IC:ArgL (Fa×(Sm)×(Int)×Unit):=amFr (acS (cSp) (acS (cInt .i64) ac0)) qZ
abbrev SB:Prop:=E9 Try.prog 99 (IC).args (IC).mem (fun p:(Fa×(Sm)×(Int)×Unit)=>N0 p.1 p.2.1 p.2.2.1) (fun p:(Fa×(Sm)×(Int)×Unit)=>Be p.1 p.2.1 p.2.2.1) (fun p:(Fa×(Sm)×(Int)×Unit)=>KL p.1 p.2.1 p.2.2.1) (fun p:(Fa×(Sm)×(Int)×Unit)=>Fa.memO (B8 p.1 p.2.1 p.2.2.1)) (fun p:(Fa×(Sm)×(Int)×Unit)=>mlO (Fa.pan (BM p.1 p.2.1 p.2.2.1)))
theorem qa:∀p,(fun p:(Fa×(Sm)×(Int)×Unit)=>N0 p.1 p.2.1 p.2.2.1) p→(fun p:(Fa×(Sm)×(Int)×Unit)=>Be p.1 p.2.1 p.2.2.1) p=false→Dr ((IC).mem p).length ((fun p:(Fa×(Sm)×(Int)×Unit)=>Fa.memO (B8 p.1 p.2.1 p.2.2.1)) p)=true∧kdL ((IC).mem p) ((fun p:(Fa×(Sm)×(Int)×Unit)=>Fa.memO (B8 p.1 p.2.1 p.2.2.1)) p)=true∧Eb ((fun p:(Fa×(Sm)×(Int)×Unit)=>Fa.memO (B8 p.1 p.2.1 p.2.2.1)) p) ((fun p:(Fa×(Sm)×(Int)×Unit)=>KL p.1 p.2.1 p.2.2.1) p)∧∀q,some q∈(fun p:(Fa×(Sm)×(Int)×Unit)=>Fa.memO (B8 p.1 p.2.1 p.2.2.1)) p→DP ((fun p:(Fa×(Sm)×(Int)×Unit)=>Fa.memO (B8 p.1 p.2.1 p.2.2.1)) p).length q:=fun p _ _=>have h:=Da p.1 (B8 p.1 p.2.1 p.2.2.1);⟨h.1,h.2.1,rfl,h.2.2⟩
theorem qb:∀p,(fun p:(Fa×(Sm)×(Int)×Unit)=>N0 p.1 p.2.1 p.2.2.1) p→(fun p:(Fa×(Sm)×(Int)×Unit)=>Be p.1 p.2.1 p.2.2.1) p=true→((fun p:(Fa×(Sm)×(Int)×Unit)=>mlO (Fa.pan (BM p.1 p.2.1 p.2.2.1))) p).length=((IC).mem p).length∧kdL ((IC).mem p) ((fun p:(Fa×(Sm)×(Int)×Unit)=>mlO (Fa.pan (BM p.1 p.2.1 p.2.2.1))) p)=true∧∀q,some q∈(fun p:(Fa×(Sm)×(Int)×Unit)=>mlO (Fa.pan (BM p.1 p.2.1 p.2.2.1))) p→DP ((fun p:(Fa×(Sm)×(Int)×Unit)=>mlO (Fa.pan (BM p.1 p.2.1 p.2.2.1))) p).length q:=fun p _ _=>Il p.1 (BM p.1 p.2.1 p.2.2.1)
theorem qc:∀p,(fun p:(Fa×(Sm)×(Int)×Unit)=>N0 p.1 p.2.1 p.2.2.1) p→(fun p:(Fa×(Sm)×(Int)×Unit)=>Be p.1 p.2.1 p.2.2.1) p=true→Dr ((IC).mem p).length ((fun p:(Fa×(Sm)×(Int)×Unit)=>Fa.memO (B8 p.1 p.2.1 p.2.2.1)) p)=true∧Eb ((fun p:(Fa×(Sm)×(Int)×Unit)=>Fa.memO (B8 p.1 p.2.1 p.2.2.1)) p) ((fun p:(Fa×(Sm)×(Int)×Unit)=>KL p.1 p.2.1 p.2.2.1) p):=fun p _ _=>⟨(Da p.1 (B8 p.1 p.2.1 p.2.2.1)).1,rfl⟩
noncomputable def VS {X:Ctx} {w0:World} (h:SB):Sy.Spec Try.prog X w0:=Di 99 Try.call99 (IC) (fun p:(Fa×(Sm)×(Int)×Unit)=>N0 p.1 p.2.1 p.2.2.1) (fun p:(Fa×(Sm)×(Int)×Unit)=>Be p.1 p.2.1 p.2.2.1) (fun p:(Fa×(Sm)×(Int)×Unit)=>KL p.1 p.2.1 p.2.2.1) (fun p:(Fa×(Sm)×(Int)×Unit)=>Fa.memO (B8 p.1 p.2.1 p.2.2.1)) (fun p:(Fa×(Sm)×(Int)×Unit)=>mlO (Fa.pan (BM p.1 p.2.1 p.2.2.1))) (qa) (qb) (qc) (fun _=>rfl) h
theorem Ck {X:Ctx} {w0:World} (h:SB):(VS (X:=X) (w0:=w0) h).f=99:=rfl
theorem Cl {X:Ctx} {w0:World} (h:SB) (t:Nat) (args:List SV) (H:Hp):(VS (X:=X) (w0:=w0) h).fn t args H=spL X ((IC).d H args) t H (fun p:(Fa×(Sm)×(Int)×Unit)=>N0 p.1 p.2.1 p.2.2.1) (fun p:(Fa×(Sm)×(Int)×Unit)=>Be p.1 p.2.1 p.2.2.1) (fun p:(Fa×(Sm)×(Int)×Unit)=>KL p.1 p.2.1 p.2.2.1) (fun p:(Fa×(Sm)×(Int)×Unit)=>Fa.memO (B8 p.1 p.2.1 p.2.2.1)) (fun p:(Fa×(Sm)×(Int)×Unit)=>mlO (Fa.pan (BM p.1 p.2.1 p.2.2.1))):=rfl
theorem xE:SB:=by
 rintro ⟨q,s,kd,_u⟩ w M I lab fz xs hc hA hl hx
 refine Ce Try.func99 rfl (Fa.mem q) w M I lab fz (Be q s kd) (Fa.pan (BM q s kd)) (Fa.memO (B8 q s kd)) [Hd] [] ((IC).args ⟨q,s,kd,_u⟩) (KL q s kd) xs hA hl hx (H6 _ _ _ _) (jN rfl) (Nat.le_refl _) rfl (Im _) ?_
 clear hx hl hA xs
 simp only[Try.f99]
 obtain⟨k0,x,y,e,f,cd,ar,th,el,no⟩:=s
 simp only[↓eB,seval,go_sem,GF,GG,GH,GE,IW,IX,EL,EM,IY,HV,IZ,GM,Fa.mem,Fa.memO,Fa.pan,frC,lmH,lmO,chL,ML.ch,DR,DS,EA,CS,Ea,nmX,xt,Dm,ML.ren,rnC,EP,F9,vrQ,Fy,Fz,Ei,Dt,Du,Ds,DQ,DA,fcN,Km,Kn,BN,BH,BO,BP,BJ,BQ,Cx,Cy,J2,J3,↓A1,HN,Sm.k,Sm.x,Sm.y,Sm.e,Sm.f,Sm.cd,Sm.ar,Sm.th,Sm.el,Sm.no,AA,AB,AK,HW,HX,Fv,mcC,mcW,Et,Fw,FN,FO,FR,Ms.brk,Ms.exh,Ms.spd,Hd,FI,Dv,Be,BM,B8]
 try simp only[A3,A4]
 repeat' first|exact ck|with_reducible apply And.intro|intro _
 all_goals first|exact trivial|(rename_i h;first|exact oI h|exact nah h)|(rename_i _ h _ g;exact sL h g)|decide|omega|(refine A0 [] ?_;simp only[↓eB,seval,go_sem,bne,KL,Be,B8,BM,A6,GF,GG,GH,GE,IW,IX,EL,EM,IY,HV,IZ,GM,Fa.mem,Fa.memO,Fa.pan,frC,lmH,lmO,chL,ML.ch,DR,DS,EA,CS,Ea,nmX,xt,Dm,ML.ren,rnC,EP,F9,vrQ,Fy,Fz,Ei,Dt,Du,Ds,DQ,DA,fcN,Km,Kn,BN,BH,BO,BP,BJ,BQ,Cx,Cy,J2,J3,↓A1,HN,Sm.k,Sm.x,Sm.y,Sm.e,Sm.f,Sm.cd,Sm.ar,Sm.th,Sm.el,Sm.no,AA,AB,AK,HW,HX,Fv,mcC,mcW,Et,Fw,FN,FO,FR,Ms.brk,Ms.exh,Ms.spd])
noncomputable def Bf {X:Ctx} {w0:World}:Sy.Spec Try.prog X w0:=VS xE
end Go.Proofs.Ytjnnmindcbgjhaa
